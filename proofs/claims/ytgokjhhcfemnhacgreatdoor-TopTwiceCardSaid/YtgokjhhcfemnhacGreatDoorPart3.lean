/- A part of the proof that the law TopTwiceCard holds of the given program: facts that are used there. -/
import Derived.Test.YtgokjhhcfemnhacGreatDoorPart2
import Derived.Lib.SplitLaws
import Derived.Lib.ItoaNum
import Derived.Lib.AtoiAll
import Derived.Handed
import Derived.Clock
import Derived.Lib.LaidTab
import Derived.Lib.LaidU8
import Derived.Lay
set_option linter.unusedSimpArgs false
set_option linter.unusedVariables false
namespace Go.Mrl
open Go.Vg
def _root_.Go.Vg.Gf:List UInt8->UInt8
 | c :: _=>c
 | []=>0
def qi (c:UInt8):List aF->aF
 | []=>[]
 | [x]=>x
 | x :: y :: r=>x++c :: qi c (y :: r)
def parts (c:UInt8):aF->List aF
 | []=>[[]]
 | b :: r=>if b=c then [] :: parts c r else match parts c r with
  | h :: t=>(b :: h) :: t
  | []=>[[b]]
theorem rB (c:UInt8):∀s:aF,parts c s≠[]
 | []=>by simp [parts]
 | b :: r=>by
  unfold parts
  split
  ·simp
  ·split <;> simp
theorem fL {c b:UInt8} {r:aF} (h:b≠c):∃x t,parts c r=x :: t/\parts c (b :: r)=(b :: x) :: t:=by
 cases hp:parts c r with
 | nil=>exact absurd hp (rB c r)
 | cons x t=>
  refine ⟨x,t,rfl,?_⟩
  conv=>lhs;unfold parts
  rw [if_neg h,hp]
theorem ir {c:UInt8} {r:aF}:parts c (c :: r) = [] :: parts c r:=by
 conv=>lhs;unfold parts
 rw [if_pos rfl]
theorem ft {c:UInt8}:∀{x:aF},c∉x->parts c x = [x]
 | [],_=>rfl
 | b :: r,h=>by
  obtain ⟨x,t,h1,h2⟩:=fL (c:=c) (b:=b) (r:=r) (fun e=>h (by simp [e]))
  rw [ft (x:=r) (fun e=>h (by simp [e]))] at h1
  cases h1
  exact h2
theorem cP {c:UInt8}:∀{x:aF} {s:aF},c∉x->parts c (x++c :: s)=x :: parts c s
 | [],s,_=>ir
 | b :: r,s,h=>by
  obtain ⟨x,t,h1,h2⟩:=fL (c:=c) (b:=b) (r:=r++c :: s) (fun e=>h (by simp [e]))
  rw [cP (x:=r) (fun e=>h (by simp [e]))] at h1
  cases h1
  exact h2
theorem qJ {c:UInt8}:∀{L:List aF},L≠[]->(∀y∈L,c∉y)->parts c (qi c L)=L
 | [],h,_=>absurd rfl h
 | [x],_,h=>ft (h x (by simp))
 | x :: y :: r,_,h=>by
  show parts c (x++c :: qi c (y :: r))=_
  rw [cP (h x (by simp)),qJ (by simp) fun z hz=>h z (List.mem_cons_of_mem _ hz)]
theorem pH (c:UInt8):∀(s:aF),(parts c s).length<=s.length + 1
 | []=>by simp [parts]
 | b :: r=>by
  by_cases h:b=c
  ·subst h;rw [ir];have:=pH b r;simp;omega
  ·obtain ⟨x,t,h1,h2⟩:=fL (c:=c) (b:=b) (r:=r) h
   have:=pH c r
   rw [h1] at this
   rw [h2];simp at this ⊢;omega
theorem jM (c:UInt8):∀(s:aF),∀y∈parts c s,y.length<=s.length
 | [],y,h=>by simp [parts] at h;simp [h]
 | b :: r,y,h=>by
  by_cases hb:b=c
  ·subst hb;rw [ir] at h
   rcases List.mem_cons.1 h with rfl | h
   ·simp
   ·have:=jM b r y h;simp;omega
  ·obtain ⟨x,t,h1,h2⟩:=fL (c:=c) (b:=b) (r:=r) hb
   rw [h2] at h
   rcases List.mem_cons.1 h with rfl | h
   ·have:=jM c r x (by rw [h1];simp);simp;omega
   ·have:=jM c r y (by rw [h1];simp [h]);simp;omega
theorem xK {b c:UInt8} {l:aF} (h:b≠c):Lib.index (b :: l) [c]=if Lib.index l [c] == -1 then -1 else Lib.index l [c] + 1:=by
 rw [Lib.index];simp [List.isPrefixOf,Ne.symm h]
theorem xL {c:UInt8} {l:aF}:Lib.index (c :: l) [c]=0:=by
 rw [Lib.index];simp [List.isPrefixOf]
theorem lC (c:UInt8):∀s:aF,Lib.splitK [c] 0 (s.count c) s=parts c s
 | []=>rfl
 | b :: l=>by
  by_cases h:b=c
  ·subst h
   rw [ir,List.count_cons_self,Lib.splitK,xL,if_neg (by decide),<-lC b l]
   simp
  ·obtain ⟨x,t,h1,h2⟩:=fL (c:=c) (b:=b) (r:=l) h
   rw [h2,List.count_cons_of_ne h]
   rw [<-lC c l] at h1
   cases hk:l.count c with
   | zero=>
    rw [hk] at h1
    simp only [Lib.splitK] at h1 ⊢
    cases h1
    rfl
   | succ k=>
    rw [hk] at h1
    have hi:Lib.index l [c]≠-1:=by
     intro e
     have:=Lib.count_miss (s:=l) (sub:=[c]) e
     rw [Lib.count_one] at this
     omega
    have hge:=Lib.index_ge l [c]
    rw [Lib.splitK,if_neg (by simpa using hi)] at h1
    obtain ⟨i,e⟩:∃i:Nat,Lib.index l [c]=i:=⟨(Lib.index l [c]).toNat,by omega⟩
    have e2:Lib.index (b :: l) [c]=((i + 1:Nat):Int):=by rw [xK h,if_neg (by simpa using hi),e];rfl
    rw [Lib.splitK,e2,if_neg (by simp;omega)]
    rw [e] at h1
    simp only [Int.toNat_natCast,Nat.add_zero,List.length_singleton,List.take_succ_cons,List.drop_succ_cons,List.cons.injEq] at h1 ⊢
    exact ⟨⟨trivial,h1.1⟩,h1.2⟩
def kB (c:UInt8) (L:List aF):aF:=L.flatMap (· ++ [c])
theorem uU (c:UInt8) (x:aF) (L:List aF):kB c (x :: L)=x++c :: kB c L:=by simp [kB]
theorem uV {c:UInt8}:∀{L:List aF},L≠[]->kB c L=qi c L++[c]
 | [],h=>absurd rfl h
 | [x],_=>by simp [kB,qi]
 | x :: y :: r,_=>by
  rw [uU,uV (L:=y :: r) (by simp)];simp [qi]
theorem tV (x:aF) (c:UInt8):Lib.trimSuffix (x++[c]) [c]=x:=by
 have h:Lib.hasSuffix (x++[c]) [c]=true:=by unfold Lib.hasSuffix;simp [List.isSuffixOf_iff_suffix]
 unfold Lib.trimSuffix
 rw [if_pos h];simp
theorem BT {c:UInt8} {L:List aF} (h:L≠[]) (hf:∀y∈L,c∉y):parts c (Lib.trimSuffix (kB c L) [c])=L:=by
 rw [uV h,tV,qJ h hf]
end Go.Mrl

namespace Go.Mrl
open Go.Vg
theorem pI {k:Nat} (h:k < 10):(UInt8.ofNat (48 + k)).toNat=48 + k:=by
 rw [UInt8.toNat_ofNat'];omega
theorem jm:∀(u:Nat),∀c∈Lib.decDigits u,48<=c.toNat/\c.toNat<=57:=by
 intro u
 induction u using Nat.strongRecOn with
 | _ u ih=>
  intro c hc
  by_cases h:u < 10
  ·rw [Lib.decDigits,dif_pos h] at hc
   simp only [List.mem_singleton] at hc
   rw [hc,pI h];omega
  ·rw [Lib.decDigits,dif_neg h] at hc
   rcases List.mem_append.1 hc with hc | hc
   ·exact ih _ (by omega) c hc
   ·simp only [List.mem_singleton] at hc
    rw [hc,pI (Nat.mod_lt _ (by decide))];omega
theorem pJ (u:Nat):Lib.decDigits u≠[]:=by
 rw [Lib.decDigits];split <;> simp
theorem kC:∀(k u:Nat),u < 10 ^ (k + 1)->(Lib.decDigits u).length<=k + 1
 | 0,u,h=>by rw [Lib.decDigits,dif_pos (by simpa using h)];simp
 | k + 1,u,h=>by
  rw [Lib.decDigits]
  split
  ·simp
  ·have:=kC k (u / 10) (by rw [Nat.pow_succ] at h;omega)
   simp;exact this
theorem uW:∀(l:aF) (c:UInt8) (a v:Nat),Lib.parseUint10 a l = .ok v->Lib.parseUint10 a (l++[c])=Lib.parseUint10 v [c]
 | [],c,a,v,h=>by simp [Lib.parseUint10] at h;rw [h];rfl
 | b :: l,c,a,v,h=>by
  rw [List.cons_append,Lib.parseUint10]
  rw [Lib.parseUint10] at h
  split at h
  ·rename_i hb
   rw [if_pos hb]
   split at h
   ·cases h
   ·rename_i h1
    rw [if_neg h1]
    split at h
    ·cases h
    ·rename_i h2
     rw [if_neg h2]
     exact uW l c _ v h
  ·cases h
theorem xM {v d:Nat} (hd:d < 10) (h:10 * v + d < 18446744073709551616):Lib.parseUint10 v [UInt8.ofNat (48 + d)] = .ok (10 * v + d):=by
 unfold Lib.parseUint10
 rw [pI hd,if_pos (by omega),if_neg (by omega),if_neg (by omega)]
 unfold Lib.parseUint10
 congr 1;omega
theorem Fj:∀u:Nat,u < 18446744073709551616->Lib.parseUint10 0 (Lib.decDigits u) = .ok u:=by
 intro u
 induction u using Nat.strongRecOn with
 | _ u ih=>
  intro hu
  by_cases h:u < 10
  ·rw [Lib.decDigits,dif_pos h]
   have:=xM (v:=0) (d:=u) h (by omega)
   simpa using this
  ·rw [Lib.decDigits,dif_neg h,uW _ _ _ _ (ih _ (by omega) (by omega)),xM (Nat.mod_lt _ (by decide)) (by omega)]
   congr 1;omega
theorem AI {u:Nat} (hu:u < 18446744073709551616):Lib.parseMag (Lib.decDigits u) = .ok u:=by
 unfold Lib.parseMag
 rw [if_neg (pJ u),Fj u hu]
theorem DA {n:Int} (h0 : -9223372036854775808<=n) (h1:n<=9223372036854775807):Lib.atoiAll (Lib.itoa n) = .ok n:=by
 by_cases hn:n < 0
 ·have hm:=AI (u:=n.natAbs) (by omega)
  simp only [Lib.itoa,if_pos hn,Lib.atoiAll]
  rw [if_pos (Or.inr (by decide)),hm]
  simp only
  rw [if_neg (by simp),if_neg (by simp;omega)]
  simp;omega
 ·have hm:=AI (u:=n.toNat) (by omega)
  simp only [Lib.itoa,if_neg hn,Lib.atoiAll]
  cases hd:Lib.decDigits n.toNat with
  | nil=>exact absurd hd (pJ _)
  | cons c r=>
   have hc:=jm n.toNat c (by rw [hd];simp)
   rw [hd] at hm
   simp only
   rw [if_neg (by omega),hm]
   simp only
   rw [if_neg (by omega),if_neg (by omega),if_neg (by omega)]
   congr 1;omega
def ch (s:List UInt8):Int × aW:=match Lib.atoiAll s with
 | .ok n=>(n, .nil)
 | Lib.NumEnd.syntax=>(0, .other)
 | .range=>(Lib.atoiSat s, .other)
def cG (s:aF):Option Int:=match Lib.atoiAll s with
 | .ok n=>if Lib.itoa n=s then some n else none
 | _=>none
theorem DB {n:Int} (h0 : -9223372036854775808<=n) (h1:n<=9223372036854775807):cG (Lib.itoa n)=some n:=by
 unfold cG;rw [DA h0 h1];simp
theorem uX {s:aF}:(cG s).isNone=(!(ch s).2.isNil || !decide (Lib.itoa (ch s).1=s)):=by
 unfold cG ch
 cases Lib.atoiAll s with
 | ok v=>simp only [aW.isNil];by_cases h:Lib.itoa v=s <;> simp [h]
 | range=>rfl
 | _=>rfl
theorem uY {n:Int} {c:UInt8} (h:c.toNat<=44):c∉Lib.itoa n:=by
 intro hc
 have h45:(45:UInt8).toNat=45:=rfl
 unfold Lib.itoa at hc
 split at hc
 ·rcases List.mem_cons.1 hc with rfl | hc
  ·omega
  ·have:=jm _ c hc;omega
 ·have:=jm _ c hc;omega
theorem rC {n:Int} (h:0<=n) (h':n < 10):Lib.itoa n = [UInt8.ofNat (48 + n).toNat]:=by
 unfold Lib.itoa;rw [if_neg (by omega),Lib.decDigits,dif_pos (by omega)];congr 2;omega
end Go.Mrl

namespace Go.Mrl
open Go.Vg
theorem kv {f:Int} (h0:0<=f) (h:(aY f).isNil=false):f > 0:=by
 have:¬ f=0:=fun e=>by rw [bc.2 e] at h;cases h
 omega
theorem jN {f:Int} (h:(aY f).isNil=true):f<=0:=by
 have:=bc.1 h;omega
theorem uZ {t:Ty} {l:List (D t)} {i j:Nat} (h:j < i):nth t (List.drop 0 (List.take i l)) j=nth t l j:=by
 rw [List.drop_zero,xr h]
theorem u3 {α:Type} {l:List α} {i:Nat} (h:i<=l.length):(List.drop 0 (List.take i l)).length=i:=by
 rw [List.drop_zero,List.length_take];omega
def cZ (b:Bool):List UInt8:=if b=true then [119,101,97,107,32] else []
def od (s:aF):aF:=[110,101,101,100,32]++s++[10]
def ma (n:Int):aF:=[119,111,114,100,32]++Lib.itoa n++[10]
def rD (y:D aG):aF:=cZ y.2.2.1++[115,121,109,98,111,108,32]++y.1++[32]++Lib.itoa y.2.1++[10]
def mC (t:D aN):aF:=
 if t.2.1=1 then [98,97,115,101,32]++Lib.itoa t.1++[32]++Lib.itoa t.2.2.1++[10]
 else if t.2.1=2 then cZ t.2.2.2.2.1++[119,104,111,108,101,32]++Lib.itoa t.1++[32]++Lib.itoa t.2.2.1++[32]++t.2.2.2.1++[10]
 else cZ t.2.2.2.2.1++[110,101,97,114,32]++Lib.itoa t.1++[32]++Lib.itoa t.2.2.1++[32]++t.2.2.2.1++[10]
def iI (o:D aA) (i:Nat):aF:=(o.1.take i).flatMap od
def gp (o:D aA) (i:Nat):aF:=iI o o.1.length++(o.2.1.take i).flatMap ma
def gq (o:D aA) (i:Nat):aF:=gp o o.2.1.length++(o.2.2.1.take i).flatMap rD
def dF (o:D aA) (i:Nat):aF:=gq o o.2.2.1.length++(o.2.2.2.1.take i).flatMap mC
def c6 (o:D aA):aF:=dF o o.2.2.2.1.length
def eA (o:D aA):aF × aW:=if bD o≠0 then ([],aY (bD o)) else if (c6 o).length > 1200 then ([], .no 2) else (c6 o, .nil)
theorem DC {o:D aA} {i:Nat} (h:i < o.1.length):iI o (i + 1)=iI o i++od (nth .str o.1 i):=by
 unfold iI;rw [gn (t:=.str) h];simp
theorem DD {o:D aA} {i:Nat} (h:i < o.2.1.length):gp o (i + 1)=gp o i++ma (nth (.int .i64) o.2.1 i):=by
 unfold gp;rw [gn (t:=.int .i64) h];simp
theorem DE {o:D aA} {i:Nat} (h:i < o.2.2.1.length):gq o (i + 1)=gq o i++rD (nth aG o.2.2.1 i):=by
 unfold gq;rw [gn (t:=aG) h];simp
theorem pK {o:D aA} {i:Nat} (h:i < o.2.2.2.1.length):dF o (i + 1)=dF o i++mC (nth aN o.2.2.2.1 i):=by
 unfold dF;rw [gn (t:=aN) h];simp
theorem DF (o:D aA):gp o 0=iI o o.1.length:=by unfold gp;simp
theorem DG (o:D aA):gq o 0=gp o o.2.1.length:=by unfold gq;simp
theorem DH (o:D aA):dF o 0=gq o o.2.2.1.length:=by unfold dF;simp
def Nm (s:aF):Prop:=s≠[]/\s.length<=8/\∀c∈s,c≠10/\c≠32
def jn (a b x:Int):Prop:=a<=x/\x<=b
structure s0 (t:D aN):Prop where
 a:jn 0 39 t.1
 w:jn (-2147483648) 2147483647 t.2.2.1
 k:t.2.1=1\/t.2.1=2\/t.2.1=3
 base:t.2.1=1->t.2.2.2.1 = []/\t.2.2.2.2.1=false
 nm:t.2.1≠1->Nm t.2.2.2.1
structure e8 (o:D aA):Prop where
 n4:o.1.length<=4
 w1:1<=o.2.1.length
 H6:o.2.1.length<=40
 s8:o.2.2.1.length<=8
 t6:o.2.2.2.1.length<=6
 wi:∀s∈o.1,Nm s
 words:∀n∈o.2.1,jn (-2147483648) 2147483647 n
 syms:∀y∈o.2.2.1,Nm y.1/\jn 0 39 y.2.1
 BU:∀t∈o.2.2.2.1,s0 t
end Go.Mrl

namespace Go.Mrl
open Go.Vg
theorem qK:∀(l p:List aF),dP p l=0->∀s∈l,aI s=0
 | [],_,_,s,h=>absurd h (by simp)
 | x :: r,p,h,s,hs=>by
  have hx:=dC x
  unfold dP at h
  split at h
  ·omega
  ·split at h
   ·cases h
   ·rcases List.mem_cons.1 hs with rfl | hs
    ·omega
    ·exact qK r _ h s hs
theorem qL:∀(l:List Int),eR l=0->∀n∈l,dV n=true
 | [],_,s,h=>absurd h (by simp)
 | x :: r,h,s,hs=>by
  unfold eR at h
  split at h
  ·rename_i hx
   rcases List.mem_cons.1 hs with rfl | hs
   ·exact hx
   ·exact qL r h s hs
  ·cases h
theorem s3 (n:Nat):∀(l p:List (D aG)),cT n p l=0->∀y∈l,aI y.1=0/\jn 0 (n - 1) y.2.1
 | [],_,_,s,h=>absurd h (by simp)
 | x :: r,p,h,s,hs=>by
  have hx:=dC x.1
  unfold cT at h
  split at h
  ·omega
  ·split at h
   ·cases h
   ·rename_i h2
    split at h
    ·cases h
    ·rcases List.mem_cons.1 hs with rfl | hs
     ·exact ⟨by omega,Int.not_lt.1 fun e=>h2 (.inl e),Int.le_sub_one_of_lt (Int.not_le.1 fun e=>h2 (.inr e))⟩
     ·exact s3 n r _ h s hs
theorem u4 {n:Nat} {p:Option Int} {t:D aN} (h:gm n p t=0) :
  jn 0 (n - 1) t.1/\dV t.2.2.1=true/\jn 1 3 t.2.1/\(t.2.1=1->t.2.2.2.1 = []/\t.2.2.2.2.1=false)/\(t.2.1≠1->aI t.2.2.2.1=0):=by
 unfold gm at h
 split at h
 ·cases h
 ·rename_i h1
  split at h
  ·cases h
  ·rename_i h2
   refine ⟨⟨Int.not_lt.1 fun e=>h1 (.inl e),Int.le_sub_one_of_lt (Int.not_le.1 fun e=>h1 (.inr (.inl e)))⟩,?_,⟨Int.not_lt.1 fun e=>h2 (.inl e),Int.not_lt.1 fun e=>h2 (.inr (.inl e))⟩,?_,?_⟩
   ·cases hw:dV t.2.2.1 with
    | true=>rfl
    | false=>exact absurd (.inr (.inr hw)) h1
   ·intro e
    rw [if_pos e] at h
    split at h
    ·cases h
    ·rename_i h3
     refine ⟨Classical.byContradiction fun e=>h3 (.inl e),?_⟩
     cases hb:t.2.2.2.2.1 with
     | false=>rfl
     | true=>exact absurd (.inr hb) h3
   ·intro e
    rw [if_neg e] at h
    exact h
theorem oe (n:Nat):∀(l:List (D aN)) (p:Option Int),eS n p l=0->∀t∈l,∃p,gm n p t=0
 | [],_,_,s,h=>absurd h (by simp)
 | x :: r,p,h,s,hs=>by
  unfold eS at h
  split at h
  ·rename_i h0;exact absurd h h0
  ·rename_i h0
   rcases List.mem_cons.1 hs with rfl | hs
   ·exact ⟨p,Classical.byContradiction h0⟩
   ·exact oe n r _ h s hs
theorem BV {s:aF} (h:aI s=0):Nm s:=by
 unfold aI at h
 split at h
 ·cases h
 ·rename_i hl
  split at h
  ·cases h
  ·rename_i hb
   refine ⟨by rintro rfl;simp at hl,by omega,fun c hc => ?_⟩
   obtain ⟨i,hi,rfl⟩:=List.getElem_of_mem hc
   have hn:dw i (ee s i)=false:=by
    unfold mZ at hb
    rw [Bool.not_eq_true,List.any_eq_false] at hb
    have:=hb i (by simpa using hi)
    simpa using this
   have he:ee s i=s[i]:=by unfold ee;simp [hi]
   rw [he] at hn
   constructor
   ·intro e;rw [e] at hn;unfold dw small other at hn;simp at hn
   ·intro e;rw [e] at hn;unfold dw small other at hn;simp at hn
theorem three {x:Int} (h:1<=x) (h':x<=3):x=1\/x=2\/x=3:=by omega
theorem hJ {o:D aA} (h:bD o=0):e8 o:=by
 unfold bD at h
 split at h
 ·cases h
 ·rename_i hm
  split at h
  ·rename_i h1;exact absurd h h1
  ·rename_i h1
   split at h
   ·rename_i h2;exact absurd h h2
   ·rename_i h2
    split at h
    ·rename_i h3;exact absurd h h3
    ·rename_i h3
     have h1:=Classical.byContradiction h1
     have h2:=Classical.byContradiction h2
     have h3:=Classical.byContradiction h3
     unfold fF at hm
     have hw:o.2.1.length<=40:=Nat.not_lt.1 fun e=>hm (.inr (.inr (.inl e)))
     refine ⟨Nat.not_lt.1 fun e=>hm (.inl e),Nat.not_lt.1 fun e=>hm (.inr (.inl e)),hw,Nat.not_lt.1 fun e=>hm (.inr (.inr (.inr (.inl e)))),Nat.not_lt.1 fun e=>hm (.inr (.inr (.inr (.inr e)))),
      fun s hs=>BV (qK _ _ h1 s hs),fun n hn => ?_,fun y hy => ?_,fun t ht => ?_⟩
     ·have:=qL _ h2 n hn
      unfold dV at this
      simp only [Bool.and_eq_true,decide_eq_true_eq] at this
      exact this
     ·obtain ⟨a,b,c⟩:=s3 _ _ _ h3 y hy
      exact ⟨BV a,b,Int.le_trans c (by omega)⟩
     ·obtain ⟨p,hp⟩:=oe _ _ _ h t ht
      obtain ⟨⟨a,b⟩,c,⟨d,e⟩,f,g⟩:=u4 hp
      unfold dV at c
      simp only [Bool.and_eq_true,decide_eq_true_eq] at c
      exact ⟨⟨a,Int.le_trans b (by omega)⟩,c,three d e,f,fun e=>BV (g e)⟩
theorem eV {a b n:Int} (h:jn a b n) (ha : -999999999999999999<=a) (hb:b<=999999999999999999):(Lib.itoa n).length<=19:=by
 obtain ⟨h0,h1⟩:=h
 unfold Lib.itoa
 split
 ·rw [List.length_cons]
  have:=kC 17 n.natAbs (by omega)
  omega
 ·have:=kC 17 n.toNat (by omega)
  omega
theorem mb (b:Bool):(cZ b).length<=5:=by cases b <;> decide
theorem DI {s:aF} (h:Nm s):(od s).length<=64:=by have:=h.2.1;simp [od];omega
theorem DJ {n:Int} (h:jn (-2147483648) 2147483647 n):(ma n).length<=64:=by have:=eV h (by decide) (by decide);simp [ma];omega
theorem Fk {y:D aG} (h:Nm y.1/\jn 0 39 y.2.1):(rD y).length<=64:=by
 have h1:=eV h.2 (by decide) (by decide)
 have h2:=mb y.2.2.1
 have h3:=h.1.2.1
 simp [rD];omega
theorem Fl {t:D aN} (h:s0 t):(mC t).length<=64:=by
 have h1:=eV h.a (by decide) (by decide)
 have h4:=eV h.w (by decide) (by decide)
 have h2:=mb t.2.2.2.2.1
 unfold mC
 split
 ·simp;omega
 ·rename_i hk
  have h3:=(h.nm hk).2.1
  split
  ·simp;omega
  ·simp;omega
theorem lD {α:Type} {f:α->aF}:∀{l:List α},(∀x∈l,(f x).length<=64)->(l.flatMap f).length<=64 * l.length
 | [],_=>by simp
 | x :: r,h=>by
  have h1:=h x (by simp)
  have h2:=lD (f:=f) (l:=r) fun y hy=>h y (List.mem_cons_of_mem _ hy)
  rw [List.flatMap_cons,List.length_append,List.length_cons];omega
theorem e8.HC {o:D aA} (h:e8 o) (i:Nat):(iI o i).length<=1000:=by
 have:=lD (f:=od) (l:=o.1.take i) fun s hs=>DI (h.wi s (List.mem_of_mem_take hs))
 have h2:=h.n4
 unfold iI;simp only [List.length_take] at this;omega
theorem e8.HD {o:D aA} (h:e8 o) (i:Nat):(gp o i).length<=4000:=by
 have h0:=h.HC o.1.length
 have:=lD (f:=ma) (l:=o.2.1.take i) fun s hs=>DJ (h.words s (List.mem_of_mem_take hs))
 have h2:=h.H6
 unfold gp;rw [List.length_append];simp only [List.length_take] at this;omega
theorem e8.HE {o:D aA} (h:e8 o) (i:Nat):(gq o i).length<=5000:=by
 have h0:=h.HD o.2.1.length
 have:=lD (f:=rD) (l:=o.2.2.1.take i) fun s hs=>Fk (h.syms s (List.mem_of_mem_take hs))
 have h2:=h.s8
 unfold gq;rw [List.length_append];simp only [List.length_take] at this;omega
theorem e8.Ib {o:D aA} (h:e8 o) (i:Nat):(dF o i).length<=6000:=by
 have h0:=h.HE o.2.2.1.length
 have:=lD (f:=mC) (l:=o.2.2.2.1.take i) fun s hs=>Fl (h.BU s (List.mem_of_mem_take hs))
 have h2:=h.t6
 unfold dF;rw [List.length_append];simp only [List.length_take] at this;omega
theorem e8.pL {o:D aA} (h:e8 o) {i:Nat} (hi:i < o.1.length):Nm (nth .str o.1 i):=h.wi _ (eo (t:=.str) hi)
theorem e8.word {o:D aA} (h:e8 o) {i:Nat} (hi:i < o.2.1.length):jn (-2147483648) 2147483647 (nth (.int .i64) o.2.1 i):=h.words _ (eo (t:=.int .i64) hi)
theorem e8.sym {o:D aA} (h:e8 o) {i:Nat} (hi:i < o.2.2.1.length):Nm (nth aG o.2.2.1 i).1/\jn 0 39 (nth aG o.2.2.1 i).2.1:=h.syms _ (eo (t:=aG) hi)
theorem e8.tie {o:D aA} (h:e8 o) {i:Nat} (hi:i < o.2.2.2.1.length):s0 (nth aN o.2.2.2.1 i):=h.BU _ (eo (t:=aN) hi)
theorem zH (a b:aF):bF a++bF b=bF (a++b):=by simp [bF]
theorem u5 {o:D aA} (h:e8 o) {i:Nat} (hi:i < o.1.length):(nth .str o.1 i).length<=8/\(iI o i).length<=1000:=⟨(h.pL hi).2.1,h.HC i⟩
theorem u6 {o:D aA} (h:e8 o) {i:Nat} (hi:i < o.2.1.length):(Lib.itoa (nth (.int .i64) o.2.1 i)).length<=19/\(gp o i).length<=4000:=
 ⟨eV (h.word hi) (by decide) (by decide),h.HD i⟩
theorem xN {o:D aA} (h:e8 o) {i:Nat} (hi:i < o.2.2.1.length) :
  (nth aG o.2.2.1 i).1.length<=8/\(Lib.itoa (nth aG o.2.2.1 i).2.1).length<=19/\(cZ (nth aG o.2.2.1 i).2.2.1).length<=5/\(gq o i).length<=5000:=
 ⟨(h.sym hi).1.2.1,eV (h.sym hi).2 (by decide) (by decide),mb _,h.HE i⟩
theorem xO {o:D aA} (h:e8 o) {i:Nat} (hi:i < o.2.2.2.1.length) :
  (nth aN o.2.2.2.1 i).2.2.2.1.length<=8/\(Lib.itoa (nth aN o.2.2.2.1 i).1).length<=19/\(Lib.itoa (nth aN o.2.2.2.1 i).2.2.1).length<=19/\(cZ (nth aN o.2.2.2.1 i).2.2.2.2.1).length<=5/\(dF o i).length<=6000:=by
 have ht:=h.tie hi
 refine ⟨?_,eV ht.a (by decide) (by decide),eV ht.w (by decide) (by decide),mb _,h.Ib i⟩
 by_cases hk:(nth aN o.2.2.2.1 i).2.1=1
 ·rw [(ht.base hk).1];decide
 ·exact (ht.nm hk).2.1
theorem jO {p p' q:aF} {a b:Int} (h:p'=p++q):(((bF p++bF q,a,b,()):D eW))=((bF p',a,b,()):D eW):=by rw [h,zH]
theorem rE {p p':aF} {a b:Int} (h:p=p'):((bF p,a,b,()):D eW)=((bF p',a,b,()):D eW):=by rw [h]
theorem BW {o:D aA} {i:Nat} (h:i < o.2.2.2.1.length) (hk:(nth aN o.2.2.2.1 i).2.1=1) :
  dF o (i + 1)=dF o i++([98,97,115,101,32]++Lib.itoa (nth aN o.2.2.2.1 i).1++[32]++Lib.itoa (nth aN o.2.2.2.1 i).2.2.1++[10]):=by
 rw [pK h];unfold mC;rw [if_pos hk]
theorem BX {o:D aA} {i:Nat} (h:i < o.2.2.2.1.length) (hk:¬ (nth aN o.2.2.2.1 i).2.1=1) (hk2:(nth aN o.2.2.2.1 i).2.1=2) :
  dF o (i + 1)=dF o i++(cZ (nth aN o.2.2.2.1 i).2.2.2.2.1++[119,104,111,108,101,32]++Lib.itoa (nth aN o.2.2.2.1 i).1++[32]++Lib.itoa (nth aN o.2.2.2.1 i).2.2.1++[32]++(nth aN o.2.2.2.1 i).2.2.2.1++[10]):=by
 rw [pK h];unfold mC;rw [if_neg hk,if_pos hk2]
theorem BY {o:D aA} {i:Nat} (h:i < o.2.2.2.1.length) (hk:¬ (nth aN o.2.2.2.1 i).2.1=1) (hk2:¬ (nth aN o.2.2.2.1 i).2.1=2) :
  dF o (i + 1)=dF o i++(cZ (nth aN o.2.2.2.1 i).2.2.2.2.1++[110,101,97,114,32]++Lib.itoa (nth aN o.2.2.2.1 i).1++[32]++Lib.itoa (nth aN o.2.2.2.1 i).2.2.1++[32]++(nth aN o.2.2.2.1 i).2.2.2.1++[10]):=by
 rw [pK h];unfold mC;rw [if_neg hk,if_neg hk2]
theorem u7 {o:D aA} (h:bD o≠0):eA o=([],aY (bD o)):=by unfold eA;rw [if_pos h]
theorem s4 {o:D aA} (h:bD o=0) {i:Nat} (hi:i=o.2.2.2.1.length) (hl:(dF o i).length > 1200):eA o=([], .no 2):=by
 unfold eA;rw [if_neg (by rw [h];decide),if_pos (by unfold c6;rw [<-hi];exact hl)]
theorem og {o:D aA} (h:bD o=0) {i:Nat} (hi:i=o.2.2.2.1.length) (hl:(dF o i).length<=1200):eA o=(dF o i, .nil):=by
 unfold eA;rw [if_neg (by rw [h];decide),if_neg (by unfold c6;rw [<-hi];omega)];unfold c6;rw [<-hi]
end Go.Mrl

namespace Go.Mrl
open Go.Vg
@[reducible] def bS:aF:=[119,101,97,107,32]
@[reducible] def eB:aF:=[110,101,101,100]
@[reducible] def eh:aF:=[119,111,114,100]
@[reducible] def dG:aF:=[115,121,109,98,111,108]
@[reducible] def fX:aF:=[98,97,115,101]
@[reducible] def fm:aF:=[119,104,111,108,101]
@[reducible] def fh:aF:=[110,101,97,114]
def jP (o:D aA) (s:aF):D aA:=(o.1++[s],o.2)
def jQ (o:D aA) (n:Int):D aA:=(o.1,o.2.1++[n],o.2.2)
def nn (o:D aA) (y:D aG):D aA:=(o.1,o.2.1,o.2.2.1++[y],o.2.2.2)
def jo (o:D aA) (t:D aN):D aA:=(o.1,o.2.1,o.2.2.1,o.2.2.2.1++[t],())
def rF (x y:aF) (k:Int->Int->D aA):Option (D aA):=
 match cG x,cG y with
 | some m,some n=>some (k m n)
 | _,_=>none
def gr (o:D aA) (b:Bool):List aF->Option (D aA)
 | [a,x]=>if a=eB then some (jP o x) else if a=eh then (cG x).map (jQ o) else none
 | [a,x,y]=>if a=dG then (cG y).map fun n=>nn o (x,n,b,()) else if a=fX then rF x y fun m n=>jo o (m,1,n,[],false,()) else none
 | [a,x,y,z]=>if a=fm\/a=fh then rF x y fun m n=>jo o (m,if a=fh then 3 else 2,n,z,b,()) else none
 | _=>none
def jq (o:D aA) (s:aF):Option (D aA):=gr o (Lib.hasPrefix s bS) (parts 32 (Lib.trimPrefix s bS))
def run (f:D aA->aF->Option (D aA)):D aA->List aF->Option (D aA)
 | o,[]=>some o
 | o,s :: r=>match f o s with
  | some p=>run f p r
  | none=>none
theorem xP {f:D aA->aF->Option (D aA)}:∀{l:List aF} {o:D aA} {s:aF},run f o (l++[s])=(run f o l).bind fun p=>f p s
 | [],o,s=>by simp only [List.nil_append,run,Option.bind_some];cases f o s <;> rfl
 | x :: r,o,s=>by
  simp only [List.cons_append,run]
  cases f o x with
  | none=>rfl
  | some p=>exact xP
theorem qj {f:D aA->aF->Option (D aA)}:∀{l m:List aF} {o p:D aA},run f o l=some p->run f o (l++m)=run f p m
 | [],m,o,p,h=>by simp only [run,Option.some.injEq] at h;rw [h];rfl
 | x :: r,m,o,p,h=>by
  simp only [run] at h
  simp only [List.cons_append,run]
  cases hx:f o x with
  | none=>rw [hx] at h;cases h
  | some q=>rw [hx] at h;exact qj h
def jr (s:aF):aF:=[110,101,101,100,32]++s
def js (n:Int):aF:=[119,111,114,100,32]++Lib.itoa n
def rG (y:D aG):aF:=cZ y.2.2.1++([115,121,109,98,111,108,32]++(y.1++32 :: Lib.itoa y.2.1))
def pM (t:D aN):aF:=
 if t.2.1=1 then [98,97,115,101,32]++(Lib.itoa t.1++32 :: Lib.itoa t.2.2.1)
 else if t.2.1=2 then cZ t.2.2.2.2.1++([119,104,111,108,101,32]++(Lib.itoa t.1++32 :: (Lib.itoa t.2.2.1++32 :: t.2.2.2.1)))
 else cZ t.2.2.2.2.1++([110,101,97,114,32]++(Lib.itoa t.1++32 :: (Lib.itoa t.2.2.1++32 :: t.2.2.2.1)))
def kx (o:D aA):List aF:=o.1.map jr++(o.2.1.map js++(o.2.2.1.map rG++o.2.2.2.1.map pM))
theorem lE {α:Type} {f g:α->aF} (h:∀x,f x=g x++[10]):∀l:List α,l.flatMap f=kB 10 (l.map g)
 | []=>rfl
 | x :: r=>by rw [List.flatMap_cons,lE h r,List.map_cons,uU,h];simp
theorem rH (c:UInt8) (l m:List aF):kB c (l++m)=kB c l++kB c m:=by simp [kB]
theorem zI (o:D aA):c6 o=kB 10 (kx o):=by
 unfold c6 dF gq gp iI kx
 rw [List.take_length,List.take_length,List.take_length,List.take_length,rH,rH,rH,
  lE (g:=jr) (fun s=>by simp [od,jr]) o.1,lE (g:=js) (fun s=>by simp [ma,js]) o.2.1,
  lE (g:=rG) (fun s=>by simp [rD,rG]) o.2.2.1,
  lE (g:=pM) (fun s=>by unfold mC pM;split <;> (try split) <;> simp) o.2.2.2.1]
 simp
structure Reads (f:D aA->aF->Option (D aA)):Prop where
 pL:∀(o:D aA) (s:aF),Nm s->f o (jr s)=some (jP o s)
 word:∀(o:D aA) (n:Int),jn (-2147483648) 2147483647 n->f o (js n)=some (jQ o n)
 sym:∀(o:D aA) (y:D aG),Nm y.1->jn 0 39 y.2.1->f o (rG y)=some (nn o y)
 tie:∀(o:D aA) (t:D aN),s0 t->f o (pM t)=some (jo o t)
section
variable {f:D aA->aF->Option (D aA)} (h:Reads f)
include h
theorem u9:∀(l:List aF) (o:D aA),(∀s∈l,Nm s)->run f o (l.map jr)=some (o.1++l,o.2)
 | [],o,_=>by simp [run]
 | s :: r,o,hl=>by
  rw [List.map_cons,run,h.pL o s (hl s (by simp))]
  show run f (jP o s) (r.map jr)=_
  rw [u9 r _ fun x hx=>hl x (List.mem_cons_of_mem _ hx)]
  simp [jP]
theorem vb:∀(l:List Int) (o:D aA),(∀n∈l,jn (-2147483648) 2147483647 n)->run f o (l.map js)=some (o.1,o.2.1++l,o.2.2)
 | [],o,_=>by simp [run]
 | s :: r,o,hl=>by
  rw [List.map_cons,run,h.word o s (hl s (by simp))]
  show run f (jQ o s) (r.map js)=_
  rw [vb r _ fun x hx=>hl x (List.mem_cons_of_mem _ hx)]
  simp [jQ]
theorem xQ:∀(l:List (D aG)) (o:D aA),(∀y∈l,Nm y.1/\jn 0 39 y.2.1)->run f o (l.map rG)=some (o.1,o.2.1,o.2.2.1++l,o.2.2.2)
 | [],o,_=>by simp [run]
 | s :: r,o,hl=>by
  rw [List.map_cons,run,h.sym o s (hl s (by simp)).1 (hl s (by simp)).2]
  show run f (nn o s) (r.map rG)=_
  rw [xQ r _ fun x hx=>hl x (List.mem_cons_of_mem _ hx)]
  simp [nn]
theorem xR:∀(l:List (D aN)) (o:D aA),(∀t∈l,s0 t)->run f o (l.map pM)=some (o.1,o.2.1,o.2.2.1,o.2.2.2.1++l,())
 | [],o,_=>by simp [run]
 | s :: r,o,hl=>by
  rw [List.map_cons,run,h.tie o s (hl s (by simp))]
  show run f (jo o s) (r.map pM)=_
  rw [xR r _ fun x hx=>hl x (List.mem_cons_of_mem _ hx)]
  simp [jo]
theorem DK {o:D aA} (ok:e8 o):run f (bA aA) (kx o)=some o:=by
 unfold kx
 rw [qj (u9 h o.1 _ ok.wi),qj (vb h o.2.1 _ ok.words),qj (xQ h o.2.2.1 _ ok.syms),xR h o.2.2.2.1 _ ok.BU]
 rfl
end
theorem s5 {a:UInt8} {s:aF} (h:a≠119):Lib.hasPrefix (a :: s) bS=false:=by
 unfold Lib.hasPrefix bS;simp [List.isPrefixOf];intro e;exact absurd e.symm h
theorem GM {s:aF} (h:Lib.hasPrefix s bS=false):Lib.trimPrefix s bS=s:=by unfold Lib.trimPrefix;rw [if_neg (by rw [h];decide)]
theorem AJ (s:aF):Lib.hasPrefix (bS++s) bS=true:=by unfold Lib.hasPrefix bS;simp [List.isPrefixOf]
theorem Fm (s:aF):Lib.trimPrefix (bS++s) bS=s:=by unfold Lib.trimPrefix;rw [if_pos (AJ s)];rfl
theorem AK {a b:UInt8} {s:aF} (h:b≠101):Lib.hasPrefix (a :: b :: s) bS=false:=by
 unfold Lib.hasPrefix bS;simp [List.isPrefixOf];intro _ e;exact absurd e.symm h
theorem gH (o:D aA) (b:Bool) (s:aF) (h:Lib.hasPrefix s bS=false):jq o (cZ b++s)=gr o b (parts 32 s):=by
 unfold jq
 cases b with
 | false=>show gr o (Lib.hasPrefix s bS) (parts 32 (Lib.trimPrefix s bS))=_;rw [h,GM h]
 | true=>show gr o (Lib.hasPrefix (bS++s) bS) (parts 32 (Lib.trimPrefix (bS++s) bS))=_;rw [AJ,Fm]
theorem jR {s:aF} (h:Nm s):(32:UInt8)∉s/\(10:UInt8)∉s:=⟨fun hc=>(h.2.2 _ hc).2 rfl,fun hc=>(h.2.2 _ hc).1 rfl⟩
theorem gu (n:Int):(32:UInt8)∉Lib.itoa n:=uY (by decide)
theorem oh (n:Int):(10:UInt8)∉Lib.itoa n:=uY (by decide)
theorem BZ {s:aF} (h:Nm s):parts 32 (jr s) = [eB,s]:=by
 show parts 32 (eB++32 :: s)=_
 rw [cP (by decide),ft (jR h).1]
theorem B0 (n:Int):parts 32 (js n) = [eh,Lib.itoa n]:=by
 show parts 32 (eh++32 :: Lib.itoa n)=_
 rw [cP (by decide),ft (gu n)]
theorem DL {s:aF} {n:Int} (h:Nm s):parts 32 ([115,121,109,98,111,108,32]++(s++32 :: Lib.itoa n)) = [dG,s,Lib.itoa n]:=by
 show parts 32 (dG++32 :: (s++32 :: Lib.itoa n))=_
 rw [cP (by decide),cP (jR h).1,ft (gu n)]
theorem B1 (m n:Int):parts 32 ([98,97,115,101,32]++(Lib.itoa m++32 :: Lib.itoa n)) = [fX,Lib.itoa m,Lib.itoa n]:=by
 show parts 32 (fX++32 :: (Lib.itoa m++32 :: Lib.itoa n))=_
 rw [cP (by decide),cP (gu m),ft (gu n)]
theorem zJ {s:aF} (m n:Int) (h:Nm s):parts 32 ([119,104,111,108,101,32]++(Lib.itoa m++32 :: (Lib.itoa n++32 :: s))) = [fm,Lib.itoa m,Lib.itoa n,s]:=by
 show parts 32 (fm++32 :: (Lib.itoa m++32 :: (Lib.itoa n++32 :: s)))=_
 rw [cP (by decide),cP (gu m),cP (gu n),ft (jR h).1]
theorem B2 {s:aF} (m n:Int) (h:Nm s):parts 32 ([110,101,97,114,32]++(Lib.itoa m++32 :: (Lib.itoa n++32 :: s))) = [fh,Lib.itoa m,Lib.itoa n,s]:=by
 show parts 32 (fh++32 :: (Lib.itoa m++32 :: (Lib.itoa n++32 :: s)))=_
 rw [cP (by decide),cP (gu m),cP (gu n),ft (jR h).1]
theorem qk {a b n:Int} (h:jn a b n) (ha : -9223372036854775808<=a) (hb:b<=9223372036854775807):cG (Lib.itoa n)=some n:=DB (Int.le_trans ha h.1) (Int.le_trans h.2 hb)
theorem HF:Reads jq where
 pL o s h:=by
  have:=gH o false (jr s) (s5 (by decide))
  rw [show cZ false++jr s=jr s from rfl,BZ h] at this
  exact this
 word o n h:=by
  have:=gH o false (js n) (AK (by decide))
  rw [show cZ false++js n=js n from rfl,B0] at this
  rw [this]
  show (if eh=eB then some (jP o (Lib.itoa n)) else if eh=eh then (cG (Lib.itoa n)).map (jQ o) else none)=_
  rw [if_neg (by decide),if_pos rfl,qk h (by decide) (by decide)];rfl
 sym o y h h':=by
  have:=gH o y.2.2.1 ([115,121,109,98,111,108,32]++(y.1++32 :: Lib.itoa y.2.1)) (s5 (by decide))
  rw [DL h] at this
  refine Eq.trans this ?_
  dsimp only [gr]
  rw [if_pos rfl,qk h' (by decide) (by decide)];rfl
 tie o t h:=by
  obtain ⟨at',k,ad,nm,b,_⟩:=t
  have ha:=qk h.a (by decide) (by decide)
  have hw:=qk h.w (by decide) (by decide)
  simp only at ha hw
  unfold pM
  rcases h.k with e | e | e
  ·have hb:=h.base e
   simp only at e hb
   obtain ⟨rfl,rfl⟩:=hb
   subst e
   rw [if_pos rfl]
   have:=gH o false ([98,97,115,101,32]++(Lib.itoa at'++32 :: Lib.itoa ad)) (s5 (by decide))
   rw [B1] at this
   refine this.trans ?_
   dsimp only [gr]
   rw [if_neg (by decide),if_pos rfl];unfold rF;rw [ha,hw]
  ·have hn:=h.nm (by rw [show _=_ from e];decide)
   simp only at e hn
   subst e
   rw [if_neg (by simp),if_pos rfl]
   have:=gH o b ([119,104,111,108,101,32]++(Lib.itoa at'++32 :: (Lib.itoa ad++32 :: nm))) (AK (by decide))
   rw [zJ _ _ hn] at this
   refine this.trans ?_
   dsimp only [gr]
   rw [if_pos (.inl rfl),if_neg (by decide)];unfold rF;rw [ha,hw]
  ·have hn:=h.nm (by rw [show _=_ from e];decide)
   simp only at e hn
   subst e
   rw [if_neg (by simp),if_neg (by simp)]
   have:=gH o b ([110,101,97,114,32]++(Lib.itoa at'++32 :: (Lib.itoa ad++32 :: nm))) (s5 (by decide))
   rw [B2 _ _ hn] at this
   refine this.trans ?_
   dsimp only [gr]
   rw [if_pos (.inr rfl),if_pos rfl];unfold rF;rw [ha,hw]
end Go.Mrl

namespace Go.Mrl
open Go.Vg
theorem B3 {o:D aA} (h:e8 o):∀l∈kx o,(10:UInt8)∉l:=by
 intro l hl
 unfold kx at hl
 simp only [List.mem_append,List.mem_map] at hl
 have hw:∀b,(10:UInt8)∉cZ b:=by intro b;cases b <;> decide
 rcases hl with ⟨s,hs,rfl⟩ | ⟨n,hn,rfl⟩ | ⟨y,hy,rfl⟩ | ⟨t,ht,rfl⟩
 ·have:=(jR (h.wi s hs)).2
  unfold jr;simp [this]
 ·have:=oh n
  unfold js;simp [this]
 ·have h1:=(jR (h.syms y hy).1).2
  have h2:=oh y.2.1
  have h3:=hw y.2.2.1
  unfold rG;simp [h1,h2,h3]
 ·have h1:=oh t.1
  have h2:=oh t.2.2.1
  have h3:=hw t.2.2.2.2.1
  unfold pM
  split
  ·simp [h1,h2]
  ·rename_i hk
   have h4:=(jR ((h.BU t ht).nm hk)).2
   split <;> simp [h1,h2,h3,h4]
theorem Fo {o:D aA} (h:e8 o):kx o≠[]:=by
 have h1:=h.w1
 unfold kx
 intro e
 simp only [List.append_eq_nil_iff,List.map_eq_nil_iff] at e
 rw [e.2.1] at h1
 simp at h1
def B4 (s:aF):Option (D aA):=run jq (bA aA) (parts 10 (Lib.trimSuffix s [10]))
theorem mc {o:D aA} (h:bD o=0):B4 (c6 o)=some o:=by
 have ok:=hJ h
 unfold B4
 rw [zI,BT (Fo ok) (B3 ok),DK HF ok]
theorem DM {o p:D aA} (h:bD o=0) (h':bD p=0) (e:c6 o=c6 p):o=p:=by
 have a:=mc h
 rw [e,mc h'] at a
 exact (Option.some.inj a).symm
open Classical in
noncomputable def b6 (s:aF):D aA × Int:=
 if s.length > 1200 then (bA aA,2)
 else if h:∃o:D aA,bD o=0/\c6 o=s then (Classical.choose h,0) else (bA aA,4)
theorem ve {s:aF} (h:s.length > 1200):b6 s=(bA aA,2):=by unfold b6;rw [if_pos h]
theorem ql {s:aF} {o:D aA} (h:¬ s.length > 1200) (hf:bD o=0) (ht:c6 o=s):b6 s=(o,0):=by
 have hx:∃o:D aA,bD o=0/\c6 o=s:=⟨o,hf,ht⟩
 have hc:=Classical.choose_spec hx
 unfold b6
 rw [if_neg h,dif_pos hx,DM hc.1 hf (hc.2.trans ht.symm)]
theorem rI {s:aF} (h:¬ s.length > 1200) (hn:∀o:D aA,bD o=0->c6 o≠s):b6 s=(bA aA,4):=by
 unfold b6
 rw [if_neg h,dif_neg fun ⟨o,h1,h2⟩=>hn o h1 h2]
theorem B5 {s:aF} (h:¬ s.length > 1200) (hr:B4 s=none):b6 s=(bA aA,4):=
 rI h fun o h1 h2=>by rw [<-h2,mc h1] at hr;cases hr
theorem s6 {s:aF} {o:D aA} (h:¬ s.length > 1200) (hr:B4 s=some o) (hb:bD o=0->c6 o≠s):b6 s=(bA aA,4):=
 rI h fun p h1 h2=>by
  have:p=o:=by rw [<-h2,mc h1] at hr;exact Option.some.inj hr
  rw [this] at h1 h2
  exact hb h1 h2
def cJ (o:D aA) (b:Bool) (s:aF):D aA × Bool:=
 let w:=parts 32 (Lib.trimPrefix s bS)
 if nth .str w 0=eB/\w.length=2 then (jP o (nth .str w 1),b)
 else if nth .str w 0=eh/\w.length=2 then (jQ o (ch (nth .str w 1)).1,b || (cG (nth .str w 1)).isNone)
 else if nth .str w 0=dG/\w.length=3 then (nn o (nth .str w 1,(ch (nth .str w 2)).1,Lib.hasPrefix s bS,()),b || (cG (nth .str w 2)).isNone)
 else if nth .str w 0=fX/\w.length=3 then (jo o ((ch (nth .str w 1)).1,1,(ch (nth .str w 2)).1,[],false,()),(b || (cG (nth .str w 1)).isNone) || (cG (nth .str w 2)).isNone)
 else if (nth .str w 0=fm\/nth .str w 0=fh)/\w.length=4 then
  (jo o ((ch (nth .str w 1)).1,if nth .str w 0=fh then 3 else 2,(ch (nth .str w 2)).1,nth .str w 3,Lib.hasPrefix s bS,()),(b || (cG (nth .str w 1)).isNone) || (cG (nth .str w 2)).isNone)
 else (o,true)
theorem iS {s:aF} {n:Int} (h:cG s=some n):(ch s).1=n:=by
 unfold cG at h
 unfold ch
 cases ha:Lib.atoiAll s with
 | ok v=>rw [ha] at h;simp only at h ⊢;split at h <;> simp_all
 | range=>rw [ha] at h;cases h
 | _=>rw [ha] at h;cases h
theorem B6 (o:D aA) (b:Bool) (s:aF):(∃p,jq o s=some p/\cJ o b s=(p,b))\/(jq o s=none/\(cJ o b s).2=true):=by
 unfold jq cJ
 generalize hw:parts 32 (Lib.trimPrefix s bS)=w
 generalize Lib.hasPrefix s bS=k
 have hne:=rB 32 (Lib.trimPrefix s bS)
 rw [hw] at hne
 match w,hne with
 | [],hne=>exact absurd rfl hne
 | [a],_=>exact .inr ⟨rfl,by simp⟩
 | [a,x],_=>
  dsimp only [gr]
  simp only [show nth .str [a,x] 0=a from rfl,show nth .str [a,x] 1=x from rfl]
  by_cases h1:a=eB
  ·rw [if_pos h1,if_pos (show (a=eB)/\[a,x].length=2 from ⟨h1,rfl⟩)];exact .inl ⟨_,rfl,rfl⟩
  ·rw [if_neg h1,if_neg (show ¬ ((a=eB)/\[a,x].length=2) from fun e=>h1 e.1)]
   by_cases h2:a=eh
   ·rw [if_pos h2,if_pos (show (a=eh)/\[a,x].length=2 from ⟨h2,rfl⟩)]
    cases hn:cG x with
    | none=>exact .inr ⟨rfl,by simp⟩
    | some n=>exact .inl ⟨_,rfl,by rw [iS hn];simp⟩
   ·rw [if_neg h2,if_neg (show ¬ ((a=eh)/\[a,x].length=2) from fun e=>h2 e.1),if_neg (show ¬ ((a=dG)/\[a,x].length=3) from fun e=>absurd e.2 (by simp)),if_neg (show ¬ ((a=fX)/\[a,x].length=3) from fun e=>absurd e.2 (by simp)),if_neg (show ¬ ((a=fm\/a=fh)/\[a,x].length=4) from fun e=>absurd e.2 (by simp))];exact .inr ⟨rfl,rfl⟩
 | [a,x,y],_=>
  dsimp only [gr]
  simp only [show nth .str [a,x,y] 0=a from rfl,show nth .str [a,x,y] 1=x from rfl,show nth .str [a,x,y] 2=y from rfl]
  rw [if_neg (show ¬ ((a=eB)/\[a,x,y].length=2) from fun e=>absurd e.2 (by simp)),if_neg (show ¬ ((a=eh)/\[a,x,y].length=2) from fun e=>absurd e.2 (by simp))]
  by_cases h1:a=dG
  ·rw [if_pos h1,if_pos (show (a=dG)/\[a,x,y].length=3 from ⟨h1,rfl⟩)]
   cases hn:cG y with
   | none=>exact .inr ⟨rfl,by simp⟩
   | some n=>exact .inl ⟨_,rfl,by rw [iS hn];simp⟩
  ·rw [if_neg h1,if_neg (show ¬ ((a=dG)/\[a,x,y].length=3) from fun e=>h1 e.1)]
   by_cases h2:a=fX
   ·rw [if_pos h2,if_pos (show (a=fX)/\[a,x,y].length=3 from ⟨h2,rfl⟩)]
    unfold rF
    cases hm:cG x with
    | none=>exact .inr ⟨rfl,by simp⟩
    | some m=>
     cases hn:cG y with
     | none=>exact .inr ⟨rfl,by simp⟩
     | some n=>exact .inl ⟨_,rfl,by rw [iS hn,iS hm];simp⟩
   ·rw [if_neg h2,if_neg (show ¬ ((a=fX)/\[a,x,y].length=3) from fun e=>h2 e.1),if_neg (show ¬ ((a=fm\/a=fh)/\[a,x,y].length=4) from fun e=>absurd e.2 (by simp))];exact .inr ⟨rfl,rfl⟩
 | [a,x,y,z],_=>
  dsimp only [gr]
  simp only [show nth .str [a,x,y,z] 0=a from rfl,show nth .str [a,x,y,z] 1=x from rfl,show nth .str [a,x,y,z] 2=y from rfl,show nth .str [a,x,y,z] 3=z from rfl]
  rw [if_neg (show ¬ ((a=eB)/\[a,x,y,z].length=2) from fun e=>absurd e.2 (by simp)),if_neg (show ¬ ((a=eh)/\[a,x,y,z].length=2) from fun e=>absurd e.2 (by simp)),if_neg (show ¬ ((a=dG)/\[a,x,y,z].length=3) from fun e=>absurd e.2 (by simp)),if_neg (show ¬ ((a=fX)/\[a,x,y,z].length=3) from fun e=>absurd e.2 (by simp))]
  by_cases h1:a=fm\/a=fh
  ·rw [if_pos h1,if_pos (show (a=fm\/a=fh)/\[a,x,y,z].length=4 from ⟨h1,rfl⟩)]
   unfold rF
   cases hm:cG x with
   | none=>exact .inr ⟨rfl,by simp⟩
   | some m=>
    cases hn:cG y with
    | none=>exact .inr ⟨rfl,by simp⟩
    | some n=>exact .inl ⟨_,rfl,by rw [iS hn,iS hm];simp⟩
  ·rw [if_neg h1,if_neg (show ¬ ((a=fm\/a=fh)/\[a,x,y,z].length=4) from fun e=>h1 e.1)];exact .inr ⟨rfl,rfl⟩
 | a :: x :: y :: z :: u :: r,_=>exact .inr ⟨rfl,by simp⟩
theorem DN (o:D aA) (s:aF):(cJ o true s).2=true:=by
 unfold cJ;simp only [Bool.true_or]
 split
 ·rfl
 ·split
  ·rfl
  ·split
   ·rfl
   ·split
    ·rfl
    ·split <;> rfl
theorem DO (o:D aA) (b:Bool) (s:aF) :
  (cJ o b s).1.1.length<=o.1.length + 1/\(cJ o b s).1.2.1.length<=o.2.1.length + 1/\(cJ o b s).1.2.2.1.length<=o.2.2.1.length + 1/\(cJ o b s).1.2.2.2.1.length<=o.2.2.2.1.length + 1:=by
 have e:∀{α:Type} (l:List α) (x:α),(l++[x]).length<=l.length + 1:=fun l x=>by simp
 have e0:∀n:Nat,n<=n + 1:=fun n=>Nat.le_succ n
 unfold cJ
 simp only
 split
 ·exact ⟨e _ _,e0 _,e0 _,e0 _⟩
 ·split
  ·exact ⟨e0 _,e _ _,e0 _,e0 _⟩
  ·split
   ·exact ⟨e0 _,e0 _,e _ _,e0 _⟩
   ·split
    ·exact ⟨e0 _,e0 _,e0 _,e _ _⟩
    ·split
     ·exact ⟨e0 _,e0 _,e0 _,e _ _⟩
     ·exact ⟨e0 _,e0 _,e0 _,e0 _⟩
structure fo (L:List aF) (i:Nat) (o:D aA) (b:Bool):Prop where
 le:i<=L.length
 st:(run jq (bA aA) (L.take i)=some o/\b=false)\/(run jq (bA aA) (L.take i)=none/\b=true)
 l1:o.1.length<=i
 l2:o.2.1.length<=i
 l3:o.2.2.1.length<=i
 l4:o.2.2.2.1.length<=i
theorem fo.zero (L:List aF):fo L 0 (bA aA) false:=⟨Nat.zero_le _, .inl ⟨rfl,rfl⟩,Nat.le_refl _,Nat.le_refl _,Nat.le_refl _,Nat.le_refl _⟩
theorem fo.next {L:List aF} {i:Nat} {o:D aA} {b:Bool} (h:fo L i o b) (hi:i < L.length):fo L (i + 1) (cJ o b (nth .str L i)).1 (cJ o b (nth .str L i)).2:=by
 obtain ⟨a1,a2,a3,a4⟩:=DO o b (nth .str L i)
 refine ⟨hi,?_,by have:=h.l1;omega,by have:=h.l2;omega,by have:=h.l3;omega,by have:=h.l4;omega⟩
 rw [gn (t:=.str) hi,xP]
 rcases h.st with ⟨hr,hb⟩ | ⟨hr,hb⟩
 ·rw [hr,Option.bind_some]
  rcases B6 o b (nth .str L i) with ⟨p,h1,h2⟩ | ⟨h1,h2⟩
  ·rw [h2];exact .inl ⟨h1,hb⟩
  ·exact .inr ⟨h1,h2⟩
 ·rw [hr,hb];exact .inr ⟨rfl,DN o _⟩
end Go.Mrl

namespace Go.Mrl
open Go.Vg
abbrev Gg:=Unit × List (List UInt8) × List Int × List (D aG) × List (D aN) × (Bool × Unit) × Unit
def Fp (x:Gg):D aA:=(x.2.1,x.2.2.1,x.2.2.2.1,x.2.2.2.2.1,())
def DP (p:D aA × Bool):Gg:=((),p.1.1,p.1.2.1,p.1.2.2.1,p.1.2.2.2.1,(p.2,()),())
theorem xS (s p:aF):(Lib.trimPrefix s p).length<=s.length:=by unfold Lib.trimPrefix;split <;> simp
theorem AL {s:aF} {w:List aF} (hw:w=parts 32 (Lib.trimPrefix s bS)) (i:Nat):(nth .str w i).length<=s.length:=by
 by_cases h:i < w.length
 ·have h1:=eo (t:=.str) h
  rw [hw] at h1
  have:=jM _ _ _ h1
  rw [<-hw] at this
  exact Nat.le_trans this (xS _ _)
 ·unfold nth;rw [List.getD_eq_getElem?_getD,List.getElem?_eq_none (by omega)];exact Nat.zero_le _
theorem Fq {s:aF} {w:List aF} (hw:w=parts 32 (Lib.trimPrefix s bS)):0 < w.length:=by rw [hw];exact List.length_pos_iff.2 (rB _ _)
theorem fG {c:Bool} {P:Prop} (q:c=true ↔ P) (h:c=false):¬ P:=fun p=>by rw [q.2 p] at h;cases h
section
variable {o:D aA} {b:Bool} {s:aF} {w:List aF} (hw:w=parts 32 (Lib.trimPrefix s bS))
include hw
theorem B7 (h:nth .str w 0=eB/\w.length=2):cJ o b s=(jP o (nth .str w 1),b):=by
 unfold cJ;simp only;rw [<-hw,if_pos h]
theorem B8 (h0:¬ (nth .str w 0=eB/\w.length=2)) (h:nth .str w 0=eh/\w.length=2):cJ o b s=(jQ o (ch (nth .str w 1)).1,b || (cG (nth .str w 1)).isNone):=by
 unfold cJ;simp only;rw [<-hw,if_neg h0,if_pos h]
theorem DQ (h0:¬ (nth .str w 0=eB/\w.length=2)) (h1:¬ (nth .str w 0=eh/\w.length=2)) (h:nth .str w 0=dG/\w.length=3) :
  cJ o b s=(nn o (nth .str w 1,(ch (nth .str w 2)).1,Lib.hasPrefix s bS,()),b || (cG (nth .str w 2)).isNone):=by
 unfold cJ;simp only;rw [<-hw,if_neg h0,if_neg h1,if_pos h]
theorem B9 (h0:¬ (nth .str w 0=eB/\w.length=2)) (h1:¬ (nth .str w 0=eh/\w.length=2)) (h2:¬ (nth .str w 0=dG/\w.length=3)) (h:nth .str w 0=fX/\w.length=3) :
  cJ o b s=(jo o ((ch (nth .str w 1)).1,1,(ch (nth .str w 2)).1,[],false,()),(b || (cG (nth .str w 1)).isNone) || (cG (nth .str w 2)).isNone):=by
 unfold cJ;simp only;rw [<-hw,if_neg h0,if_neg h1,if_neg h2,if_pos h]
theorem vf (h0:¬ (nth .str w 0=eB/\w.length=2)) (h1:¬ (nth .str w 0=eh/\w.length=2)) (h2:¬ (nth .str w 0=dG/\w.length=3)) (h3:¬ (nth .str w 0=fX/\w.length=3))
  (h:(nth .str w 0=fm\/nth .str w 0=fh)/\w.length=4) {k:Int} (hk:k=if nth .str w 0=fh then 3 else 2) :
  cJ o b s=(jo o ((ch (nth .str w 1)).1,k,(ch (nth .str w 2)).1,nth .str w 3,Lib.hasPrefix s bS,()),(b || (cG (nth .str w 1)).isNone) || (cG (nth .str w 2)).isNone):=by
 unfold cJ;simp only;rw [<-hw,if_neg h0,if_neg h1,if_neg h2,if_neg h3,if_pos h,hk]
theorem Ca (h0:¬ (nth .str w 0=eB/\w.length=2)) (h1:¬ (nth .str w 0=eh/\w.length=2)) (h2:¬ (nth .str w 0=dG/\w.length=3)) (h3:¬ (nth .str w 0=fX/\w.length=3))
  (h:¬ ((nth .str w 0=fm\/nth .str w 0=fh)/\w.length=4)):cJ o b s=(o,true):=by
 unfold cJ;simp only;rw [<-hw,if_neg h0,if_neg h1,if_neg h2,if_neg h3,if_neg h]
end
end Go.Mrl

namespace Go.Mrl
open Go.Vg
end Go.Mrl

namespace Go.Mrl
open Go.Vg
noncomputable def hM (s:aF):D aA × aW:=((b6 s).1,aY (b6 s).2)
theorem Cb {s:aF} (h:s.length > 1200):(bA aA,aW.no 2)=hM s:=by unfold hM;rw [ve h];rfl
theorem fo.run {L:List aF} {i:Nat} {o:D aA} {b:Bool} (h:fo L i o b) (hi:¬ i < L.length):(run jq (bA aA) L=some o/\b=false)\/(run jq (bA aA) L=none/\b=true):=by
 have:=h.st
 rwa [List.take_of_length_le (by omega)] at this
theorem pN {s:aF} {i:Nat} {o:D aA} {b:Bool} (h:fo (parts 10 (Lib.trimSuffix s [10])) i o b) (hi:¬ i < (parts 10 (Lib.trimSuffix s [10])).length) (hl:¬ s.length > 1200)
  (hb:b=true\/(eA o).2.isNil=false\/¬ (eA o).1=s):(bA aA,aW.no 4)=hM s:=by
 have:b6 s=(bA aA,4):=by
  rcases h.run hi with ⟨hr,h0⟩ | ⟨hr,h0⟩
  ·rcases hb with hb | hb | hb
   ·rw [hb] at h0;cases h0
   ·refine s6 hl hr fun hf ht => ?_
    rw [og hf rfl (by show (c6 o).length<=1200;rw [ht];omega)] at hb
    cases hb
   ·refine s6 hl hr fun hf ht=>hb ?_
    rw [og hf rfl (by show (c6 o).length<=1200;rw [ht];omega)]
    exact ht
  ·exact B5 hl hr
 unfold hM;rw [this];rfl
theorem Fs {s:aF} {o:D aA} (hl:¬ s.length > 1200)
  (hn:(eA o).2.isNil=true) (ht:(eA o).1=s):(o,aW.nil)=hM s:=by
 have hf:bD o=0:=by
  apply Classical.byContradiction;intro hf
  rw [u7 hf] at hn
  exact hf (bc.1 hn)
 have hs:c6 o=s:=by
  by_cases h:(c6 o).length > 1200
  ·rw [s4 hf rfl h] at hn;cases hn
  ·rw [og hf rfl (by show (c6 o).length<=1200;omega)] at ht;exact ht
 unfold hM;rw [ql hl hf hs];rfl
theorem GN (s p:aF):(Lib.trimSuffix s p).length<=s.length:=by unfold Lib.trimSuffix;split <;> simp
theorem DR (s:aF) (h:s.length<=1200):(parts 10 (Lib.trimSuffix s [10])).length<=1201:=by
 have h1:=pH 10 (Lib.trimSuffix s [10])
 have h2:(Lib.trimSuffix s [10]).length<=s.length:=by unfold Lib.trimSuffix;split <;> simp
 omega
theorem Cc {s:aF} (h:s.length<=1200) (i:Nat):(nth .str (parts 10 (Lib.trimSuffix s [10])) i).length<=1200:=by
 by_cases hi:i < (parts 10 (Lib.trimSuffix s [10])).length
 ·have:=jM _ _ _ (eo (t:=.str) hi)
  have h2:(Lib.trimSuffix s [10]).length<=s.length:=by unfold Lib.trimSuffix;split <;> simp
  omega
 ·unfold nth;rw [List.getD_eq_getElem?_getD,List.getElem?_eq_none (by omega)];exact Nat.zero_le _
end Go.Mrl

namespace Go.Mrl
open Go.Vg
abbrev Rd:=aF->aF × Int × Int
structure dQ (rd:Rd):Prop where
 code:∀s,(rd s).2.2=0\/(rd s).2.2=5
 Ih:∃K:List aF,K.length<=6/\∀s,(rd s).2.2=0->s∈K
def cw (ns l:List aF):List aF:=l.foldl (fun ns s=>if ns.any (· == s)=true then ns else ns++[s]) ns
noncomputable def dx (rd:Rd) (s:aF):D aA:=(b6 (rd s).1).1
noncomputable def bV (rd:Rd) (s:aF):Int:=if (rd s).2.2=0 then (b6 (rd s).1).2 else (rd s).2.2
noncomputable def dq (rd:Rd):Nat->Nat->List aF->List (D aA)->List aF × List (D aA) × Int
 | 0,_,ns,os=>(ns,os,0)
 | k + 1,i,ns,os=>
  if i < ns.length then
   if bV rd (nth .str ns i)=0 then dq rd k (i + 1) (cw ns (dx rd (nth .str ns i)).1) (os++[dx rd (nth .str ns i)])
   else ([],[],bV rd (nth .str ns i))
  else (ns,os,0)
noncomputable def aS (rd:Rd) (root:aF):List aF × List (D aA) × Int:=dq rd 7 0 [root] []
theorem s7 (s:aF):((b6 s).2=0/\bD (b6 s).1=0/\c6 (b6 s).1=s)\/b6 s=(bA aA,2)\/b6 s=(bA aA,4):=by
 by_cases h:s.length > 1200
 ·exact .inr (.inl (ve h))
 ·by_cases h2:∃o:D aA,bD o=0/\c6 o=s
  ·obtain ⟨o,h3,h4⟩:=h2
   rw [ql h h3 h4];exact .inl ⟨rfl,h3,h4⟩
  ·exact .inr (.inr (rI h fun o h3 h4=>h2 ⟨o,h3,h4⟩))
theorem zK (s:aF):0<=(b6 s).2:=by
 rcases s7 s with ⟨h,_⟩ | h | h <;> rw [h] <;> decide
theorem s9 {s:aF} (h:(b6 s).2=0):bD (b6 s).1=0:=by
 rcases s7 s with ⟨_,h,_⟩ | h' | h'
 ·exact h
 ·rw [h'] at h;cases h
 ·rw [h'] at h;cases h
theorem tW {rd:Rd} (h:dQ rd) (s:aF):0<=bV rd s:=by
 unfold bV
 split
 ·exact zK _
 ·rcases h.code s with e | e <;> rw [e] <;> decide
theorem jt {rd:Rd} (h:dQ rd) {s:aF} (e:bV rd s=0):(rd s).2.2=0/\(b6 (rd s).1).2=0:=by
 unfold bV at e
 rcases h.code s with c | c
 ·rw [if_pos c] at e;exact ⟨c,e⟩
 ·rw [if_neg (by rw [c];decide),c] at e;cases e
theorem pO {rd:Rd} {s:aF} (e:¬ (rd s).2.2=0):bV rd s=(rd s).2.2:=by unfold bV;rw [if_neg e]
theorem mE {rd:Rd} {s:aF} (e:(rd s).2.2=0):bV rd s=(b6 (rd s).1).2:=by unfold bV;rw [if_pos e]
theorem Ft (ns:List aF):cw ns []=ns:=rfl
theorem pP (ns l:List aF) (s:aF):cw ns (s :: l)=cw (if ns.any (· == s)=true then ns else ns++[s]) l:=rfl
theorem DS (ns l:List aF) (s:aF):cw ns (l++[s])=if (cw ns l).any (· == s)=true then cw ns l else cw ns l++[s]:=by
 unfold cw;rw [List.foldl_append];rfl
theorem AM {ns:List aF} {s:aF}:ns.any (· == s)=true ↔ s∈ns:=by
 rw [List.any_eq_true]
 constructor
 ·rintro ⟨x,hx,e⟩;rw [<-(by simpa using e:x=s)];exact hx
 ·intro h;exact ⟨s,h,by simp⟩
theorem iJ:∀(l ns:List aF),∃r,cw ns l=ns++r/\r.length<=l.length/\∀s∈r,s∈l
 | [],ns=>⟨[],by simp [Ft],by simp,by simp⟩
 | x :: l,ns=>by
  rw [pP]
  split
  ·obtain ⟨r,h1,h2,h3⟩:=iJ l ns
   exact ⟨r,h1,by simp;omega,fun s hs=>by simp [h3 s hs]⟩
  ·obtain ⟨r,h1,h2,h3⟩:=iJ l (ns++[x])
   refine ⟨x :: r,by rw [h1];simp,by simp;omega,fun s hs => ?_⟩
   rcases List.mem_cons.1 hs with rfl | hs
   ·simp
   ·simp [h3 s hs]
theorem om:∀(l ns:List aF),ns.Nodup->(cw ns l).Nodup
 | [],ns,h=>h
 | x :: l,ns,h=>by
  rw [pP]
  split
  ·exact om l ns h
  ·rename_i hx
   refine om l _ ?_
   rw [List.nodup_append]
   refine ⟨h,by simp,fun a ha b hb e=>hx (AM.2 ?_)⟩
   simp at hb;subst hb;exact e▸ha
theorem xT:∀(l ns:List aF),∀s∈l,s∈cw ns l
 | [],_,s,h=>by simp at h
 | x :: l,ns,s,h=>by
  rw [pP]
  rcases List.mem_cons.1 h with rfl | h
  ·split
   ·rename_i hx
    obtain ⟨r,h1,_⟩:=iJ l ns
    rw [h1];exact List.mem_append_left _ (AM.1 hx)
   ·obtain ⟨r,h1,_⟩:=iJ l (ns++[s])
    rw [h1];simp
  ·exact xT l _ s h
theorem vg {ns l:List aF} {i:Nat} (h:i < l.length):cw ns (l.take (i + 1))=if (cw ns (l.take i)).any (· == nth .str l i)=true then cw ns (l.take i) else cw ns (l.take i)++[nth .str l i]:=by
 rw [gn (t:=.str) h,DS]
theorem vh {t:Ty} {a b:List (D t)} {i:Nat} (h:i < a.length):nth t (a++b) i=nth t a i:=by rw [n7,if_pos h]
structure e9 (rd:Rd) (root:aF) (i:Nat) (ns:List aF) (os:List (D aA)):Prop where
 eq:dq rd (7 - i) i ns os=aS rd root
 le:i<=6
 lo:i<=ns.length
 pos:0 < ns.length
 len:os.length=i
 hi:ns.length<=1 + 4 * i
 head:nth .str ns 0=root
 nd:ns.Nodup
 xU:∀j,j < i->bV rd (nth .str ns j)=0/\nth aA os j=dx rd (nth .str ns j)
 want:∀j,j < ns.length->j≠0->∃k,k < i/\k < j/\nth .str ns j∈(nth aA os k).1
 pL:∀j,j < i->∀s∈(nth aA os j).1,s∈ns
theorem e9.zero (rd:Rd) (root:aF):e9 rd root 0 [root] []:=
 ⟨rfl,by omega,by simp,by simp,rfl,by simp,rfl,by simp,fun j h=>by omega,fun j h h'=>by simp at h;omega,fun j h=>by omega⟩
theorem e9.room {rd:Rd} {root:aF} {i:Nat} {ns:List aF} {os:List (D aA)} (ok:dQ rd) (h:e9 rd root i ns os) (hi:i < ns.length) (hf:bV rd (nth .str ns i)=0):i + 1<=6:=by
 obtain ⟨K,hK,hm⟩:=ok.Ih
 have hsub:∀y∈ns.take (i + 1),y∈K:=by
  intro y hy
  obtain ⟨j,hj,rfl⟩:=nc (t:=.str) hy
  rw [List.length_take] at hj
  rw [xr (t:=.str) (by omega)]
  refine hm _ (jt ok ?_).1
  rcases Nat.lt_or_ge j i with hl | hl
  ·exact (h.xU j hl).1
  ·rw [show j=i by omega];exact hf
 have:=uQ (h.nd.sublist (List.take_sublist (i + 1) ns)) hsub
 rw [List.length_take] at this
 omega
theorem e9.fuel {rd:Rd} {root:aF} {i:Nat} {ns:List aF} {os:List (D aA)} (h:e9 rd root i ns os):dq rd (6 - i + 1) i ns os=aS rd root:=by
 rw [<-h.eq];congr 1;have:=h.le;omega
theorem e9.bad {rd:Rd} {root:aF} {i:Nat} {ns:List aF} {os:List (D aA)} (h:e9 rd root i ns os) (hi:i < ns.length) (hf:¬ bV rd (nth .str ns i)=0) :
  aS rd root=([],[],bV rd (nth .str ns i)):=by
 rw [<-h.fuel,dq,if_pos hi,if_neg hf]
theorem e9.done {rd:Rd} {root:aF} {i:Nat} {ns:List aF} {os:List (D aA)} (h:e9 rd root i ns os) (hi:¬ i < ns.length):aS rd root=(ns,os,0):=by
 rw [<-h.fuel,dq,if_neg hi]
theorem rJ {rd:Rd} (ok:dQ rd) {s:aF} (hf:bV rd s=0):e8 (dx rd s):=hJ (s9 (jt ok hf).2)
theorem e9.next {rd:Rd} {root:aF} {i:Nat} {ns:List aF} {os:List (D aA)} (ok:dQ rd) (h:e9 rd root i ns os) (hi:i < ns.length) (hf:bV rd (nth .str ns i)=0) :
  e9 rd root (i + 1) (cw ns (dx rd (nth .str ns i)).1) (os++[dx rd (nth .str ns i)]):=by
 have hr:=h.room ok hi hf
 have ho:=rJ ok hf
 obtain ⟨r,h1,h2,h3⟩:=iJ (dx rd (nth .str ns i)).1 ns
 have hn4:=ho.n4
 have hlen:=h.len
 have hhi:=h.hi
 have hpos:=h.pos
 have hos:nth aA (os++[dx rd (nth .str ns i)]) i=dx rd (nth .str ns i):=by rw [n7,if_neg (by omega),h.len,Nat.sub_self];rfl
 have hns:∀j,j < ns.length->nth .str (cw ns (dx rd (nth .str ns i)).1) j=nth .str ns j:=fun j hj=>by rw [h1,vh (t:=.str) hj]
 have hoj:∀j,j < i->nth aA (os++[dx rd (nth .str ns i)]) j=nth aA os j:=fun j hj=>vh (t:=aA) (by omega)
 refine ⟨?_,hr,by rw [h1,List.length_append];omega,by rw [h1,List.length_append];omega,by rw [List.length_append,h.len];rfl,by rw [h1,List.length_append];omega,
  by rw [hns 0 hpos];exact h.head,om _ _ h.nd,fun j hj => ?_,fun j hj h0 => ?_,fun j hj s hs => ?_⟩
 ·rw [<-h.fuel,dq,if_pos hi,if_pos hf];congr 1;omega
 ·rcases Nat.lt_or_ge j i with hl | hl
  ·rw [hns j (by omega),hoj j hl];exact h.xU j hl
  ·rw [show j=i by omega,hns i hi,hos];exact ⟨hf,rfl⟩
 ·rcases Nat.lt_or_ge j ns.length with hl | hl
  ·obtain ⟨k,k1,k2,k3⟩:=h.want j hl h0
   exact ⟨k,by omega,k2,by rw [hns j hl,hoj k k1];exact k3⟩
  ·refine ⟨i,by omega,by omega,?_⟩
   rw [hos,h1,n7,if_neg (by omega)]
   refine h3 _ (eo (t:=.str) ?_)
   rw [h1,List.length_append] at hj;omega
 ·rcases Nat.lt_or_ge j i with hl | hl
  ·rw [hoj j hl] at hs
   rw [h1];exact List.mem_append_left _ (h.pL j hl s hs)
  ·rw [show j=i by omega,hos] at hs
   exact xT _ _ s hs
structure Scope (rd:Rd) (root:aF) (ns:List aF) (os:List (D aA)):Prop where
 le:ns.length<=6
 pos:0 < ns.length
 len:os.length=ns.length
 head:nth .str ns 0=root
 nd:ns.Nodup
 xU:∀j,j < ns.length->bV rd (nth .str ns j)=0/\nth aA os j=dx rd (nth .str ns j)
 want:∀j,j < ns.length->j≠0->∃k,k < j/\nth .str ns j∈(nth aA os k).1
 pL:∀j,j < ns.length->∀s∈(nth aA os j).1,s∈ns
theorem ta {rd:Rd} {root:aF} (ok:dQ rd):∀(m i:Nat) (ns:List aF) (os:List (D aA)),m=7 - i->e9 rd root i ns os->
  (∃f,0 < f/\aS rd root=([],[],f))\/(∃ns os,aS rd root=(ns,os,0)/\Scope rd root ns os)
 | 0,i,ns,os,hm,h=>by have:=h.le;omega
 | m + 1,i,ns,os,hm,h=>by
  by_cases hi:i < ns.length
  ·by_cases hf:bV rd (nth .str ns i)=0
   ·exact ta ok m (i + 1) _ _ (by omega) (h.next ok hi hf)
   ·have:=tW ok (nth .str ns i)
    exact .inl ⟨_,by omega,h.bad hi hf⟩
  ·have h1:=h.lo
   have h2:=h.le
   have e:i=ns.length:=by omega
   subst e
   exact .inr ⟨ns,os,h.done hi,h2,h.pos,h.len,h.head,h.nd,h.xU,fun j hj h0=>let ⟨k,_,k2,k3⟩:=h.want j hj h0;⟨k,k2,k3⟩,h.pL⟩
theorem qM {rd:Rd} (ok:dQ rd) (root:aF):(∃f,0 < f/\aS rd root=([],[],f))\/(∃ns os,aS rd root=(ns,os,0)/\Scope rd root ns os):=
 ta ok 7 0 _ _ rfl (e9.zero rd root)
theorem rK {rd:Rd} (ok:dQ rd) {root:aF} (h:(aS rd root).2.2=0):Scope rd root (aS rd root).1 (aS rd root).2.1:=by
 rcases qM ok root with ⟨f,hf,e⟩ | ⟨ns,os,e,h'⟩
 ·rw [e] at h;simp only at h;omega
 ·rw [e];exact h'
theorem tc (rd:Rd):∀(k i:Nat) (ns:List aF) (os:List (D aA)),(dq rd k i ns os).2.2=0->∀s∈ns,s∈(dq rd k i ns os).1
 | 0,_,ns,os,_=>fun s hs=>hs
 | k + 1,i,ns,os,h=>by
  unfold dq at h ⊢
  split
  ·rename_i hi
   rw [if_pos hi] at h
   split
   ·rename_i hf
    rw [if_pos hf] at h
    obtain ⟨r,h1,_⟩:=iJ (dx rd (nth .str ns i)).1 ns
    intro s hs
    exact tc rd k _ _ _ h s (by rw [h1];exact List.mem_append_left _ hs)
   ·rename_i hf
    rw [if_neg hf] at h
    exact absurd h hf
  ·exact fun s hs=>hs
theorem pQ {rd rd':Rd}:∀(k i:Nat) (ns:List aF) (os:List (D aA)),(dq rd k i ns os).2.2=0->(∀s∈(dq rd k i ns os).1,rd' s=rd s)->dq rd' k i ns os=dq rd k i ns os
 | 0,_,ns,os,_,_=>rfl
 | k + 1,i,ns,os,h,hs=>by
  by_cases hi:i < ns.length
  ·have hm:=hs _ (tc rd (k + 1) i ns os h _ (eo (t:=.str) hi))
   have e1:bV rd' (nth .str ns i)=bV rd (nth .str ns i):=by unfold bV;rw [hm]
   have e2:dx rd' (nth .str ns i)=dx rd (nth .str ns i):=by unfold dx;rw [hm]
   unfold dq at h hs ⊢
   rw [if_pos hi] at h hs ⊢
   rw [if_pos hi,e1,e2]
   by_cases hf:bV rd (nth .str ns i)=0
   ·rw [if_pos hf] at h hs ⊢
    rw [if_pos hf]
    exact pQ k _ _ _ h hs
   ·rw [if_neg hf,if_neg hf]
  ·unfold dq;rw [if_neg hi,if_neg hi]
theorem zL {rd rd':Rd} {root:aF} (h:(aS rd root).2.2=0) (hs:∀s∈(aS rd root).1,rd' s=rd s):aS rd' root=aS rd root:=pQ _ _ _ _ h hs
theorem dR {x:du} (h:x.2.1.1.length<=6):dQ (ba x):=by
 refine ⟨fun s => ?_,x.2.1.1.map ly,by rw [List.length_map];exact h,fun s hs => ?_⟩
 ·unfold ba;split
  ·exact .inl rfl
  ·exact .inr rfl
 ·by_cases c:bX bZ x.2.1.1 s=true
  ·obtain ⟨y,hy,e⟩:=jL.1 c
   rw [<-e];exact List.mem_map_of_mem hy
  ·rw [l7 (by simpa using c)] at hs;cases hs
end Go.Mrl

namespace Go.Mrl
open Go.Vg
section
variable {rd:Rd} {root:aF} {i:Nat} {ns:List aF} {os:List (D aA)}
theorem e9.Fu (ok:dQ rd) (h:e9 rd root i ns os) (hi:i < ns.length) (he:¬ (rd (nth .str ns i)).2.2=0) :
  aS rd root=([],[],(rd (nth .str ns i)).2.2):=by
 rw [h.bad hi (by rw [pO he];exact he),pO he]
theorem e9.GO (h:e9 rd root i ns os) (hi:i < ns.length) (he:(rd (nth .str ns i)).2.2=0) (ho:¬ (b6 (rd (nth .str ns i)).1).2=0) :
  aS rd root=([],[],(b6 (rd (nth .str ns i)).1).2):=by
 rw [h.bad hi (by rw [mE he];exact ho),mE he]
theorem tX {s:aF} (he:(rd s).2.2=0) (ho:(b6 (rd s).1).2=0):bV rd s=0:=by rw [mE he];exact ho
theorem e9.Ic (h:e9 rd root i ns os):os.length + 1<=1000000000:=by have:=h.len;have:=h.le;omega
theorem e9.HG (h:e9 rd root i ns os) (ok:dQ rd) {s:aF} (hf:bV rd s=0) (k:Nat):(cw ns (List.take k (dx rd s).1)).length + 1<=1000000000:=by
 obtain ⟨r,h1,h2,_⟩:=iJ (List.take k (dx rd s).1) ns
 have:=(rJ ok hf).n4
 have:=h.hi
 have:=h.le
 rw [h1,List.length_append]
 rw [List.length_take] at h2
 omega
theorem AN {l:List aF} {k:Nat} (h:k < l.length) (hn:(cw ns (l.take k)).any (fun x=>x == nth .str l k)=false):cw ns (l.take k)++[nth .str l k]=cw ns (l.take (k + 1)):=by
 rw [vg h,if_neg (by rw [hn];exact Bool.false_ne_true)]
theorem AO {l:List aF} {k:Nat} (h:k < l.length) (hn:(cw ns (l.take k)).any (fun x=>x == nth .str l k)=true):cw ns (l.take k)=cw ns (l.take (k + 1)):=by
 rw [vg h,if_pos hn]
theorem AP {l:List aF} {k:Nat} (h:¬ k < l.length):cw ns (l.take k)=cw ns l:=by rw [List.take_of_length_le (by omega)]
end
end Go.Mrl

namespace Go.Mrl
open Go.Vg
end Go.Mrl
namespace Go.Mrl
open Go.Vg
end Go.Mrl

namespace Go.Mrl
open Go.Vg
end Go.Mrl

namespace Go.Mrl
open Go.Vg
def bJ (l:List (D aA)):List Int:=l.map fun o=>(o.2.1.length:Int)
def bP (l:List (D aA)):Ws:=l.map fun o=>o.2.1
theorem Cd (l:List (D aA)):(bJ l).length=l.length:=by simp [bJ]
theorem ju (l:List (D aA)):(bP l).length=l.length:=by simp [bP]
theorem GP {t u:Ty} {f:D u->D t} {l:List (D u)} {i:Nat} (h:i < l.length):nth t (l.map f) i=f (nth u l i):=by
 unfold nth;rw [List.getD_eq_getElem?_getD,List.getD_eq_getElem?_getD,List.getElem?_map,List.getElem?_eq_getElem h];rfl
theorem tf {l:List (D aA)} {i:Nat} (h:i < l.length):nth dD (bP l) i=(nth aA l i).2.1:=GP (u:=aA) (t:=dD) h
theorem qN {l:List (D aA)} {i:Nat} (h:i < l.length):bJ (l.take (i + 1))=bJ (l.take i)++[((nth aA l i).2.1.length:Int)]:=by
 unfold bJ;rw [ku (t:=aA) h];simp
theorem qO {l:List (D aA)} {i:Nat} (h:i < l.length):bP (l.take (i + 1))=bP (l.take i)++[(nth aA l i).2.1]:=by
 unfold bP;rw [ku (t:=aA) h];simp
noncomputable def Ce (l:List (D aA)) (b:List Int) (i:Nat) (ts:List (D aN)):List Pt:=ts.map fun t=>((i:Int),t.1,(da l b i t).1,())
noncomputable def pR (l:List (D aA)) (b:List Int):List (D aA)->Nat->List Pt
 | [],_=>[]
 | o :: r,i=>Ce l b i o.2.2.2.1++pR l b r (i + 1)
theorem AQ {l:List (D aA)} {b:List Int} {i:Nat}:∀{ts:List (D aN)} {out:List Pt},(hE l b i ts out).2.isNil=true->hE l b i ts out=(out++Ce l b i ts, .nil)/\∀t∈ts,(da l b i t).2.isNil=true
 | [],out,_=>⟨by simp [hE,Ce],by simp⟩
 | t :: r,out,h=>by
  rw [hE] at h ⊢
  by_cases c:(da l b i t).2.isNil=true
  ·rw [if_pos c] at h ⊢
   obtain ⟨h1,h2⟩:=AQ h
   refine ⟨by rw [h1];simp [Ce],fun u hu => ?_⟩
   rcases List.mem_cons.1 hu with rfl | hu
   ·exact c
   ·exact h2 u hu
  ·rw [if_neg c] at h;exact absurd h c
theorem AR {l:List (D aA)} {b:List Int}:∀{os:List (D aA)} {i:Nat} {out:List Pt},(gL l b os i out).2.isNil=true->gL l b os i out=(out++pR l b os i, .nil)/\
  ∀k,k < os.length->∀t∈(nth aA os k).2.2.2.1,(da l b ((i + k:Nat):Int) t).2.isNil=true
 | [],i,out,_=>⟨by simp [gL,pR],fun k hk=>by simp at hk⟩
 | o :: r,i,out,h=>by
  rw [gL] at h ⊢
  unfold il at h ⊢
  by_cases c:(hE l b i o.2.2.2.1 out).2.isNil=true
  ·rw [if_pos c] at h ⊢
   obtain ⟨h1,h2⟩:=AQ c
   obtain ⟨h3,h4⟩:=AR h
   refine ⟨by rw [h3,h1];simp [pR],fun k hk => ?_⟩
   rcases k with _ | k
   ·exact h2
   ·have:=h4 k (by simpa using hk)
    rw [show i + 1 + k=i + (k + 1) by omega] at this
    exact this
  ·rw [if_neg c] at h;exact absurd h c
theorem Fv {l:List (D aA)} {b:List Int} (h:(dk (l,b)).2.isNil=true):b.length=l.length/\jw b/\(dk (l,b)).1=pR l b l 0/\∀k,k < l.length->∀t∈(nth aA l k).2.2.2.1,(da l b (k:Int) t).2.isNil=true:=by
 have h':=h
 unfold dk at h ⊢
 split at h
 ·cases h
 ·rename_i hl
  split at h
  ·rename_i hb
   obtain ⟨h1,h2⟩:=AR h
   refine ⟨Classical.byContradiction hl,hb,?_,fun k hk t ht=>by have:=h2 k hk t ht;rwa [Nat.zero_add] at this⟩
   rw [if_neg hl,if_pos hb,h1];rfl
  ·cases h
theorem xV {l:List (D aA)} {b:List Int}:∀{os:List (D aA)} {i:Nat} {p:Pt},p∈pR l b os i->∃k t,k < os.length/\t∈(nth aA os k).2.2.2.1/\p=(((i + k:Nat):Int),t.1,(da l b ((i + k:Nat):Int) t).1,())
 | [],i,p,h=>by simp [pR] at h
 | o :: r,i,p,h=>by
  rcases List.mem_append.1 h with h | h
  ·obtain ⟨t,ht,rfl⟩:=List.mem_map.1 h
   exact ⟨0,t,by simp,ht,rfl⟩
  ·obtain ⟨k,t,hk,ht,rfl⟩:=xV h
   exact ⟨k + 1,t,by simp;omega,ht,by rw [show i + 1 + k=i + (k + 1) by omega]⟩
theorem tg (x:List Int × List (D aP)):Told (bO x).2:=by
 unfold bO
 split
 ·rfl
 ·split
  ·rfl
  ·split <;> rfl
theorem Fw (x:Ws × List Pt):Told (dE x).2:=by
 unfold dE;split <;> rfl
theorem oq {e:aW} (h:Told e):aY (dh e)=e:=by
 cases e with
 | nil=>rfl
 | no m=>
  have h':0 < m:=by have:=h;simpa [Told,qe,dh] using this
  have h2:¬ m=0:=by omega
  show aY m=_
  unfold aY
  rw [if_neg h2]
 | other=>unfold Told at h;simp [qe] at h
theorem xW {e:aW} (h:Told e) (hn:e.isNil=false):0 < dh e:=by
 cases e with
 | nil=>cases hn
 | no m=>
  have h':0 < m:=by have:=h;simpa [Told,qe,dh] using this
  exact h'
 | other=>unfold Told at h;simp [qe] at h
abbrev Rk:=List aF × List (D aA) × List Int × List Pt × Int
noncomputable def aL (rd:Rd) (root:aF):Rk:=
 if ¬ (aS rd root).2.2=0 then ([],[],[],[],(aS rd root).2.2)
 else if (bO (bJ (aS rd root).2.1,[])).2.isNil=false then ([],[],[],[],dh (bO (bJ (aS rd root).2.1,[])).2)
 else if (dk ((aS rd root).2.1,(bO (bJ (aS rd root).2.1,[])).1)).2.isNil=false then ([],[],[],[],dh (dk ((aS rd root).2.1,(bO (bJ (aS rd root).2.1,[])).1)).2)
 else ((aS rd root).1,(aS rd root).2.1,(bO (bJ (aS rd root).2.1,[])).1,(dk ((aS rd root).2.1,(bO (bJ (aS rd root).2.1,[])).1)).1,0)
theorem pS {rd:Rd} {root:aF} (h:¬ (aS rd root).2.2=0):aL rd root=([],[],[],[],(aS rd root).2.2):=by unfold aL;rw [if_pos h]
theorem pT {rd:Rd} {root:aF} (h:(aS rd root).2.2=0) (h1:(bO (bJ (aS rd root).2.1,[])).2.isNil=false):aL rd root=([],[],[],[],dh (bO (bJ (aS rd root).2.1,[])).2):=by
 unfold aL;rw [if_neg (not_not_intro h),if_pos h1]
theorem th {rd:Rd} {root:aF} (h:(aS rd root).2.2=0) (h1:(bO (bJ (aS rd root).2.1,[])).2.isNil=true) (h2:(dk ((aS rd root).2.1,(bO (bJ (aS rd root).2.1,[])).1)).2.isNil=false) :
  aL rd root=([],[],[],[],dh (dk ((aS rd root).2.1,(bO (bJ (aS rd root).2.1,[])).1)).2):=by
 unfold aL;rw [if_neg (not_not_intro h),if_neg (by rw [h1];decide),if_pos h2]
theorem qP {rd:Rd} {root:aF} (h:(aS rd root).2.2=0) (h1:(bO (bJ (aS rd root).2.1,[])).2.isNil=true) (h2:(dk ((aS rd root).2.1,(bO (bJ (aS rd root).2.1,[])).1)).2.isNil=true) :
  aL rd root=((aS rd root).1,(aS rd root).2.1,(bO (bJ (aS rd root).2.1,[])).1,(dk ((aS rd root).2.1,(bO (bJ (aS rd root).2.1,[])).1)).1,0):=by
 unfold aL;rw [if_neg (not_not_intro h),if_neg (by rw [h1];decide),if_neg (by rw [h2];decide)]
structure xX (rd:Rd) (root:aF) (ns:List aF) (os:List (D aA)) (bs:List Int) (ps:List Pt):Prop where
 e:aS rd root=(ns,os,0)
 sc:Scope rd root ns os
 eb:bO (bJ os,[])=(bs, .nil)
 ea:dk (os,bs)=(ps, .nil)
 bl:bs.length=os.length
 bi:jw bs
 pt:ps=pR os bs os 0
 one:∀k,k < os.length->∀t∈(nth aA os k).2.2.2.1,(da os bs (k:Int) t).2.isNil=true
 Iq:∀i,i < ps.length->nf (bP os) (nth aQ ps i)
theorem vj {e:aW} (h:e.isNil=true):e = .nil:=by cases e <;> first | rfl | cases h
theorem Scope.obj {rd:Rd} {root:aF} {ns:List aF} {os:List (D aA)} (ok:dQ rd) (h:Scope rd root ns os) {i:Nat} (hi:i < os.length):e8 (nth aA os i):=by
 have:=h.xU i (by rw [<-h.len];exact hi)
 rw [this.2];exact rJ ok this.1
theorem e8.Fx {o:D aA} (h:e8 o):Gd o:=by
 refine ⟨by have:=h.t6;omega,fun i hi => ?_,fun i hi => ?_⟩
 ·have:=(h.sym hi).2;unfold jn at this;unfold Small;omega
 ·have:=h.tie hi
  have a:=this.a
  have w:=this.w
  unfold jn at a w
  unfold Small Word
  omega
theorem Scope.Fx {rd:Rd} {root:aF} {ns:List aF} {os:List (D aA)} (ok:dQ rd) (h:Scope rd root ns os):ec os:=⟨by have:=h.le;have:=h.len;omega,fun _ hi=>(h.obj ok hi).Fx⟩
theorem DT {a n:Int} (h:a<=n - 1):a < n:=by omega
theorem zM {o:D aA} (h:bD o=0):cT o.2.1.length [] o.2.2.1=0/\eS o.2.1.length none o.2.2.2.1=0:=by
 unfold bD at h
 split at h
 ·cases h
 ·split at h
  ·rename_i h1;exact absurd h h1
  ·split at h
   ·rename_i h2;exact absurd h h2
   ·split at h
    ·rename_i h3;exact absurd h h3
    ·rename_i h3;exact ⟨Classical.byContradiction h3,h⟩
theorem Cf {o:D aA} (h:bD o=0) {t:D aN} (ht:t∈o.2.2.2.1):0<=t.1/\t.1 < (o.2.1.length:Int):=by
 obtain ⟨p,hp⟩:=oe _ _ _ (zM h).2 t ht
 obtain ⟨⟨a,b⟩,_⟩:=u4 hp
 exact ⟨a,DT b⟩
theorem Scope.fault {rd:Rd} {root:aF} {ns:List aF} {os:List (D aA)} (ok:dQ rd) (h:Scope rd root ns os) {i:Nat} (hi:i < os.length):bD (nth aA os i)=0:=by
 have:=h.xU i (by rw [<-h.len];exact hi)
 rw [this.2];exact s9 (jt ok this.1).2
theorem lF {rd:Rd} (ok:dQ rd) (root:aF):(∃f,0 < f/\aL rd root=([],[],[],[],f))\/(∃ns os bs ps,aL rd root=(ns,os,bs,ps,0)/\xX rd root ns os bs ps):=by
 rcases qM ok root with ⟨f,hf,e⟩ | ⟨ns,os,e,sc⟩
 ·exact .inl ⟨f,hf,by rw [pS (by rw [e];simp only;omega),e]⟩
 ·have e0:(aS rd root).2.2=0:=by rw [e]
  have e1:(aS rd root).2.1=os:=by rw [e]
  have e2:(aS rd root).1=ns:=by rw [e]
  cases hb:(bO (bJ os,[])).2.isNil with
  | false=>exact .inl ⟨_,xW (tg _) hb,by rw [pT e0 (by rw [e1];exact hb),e1]⟩
  | true=>
   cases ha:(dk (os,(bO (bJ os,[])).1)).2.isNil with
   | false=>exact .inl ⟨_,xW (xy _) ha,by rw [th e0 (by rw [e1];exact hb) (by rw [e1];exact ha),e1]⟩
   | true=>
    obtain ⟨a1,a2,a3,a4⟩:=Fv ha
    refine .inr ⟨ns,os,_,_,by rw [qP e0 (by rw [e1];exact hb) (by rw [e1];exact ha),e1,e2],e,sc,Prod.ext rfl (vj hb),Prod.ext rfl (vj ha),a1,a2,a3,a4,fun i hi => ?_⟩
    obtain ⟨k,t,hk,ht,hp⟩:=xV (by rw [<-a3];exact eo (t:=aQ) hi)
    rw [hp]
    have:=Cf (sc.fault ok hk) ht
    refine ⟨by simp only;omega,by simp only;rw [ju];omega,this.1,?_⟩
    simp only [Nat.zero_add]
    rw [show ((k:Int)).toNat=k from rfl,tf hk]
    exact this.2
def ey (ns:List aF) (bs:List Int) (w:Ws) (n:Nat):List (D fg):=(List.range n).map fun i=>(nth .str ns i,nth (.int .i64) bs i,nth dD w i,())
theorem Cg (ns:List aF) (bs:List Int) (w:Ws) (n:Nat):(ey ns bs w n).length=n:=by simp [ey]
theorem qQ (ns:List aF) (bs:List Int) (w:Ws) (n:Nat):ey ns bs w (n + 1)=ey ns bs w n++[(nth .str ns n,nth (.int .i64) bs n,nth dD w n,())]:=by simp [ey,List.range_succ]
noncomputable def gv (ns:List aF) (bs:List Int) (os:List (D aA)) (ps:List Pt):List (D fg) × aW:=
 if ¬ ns.length=os.length\/¬ bs.length=os.length then ([], .no 3)
 else if (dE (bP os,ps)).2.isNil=false then ([],(dE (bP os,ps)).2)
 else (ey ns bs (dE (bP os,ps)).1 os.length, .nil)
theorem tj {ns:List aF} {bs:List Int} {os:List (D aA)} {ps:List Pt} (h:¬ ns.length=os.length\/¬ bs.length=os.length):gv ns bs os ps=([], .no 3):=by unfold gv;rw [if_pos h]
theorem Fy {ns:List aF} {bs:List Int} {os:List (D aA)} {ps:List Pt} (h:ns.length=os.length) (h':bs.length=os.length) (hp:(dE (bP os,ps)).2.isNil=false):gv ns bs os ps=([],(dE (bP os,ps)).2):=by
 unfold gv;rw [if_neg (by rintro (e | e);exact e h;exact e h'),if_pos hp]
theorem AS {ns:List aF} {bs:List Int} {os:List (D aA)} {ps:List Pt} (h:ns.length=os.length) (h':bs.length=os.length) (hp:(dE (bP os,ps)).2.isNil=true):gv ns bs os ps=(ey ns bs (dE (bP os,ps)).1 os.length, .nil):=by
 unfold gv;rw [if_neg (by rintro (e | e);exact e h;exact e h'),if_neg (by rw [hp];decide)]
theorem Fz (ns:List aF) (bs:List Int) (os:List (D aA)) (ps:List Pt):Told (gv ns bs os ps).2:=by
 unfold gv;split
 ·rfl
 ·split
  ·exact Fw _
  ·rfl
noncomputable def fj (rd:Rd) (root:aF):List (D fg) × Int:=
 if ¬ (aL rd root).2.2.2.2=0 then ([],(aL rd root).2.2.2.2)
 else ((gv (aL rd root).1 (aL rd root).2.2.1 (aL rd root).2.1 (aL rd root).2.2.2.1).1,dh (gv (aL rd root).1 (aL rd root).2.2.1 (aL rd root).2.1 (aL rd root).2.2.2.1).2)
theorem FA {rd:Rd} {root:aF} (h:¬ (aL rd root).2.2.2.2=0):fj rd root=([],(aL rd root).2.2.2.2):=by unfold fj;rw [if_pos h]
end Go.Mrl

namespace Go.Mrl
open Go.Vg
def Ii (p:D fg) (a:Int):Prop:=(p.2.1:Int)<=a/\a < (p.2.1:Int) + (p.2.2.1.length:Int)
instance (p:D fg) (a:Int):Decidable (Ii p a):=inferInstanceAs (Decidable (_/\_))
theorem DU {rd:Rd} (ok:dQ rd) {root:aF} (h:(aS rd root).2.2=0):(aS rd root).2.1.length<=6:=by
 have:=(rK ok h).le;have:=(rK ok h).len;omega
theorem Ch {rd:Rd} (ok:dQ rd) {root:aF} (h:(aS rd root).2.2=0):ec (aS rd root).2.1:=(rK ok h).Fx ok
theorem GQ {l:List (D aA)} (h:l.length<=1000/\∀i,i < l.length->(nth aA l i).2.1.length<=1000) :
  (bP l).length<=100000/\∀i,i < (bP l).length->(nth dD (bP l) i).length<=100000000:=by
 refine ⟨by rw [ju];omega,fun i hi => ?_⟩
 rw [ju] at hi
 rw [tf hi];have:=h.2 i hi;omega
theorem Ci {rd:Rd} (ok:dQ rd) {root:aF} {ns:List aF} {os:List (D aA)} (h:Scope rd root ns os):os.length<=1000/\∀i,i < os.length->(nth aA os i).2.1.length<=1000:=by
 refine ⟨by have:=h.le;have:=h.len;omega,fun i hi => ?_⟩
 exact Nat.le_trans (h.obj ok hi).H6 (by decide)
theorem xY {rd:Rd} (ok:dQ rd) {root:aF} (h:(aL rd root).2.2.2.2=0) :
  (aL rd root).2.1.length<=1000/\∀i,i < (aL rd root).2.1.length->(nth aA (aL rd root).2.1 i).2.1.length<=1000:=by
 rcases lF ok root with ⟨f,hf,e⟩ | ⟨ns,os,bs,ps,e,hr⟩
 ·rw [e] at h;simp at h;omega
 ·rw [e];exact Ci ok hr.sc
theorem FB {rd:Rd} {root:aF} (h:(aL rd root).2.2.2.2=0) :
  ((gv (aL rd root).1 (aL rd root).2.2.1 (aL rd root).2.1 (aL rd root).2.2.2.1).1,(gv (aL rd root).1 (aL rd root).2.2.1 (aL rd root).2.1 (aL rd root).2.2.2.1).2,()) =
   ((fj rd root).1,aY (fj rd root).2,()):=by
 unfold fj;rw [if_neg (not_not_intro h)]
 simp only [oq (Fz _ _ _ _)]
theorem me {f:Int} (h:(aY f).isNil=false):¬ f=0:=fun e=>by rw [bc.2 e] at h;cases h
theorem FC (x:List (D aA) × List Int):aY (dh (dk x).2)=(dk x).2:=oq (xy x)
end Go.Mrl

namespace Go.Mrl
open Go.Vg
section
variable {o:D aA} {b:Bool} {w:List aF} {k:Nat}
end
theorem eT {k n:Nat} (h:(k:Int) < (n:Int)):(decide ((k:Int) < 3))=true ↔ ((k:Int) < (n:Int)/\(k:Int) < 3):=by
 rw [decide_eq_true_eq];omega
end Go.Mrl

namespace Go.Mrl
open Go.Vg
def cr (rd:Rd) (ns:List aF) (bs:List Int) (n:Nat):List (D bn):=(List.range n).map fun i=>(nth .str ns i,(rd (nth .str ns i)).2.1,nth (.int .i64) bs i,())
theorem hP (rd:Rd) (ns:List aF) (bs:List Int) (n:Nat):(cr rd ns bs n).length=n:=by simp [cr]
theorem pU (rd:Rd) (ns:List aF) (bs:List Int) (n:Nat):cr rd ns bs (n + 1)=cr rd ns bs n++[(nth .str ns n,(rd (nth .str ns n)).2.1,nth (.int .i64) bs n,())]:=by simp [cr,List.range_succ]
theorem mF {rd:Rd} {ns:List aF} {bs:List Int} {n i:Nat} (h:i < n):nth bn (cr rd ns bs n) i=(nth .str ns i,(rd (nth .str ns i)).2.1,nth (.int .i64) bs i,()):=by
 apply dM;simp [cr,h]
noncomputable def cU (rd:Rd) (root:aF):D bI × Int:=
 if ¬ (aL rd root).2.2.2.2=0 then (bA bI,(aL rd root).2.2.2.2)
 else ((root,cr rd (aL rd root).1 (aL rd root).2.2.1 (aL rd root).1.length,(aL rd root).2.2.2.1,()),0)
theorem xZ {rd:Rd} {root:aF} (h:¬ (aL rd root).2.2.2.2=0):cU rd root=(bA bI,(aL rd root).2.2.2.2):=by unfold cU;rw [if_pos h]
theorem qm {rd:Rd} {root:aF} (h:(aL rd root).2.2.2.2=0):cU rd root=((root,cr rd (aL rd root).1 (aL rd root).2.2.1 (aL rd root).1.length,(aL rd root).2.2.2.1,()),0):=by
 unfold cU;rw [if_neg (not_not_intro h)]
theorem Cj {rd:Rd} (ok:dQ rd) (root:aF):(∃f,0 < f/\aL rd root=([],[],[],[],f)/\cU rd root=(bA bI,f))\/
  (∃ns os bs ps,aL rd root=(ns,os,bs,ps,0)/\xX rd root ns os bs ps/\cU rd root=((root,cr rd ns bs ns.length,ps,()),0)):=by
 rcases lF ok root with ⟨f,hf,e⟩ | ⟨ns,os,bs,ps,e,h⟩
 ·exact .inl ⟨f,hf,e,by rw [xZ (by rw [e];simp only;omega),e]⟩
 ·exact .inr ⟨ns,os,bs,ps,e,h,by rw [qm (by rw [e]),e]⟩
theorem x3 {t:Ty} {a b:List (D t)} (hl:a.length=b.length) (h:∀i,i < a.length->nth t a i=nth t b i):a=b:=my (t:=t) hl h
def Gh (e:D bI):Prop:=e.2.1.length < 1\/e.2.1.length > 6\/e.2.2.1.length > 36
instance (e:D bI):Decidable (Gh e):=by unfold Gh;infer_instance
end Go.Mrl

namespace Go.Mrl
open Go.Vg
end Go.Mrl

namespace Go.Mrl
open Go.Vg
end Go.Mrl

namespace Go.Mrl
open Go.Vg
theorem DV {rd:Rd} {root:aF} {ns:List aF} {os:List (D aA)} {bs:List Int} {ps:List Pt} {w:Ws} (h:aS rd root=(ns,os,0)) (hb:bO (bJ os,[])=(bs, .nil)) (ha:dk (os,bs)=(ps, .nil))
  (hn:ns.length=os.length) (hl:bs.length=os.length) (hp:∀i,i < ps.length->nf (bP os) (nth aQ ps i)) (hw:gO (bP os) ps=w):fj rd root=(ey ns bs w os.length,0):=by
 have e:aL rd root=(ns,os,bs,ps,0):=by
  unfold aL
  rw [h]
  simp only [hb,ha,aW.isNil]
  rfl
 unfold fj
 rw [e,if_neg (by simp)]
 have hq:dE (bP os,ps)=(w, .nil):=by rw [tS hp,hw]
 simp only
 rw [AS hn hl (by rw [hq];rfl),hq]
 rfl
def rL:aF:=[110,101,101,100,32,98,10,119,111,114,100,32,48,10,119,104,111,108,101,32,48,32,48,32,120,10]
def tY:aF:=[119,111,114,100,32,55,10,115,121,109,98,111,108,32,120,32,48,10]
abbrev gI:D aA:=([[98]],[0],[],[(0,2,0,[120],false,())],())
abbrev jS:D aA:=([],[7],[([120],0,false,())],[],())
theorem Gi:b6 rL=(gI,0):=by
 have i0:Lib.itoa 0 = [48]:=by rw [rC (by decide) (by decide)];rfl
 refine ql (by decide) (by decide) ?_
 simp only [c6,dF,gq,gp,iI,od,ma,mC,cZ,List.length_singleton,List.length_nil,List.take_succ_cons,List.take_zero,List.flatMap_cons,List.flatMap_nil,i0]
 decide
theorem Gj:b6 tY=(jS,0):=by
 have i7:Lib.itoa 7 = [55]:=by rw [rC (by decide) (by decide)];rfl
 have i0:Lib.itoa 0 = [48]:=by rw [rC (by decide) (by decide)];rfl
 refine ql (by decide) (by decide) ?_
 simp only [c6,dF,gq,gp,iI,ma,rD,cZ,List.length_singleton,List.length_nil,List.take_succ_cons,List.take_zero,List.flatMap_cons,List.flatMap_nil,i7,i0]
 decide
def Ij:du:=(bU kO [97] rL).1
def tl:du:=(bU Ij [98] tY).1
theorem HH:ba tl [97]=(rL,1,0):=by decide
theorem HI:ba tl [98]=(tY,2,0):=by decide
theorem H0:aS (ba tl) [97]=([[97],[98]],[gI,jS],0):=by
 have fa:bV (ba tl) [97]=0:=by unfold bV;rw [HH];show (if (0:Int)=0 then (b6 rL).2 else 0)=0;rw [Gi];rfl
 have fb:bV (ba tl) [98]=0:=by unfold bV;rw [HI];show (if (0:Int)=0 then (b6 tY).2 else 0)=0;rw [Gj];rfl
 have oa:dx (ba tl) [97]=gI:=by unfold dx;rw [HH];show (b6 rL).1=gI;rw [Gi]
 have ob:dx (ba tl) [98]=jS:=by unfold dx;rw [HI];show (b6 tY).1=jS;rw [Gj]
 have n0:nth .str [[97]] 0 = [97]:=rfl
 have n1:nth .str [[97],[98]] 1 = [98]:=rfl
 have a0:cw [[97]] gI.1 = [[97],[98]]:=by decide
 have a1:cw [[97],[98]] jS.1 = [[97],[98]]:=by decide
 unfold aS
 rw [dq,if_pos (by decide),n0,if_pos fa,oa,a0,dq,if_pos (by decide),n1,if_pos fb,ob,a1,dq,if_neg (by decide)]
 rfl
theorem GR:bK ([gI,jS],[120])=(1,0):=by
 refine lr (i:=1) (k:=0) ⟨⟨by decide,by decide,rfl,rfl⟩,?_⟩
 rintro i k (h | ⟨_,h⟩) ⟨_,h1,_,h2⟩
 ·obtain rfl:i=0:=by omega
  exact absurd (show k < 0 from h1) (Nat.not_lt_zero _)
 ·omega
theorem GS:fj (ba tl) [97]=([([97],0,[16],()),([98],16,[7],())],0):=by
 refine DV H0 (bs:=[0,16]) (ps:=[(0,0,16,())]) (w:=[[16],[7]]) rfl ?_ rfl rfl ?_ rfl
 ·rw [tT rfl (by
   intro i hi
   have:i=0\/i=1:=by simp at hi;omega
   rcases this with rfl | rfl <;> simp [nth])]
  have h1:da [gI,jS] [0,16] 0 (0,2,0,[120],false,())=(16, .nil):=by
   have ht:cb [gI,jS] [0,16] (0,2,0,[120],false,())=(16, .nil):=by
    unfold cb
    show (if 0<=(bK ([gI,jS],[120])).1 then (jj [0,16] (bK ([gI,jS],[120])).1.toNat + (nth aG (nth aA [gI,jS] (bK ([gI,jS],[120])).1.toNat).2.2.1 (bK ([gI,jS],[120])).2.toNat).2.1,aW.nil) else _)=_
    rw [GR];rfl
   rw [ng (by decide) (by rw [ht];rfl),ht]
   exact tU (by decide) rfl (by decide)
  simp [gL,hE,il,h1,aW.isNil]
 ·intro i hi
  obtain rfl:i=0:=by simp at hi;omega
  unfold nf;decide
def DW:du:=((0 + 1 + 1,()),(cm bZ (cm bZ [] [97] (rL,0 + 1,()) 0) [98] (tY,0 + 1 + 1,()) (fB bZ [] [97] 0),fB bZ (cm bZ [] [97] (rL,0 + 1,()) 0) [98] (fB bZ [] [97] 0),()),())
theorem H2:tl=DW:=rfl
theorem rM:fj (ba DW) [97]=([([97],0,[16],()),([98],16,[7],())],0):=by rw [<-H2];exact GS
end Go.Mrl

namespace Go.Mrl
open Go.Vg
theorem x4 {rd rd':Rd} {root:aF} (h:aS rd' root=aS rd root):aL rd' root=aL rd root:=by unfold aL;rw [h]
theorem bk.ok {x:du} (h:bk x):dQ (ba x):=dR h.pre.1
end Go.Mrl

namespace Go.Mrl
open Go.Vg
theorem vk {rd:Rd} (ok:dQ rd) {s:aF} (h:(aL rd s).2.2.2.2=0):xX rd s (aL rd s).1 (aL rd s).2.1 (aL rd s).2.2.1 (aL rd s).2.2.2.1:=by
 rcases lF ok s with ⟨f,hf,e⟩ | ⟨ns,os,bs,ps,e,hr⟩
 ·rw [e] at h;exact absurd (show f=0 from h) (by omega)
 ·rw [e];exact hr
theorem DX {rd:Rd} (ok:dQ rd) {s:aF} (h:(aL rd s).2.2.2.2=0) {i:Nat} (hi:i < (aL rd s).1.length):(rd (nth .str (aL rd s).1 i)).2.2=0:=
 (jt ok ((vk ok h).sc.xU i hi).1).1
theorem vm {rd:Rd} (ok:dQ rd) {s:aF} (h:(aL rd s).2.2.2.2=0):(aL rd s).2.2.1.length=(aL rd s).1.length/\(aL rd s).1.length<=6:=by
 have hr:=vk ok h
 exact ⟨by rw [hr.bl,hr.sc.len],hr.sc.le⟩
end Go.Mrl

namespace Go.Vg
open Go
theorem zN {H:Type} {enc:TypeId × Value->H} {a:Assume} {C:Checked} {os:Os} {f:FuncId} {fn:Func} {s:ChangeSpec} {conds:List PathCond} {apart fresh handsOn again:Bool} {X:World->Array Value->Prop}
  (hX:∀(w w':World) (args:Array Value),w.heap=w'.heap->X w args->X w' args)
  (own:ownKnob C.prog.godebug=none) (started:os.Started) (noInit:C.prog.inits.idxOf? f=none) (hfn:C.prog.funcs[f]?=some fn)
  (witness:∃(w:World) (tape:Tape) (i:Input),w.os=os/\(w.forCall tape i).Shaped C.prog/\i.vars = []/\Input.okWide C.prog (w.forCall tape i) .any w.heap.size f i/\
   ((s.pre enc C.prog fn conds apart (w.forCall tape i).memory i.args/\X (w.forCall tape i).memory i.args)/\sizedMet enc C.prog fn (OpenSpec.ofChange s) apart (w.forCall tape i).memory i.args)/\a.holds C.prog (lone (Frame.enter C.prog f i.args .normal) [] (w.forCall tape i)))
  (contract:∀(W:World) (base:Nat) (args:Array Value) (ds gs:List (DataW H)) (before:List MemPlace),
   (∀(j:Nat) t v,fn.params[j]?=some t->args[j]?=some v->Value.okWide C.prog W .any base t v)->
   DataW.Whole enc C.prog fn.params.toList s.vars apart W args.toList ds gs before->
   X W args->W.ShapedOpen C.prog->
   Calls C.prog f args W fun e W'=>∃v,e = .returned v/\s.post enc C.prog fn apart fresh handsOn again W args v W') :
  ReturnsInHanded a C os f .any (fun w args=>(s.pre enc C.prog fn conds apart w args/\X w args)/\sizedMet enc C.prog fn (OpenSpec.ofChange s) apart w args) (s.post enc C.prog fn apart fresh handsOn again):=by
 refine returnsInHanded_of_calls own started noInit witness ?_
 intro w tape i _ hsh _ hok hpre hholds
 obtain ⟨_,_,_,fn',hfn',_,_,_,_,hval⟩:=hok
 have e:fn'=fn:=Option.some.inj (hfn'.symm.trans hfn)
 subst e
 obtain ⟨⟨⟨ds,gs,before,hw,hc⟩,hx⟩,hz⟩:=hpre
 have hw':=DataW.Whole.of_heap (w':=w.forCall tape i) (by rfl) hw
 refine (contract (w.forCall tape i) w.heap.size i.args ds gs before hval hw' (hX _ _ _ (by rfl) hx) hsh).mono fun e W' ⟨v,he,hp⟩ => ?_
 subst he
 exact ChangeSpec.post_blind hp
theorem x5 {P:Program} {w:World} {g:Nat} {t:TypeId} {zero:Array Value} (h:w.ShapedOpen P) (hg:g < P.globals.size)
  (h0:((begin P (fun _ _=>0) default).world.heap[g]?).bind Obj.row?=some (zero,t)) (hz:zero.size=1)
  (hb:P.buildable t=true) (hc:P.cellTypes P.depth t=some [t]) (hu:P.underlying t=some (.int .i64)):∃m,w.cell? ⟨g,0,none⟩=some (.int .i64 m):=by
 obtain ⟨cs,hh,hs,hr⟩:=h.1 g zero t hg h0
 obtain ⟨ts,hts,_,hall⟩:=hr hb
 rw [hc] at hts
 cases hts
 have h1:0 < cs.size:=by omega
 obtain ⟨u,hu',hok⟩:=hall 0 cs[0] (by simp [h1])
 have:u=t:=by simpa using hu'.symm
 subst this
 have hcell:w.cell? ⟨g,0,none⟩=some cs[0]:=by simp [World.cell?,hh,h1]
 rw [hcell]
 unfold Cell.ok at hok
 rw [hu] at hok
 cases hv:cs[0] <;> rw [hv] at hok <;> first | exact hok.elim | (obtain ⟨rfl,_⟩:=hok;exact ⟨_,rfl⟩) | simp at hok
def Gk:Option TypeDesc->Bool
 | some (.interface _)=>true
 | _=>false
theorem np {P:Program} {W:World} {name nm:String} {d:DataW Unit} {g:Nat} {t:TypeId}
  (hg:P.globalNamed name=some g) (hty:(P.globals[g]?).map (·.type)=some t) (hi:Gk (P.underlying t)=true)
  (h:Lib.VarReads P W name (.iface nm d)):∃ev,W.cell? ⟨g,0,none⟩=some ev/\(ev = .nilIface\/∃te pe,ev = .iface te pe):=by
 obtain ⟨g',t',cs,fuel,p,hg',ht',hvar,hd⟩:=h
 obtain rfl:=Option.some.inj (hg.symm.trans hg')
 obtain rfl:=Option.some.inj (hty.symm.trans ht')
 have hc:=World.var?_cell hg hvar 0
 obtain ⟨ms,hu⟩:∃ms,P.underlying t=some (.interface ms):=by
  unfold Gk at hi
  split at hi
  ·rename_i ms hm;exact ⟨ms,hm⟩
  ·cases hi
 cases fuel with
 | zero=>simp [DataW.trod] at hd
 | succ n=>
  cases hl:cs.toList with
  | nil=>rw [hl] at hd;simp [DataW.trod,hu] at hd
  | cons v r=>
   have h0:cs[0]?=some v:=by rw [<-Array.getElem?_toList,hl];rfl
   rw [h0] at hc
   refine ⟨v,hc,?_⟩
   rw [hl] at hd
   cases v <;> first | exact .inl rfl | exact .inr ⟨_,_,rfl⟩ | (simp [DataW.trod,hu] at hd)
theorem x6 {P:Program} {W:World} {name:String} {k:IntKind} {zs:List Int} {g:Nat} {t e:TypeId} {n:Nat}
  (hg:P.globalNamed name=some g) (hty:(P.globals[g]?).map (·.type)=some t) (ht:P.underlying t=some (.array n e)) (he:P.underlying e=some (.int k)) (hce:P.cellsOf e=1) (hct:P.cellsOf t=n)
  (h:Lib.VarReads P W name (Lib.tabData k zs)):Lib.TabIs P W name k zs:=by
 obtain ⟨g',t',cs,fuel,p,hg',ht',hvar,hd⟩:=h
 obtain rfl:=Option.some.inj (hg.symm.trans hg')
 obtain rfl:=Option.some.inj (hty.symm.trans ht')
 unfold Lib.TabIs
 rw [hvar,<-Lib.cells_of_tab ht he hce hct hd]
end Go.Vg

namespace Go.Mrl
open Go.Vg
theorem DY {rd:Rd} (ok:dQ rd) {root:aF} (h:(aY (cU rd root).2).isNil=true) :
  ∃ns os bs ps,aL rd root=(ns,os,bs,ps,0)/\xX rd root ns os bs ps/\cU rd root=((root,cr rd ns bs ns.length,ps,()),0):=by
 rcases Cj ok root with ⟨f,hf,_,e⟩ | h'
 ·rw [e] at h;exact absurd (bc.1 h) (by show ¬ f=0;omega)
 ·exact h'
theorem DZ {rd rd':Rd} {ns:List aF} {bs:List Int} (h:∀k∈ns,rd' k=rd k):cr rd' ns bs ns.length=cr rd ns bs ns.length:=by
 refine x3 (t:=bn) (by rw [hP,hP]) fun i hi => ?_
 rw [hP] at hi
 rw [mF hi,mF hi,h _ (eo (t:=.str) hi)]
theorem Ck {rd rd':Rd} {root:aF} {ns:List aF} {os:List (D aA)} {bs:List Int} {ps:List Pt} (e:aL rd root=(ns,os,bs,ps,0)) (hr:xX rd root ns os bs ps) (h:∀k∈ns,rd' k=rd k):cU rd' root=cU rd root:=by
 have hs:aS rd' root=aS rd root:=zL (by rw [hr.e]) (by rw [hr.e];exact h)
 have e':aL rd' root=(ns,os,bs,ps,0):=by rw [x4 hs,e]
 rw [qm (by rw [e']),qm (by rw [e]),e',e]
 simp only
 rw [DZ h]
theorem zO {rd:Rd} {ns:List aF} {bs:List Int} {s:aF} (h:∀j,j < (cr rd ns bs ns.length).length->¬ (nth bn (cr rd ns bs ns.length) j).1=s):∀k∈ns,¬ k=s:=by
 intro k hk e
 obtain ⟨j,hj,e'⟩:=nc (t:=.str) hk
 have:=h j (by rw [hP];exact hj)
 rw [mF hj] at this
 exact this (e'.trans e)
theorem tm {x:du} (ok:dQ (ba x)) {root s t:aF} (h:(aY (cU (ba x) root).2).isNil=true)
  (hs:∀j,j < (cU (ba x) root).1.2.1.length->¬ (nth bn (cU (ba x) root).1.2.1 j).1=s):cU (ba (bU x s t).1) root=cU (ba x) root:=by
 obtain ⟨ns,os,bs,ps,e,hr,em⟩:=DY ok h
 rw [em] at hs
 exact Ck e hr fun k hk=>BS (zO hs k hk)
end Go.Mrl

