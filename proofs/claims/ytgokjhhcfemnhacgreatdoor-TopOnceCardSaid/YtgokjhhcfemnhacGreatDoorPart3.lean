/- A part of the proof that the law TopOnceCard holds of the given program: facts that are used there. -/
import Derived.Test.YtgokjhhcfemnhacGreatDoorPart2
import Derived.Lib.SplitLaws
import Derived.Lib.ItoaNum
import Derived.Lib.AtoiAll
import Derived.Handed
import Derived.Clock
import Derived.Lib.LaidTab
import Derived.Lib.LaidU8
import Derived.Lay
set_option linter.unusedSimpArgs false
set_option linter.unusedVariables false
namespace Go.Mrl
open Go.Vg
def _root_.Go.Vg.F6:List UInt8->UInt8
 | c :: _=>c
 | []=>0
def qp (c:UInt8):List aF->aF
 | []=>[]
 | [x]=>x
 | x :: y :: r=>x++c :: qp c (y :: r)
def parts (c:UInt8):aF->List aF
 | []=>[[]]
 | b :: r=>if b=c then [] :: parts c r else match parts c r with
  | h :: t=>(b :: h) :: t
  | []=>[[b]]
theorem rL (c:UInt8):∀s:aF,parts c s≠[]
 | []=>by simp [parts]
 | b :: r=>by
  unfold parts
  split
  ·simp
  ·split <;> simp
theorem fM {c b:UInt8} {r:aF} (h:b≠c):∃x t,parts c r=x :: t/\parts c (b :: r)=(b :: x) :: t:=by
 cases hp:parts c r with
 | nil=>exact absurd hp (rL c r)
 | cons x t=>
  refine ⟨x,t,rfl,?_⟩
  conv=>lhs;unfold parts
  rw [if_neg h,hp]
theorem ir {c:UInt8} {r:aF}:parts c (c :: r) = [] :: parts c r:=by
 conv=>lhs;unfold parts
 rw [if_pos rfl]
theorem ft {c:UInt8}:∀{x:aF},c∉x->parts c x = [x]
 | [],_=>rfl
 | b :: r,h=>by
  obtain ⟨x,t,h1,h2⟩:=fM (c:=c) (b:=b) (r:=r) (fun e=>h (by simp [e]))
  rw [ft (x:=r) (fun e=>h (by simp [e]))] at h1
  cases h1
  exact h2
theorem cR {c:UInt8}:∀{x:aF} {s:aF},c∉x->parts c (x++c :: s)=x :: parts c s
 | [],s,_=>ir
 | b :: r,s,h=>by
  obtain ⟨x,t,h1,h2⟩:=fM (c:=c) (b:=b) (r:=r++c :: s) (fun e=>h (by simp [e]))
  rw [cR (x:=r) (fun e=>h (by simp [e]))] at h1
  cases h1
  exact h2
theorem qS {c:UInt8}:∀{L:List aF},L≠[]->(∀y∈L,c∉y)->parts c (qp c L)=L
 | [],h,_=>absurd rfl h
 | [x],_,h=>ft (h x (by simp))
 | x :: y :: r,_,h=>by
  show parts c (x++c :: qp c (y :: r))=_
  rw [cR (h x (by simp)),qS (by simp) fun z hz=>h z (List.mem_cons_of_mem _ hz)]
theorem pP (c:UInt8):∀(s:aF),(parts c s).length<=s.length + 1
 | []=>by simp [parts]
 | b :: r=>by
  by_cases h:b=c
  ·subst h;rw [ir];have:=pP b r;simp;omega
  ·obtain ⟨x,t,h1,h2⟩:=fM (c:=c) (b:=b) (r:=r) h
   have:=pP c r
   rw [h1] at this
   rw [h2];simp at this ⊢;omega
theorem jI (c:UInt8):∀(s:aF),∀y∈parts c s,y.length<=s.length
 | [],y,h=>by simp [parts] at h;simp [h]
 | b :: r,y,h=>by
  by_cases hb:b=c
  ·subst hb;rw [ir] at h
   rcases List.mem_cons.1 h with rfl | h
   ·simp
   ·have:=jI b r y h;simp;omega
  ·obtain ⟨x,t,h1,h2⟩:=fM (c:=c) (b:=b) (r:=r) hb
   rw [h2] at h
   rcases List.mem_cons.1 h with rfl | h
   ·have:=jI c r x (by rw [h1];simp);simp;omega
   ·have:=jI c r y (by rw [h1];simp [h]);simp;omega
theorem xJ {b c:UInt8} {l:aF} (h:b≠c):Lib.index (b :: l) [c]=if Lib.index l [c] == -1 then -1 else Lib.index l [c] + 1:=by
 rw [Lib.index];simp [List.isPrefixOf,Ne.symm h]
theorem xK {c:UInt8} {l:aF}:Lib.index (c :: l) [c]=0:=by
 rw [Lib.index];simp [List.isPrefixOf]
theorem lD (c:UInt8):∀s:aF,Lib.splitK [c] 0 (s.count c) s=parts c s
 | []=>rfl
 | b :: l=>by
  by_cases h:b=c
  ·subst h
   rw [ir,List.count_cons_self,Lib.splitK,xK,if_neg (by decide),<-lD b l]
   simp
  ·obtain ⟨x,t,h1,h2⟩:=fM (c:=c) (b:=b) (r:=l) h
   rw [h2,List.count_cons_of_ne h]
   rw [<-lD c l] at h1
   cases hk:l.count c with
   | zero=>
    rw [hk] at h1
    simp only [Lib.splitK] at h1 ⊢
    cases h1
    rfl
   | succ k=>
    rw [hk] at h1
    have hi:Lib.index l [c]≠-1:=by
     intro e
     have:=Lib.count_miss (s:=l) (sub:=[c]) e
     rw [Lib.count_one] at this
     omega
    have hge:=Lib.index_ge l [c]
    rw [Lib.splitK,if_neg (by simpa using hi)] at h1
    obtain ⟨i,e⟩:∃i:Nat,Lib.index l [c]=i:=⟨(Lib.index l [c]).toNat,by omega⟩
    have e2:Lib.index (b :: l) [c]=((i + 1:Nat):Int):=by rw [xJ h,if_neg (by simpa using hi),e];rfl
    rw [Lib.splitK,e2,if_neg (by simp;omega)]
    rw [e] at h1
    simp only [Int.toNat_natCast,Nat.add_zero,List.length_singleton,List.take_succ_cons,List.drop_succ_cons,List.cons.injEq] at h1 ⊢
    exact ⟨⟨trivial,h1.1⟩,h1.2⟩
def kz (c:UInt8) (L:List aF):aF:=L.flatMap (· ++ [c])
theorem u3 (c:UInt8) (x:aF) (L:List aF):kz c (x :: L)=x++c :: kz c L:=by simp [kz]
theorem u4 {c:UInt8}:∀{L:List aF},L≠[]->kz c L=qp c L++[c]
 | [],h=>absurd rfl h
 | [x],_=>by simp [kz,qp]
 | x :: y :: r,_=>by
  rw [u3,u4 (L:=y :: r) (by simp)];simp [qp]
theorem uc (x:aF) (c:UInt8):Lib.trimSuffix (x++[c]) [c]=x:=by
 have h:Lib.hasSuffix (x++[c]) [c]=true:=by unfold Lib.hasSuffix;simp [List.isSuffixOf_iff_suffix]
 unfold Lib.trimSuffix
 rw [if_pos h];simp
theorem BI {c:UInt8} {L:List aF} (h:L≠[]) (hf:∀y∈L,c∉y):parts c (Lib.trimSuffix (kz c L) [c])=L:=by
 rw [u4 h,uc,qS h hf]
end Go.Mrl

namespace Go.Mrl
open Go.Vg
theorem pQ {k:Nat} (h:k < 10):(UInt8.ofNat (48 + k)).toNat=48 + k:=by
 rw [UInt8.toNat_ofNat'];omega
theorem jj:∀(u:Nat),∀c∈Lib.decDigits u,48<=c.toNat/\c.toNat<=57:=by
 intro u
 induction u using Nat.strongRecOn with
 | _ u ih=>
  intro c hc
  by_cases h:u < 10
  ·rw [Lib.decDigits,dif_pos h] at hc
   simp only [List.mem_singleton] at hc
   rw [hc,pQ h];omega
  ·rw [Lib.decDigits,dif_neg h] at hc
   rcases List.mem_append.1 hc with hc | hc
   ·exact ih _ (by omega) c hc
   ·simp only [List.mem_singleton] at hc
    rw [hc,pQ (Nat.mod_lt _ (by decide))];omega
theorem pR (u:Nat):Lib.decDigits u≠[]:=by
 rw [Lib.decDigits];split <;> simp
theorem kA:∀(k u:Nat),u < 10 ^ (k + 1)->(Lib.decDigits u).length<=k + 1
 | 0,u,h=>by rw [Lib.decDigits,dif_pos (by simpa using h)];simp
 | k + 1,u,h=>by
  rw [Lib.decDigits]
  split
  ·simp
  ·have:=kA k (u / 10) (by rw [Nat.pow_succ] at h;omega)
   simp;exact this
theorem u5:∀(l:aF) (c:UInt8) (a v:Nat),Lib.parseUint10 a l = .ok v->Lib.parseUint10 a (l++[c])=Lib.parseUint10 v [c]
 | [],c,a,v,h=>by simp [Lib.parseUint10] at h;rw [h];rfl
 | b :: l,c,a,v,h=>by
  rw [List.cons_append,Lib.parseUint10]
  rw [Lib.parseUint10] at h
  split at h
  ·rename_i hb
   rw [if_pos hb]
   split at h
   ·cases h
   ·rename_i h1
    rw [if_neg h1]
    split at h
    ·cases h
    ·rename_i h2
     rw [if_neg h2]
     exact u5 l c _ v h
  ·cases h
theorem xL {v d:Nat} (hd:d < 10) (h:10 * v + d < 18446744073709551616):Lib.parseUint10 v [UInt8.ofNat (48 + d)] = .ok (10 * v + d):=by
 unfold Lib.parseUint10
 rw [pQ hd,if_pos (by omega),if_neg (by omega),if_neg (by omega)]
 unfold Lib.parseUint10
 congr 1;omega
theorem E5:∀u:Nat,u < 18446744073709551616->Lib.parseUint10 0 (Lib.decDigits u) = .ok u:=by
 intro u
 induction u using Nat.strongRecOn with
 | _ u ih=>
  intro hu
  by_cases h:u < 10
  ·rw [Lib.decDigits,dif_pos h]
   have:=xL (v:=0) (d:=u) h (by omega)
   simpa using this
  ·rw [Lib.decDigits,dif_neg h,u5 _ _ _ _ (ih _ (by omega) (by omega)),xL (Nat.mod_lt _ (by decide)) (by omega)]
   congr 1;omega
theorem Ax {u:Nat} (hu:u < 18446744073709551616):Lib.parseMag (Lib.decDigits u) = .ok u:=by
 unfold Lib.parseMag
 rw [if_neg (pR u),E5 u hu]
theorem Dn {n:Int} (h0 : -9223372036854775808<=n) (h1:n<=9223372036854775807):Lib.atoiAll (Lib.itoa n) = .ok n:=by
 by_cases hn:n < 0
 ·have hm:=Ax (u:=n.natAbs) (by omega)
  simp only [Lib.itoa,if_pos hn,Lib.atoiAll]
  rw [if_pos (Or.inr (by decide)),hm]
  simp only
  rw [if_neg (by simp),if_neg (by simp;omega)]
  simp;omega
 ·have hm:=Ax (u:=n.toNat) (by omega)
  simp only [Lib.itoa,if_neg hn,Lib.atoiAll]
  cases hd:Lib.decDigits n.toNat with
  | nil=>exact absurd hd (pR _)
  | cons c r=>
   have hc:=jj n.toNat c (by rw [hd];simp)
   rw [hd] at hm
   simp only
   rw [if_neg (by omega),hm]
   simp only
   rw [if_neg (by omega),if_neg (by omega),if_neg (by omega)]
   congr 1;omega
def cb (s:List UInt8):Int × aV:=match Lib.atoiAll s with
 | .ok n=>(n, .nil)
 | Lib.NumEnd.syntax=>(0, .other)
 | .range=>(Lib.atoiSat s, .other)
def cD (s:aF):Option Int:=match Lib.atoiAll s with
 | .ok n=>if Lib.itoa n=s then some n else none
 | _=>none
theorem Dp {n:Int} (h0 : -9223372036854775808<=n) (h1:n<=9223372036854775807):cD (Lib.itoa n)=some n:=by
 unfold cD;rw [Dn h0 h1];simp
theorem u6 {s:aF}:(cD s).isNone=(!(cb s).2.isNil || !decide (Lib.itoa (cb s).1=s)):=by
 unfold cD cb
 cases Lib.atoiAll s with
 | ok v=>simp only [aV.isNil];by_cases h:Lib.itoa v=s <;> simp [h]
 | range=>rfl
 | _=>rfl
theorem u7 {n:Int} {c:UInt8} (h:c.toNat<=44):c∉Lib.itoa n:=by
 intro hc
 have h45:(45:UInt8).toNat=45:=rfl
 unfold Lib.itoa at hc
 split at hc
 ·rcases List.mem_cons.1 hc with rfl | hc
  ·omega
  ·have:=jj _ c hc;omega
 ·have:=jj _ c hc;omega
theorem rM {n:Int} (h:0<=n) (h':n < 10):Lib.itoa n = [UInt8.ofNat (48 + n).toNat]:=by
 unfold Lib.itoa;rw [if_neg (by omega),Lib.decDigits,dif_pos (by omega)];congr 2;omega
end Go.Mrl

namespace Go.Mrl
open Go.Vg
theorem ku {f:Int} (h0:0<=f) (h:(aZ f).isNil=false):f > 0:=by
 have:¬ f=0:=fun e=>by rw [bc.2 e] at h;cases h
 omega
theorem jJ {f:Int} (h:(aZ f).isNil=true):f<=0:=by
 have:=bc.1 h;omega
theorem u9 {t:Ty} {l:List (D t)} {i j:Nat} (h:j < i):nth t (List.drop 0 (List.take i l)) j=nth t l j:=by
 rw [List.drop_zero,xq h]
theorem vb {α:Type} {l:List α} {i:Nat} (h:i<=l.length):(List.drop 0 (List.take i l)).length=i:=by
 rw [List.drop_zero,List.length_take];omega
def c6 (b:Bool):List UInt8:=if b=true then [119,101,97,107,32] else []
def od (s:aF):aF:=[110,101,101,100,32]++s++[10]
def me (n:Int):aF:=[119,111,114,100,32]++Lib.itoa n++[10]
def rN (y:D aG):aF:=c6 y.2.2.1++[115,121,109,98,111,108,32]++y.1++[32]++Lib.itoa y.2.1++[10]
def mE (t:D aN):aF:=
 if t.2.1=1 then [98,97,115,101,32]++Lib.itoa t.1++[32]++Lib.itoa t.2.2.1++[10]
 else if t.2.1=2 then c6 t.2.2.2.2.1++[119,104,111,108,101,32]++Lib.itoa t.1++[32]++Lib.itoa t.2.2.1++[32]++t.2.2.2.1++[10]
 else c6 t.2.2.2.2.1++[110,101,97,114,32]++Lib.itoa t.1++[32]++Lib.itoa t.2.2.1++[32]++t.2.2.2.1++[10]
def iI (o:D aA) (i:Nat):aF:=(o.1.take i).flatMap od
def gr (o:D aA) (i:Nat):aF:=iI o o.1.length++(o.2.1.take i).flatMap me
def gu (o:D aA) (i:Nat):aF:=gr o o.2.1.length++(o.2.2.1.take i).flatMap rN
def dD (o:D aA) (i:Nat):aF:=gu o o.2.2.1.length++(o.2.2.2.1.take i).flatMap mE
def c7 (o:D aA):aF:=dD o o.2.2.2.1.length
def ew (o:D aA):aF × aV:=if bE o≠0 then ([],aZ (bE o)) else if (c7 o).length > 1200 then ([], .no 2) else (c7 o, .nil)
theorem Dq {o:D aA} {i:Nat} (h:i < o.1.length):iI o (i + 1)=iI o i++od (nth .str o.1 i):=by
 unfold iI;rw [gq (t:=.str) h];simp
theorem Dr {o:D aA} {i:Nat} (h:i < o.2.1.length):gr o (i + 1)=gr o i++me (nth (.int .i64) o.2.1 i):=by
 unfold gr;rw [gq (t:=.int .i64) h];simp
theorem Ds {o:D aA} {i:Nat} (h:i < o.2.2.1.length):gu o (i + 1)=gu o i++rN (nth aG o.2.2.1 i):=by
 unfold gu;rw [gq (t:=aG) h];simp
theorem pS {o:D aA} {i:Nat} (h:i < o.2.2.2.1.length):dD o (i + 1)=dD o i++mE (nth aN o.2.2.2.1 i):=by
 unfold dD;rw [gq (t:=aN) h];simp
theorem Dt (o:D aA):gr o 0=iI o o.1.length:=by unfold gr;simp
theorem Du (o:D aA):gu o 0=gr o o.2.1.length:=by unfold gu;simp
theorem Dv (o:D aA):dD o 0=gu o o.2.2.1.length:=by unfold dD;simp
def Nm (s:aF):Prop:=s≠[]/\s.length<=8/\∀c∈s,c≠10/\c≠32
def jk (a b x:Int):Prop:=a<=x/\x<=b
structure tc (t:D aN):Prop where
 a:jk 0 39 t.1
 w:jk (-2147483648) 2147483647 t.2.2.1
 k:t.2.1=1\/t.2.1=2\/t.2.1=3
 base:t.2.1=1->t.2.2.2.1 = []/\t.2.2.2.2.1=false
 nm:t.2.1≠1->Nm t.2.2.2.1
structure eZ (o:D aA):Prop where
 n4:o.1.length<=4
 w1:1<=o.2.1.length
 Ht:o.2.1.length<=40
 s8:o.2.2.1.length<=8
 t6:o.2.2.2.1.length<=6
 wm:∀s∈o.1,Nm s
 words:∀n∈o.2.1,jk (-2147483648) 2147483647 n
 syms:∀y∈o.2.2.1,Nm y.1/\jk 0 39 y.2.1
 BJ:∀t∈o.2.2.2.1,tc t
end Go.Mrl

namespace Go.Mrl
open Go.Vg
theorem qT:∀(l p:List aF),dM p l=0->∀s∈l,aI s=0
 | [],_,_,s,h=>absurd h (by simp)
 | x :: r,p,h,s,hs=>by
  have hx:=dC x
  unfold dM at h
  split at h
  ·omega
  ·split at h
   ·cases h
   ·rcases List.mem_cons.1 hs with rfl | hs
    ·omega
    ·exact qT r _ h s hs
theorem qU:∀(l:List Int),eN l=0->∀n∈l,dP n=true
 | [],_,s,h=>absurd h (by simp)
 | x :: r,h,s,hs=>by
  unfold eN at h
  split at h
  ·rename_i hx
   rcases List.mem_cons.1 hs with rfl | hs
   ·exact hx
   ·exact qU r h s hs
  ·cases h
theorem tf (n:Nat):∀(l p:List (D aG)),cW n p l=0->∀y∈l,aI y.1=0/\jk 0 (n - 1) y.2.1
 | [],_,_,s,h=>absurd h (by simp)
 | x :: r,p,h,s,hs=>by
  have hx:=dC x.1
  unfold cW at h
  split at h
  ·omega
  ·split at h
   ·cases h
   ·rename_i h2
    split at h
    ·cases h
    ·rcases List.mem_cons.1 hs with rfl | hs
     ·exact ⟨by omega,Int.not_lt.1 fun e=>h2 (.inl e),Int.le_sub_one_of_lt (Int.not_le.1 fun e=>h2 (.inr e))⟩
     ·exact tf n r _ h s hs
theorem ve {n:Nat} {p:Option Int} {t:D aN} (h:gp n p t=0) :
  jk 0 (n - 1) t.1/\dP t.2.2.1=true/\jk 1 3 t.2.1/\(t.2.1=1->t.2.2.2.1 = []/\t.2.2.2.2.1=false)/\(t.2.1≠1->aI t.2.2.2.1=0):=by
 unfold gp at h
 split at h
 ·cases h
 ·rename_i h1
  split at h
  ·cases h
  ·rename_i h2
   refine ⟨⟨Int.not_lt.1 fun e=>h1 (.inl e),Int.le_sub_one_of_lt (Int.not_le.1 fun e=>h1 (.inr (.inl e)))⟩,?_,⟨Int.not_lt.1 fun e=>h2 (.inl e),Int.not_lt.1 fun e=>h2 (.inr (.inl e))⟩,?_,?_⟩
   ·cases hw:dP t.2.2.1 with
    | true=>rfl
    | false=>exact absurd (.inr (.inr hw)) h1
   ·intro e
    rw [if_pos e] at h
    split at h
    ·cases h
    ·rename_i h3
     refine ⟨Classical.byContradiction fun e=>h3 (.inl e),?_⟩
     cases hb:t.2.2.2.2.1 with
     | false=>rfl
     | true=>exact absurd (.inr hb) h3
   ·intro e
    rw [if_neg e] at h
    exact h
theorem oe (n:Nat):∀(l:List (D aN)) (p:Option Int),eO n p l=0->∀t∈l,∃p,gp n p t=0
 | [],_,_,s,h=>absurd h (by simp)
 | x :: r,p,h,s,hs=>by
  unfold eO at h
  split at h
  ·rename_i h0;exact absurd h h0
  ·rename_i h0
   rcases List.mem_cons.1 hs with rfl | hs
   ·exact ⟨p,Classical.byContradiction h0⟩
   ·exact oe n r _ h s hs
theorem BK {s:aF} (h:aI s=0):Nm s:=by
 unfold aI at h
 split at h
 ·cases h
 ·rename_i hl
  split at h
  ·cases h
  ·rename_i hb
   refine ⟨by rintro rfl;simp at hl,by omega,fun c hc => ?_⟩
   obtain ⟨i,hi,rfl⟩:=List.getElem_of_mem hc
   have hn:dx i (dY s i)=false:=by
    unfold mZ at hb
    rw [Bool.not_eq_true,List.any_eq_false] at hb
    have:=hb i (by simpa using hi)
    simpa using this
   have he:dY s i=s[i]:=by unfold dY;simp [hi]
   rw [he] at hn
   constructor
   ·intro e;rw [e] at hn;unfold dx small other at hn;simp at hn
   ·intro e;rw [e] at hn;unfold dx small other at hn;simp at hn
theorem three {x:Int} (h:1<=x) (h':x<=3):x=1\/x=2\/x=3:=by omega
theorem hM {o:D aA} (h:bE o=0):eZ o:=by
 unfold bE at h
 split at h
 ·cases h
 ·rename_i hm
  split at h
  ·rename_i h1;exact absurd h h1
  ·rename_i h1
   split at h
   ·rename_i h2;exact absurd h h2
   ·rename_i h2
    split at h
    ·rename_i h3;exact absurd h h3
    ·rename_i h3
     have h1:=Classical.byContradiction h1
     have h2:=Classical.byContradiction h2
     have h3:=Classical.byContradiction h3
     unfold fG at hm
     have hw:o.2.1.length<=40:=Nat.not_lt.1 fun e=>hm (.inr (.inr (.inl e)))
     refine ⟨Nat.not_lt.1 fun e=>hm (.inl e),Nat.not_lt.1 fun e=>hm (.inr (.inl e)),hw,Nat.not_lt.1 fun e=>hm (.inr (.inr (.inr (.inl e)))),Nat.not_lt.1 fun e=>hm (.inr (.inr (.inr (.inr e)))),
      fun s hs=>BK (qT _ _ h1 s hs),fun n hn => ?_,fun y hy => ?_,fun t ht => ?_⟩
     ·have:=qU _ h2 n hn
      unfold dP at this
      simp only [Bool.and_eq_true,decide_eq_true_eq] at this
      exact this
     ·obtain ⟨a,b,c⟩:=tf _ _ _ h3 y hy
      exact ⟨BK a,b,Int.le_trans c (by omega)⟩
     ·obtain ⟨p,hp⟩:=oe _ _ _ h t ht
      obtain ⟨⟨a,b⟩,c,⟨d,e⟩,f,g⟩:=ve hp
      unfold dP at c
      simp only [Bool.and_eq_true,decide_eq_true_eq] at c
      exact ⟨⟨a,Int.le_trans b (by omega)⟩,c,three d e,f,fun e=>BK (g e)⟩
theorem eQ {a b n:Int} (h:jk a b n) (ha : -999999999999999999<=a) (hb:b<=999999999999999999):(Lib.itoa n).length<=19:=by
 obtain ⟨h0,h1⟩:=h
 unfold Lib.itoa
 split
 ·rw [List.length_cons]
  have:=kA 17 n.natAbs (by omega)
  omega
 ·have:=kA 17 n.toNat (by omega)
  omega
theorem mf (b:Bool):(c6 b).length<=5:=by cases b <;> decide
theorem Dw {s:aF} (h:Nm s):(od s).length<=64:=by have:=h.2.1;simp [od];omega
theorem Dx {n:Int} (h:jk (-2147483648) 2147483647 n):(me n).length<=64:=by have:=eQ h (by decide) (by decide);simp [me];omega
theorem E6 {y:D aG} (h:Nm y.1/\jk 0 39 y.2.1):(rN y).length<=64:=by
 have h1:=eQ h.2 (by decide) (by decide)
 have h2:=mf y.2.2.1
 have h3:=h.1.2.1
 simp [rN];omega
theorem E7 {t:D aN} (h:tc t):(mE t).length<=64:=by
 have h1:=eQ h.a (by decide) (by decide)
 have h4:=eQ h.w (by decide) (by decide)
 have h2:=mf t.2.2.2.2.1
 unfold mE
 split
 ·simp;omega
 ·rename_i hk
  have h3:=(h.nm hk).2.1
  split
  ·simp;omega
  ·simp;omega
theorem lE {α:Type} {f:α->aF}:∀{l:List α},(∀x∈l,(f x).length<=64)->(l.flatMap f).length<=64 * l.length
 | [],_=>by simp
 | x :: r,h=>by
  have h1:=h x (by simp)
  have h2:=lE (f:=f) (l:=r) fun y hy=>h y (List.mem_cons_of_mem _ hy)
  rw [List.flatMap_cons,List.length_append,List.length_cons];omega
theorem eZ.Hu {o:D aA} (h:eZ o) (i:Nat):(iI o i).length<=1000:=by
 have:=lE (f:=od) (l:=o.1.take i) fun s hs=>Dw (h.wm s (List.mem_of_mem_take hs))
 have h2:=h.n4
 unfold iI;simp only [List.length_take] at this;omega
theorem eZ.Hv {o:D aA} (h:eZ o) (i:Nat):(gr o i).length<=4000:=by
 have h0:=h.Hu o.1.length
 have:=lE (f:=me) (l:=o.2.1.take i) fun s hs=>Dx (h.words s (List.mem_of_mem_take hs))
 have h2:=h.Ht
 unfold gr;rw [List.length_append];simp only [List.length_take] at this;omega
theorem eZ.Hw {o:D aA} (h:eZ o) (i:Nat):(gu o i).length<=5000:=by
 have h0:=h.Hv o.2.1.length
 have:=lE (f:=rN) (l:=o.2.2.1.take i) fun s hs=>E6 (h.syms s (List.mem_of_mem_take hs))
 have h2:=h.s8
 unfold gu;rw [List.length_append];simp only [List.length_take] at this;omega
theorem eZ.H4 {o:D aA} (h:eZ o) (i:Nat):(dD o i).length<=6000:=by
 have h0:=h.Hw o.2.2.1.length
 have:=lE (f:=mE) (l:=o.2.2.2.1.take i) fun s hs=>E7 (h.BJ s (List.mem_of_mem_take hs))
 have h2:=h.t6
 unfold dD;rw [List.length_append];simp only [List.length_take] at this;omega
theorem eZ.pT {o:D aA} (h:eZ o) {i:Nat} (hi:i < o.1.length):Nm (nth .str o.1 i):=h.wm _ (eD (t:=.str) hi)
theorem eZ.word {o:D aA} (h:eZ o) {i:Nat} (hi:i < o.2.1.length):jk (-2147483648) 2147483647 (nth (.int .i64) o.2.1 i):=h.words _ (eD (t:=.int .i64) hi)
theorem eZ.sym {o:D aA} (h:eZ o) {i:Nat} (hi:i < o.2.2.1.length):Nm (nth aG o.2.2.1 i).1/\jk 0 39 (nth aG o.2.2.1 i).2.1:=h.syms _ (eD (t:=aG) hi)
theorem eZ.tie {o:D aA} (h:eZ o) {i:Nat} (hi:i < o.2.2.2.1.length):tc (nth aN o.2.2.2.1 i):=h.BJ _ (eD (t:=aN) hi)
theorem zB (a b:aF):bG a++bG b=bG (a++b):=by simp [bG]
theorem vf {o:D aA} (h:eZ o) {i:Nat} (hi:i < o.1.length):(nth .str o.1 i).length<=8/\(iI o i).length<=1000:=⟨(h.pT hi).2.1,h.Hu i⟩
theorem vg {o:D aA} (h:eZ o) {i:Nat} (hi:i < o.2.1.length):(Lib.itoa (nth (.int .i64) o.2.1 i)).length<=19/\(gr o i).length<=4000:=
 ⟨eQ (h.word hi) (by decide) (by decide),h.Hv i⟩
theorem xM {o:D aA} (h:eZ o) {i:Nat} (hi:i < o.2.2.1.length) :
  (nth aG o.2.2.1 i).1.length<=8/\(Lib.itoa (nth aG o.2.2.1 i).2.1).length<=19/\(c6 (nth aG o.2.2.1 i).2.2.1).length<=5/\(gu o i).length<=5000:=
 ⟨(h.sym hi).1.2.1,eQ (h.sym hi).2 (by decide) (by decide),mf _,h.Hw i⟩
theorem xN {o:D aA} (h:eZ o) {i:Nat} (hi:i < o.2.2.2.1.length) :
  (nth aN o.2.2.2.1 i).2.2.2.1.length<=8/\(Lib.itoa (nth aN o.2.2.2.1 i).1).length<=19/\(Lib.itoa (nth aN o.2.2.2.1 i).2.2.1).length<=19/\(c6 (nth aN o.2.2.2.1 i).2.2.2.2.1).length<=5/\(dD o i).length<=6000:=by
 have ht:=h.tie hi
 refine ⟨?_,eQ ht.a (by decide) (by decide),eQ ht.w (by decide) (by decide),mf _,h.H4 i⟩
 by_cases hk:(nth aN o.2.2.2.1 i).2.1=1
 ·rw [(ht.base hk).1];decide
 ·exact (ht.nm hk).2.1
theorem jK {p p' q:aF} {a b:Int} (h:p'=p++q):(((bG p++bG q,a,b,()):D eR))=((bG p',a,b,()):D eR):=by rw [h,zB]
theorem rO {p p':aF} {a b:Int} (h:p=p'):((bG p,a,b,()):D eR)=((bG p',a,b,()):D eR):=by rw [h]
theorem BL {o:D aA} {i:Nat} (h:i < o.2.2.2.1.length) (hk:(nth aN o.2.2.2.1 i).2.1=1) :
  dD o (i + 1)=dD o i++([98,97,115,101,32]++Lib.itoa (nth aN o.2.2.2.1 i).1++[32]++Lib.itoa (nth aN o.2.2.2.1 i).2.2.1++[10]):=by
 rw [pS h];unfold mE;rw [if_pos hk]
theorem BM {o:D aA} {i:Nat} (h:i < o.2.2.2.1.length) (hk:¬ (nth aN o.2.2.2.1 i).2.1=1) (hk2:(nth aN o.2.2.2.1 i).2.1=2) :
  dD o (i + 1)=dD o i++(c6 (nth aN o.2.2.2.1 i).2.2.2.2.1++[119,104,111,108,101,32]++Lib.itoa (nth aN o.2.2.2.1 i).1++[32]++Lib.itoa (nth aN o.2.2.2.1 i).2.2.1++[32]++(nth aN o.2.2.2.1 i).2.2.2.1++[10]):=by
 rw [pS h];unfold mE;rw [if_neg hk,if_pos hk2]
theorem BN {o:D aA} {i:Nat} (h:i < o.2.2.2.1.length) (hk:¬ (nth aN o.2.2.2.1 i).2.1=1) (hk2:¬ (nth aN o.2.2.2.1 i).2.1=2) :
  dD o (i + 1)=dD o i++(c6 (nth aN o.2.2.2.1 i).2.2.2.2.1++[110,101,97,114,32]++Lib.itoa (nth aN o.2.2.2.1 i).1++[32]++Lib.itoa (nth aN o.2.2.2.1 i).2.2.1++[32]++(nth aN o.2.2.2.1 i).2.2.2.1++[10]):=by
 rw [pS h];unfold mE;rw [if_neg hk,if_neg hk2]
theorem vh {o:D aA} (h:bE o≠0):ew o=([],aZ (bE o)):=by unfold ew;rw [if_pos h]
theorem tg {o:D aA} (h:bE o=0) {i:Nat} (hi:i=o.2.2.2.1.length) (hl:(dD o i).length > 1200):ew o=([], .no 2):=by
 unfold ew;rw [if_neg (by rw [h];decide),if_pos (by unfold c7;rw [<-hi];exact hl)]
theorem og {o:D aA} (h:bE o=0) {i:Nat} (hi:i=o.2.2.2.1.length) (hl:(dD o i).length<=1200):ew o=(dD o i, .nil):=by
 unfold ew;rw [if_neg (by rw [h];decide),if_neg (by unfold c7;rw [<-hi];omega)];unfold c7;rw [<-hi]
end Go.Mrl

namespace Go.Mrl
open Go.Vg
@[reducible] def bQ:aF:=[119,101,97,107,32]
@[reducible] def ey:aF:=[110,101,101,100]
@[reducible] def ed:aF:=[119,111,114,100]
@[reducible] def dE:aF:=[115,121,109,98,111,108]
@[reducible] def fZ:aF:=[98,97,115,101]
@[reducible] def fl:aF:=[119,104,111,108,101]
@[reducible] def fe:aF:=[110,101,97,114]
def jL (o:D aA) (s:aF):D aA:=(o.1++[s],o.2)
def jM (o:D aA) (n:Int):D aA:=(o.1,o.2.1++[n],o.2.2)
def nk (o:D aA) (y:D aG):D aA:=(o.1,o.2.1,o.2.2.1++[y],o.2.2.2)
def jl (o:D aA) (t:D aN):D aA:=(o.1,o.2.1,o.2.2.1,o.2.2.2.1++[t],())
def rP (x y:aF) (k:Int->Int->D aA):Option (D aA):=
 match cD x,cD y with
 | some m,some n=>some (k m n)
 | _,_=>none
def gv (o:D aA) (b:Bool):List aF->Option (D aA)
 | [a,x]=>if a=ey then some (jL o x) else if a=ed then (cD x).map (jM o) else none
 | [a,x,y]=>if a=dE then (cD y).map fun n=>nk o (x,n,b,()) else if a=fZ then rP x y fun m n=>jl o (m,1,n,[],false,()) else none
 | [a,x,y,z]=>if a=fl\/a=fe then rP x y fun m n=>jl o (m,if a=fe then 3 else 2,n,z,b,()) else none
 | _=>none
def jm (o:D aA) (s:aF):Option (D aA):=gv o (Lib.hasPrefix s bQ) (parts 32 (Lib.trimPrefix s bQ))
def run (f:D aA->aF->Option (D aA)):D aA->List aF->Option (D aA)
 | o,[]=>some o
 | o,s :: r=>match f o s with
  | some p=>run f p r
  | none=>none
theorem xO {f:D aA->aF->Option (D aA)}:∀{l:List aF} {o:D aA} {s:aF},run f o (l++[s])=(run f o l).bind fun p=>f p s
 | [],o,s=>by simp only [List.nil_append,run,Option.bind_some];cases f o s <;> rfl
 | x :: r,o,s=>by
  simp only [List.cons_append,run]
  cases f o x with
  | none=>rfl
  | some p=>exact xO
theorem qq {f:D aA->aF->Option (D aA)}:∀{l m:List aF} {o p:D aA},run f o l=some p->run f o (l++m)=run f p m
 | [],m,o,p,h=>by simp only [run,Option.some.injEq] at h;rw [h];rfl
 | x :: r,m,o,p,h=>by
  simp only [run] at h
  simp only [List.cons_append,run]
  cases hx:f o x with
  | none=>rw [hx] at h;cases h
  | some q=>rw [hx] at h;exact qq h
def jn (s:aF):aF:=[110,101,101,100,32]++s
def jo (n:Int):aF:=[119,111,114,100,32]++Lib.itoa n
def rQ (y:D aG):aF:=c6 y.2.2.1++([115,121,109,98,111,108,32]++(y.1++32 :: Lib.itoa y.2.1))
def pU (t:D aN):aF:=
 if t.2.1=1 then [98,97,115,101,32]++(Lib.itoa t.1++32 :: Lib.itoa t.2.2.1)
 else if t.2.1=2 then c6 t.2.2.2.2.1++([119,104,111,108,101,32]++(Lib.itoa t.1++32 :: (Lib.itoa t.2.2.1++32 :: t.2.2.2.1)))
 else c6 t.2.2.2.2.1++([110,101,97,114,32]++(Lib.itoa t.1++32 :: (Lib.itoa t.2.2.1++32 :: t.2.2.2.1)))
def kv (o:D aA):List aF:=o.1.map jn++(o.2.1.map jo++(o.2.2.1.map rQ++o.2.2.2.1.map pU))
theorem lF {α:Type} {f g:α->aF} (h:∀x,f x=g x++[10]):∀l:List α,l.flatMap f=kz 10 (l.map g)
 | []=>rfl
 | x :: r=>by rw [List.flatMap_cons,lF h r,List.map_cons,u3,h];simp
theorem rR (c:UInt8) (l m:List aF):kz c (l++m)=kz c l++kz c m:=by simp [kz]
theorem zC (o:D aA):c7 o=kz 10 (kv o):=by
 unfold c7 dD gu gr iI kv
 rw [List.take_length,List.take_length,List.take_length,List.take_length,rR,rR,rR,
  lF (g:=jn) (fun s=>by simp [od,jn]) o.1,lF (g:=jo) (fun s=>by simp [me,jo]) o.2.1,
  lF (g:=rQ) (fun s=>by simp [rN,rQ]) o.2.2.1,
  lF (g:=pU) (fun s=>by unfold mE pU;split <;> (try split) <;> simp) o.2.2.2.1]
 simp
structure Reads (f:D aA->aF->Option (D aA)):Prop where
 pT:∀(o:D aA) (s:aF),Nm s->f o (jn s)=some (jL o s)
 word:∀(o:D aA) (n:Int),jk (-2147483648) 2147483647 n->f o (jo n)=some (jM o n)
 sym:∀(o:D aA) (y:D aG),Nm y.1->jk 0 39 y.2.1->f o (rQ y)=some (nk o y)
 tie:∀(o:D aA) (t:D aN),tc t->f o (pU t)=some (jl o t)
section
variable {f:D aA->aF->Option (D aA)} (h:Reads f)
include h
theorem vj:∀(l:List aF) (o:D aA),(∀s∈l,Nm s)->run f o (l.map jn)=some (o.1++l,o.2)
 | [],o,_=>by simp [run]
 | s :: r,o,hl=>by
  rw [List.map_cons,run,h.pT o s (hl s (by simp))]
  show run f (jL o s) (r.map jn)=_
  rw [vj r _ fun x hx=>hl x (List.mem_cons_of_mem _ hx)]
  simp [jL]
theorem vk:∀(l:List Int) (o:D aA),(∀n∈l,jk (-2147483648) 2147483647 n)->run f o (l.map jo)=some (o.1,o.2.1++l,o.2.2)
 | [],o,_=>by simp [run]
 | s :: r,o,hl=>by
  rw [List.map_cons,run,h.word o s (hl s (by simp))]
  show run f (jM o s) (r.map jo)=_
  rw [vk r _ fun x hx=>hl x (List.mem_cons_of_mem _ hx)]
  simp [jM]
theorem xP:∀(l:List (D aG)) (o:D aA),(∀y∈l,Nm y.1/\jk 0 39 y.2.1)->run f o (l.map rQ)=some (o.1,o.2.1,o.2.2.1++l,o.2.2.2)
 | [],o,_=>by simp [run]
 | s :: r,o,hl=>by
  rw [List.map_cons,run,h.sym o s (hl s (by simp)).1 (hl s (by simp)).2]
  show run f (nk o s) (r.map rQ)=_
  rw [xP r _ fun x hx=>hl x (List.mem_cons_of_mem _ hx)]
  simp [nk]
theorem xQ:∀(l:List (D aN)) (o:D aA),(∀t∈l,tc t)->run f o (l.map pU)=some (o.1,o.2.1,o.2.2.1,o.2.2.2.1++l,())
 | [],o,_=>by simp [run]
 | s :: r,o,hl=>by
  rw [List.map_cons,run,h.tie o s (hl s (by simp))]
  show run f (jl o s) (r.map pU)=_
  rw [xQ r _ fun x hx=>hl x (List.mem_cons_of_mem _ hx)]
  simp [jl]
theorem Dy {o:D aA} (ok:eZ o):run f (bJ aA) (kv o)=some o:=by
 unfold kv
 rw [qq (vj h o.1 _ ok.wm),qq (vk h o.2.1 _ ok.words),qq (xP h o.2.2.1 _ ok.syms),xQ h o.2.2.2.1 _ ok.BJ]
 rfl
end
theorem th {a:UInt8} {s:aF} (h:a≠119):Lib.hasPrefix (a :: s) bQ=false:=by
 unfold Lib.hasPrefix bQ;simp [List.isPrefixOf];intro e;exact absurd e.symm h
theorem GD {s:aF} (h:Lib.hasPrefix s bQ=false):Lib.trimPrefix s bQ=s:=by unfold Lib.trimPrefix;rw [if_neg (by rw [h];decide)]
theorem Ay (s:aF):Lib.hasPrefix (bQ++s) bQ=true:=by unfold Lib.hasPrefix bQ;simp [List.isPrefixOf]
theorem E8 (s:aF):Lib.trimPrefix (bQ++s) bQ=s:=by unfold Lib.trimPrefix;rw [if_pos (Ay s)];rfl
theorem Az {a b:UInt8} {s:aF} (h:b≠101):Lib.hasPrefix (a :: b :: s) bQ=false:=by
 unfold Lib.hasPrefix bQ;simp [List.isPrefixOf];intro _ e;exact absurd e.symm h
theorem gI (o:D aA) (b:Bool) (s:aF) (h:Lib.hasPrefix s bQ=false):jm o (c6 b++s)=gv o b (parts 32 s):=by
 unfold jm
 cases b with
 | false=>show gv o (Lib.hasPrefix s bQ) (parts 32 (Lib.trimPrefix s bQ))=_;rw [h,GD h]
 | true=>show gv o (Lib.hasPrefix (bQ++s) bQ) (parts 32 (Lib.trimPrefix (bQ++s) bQ))=_;rw [Ay,E8]
theorem jN {s:aF} (h:Nm s):(32:UInt8)∉s/\(10:UInt8)∉s:=⟨fun hc=>(h.2.2 _ hc).2 rfl,fun hc=>(h.2.2 _ hc).1 rfl⟩
theorem gw (n:Int):(32:UInt8)∉Lib.itoa n:=u7 (by decide)
theorem oh (n:Int):(10:UInt8)∉Lib.itoa n:=u7 (by decide)
theorem BO {s:aF} (h:Nm s):parts 32 (jn s) = [ey,s]:=by
 show parts 32 (ey++32 :: s)=_
 rw [cR (by decide),ft (jN h).1]
theorem BP (n:Int):parts 32 (jo n) = [ed,Lib.itoa n]:=by
 show parts 32 (ed++32 :: Lib.itoa n)=_
 rw [cR (by decide),ft (gw n)]
theorem Dz {s:aF} {n:Int} (h:Nm s):parts 32 ([115,121,109,98,111,108,32]++(s++32 :: Lib.itoa n)) = [dE,s,Lib.itoa n]:=by
 show parts 32 (dE++32 :: (s++32 :: Lib.itoa n))=_
 rw [cR (by decide),cR (jN h).1,ft (gw n)]
theorem BQ (m n:Int):parts 32 ([98,97,115,101,32]++(Lib.itoa m++32 :: Lib.itoa n)) = [fZ,Lib.itoa m,Lib.itoa n]:=by
 show parts 32 (fZ++32 :: (Lib.itoa m++32 :: Lib.itoa n))=_
 rw [cR (by decide),cR (gw m),ft (gw n)]
theorem zD {s:aF} (m n:Int) (h:Nm s):parts 32 ([119,104,111,108,101,32]++(Lib.itoa m++32 :: (Lib.itoa n++32 :: s))) = [fl,Lib.itoa m,Lib.itoa n,s]:=by
 show parts 32 (fl++32 :: (Lib.itoa m++32 :: (Lib.itoa n++32 :: s)))=_
 rw [cR (by decide),cR (gw m),cR (gw n),ft (jN h).1]
theorem BR {s:aF} (m n:Int) (h:Nm s):parts 32 ([110,101,97,114,32]++(Lib.itoa m++32 :: (Lib.itoa n++32 :: s))) = [fe,Lib.itoa m,Lib.itoa n,s]:=by
 show parts 32 (fe++32 :: (Lib.itoa m++32 :: (Lib.itoa n++32 :: s)))=_
 rw [cR (by decide),cR (gw m),cR (gw n),ft (jN h).1]
theorem qt {a b n:Int} (h:jk a b n) (ha : -9223372036854775808<=a) (hb:b<=9223372036854775807):cD (Lib.itoa n)=some n:=Dp (Int.le_trans ha h.1) (Int.le_trans h.2 hb)
theorem Hx:Reads jm where
 pT o s h:=by
  have:=gI o false (jn s) (th (by decide))
  rw [show c6 false++jn s=jn s from rfl,BO h] at this
  exact this
 word o n h:=by
  have:=gI o false (jo n) (Az (by decide))
  rw [show c6 false++jo n=jo n from rfl,BP] at this
  rw [this]
  show (if ed=ey then some (jL o (Lib.itoa n)) else if ed=ed then (cD (Lib.itoa n)).map (jM o) else none)=_
  rw [if_neg (by decide),if_pos rfl,qt h (by decide) (by decide)];rfl
 sym o y h h':=by
  have:=gI o y.2.2.1 ([115,121,109,98,111,108,32]++(y.1++32 :: Lib.itoa y.2.1)) (th (by decide))
  rw [Dz h] at this
  refine Eq.trans this ?_
  dsimp only [gv]
  rw [if_pos rfl,qt h' (by decide) (by decide)];rfl
 tie o t h:=by
  obtain ⟨at',k,ad,nm,b,_⟩:=t
  have ha:=qt h.a (by decide) (by decide)
  have hw:=qt h.w (by decide) (by decide)
  simp only at ha hw
  unfold pU
  rcases h.k with e | e | e
  ·have hb:=h.base e
   simp only at e hb
   obtain ⟨rfl,rfl⟩:=hb
   subst e
   rw [if_pos rfl]
   have:=gI o false ([98,97,115,101,32]++(Lib.itoa at'++32 :: Lib.itoa ad)) (th (by decide))
   rw [BQ] at this
   refine this.trans ?_
   dsimp only [gv]
   rw [if_neg (by decide),if_pos rfl];unfold rP;rw [ha,hw]
  ·have hn:=h.nm (by rw [show _=_ from e];decide)
   simp only at e hn
   subst e
   rw [if_neg (by simp),if_pos rfl]
   have:=gI o b ([119,104,111,108,101,32]++(Lib.itoa at'++32 :: (Lib.itoa ad++32 :: nm))) (Az (by decide))
   rw [zD _ _ hn] at this
   refine this.trans ?_
   dsimp only [gv]
   rw [if_pos (.inl rfl),if_neg (by decide)];unfold rP;rw [ha,hw]
  ·have hn:=h.nm (by rw [show _=_ from e];decide)
   simp only at e hn
   subst e
   rw [if_neg (by simp),if_neg (by simp)]
   have:=gI o b ([110,101,97,114,32]++(Lib.itoa at'++32 :: (Lib.itoa ad++32 :: nm))) (th (by decide))
   rw [BR _ _ hn] at this
   refine this.trans ?_
   dsimp only [gv]
   rw [if_pos (.inr rfl),if_pos rfl];unfold rP;rw [ha,hw]
end Go.Mrl

namespace Go.Mrl
open Go.Vg
theorem BS {o:D aA} (h:eZ o):∀l∈kv o,(10:UInt8)∉l:=by
 intro l hl
 unfold kv at hl
 simp only [List.mem_append,List.mem_map] at hl
 have hw:∀b,(10:UInt8)∉c6 b:=by intro b;cases b <;> decide
 rcases hl with ⟨s,hs,rfl⟩ | ⟨n,hn,rfl⟩ | ⟨y,hy,rfl⟩ | ⟨t,ht,rfl⟩
 ·have:=(jN (h.wm s hs)).2
  unfold jn;simp [this]
 ·have:=oh n
  unfold jo;simp [this]
 ·have h1:=(jN (h.syms y hy).1).2
  have h2:=oh y.2.1
  have h3:=hw y.2.2.1
  unfold rQ;simp [h1,h2,h3]
 ·have h1:=oh t.1
  have h2:=oh t.2.2.1
  have h3:=hw t.2.2.2.2.1
  unfold pU
  split
  ·simp [h1,h2]
  ·rename_i hk
   have h4:=(jN ((h.BJ t ht).nm hk)).2
   split <;> simp [h1,h2,h3,h4]
theorem E9 {o:D aA} (h:eZ o):kv o≠[]:=by
 have h1:=h.w1
 unfold kv
 intro e
 simp only [List.append_eq_nil_iff,List.map_eq_nil_iff] at e
 rw [e.2.1] at h1
 simp at h1
def BT (s:aF):Option (D aA):=run jm (bJ aA) (parts 10 (Lib.trimSuffix s [10]))
theorem mg {o:D aA} (h:bE o=0):BT (c7 o)=some o:=by
 have ok:=hM h
 unfold BT
 rw [zC,BI (E9 ok) (BS ok),Dy Hx ok]
theorem DA {o p:D aA} (h:bE o=0) (h':bE p=0) (e:c7 o=c7 p):o=p:=by
 have a:=mg h
 rw [e,mg h'] at a
 exact (Option.some.inj a).symm
open Classical in
noncomputable def bZ (s:aF):D aA × Int:=
 if s.length > 1200 then (bJ aA,2)
 else if h:∃o:D aA,bE o=0/\c7 o=s then (Classical.choose h,0) else (bJ aA,4)
theorem vm {s:aF} (h:s.length > 1200):bZ s=(bJ aA,2):=by unfold bZ;rw [if_pos h]
theorem qu {s:aF} {o:D aA} (h:¬ s.length > 1200) (hf:bE o=0) (ht:c7 o=s):bZ s=(o,0):=by
 have hx:∃o:D aA,bE o=0/\c7 o=s:=⟨o,hf,ht⟩
 have hc:=Classical.choose_spec hx
 unfold bZ
 rw [if_neg h,dif_pos hx,DA hc.1 hf (hc.2.trans ht.symm)]
theorem rS {s:aF} (h:¬ s.length > 1200) (hn:∀o:D aA,bE o=0->c7 o≠s):bZ s=(bJ aA,4):=by
 unfold bZ
 rw [if_neg h,dif_neg fun ⟨o,h1,h2⟩=>hn o h1 h2]
theorem BU {s:aF} (h:¬ s.length > 1200) (hr:BT s=none):bZ s=(bJ aA,4):=
 rS h fun o h1 h2=>by rw [<-h2,mg h1] at hr;cases hr
theorem tj {s:aF} {o:D aA} (h:¬ s.length > 1200) (hr:BT s=some o) (hb:bE o=0->c7 o≠s):bZ s=(bJ aA,4):=
 rS h fun p h1 h2=>by
  have:p=o:=by rw [<-h2,mg h1] at hr;exact Option.some.inj hr
  rw [this] at h1 h2
  exact hb h1 h2
def cG (o:D aA) (b:Bool) (s:aF):D aA × Bool:=
 let w:=parts 32 (Lib.trimPrefix s bQ)
 if nth .str w 0=ey/\w.length=2 then (jL o (nth .str w 1),b)
 else if nth .str w 0=ed/\w.length=2 then (jM o (cb (nth .str w 1)).1,b || (cD (nth .str w 1)).isNone)
 else if nth .str w 0=dE/\w.length=3 then (nk o (nth .str w 1,(cb (nth .str w 2)).1,Lib.hasPrefix s bQ,()),b || (cD (nth .str w 2)).isNone)
 else if nth .str w 0=fZ/\w.length=3 then (jl o ((cb (nth .str w 1)).1,1,(cb (nth .str w 2)).1,[],false,()),(b || (cD (nth .str w 1)).isNone) || (cD (nth .str w 2)).isNone)
 else if (nth .str w 0=fl\/nth .str w 0=fe)/\w.length=4 then
  (jl o ((cb (nth .str w 1)).1,if nth .str w 0=fe then 3 else 2,(cb (nth .str w 2)).1,nth .str w 3,Lib.hasPrefix s bQ,()),(b || (cD (nth .str w 1)).isNone) || (cD (nth .str w 2)).isNone)
 else (o,true)
theorem iP {s:aF} {n:Int} (h:cD s=some n):(cb s).1=n:=by
 unfold cD at h
 unfold cb
 cases ha:Lib.atoiAll s with
 | ok v=>rw [ha] at h;simp only at h ⊢;split at h <;> simp_all
 | range=>rw [ha] at h;cases h
 | _=>rw [ha] at h;cases h
theorem BV (o:D aA) (b:Bool) (s:aF):(∃p,jm o s=some p/\cG o b s=(p,b))\/(jm o s=none/\(cG o b s).2=true):=by
 unfold jm cG
 generalize hw:parts 32 (Lib.trimPrefix s bQ)=w
 generalize Lib.hasPrefix s bQ=k
 have hne:=rL 32 (Lib.trimPrefix s bQ)
 rw [hw] at hne
 match w,hne with
 | [],hne=>exact absurd rfl hne
 | [a],_=>exact .inr ⟨rfl,by simp⟩
 | [a,x],_=>
  dsimp only [gv]
  simp only [show nth .str [a,x] 0=a from rfl,show nth .str [a,x] 1=x from rfl]
  by_cases h1:a=ey
  ·rw [if_pos h1,if_pos (show (a=ey)/\[a,x].length=2 from ⟨h1,rfl⟩)];exact .inl ⟨_,rfl,rfl⟩
  ·rw [if_neg h1,if_neg (show ¬ ((a=ey)/\[a,x].length=2) from fun e=>h1 e.1)]
   by_cases h2:a=ed
   ·rw [if_pos h2,if_pos (show (a=ed)/\[a,x].length=2 from ⟨h2,rfl⟩)]
    cases hn:cD x with
    | none=>exact .inr ⟨rfl,by simp⟩
    | some n=>exact .inl ⟨_,rfl,by rw [iP hn];simp⟩
   ·rw [if_neg h2,if_neg (show ¬ ((a=ed)/\[a,x].length=2) from fun e=>h2 e.1),if_neg (show ¬ ((a=dE)/\[a,x].length=3) from fun e=>absurd e.2 (by simp)),if_neg (show ¬ ((a=fZ)/\[a,x].length=3) from fun e=>absurd e.2 (by simp)),if_neg (show ¬ ((a=fl\/a=fe)/\[a,x].length=4) from fun e=>absurd e.2 (by simp))];exact .inr ⟨rfl,rfl⟩
 | [a,x,y],_=>
  dsimp only [gv]
  simp only [show nth .str [a,x,y] 0=a from rfl,show nth .str [a,x,y] 1=x from rfl,show nth .str [a,x,y] 2=y from rfl]
  rw [if_neg (show ¬ ((a=ey)/\[a,x,y].length=2) from fun e=>absurd e.2 (by simp)),if_neg (show ¬ ((a=ed)/\[a,x,y].length=2) from fun e=>absurd e.2 (by simp))]
  by_cases h1:a=dE
  ·rw [if_pos h1,if_pos (show (a=dE)/\[a,x,y].length=3 from ⟨h1,rfl⟩)]
   cases hn:cD y with
   | none=>exact .inr ⟨rfl,by simp⟩
   | some n=>exact .inl ⟨_,rfl,by rw [iP hn];simp⟩
  ·rw [if_neg h1,if_neg (show ¬ ((a=dE)/\[a,x,y].length=3) from fun e=>h1 e.1)]
   by_cases h2:a=fZ
   ·rw [if_pos h2,if_pos (show (a=fZ)/\[a,x,y].length=3 from ⟨h2,rfl⟩)]
    unfold rP
    cases hm:cD x with
    | none=>exact .inr ⟨rfl,by simp⟩
    | some m=>
     cases hn:cD y with
     | none=>exact .inr ⟨rfl,by simp⟩
     | some n=>exact .inl ⟨_,rfl,by rw [iP hn,iP hm];simp⟩
   ·rw [if_neg h2,if_neg (show ¬ ((a=fZ)/\[a,x,y].length=3) from fun e=>h2 e.1),if_neg (show ¬ ((a=fl\/a=fe)/\[a,x,y].length=4) from fun e=>absurd e.2 (by simp))];exact .inr ⟨rfl,rfl⟩
 | [a,x,y,z],_=>
  dsimp only [gv]
  simp only [show nth .str [a,x,y,z] 0=a from rfl,show nth .str [a,x,y,z] 1=x from rfl,show nth .str [a,x,y,z] 2=y from rfl,show nth .str [a,x,y,z] 3=z from rfl]
  rw [if_neg (show ¬ ((a=ey)/\[a,x,y,z].length=2) from fun e=>absurd e.2 (by simp)),if_neg (show ¬ ((a=ed)/\[a,x,y,z].length=2) from fun e=>absurd e.2 (by simp)),if_neg (show ¬ ((a=dE)/\[a,x,y,z].length=3) from fun e=>absurd e.2 (by simp)),if_neg (show ¬ ((a=fZ)/\[a,x,y,z].length=3) from fun e=>absurd e.2 (by simp))]
  by_cases h1:a=fl\/a=fe
  ·rw [if_pos h1,if_pos (show (a=fl\/a=fe)/\[a,x,y,z].length=4 from ⟨h1,rfl⟩)]
   unfold rP
   cases hm:cD x with
   | none=>exact .inr ⟨rfl,by simp⟩
   | some m=>
    cases hn:cD y with
    | none=>exact .inr ⟨rfl,by simp⟩
    | some n=>exact .inl ⟨_,rfl,by rw [iP hn,iP hm];simp⟩
  ·rw [if_neg h1,if_neg (show ¬ ((a=fl\/a=fe)/\[a,x,y,z].length=4) from fun e=>h1 e.1)];exact .inr ⟨rfl,rfl⟩
 | a :: x :: y :: z :: u :: r,_=>exact .inr ⟨rfl,by simp⟩
theorem DB (o:D aA) (s:aF):(cG o true s).2=true:=by
 unfold cG;simp only [Bool.true_or]
 split
 ·rfl
 ·split
  ·rfl
  ·split
   ·rfl
   ·split
    ·rfl
    ·split <;> rfl
theorem DC (o:D aA) (b:Bool) (s:aF) :
  (cG o b s).1.1.length<=o.1.length + 1/\(cG o b s).1.2.1.length<=o.2.1.length + 1/\(cG o b s).1.2.2.1.length<=o.2.2.1.length + 1/\(cG o b s).1.2.2.2.1.length<=o.2.2.2.1.length + 1:=by
 have e:∀{α:Type} (l:List α) (x:α),(l++[x]).length<=l.length + 1:=fun l x=>by simp
 have e0:∀n:Nat,n<=n + 1:=fun n=>Nat.le_succ n
 unfold cG
 simp only
 split
 ·exact ⟨e _ _,e0 _,e0 _,e0 _⟩
 ·split
  ·exact ⟨e0 _,e _ _,e0 _,e0 _⟩
  ·split
   ·exact ⟨e0 _,e0 _,e _ _,e0 _⟩
   ·split
    ·exact ⟨e0 _,e0 _,e0 _,e _ _⟩
    ·split
     ·exact ⟨e0 _,e0 _,e0 _,e _ _⟩
     ·exact ⟨e0 _,e0 _,e0 _,e0 _⟩
structure fm (L:List aF) (i:Nat) (o:D aA) (b:Bool):Prop where
 le:i<=L.length
 st:(run jm (bJ aA) (L.take i)=some o/\b=false)\/(run jm (bJ aA) (L.take i)=none/\b=true)
 l1:o.1.length<=i
 l2:o.2.1.length<=i
 l3:o.2.2.1.length<=i
 l4:o.2.2.2.1.length<=i
theorem fm.zero (L:List aF):fm L 0 (bJ aA) false:=⟨Nat.zero_le _, .inl ⟨rfl,rfl⟩,Nat.le_refl _,Nat.le_refl _,Nat.le_refl _,Nat.le_refl _⟩
theorem fm.next {L:List aF} {i:Nat} {o:D aA} {b:Bool} (h:fm L i o b) (hi:i < L.length):fm L (i + 1) (cG o b (nth .str L i)).1 (cG o b (nth .str L i)).2:=by
 obtain ⟨a1,a2,a3,a4⟩:=DC o b (nth .str L i)
 refine ⟨hi,?_,by have:=h.l1;omega,by have:=h.l2;omega,by have:=h.l3;omega,by have:=h.l4;omega⟩
 rw [gq (t:=.str) hi,xO]
 rcases h.st with ⟨hr,hb⟩ | ⟨hr,hb⟩
 ·rw [hr,Option.bind_some]
  rcases BV o b (nth .str L i) with ⟨p,h1,h2⟩ | ⟨h1,h2⟩
  ·rw [h2];exact .inl ⟨h1,hb⟩
  ·exact .inr ⟨h1,h2⟩
 ·rw [hr,hb];exact .inr ⟨rfl,DB o _⟩
end Go.Mrl

namespace Go.Mrl
open Go.Vg
abbrev F7:=Unit × List (List UInt8) × List Int × List (D aG) × List (D aN) × (Bool × Unit) × Unit
def Fa (x:F7):D aA:=(x.2.1,x.2.2.1,x.2.2.2.1,x.2.2.2.2.1,())
def DD (p:D aA × Bool):F7:=((),p.1.1,p.1.2.1,p.1.2.2.1,p.1.2.2.2.1,(p.2,()),())
theorem xR (s p:aF):(Lib.trimPrefix s p).length<=s.length:=by unfold Lib.trimPrefix;split <;> simp
theorem AA {s:aF} {w:List aF} (hw:w=parts 32 (Lib.trimPrefix s bQ)) (i:Nat):(nth .str w i).length<=s.length:=by
 by_cases h:i < w.length
 ·have h1:=eD (t:=.str) h
  rw [hw] at h1
  have:=jI _ _ _ h1
  rw [<-hw] at this
  exact Nat.le_trans this (xR _ _)
 ·unfold nth;rw [List.getD_eq_getElem?_getD,List.getElem?_eq_none (by omega)];exact Nat.zero_le _
theorem Fb {s:aF} {w:List aF} (hw:w=parts 32 (Lib.trimPrefix s bQ)):0 < w.length:=by rw [hw];exact List.length_pos_iff.2 (rL _ _)
theorem fH {c:Bool} {P:Prop} (q:c=true ↔ P) (h:c=false):¬ P:=fun p=>by rw [q.2 p] at h;cases h
section
variable {o:D aA} {b:Bool} {s:aF} {w:List aF} (hw:w=parts 32 (Lib.trimPrefix s bQ))
include hw
theorem BW (h:nth .str w 0=ey/\w.length=2):cG o b s=(jL o (nth .str w 1),b):=by
 unfold cG;simp only;rw [<-hw,if_pos h]
theorem BX (h0:¬ (nth .str w 0=ey/\w.length=2)) (h:nth .str w 0=ed/\w.length=2):cG o b s=(jM o (cb (nth .str w 1)).1,b || (cD (nth .str w 1)).isNone):=by
 unfold cG;simp only;rw [<-hw,if_neg h0,if_pos h]
theorem DE (h0:¬ (nth .str w 0=ey/\w.length=2)) (h1:¬ (nth .str w 0=ed/\w.length=2)) (h:nth .str w 0=dE/\w.length=3) :
  cG o b s=(nk o (nth .str w 1,(cb (nth .str w 2)).1,Lib.hasPrefix s bQ,()),b || (cD (nth .str w 2)).isNone):=by
 unfold cG;simp only;rw [<-hw,if_neg h0,if_neg h1,if_pos h]
theorem BY (h0:¬ (nth .str w 0=ey/\w.length=2)) (h1:¬ (nth .str w 0=ed/\w.length=2)) (h2:¬ (nth .str w 0=dE/\w.length=3)) (h:nth .str w 0=fZ/\w.length=3) :
  cG o b s=(jl o ((cb (nth .str w 1)).1,1,(cb (nth .str w 2)).1,[],false,()),(b || (cD (nth .str w 1)).isNone) || (cD (nth .str w 2)).isNone):=by
 unfold cG;simp only;rw [<-hw,if_neg h0,if_neg h1,if_neg h2,if_pos h]
theorem vo (h0:¬ (nth .str w 0=ey/\w.length=2)) (h1:¬ (nth .str w 0=ed/\w.length=2)) (h2:¬ (nth .str w 0=dE/\w.length=3)) (h3:¬ (nth .str w 0=fZ/\w.length=3))
  (h:(nth .str w 0=fl\/nth .str w 0=fe)/\w.length=4) {k:Int} (hk:k=if nth .str w 0=fe then 3 else 2) :
  cG o b s=(jl o ((cb (nth .str w 1)).1,k,(cb (nth .str w 2)).1,nth .str w 3,Lib.hasPrefix s bQ,()),(b || (cD (nth .str w 1)).isNone) || (cD (nth .str w 2)).isNone):=by
 unfold cG;simp only;rw [<-hw,if_neg h0,if_neg h1,if_neg h2,if_neg h3,if_pos h,hk]
theorem BZ (h0:¬ (nth .str w 0=ey/\w.length=2)) (h1:¬ (nth .str w 0=ed/\w.length=2)) (h2:¬ (nth .str w 0=dE/\w.length=3)) (h3:¬ (nth .str w 0=fZ/\w.length=3))
  (h:¬ ((nth .str w 0=fl\/nth .str w 0=fe)/\w.length=4)):cG o b s=(o,true):=by
 unfold cG;simp only;rw [<-hw,if_neg h0,if_neg h1,if_neg h2,if_neg h3,if_neg h]
end
end Go.Mrl

namespace Go.Mrl
open Go.Vg
end Go.Mrl

namespace Go.Mrl
open Go.Vg
noncomputable def hP (s:aF):D aA × aV:=((bZ s).1,aZ (bZ s).2)
theorem B0 {s:aF} (h:s.length > 1200):(bJ aA,aV.no 2)=hP s:=by unfold hP;rw [vm h];rfl
theorem fm.run {L:List aF} {i:Nat} {o:D aA} {b:Bool} (h:fm L i o b) (hi:¬ i < L.length):(run jm (bJ aA) L=some o/\b=false)\/(run jm (bJ aA) L=none/\b=true):=by
 have:=h.st
 rwa [List.take_of_length_le (by omega)] at this
theorem pV {s:aF} {i:Nat} {o:D aA} {b:Bool} (h:fm (parts 10 (Lib.trimSuffix s [10])) i o b) (hi:¬ i < (parts 10 (Lib.trimSuffix s [10])).length) (hl:¬ s.length > 1200)
  (hb:b=true\/(ew o).2.isNil=false\/¬ (ew o).1=s):(bJ aA,aV.no 4)=hP s:=by
 have:bZ s=(bJ aA,4):=by
  rcases h.run hi with ⟨hr,h0⟩ | ⟨hr,h0⟩
  ·rcases hb with hb | hb | hb
   ·rw [hb] at h0;cases h0
   ·refine tj hl hr fun hf ht => ?_
    rw [og hf rfl (by show (c7 o).length<=1200;rw [ht];omega)] at hb
    cases hb
   ·refine tj hl hr fun hf ht=>hb ?_
    rw [og hf rfl (by show (c7 o).length<=1200;rw [ht];omega)]
    exact ht
  ·exact BU hl hr
 unfold hP;rw [this];rfl
theorem Fc {s:aF} {o:D aA} (hl:¬ s.length > 1200)
  (hn:(ew o).2.isNil=true) (ht:(ew o).1=s):(o,aV.nil)=hP s:=by
 have hf:bE o=0:=by
  apply Classical.byContradiction;intro hf
  rw [vh hf] at hn
  exact hf (bc.1 hn)
 have hs:c7 o=s:=by
  by_cases h:(c7 o).length > 1200
  ·rw [tg hf rfl h] at hn;cases hn
  ·rw [og hf rfl (by show (c7 o).length<=1200;omega)] at ht;exact ht
 unfold hP;rw [qu hl hf hs];rfl
theorem GF (s p:aF):(Lib.trimSuffix s p).length<=s.length:=by unfold Lib.trimSuffix;split <;> simp
theorem DF (s:aF) (h:s.length<=1200):(parts 10 (Lib.trimSuffix s [10])).length<=1201:=by
 have h1:=pP 10 (Lib.trimSuffix s [10])
 have h2:(Lib.trimSuffix s [10]).length<=s.length:=by unfold Lib.trimSuffix;split <;> simp
 omega
theorem B1 {s:aF} (h:s.length<=1200) (i:Nat):(nth .str (parts 10 (Lib.trimSuffix s [10])) i).length<=1200:=by
 by_cases hi:i < (parts 10 (Lib.trimSuffix s [10])).length
 ·have:=jI _ _ _ (eD (t:=.str) hi)
  have h2:(Lib.trimSuffix s [10]).length<=s.length:=by unfold Lib.trimSuffix;split <;> simp
  omega
 ·unfold nth;rw [List.getD_eq_getElem?_getD,List.getElem?_eq_none (by omega)];exact Nat.zero_le _
end Go.Mrl

namespace Go.Mrl
open Go.Vg
abbrev Rd:=aF->aF × Int × Int
structure er (rd:Rd):Prop where
 code:∀s,(rd s).2.2=0\/(rd s).2.2=5
 H8:∃K:List aF,K.length<=6/\∀s,(rd s).2.2=0->s∈K
def cr (ns l:List aF):List aF:=l.foldl (fun ns s=>if ns.any (· == s)=true then ns else ns++[s]) ns
noncomputable def ez (rd:Rd) (s:aF):D aA:=(bZ (rd s).1).1
noncomputable def b7 (rd:Rd) (s:aF):Int:=if (rd s).2.2=0 then (bZ (rd s).1).2 else (rd s).2.2
noncomputable def hU (rd:Rd):Nat->Nat->List aF->List (D aA)->List aF × List (D aA) × Int
 | 0,_,ns,os=>(ns,os,0)
 | k + 1,i,ns,os=>
  if i < ns.length then
   if b7 rd (nth .str ns i)=0 then hU rd k (i + 1) (cr ns (ez rd (nth .str ns i)).1) (os++[ez rd (nth .str ns i)])
   else ([],[],b7 rd (nth .str ns i))
  else (ns,os,0)
noncomputable def aR (rd:Rd) (root:aF):List aF × List (D aA) × Int:=hU rd 7 0 [root] []
theorem tl (s:aF):((bZ s).2=0/\bE (bZ s).1=0/\c7 (bZ s).1=s)\/bZ s=(bJ aA,2)\/bZ s=(bJ aA,4):=by
 by_cases h:s.length > 1200
 ·exact .inr (.inl (vm h))
 ·by_cases h2:∃o:D aA,bE o=0/\c7 o=s
  ·obtain ⟨o,h3,h4⟩:=h2
   rw [qu h h3 h4];exact .inl ⟨rfl,h3,h4⟩
  ·exact .inr (.inr (rS h fun o h3 h4=>h2 ⟨o,h3,h4⟩))
theorem zE (s:aF):0<=(bZ s).2:=by
 rcases tl s with ⟨h,_⟩ | h | h <;> rw [h] <;> decide
theorem tm {s:aF} (h:(bZ s).2=0):bE (bZ s).1=0:=by
 rcases tl s with ⟨_,h,_⟩ | h' | h'
 ·exact h
 ·rw [h'] at h;cases h
 ·rw [h'] at h;cases h
theorem ud {rd:Rd} (h:er rd) (s:aF):0<=b7 rd s:=by
 unfold b7
 split
 ·exact zE _
 ·rcases h.code s with e | e <;> rw [e] <;> decide
theorem lG {rd:Rd} (h:er rd) {s:aF} (e:b7 rd s=0):(rd s).2.2=0/\(bZ (rd s).1).2=0:=by
 unfold b7 at e
 rcases h.code s with c | c
 ·rw [if_pos c] at e;exact ⟨c,e⟩
 ·rw [if_neg (by rw [c];decide),c] at e;cases e
theorem pW {rd:Rd} {s:aF} (e:¬ (rd s).2.2=0):b7 rd s=(rd s).2.2:=by unfold b7;rw [if_neg e]
theorem mF {rd:Rd} {s:aF} (e:(rd s).2.2=0):b7 rd s=(bZ (rd s).1).2:=by unfold b7;rw [if_pos e]
theorem Fe (ns:List aF):cr ns []=ns:=rfl
theorem pX (ns l:List aF) (s:aF):cr ns (s :: l)=cr (if ns.any (· == s)=true then ns else ns++[s]) l:=rfl
theorem DG (ns l:List aF) (s:aF):cr ns (l++[s])=if (cr ns l).any (· == s)=true then cr ns l else cr ns l++[s]:=by
 unfold cr;rw [List.foldl_append];rfl
theorem AB {ns:List aF} {s:aF}:ns.any (· == s)=true ↔ s∈ns:=by
 rw [List.any_eq_true]
 constructor
 ·rintro ⟨x,hx,e⟩;rw [<-(by simpa using e:x=s)];exact hx
 ·intro h;exact ⟨s,h,by simp⟩
theorem jO:∀(l ns:List aF),∃r,cr ns l=ns++r/\r.length<=l.length/\∀s∈r,s∈l
 | [],ns=>⟨[],by simp [Fe],by simp,by simp⟩
 | x :: l,ns=>by
  rw [pX]
  split
  ·obtain ⟨r,h1,h2,h3⟩:=jO l ns
   exact ⟨r,h1,by simp;omega,fun s hs=>by simp [h3 s hs]⟩
  ·obtain ⟨r,h1,h2,h3⟩:=jO l (ns++[x])
   refine ⟨x :: r,by rw [h1];simp,by simp;omega,fun s hs => ?_⟩
   rcases List.mem_cons.1 hs with rfl | hs
   ·simp
   ·simp [h3 s hs]
theorem om:∀(l ns:List aF),ns.Nodup->(cr ns l).Nodup
 | [],ns,h=>h
 | x :: l,ns,h=>by
  rw [pX]
  split
  ·exact om l ns h
  ·rename_i hx
   refine om l _ ?_
   rw [List.nodup_append]
   refine ⟨h,by simp,fun a ha b hb e=>hx (AB.2 ?_)⟩
   simp at hb;subst hb;exact e▸ha
theorem xS:∀(l ns:List aF),∀s∈l,s∈cr ns l
 | [],_,s,h=>by simp at h
 | x :: l,ns,s,h=>by
  rw [pX]
  rcases List.mem_cons.1 h with rfl | h
  ·split
   ·rename_i hx
    obtain ⟨r,h1,_⟩:=jO l ns
    rw [h1];exact List.mem_append_left _ (AB.1 hx)
   ·obtain ⟨r,h1,_⟩:=jO l (ns++[s])
    rw [h1];simp
  ·exact xS l _ s h
theorem vp {ns l:List aF} {i:Nat} (h:i < l.length):cr ns (l.take (i + 1))=if (cr ns (l.take i)).any (· == nth .str l i)=true then cr ns (l.take i) else cr ns (l.take i)++[nth .str l i]:=by
 rw [gq (t:=.str) h,DG]
theorem vq {t:Ty} {a b:List (D t)} {i:Nat} (h:i < a.length):nth t (a++b) i=nth t a i:=by rw [n7,if_pos h]
structure e8 (rd:Rd) (root:aF) (i:Nat) (ns:List aF) (os:List (D aA)):Prop where
 eq:hU rd (7 - i) i ns os=aR rd root
 le:i<=6
 lo:i<=ns.length
 pos:0 < ns.length
 len:os.length=i
 hi:ns.length<=1 + 4 * i
 head:nth .str ns 0=root
 nd:ns.Nodup
 AD:∀j,j < i->b7 rd (nth .str ns j)=0/\nth aA os j=ez rd (nth .str ns j)
 want:∀j,j < ns.length->j≠0->∃k,k < i/\k < j/\nth .str ns j∈(nth aA os k).1
 pT:∀j,j < i->∀s∈(nth aA os j).1,s∈ns
theorem e8.zero (rd:Rd) (root:aF):e8 rd root 0 [root] []:=
 ⟨rfl,by omega,by simp,by simp,rfl,by simp,rfl,by simp,fun j h=>by omega,fun j h h'=>by simp at h;omega,fun j h=>by omega⟩
theorem e8.room {rd:Rd} {root:aF} {i:Nat} {ns:List aF} {os:List (D aA)} (ok:er rd) (h:e8 rd root i ns os) (hi:i < ns.length) (hf:b7 rd (nth .str ns i)=0):i + 1<=6:=by
 obtain ⟨K,hK,hm⟩:=ok.H8
 have hsub:∀y∈ns.take (i + 1),y∈K:=by
  intro y hy
  obtain ⟨j,hj,rfl⟩:=kU (t:=.str) hy
  rw [List.length_take] at hj
  rw [xq (t:=.str) (by omega)]
  refine hm _ (lG ok ?_).1
  rcases Nat.lt_or_ge j i with hl | hl
  ·exact (h.AD j hl).1
  ·rw [show j=i by omega];exact hf
 have:=uW (h.nd.sublist (List.take_sublist (i + 1) ns)) hsub
 rw [List.length_take] at this
 omega
theorem e8.fuel {rd:Rd} {root:aF} {i:Nat} {ns:List aF} {os:List (D aA)} (h:e8 rd root i ns os):hU rd (6 - i + 1) i ns os=aR rd root:=by
 rw [<-h.eq];congr 1;have:=h.le;omega
theorem e8.bad {rd:Rd} {root:aF} {i:Nat} {ns:List aF} {os:List (D aA)} (h:e8 rd root i ns os) (hi:i < ns.length) (hf:¬ b7 rd (nth .str ns i)=0) :
  aR rd root=([],[],b7 rd (nth .str ns i)):=by
 rw [<-h.fuel,hU,if_pos hi,if_neg hf]
theorem e8.done {rd:Rd} {root:aF} {i:Nat} {ns:List aF} {os:List (D aA)} (h:e8 rd root i ns os) (hi:¬ i < ns.length):aR rd root=(ns,os,0):=by
 rw [<-h.fuel,hU,if_neg hi]
theorem rT {rd:Rd} (ok:er rd) {s:aF} (hf:b7 rd s=0):eZ (ez rd s):=hM (tm (lG ok hf).2)
theorem e8.next {rd:Rd} {root:aF} {i:Nat} {ns:List aF} {os:List (D aA)} (ok:er rd) (h:e8 rd root i ns os) (hi:i < ns.length) (hf:b7 rd (nth .str ns i)=0) :
  e8 rd root (i + 1) (cr ns (ez rd (nth .str ns i)).1) (os++[ez rd (nth .str ns i)]):=by
 have hr:=h.room ok hi hf
 have ho:=rT ok hf
 obtain ⟨r,h1,h2,h3⟩:=jO (ez rd (nth .str ns i)).1 ns
 have hn4:=ho.n4
 have hlen:=h.len
 have hhi:=h.hi
 have hpos:=h.pos
 have hos:nth aA (os++[ez rd (nth .str ns i)]) i=ez rd (nth .str ns i):=by rw [n7,if_neg (by omega),h.len,Nat.sub_self];rfl
 have hns:∀j,j < ns.length->nth .str (cr ns (ez rd (nth .str ns i)).1) j=nth .str ns j:=fun j hj=>by rw [h1,vq (t:=.str) hj]
 have hoj:∀j,j < i->nth aA (os++[ez rd (nth .str ns i)]) j=nth aA os j:=fun j hj=>vq (t:=aA) (by omega)
 refine ⟨?_,hr,by rw [h1,List.length_append];omega,by rw [h1,List.length_append];omega,by rw [List.length_append,h.len];rfl,by rw [h1,List.length_append];omega,
  by rw [hns 0 hpos];exact h.head,om _ _ h.nd,fun j hj => ?_,fun j hj h0 => ?_,fun j hj s hs => ?_⟩
 ·rw [<-h.fuel,hU,if_pos hi,if_pos hf];congr 1;omega
 ·rcases Nat.lt_or_ge j i with hl | hl
  ·rw [hns j (by omega),hoj j hl];exact h.AD j hl
  ·rw [show j=i by omega,hns i hi,hos];exact ⟨hf,rfl⟩
 ·rcases Nat.lt_or_ge j ns.length with hl | hl
  ·obtain ⟨k,k1,k2,k3⟩:=h.want j hl h0
   exact ⟨k,by omega,k2,by rw [hns j hl,hoj k k1];exact k3⟩
  ·refine ⟨i,by omega,by omega,?_⟩
   rw [hos,h1,n7,if_neg (by omega)]
   refine h3 _ (eD (t:=.str) ?_)
   rw [h1,List.length_append] at hj;omega
 ·rcases Nat.lt_or_ge j i with hl | hl
  ·rw [hoj j hl] at hs
   rw [h1];exact List.mem_append_left _ (h.pT j hl s hs)
  ·rw [show j=i by omega,hos] at hs
   exact xS _ _ s hs
structure Scope (rd:Rd) (root:aF) (ns:List aF) (os:List (D aA)):Prop where
 le:ns.length<=6
 pos:0 < ns.length
 len:os.length=ns.length
 head:nth .str ns 0=root
 nd:ns.Nodup
 AD:∀j,j < ns.length->b7 rd (nth .str ns j)=0/\nth aA os j=ez rd (nth .str ns j)
 want:∀j,j < ns.length->j≠0->∃k,k < j/\nth .str ns j∈(nth aA os k).1
 pT:∀j,j < ns.length->∀s∈(nth aA os j).1,s∈ns
theorem tn {rd:Rd} {root:aF} (ok:er rd):∀(m i:Nat) (ns:List aF) (os:List (D aA)),m=7 - i->e8 rd root i ns os->
  (∃f,0 < f/\aR rd root=([],[],f))\/(∃ns os,aR rd root=(ns,os,0)/\Scope rd root ns os)
 | 0,i,ns,os,hm,h=>by have:=h.le;omega
 | m + 1,i,ns,os,hm,h=>by
  by_cases hi:i < ns.length
  ·by_cases hf:b7 rd (nth .str ns i)=0
   ·exact tn ok m (i + 1) _ _ (by omega) (h.next ok hi hf)
   ·have:=ud ok (nth .str ns i)
    exact .inl ⟨_,by omega,h.bad hi hf⟩
  ·have h1:=h.lo
   have h2:=h.le
   have e:i=ns.length:=by omega
   subst e
   exact .inr ⟨ns,os,h.done hi,h2,h.pos,h.len,h.head,h.nd,h.AD,fun j hj h0=>let ⟨k,_,k2,k3⟩:=h.want j hj h0;⟨k,k2,k3⟩,h.pT⟩
theorem qV {rd:Rd} (ok:er rd) (root:aF):(∃f,0 < f/\aR rd root=([],[],f))\/(∃ns os,aR rd root=(ns,os,0)/\Scope rd root ns os):=
 tn ok 7 0 _ _ rfl (e8.zero rd root)
theorem rU {rd:Rd} (ok:er rd) {root:aF} (h:(aR rd root).2.2=0):Scope rd root (aR rd root).1 (aR rd root).2.1:=by
 rcases qV ok root with ⟨f,hf,e⟩ | ⟨ns,os,e,h'⟩
 ·rw [e] at h;simp only at h;omega
 ·rw [e];exact h'
theorem fu {x:dW} (h:x.2.1.1.length<=6):er (bt x):=by
 refine ⟨fun s => ?_,x.2.1.1.map lz,by rw [List.length_map];exact h,fun s hs => ?_⟩
 ·unfold bt;split
  ·exact .inl rfl
  ·exact .inr rfl
 ·by_cases c:cp b9 x.2.1.1 s=true
  ·obtain ⟨y,hy,e⟩:=jH.1 c
   rw [<-e];exact List.mem_map_of_mem hy
  ·rw [ma (by simpa using c)] at hs;cases hs
end Go.Mrl

namespace Go.Mrl
open Go.Vg
section
variable {rd:Rd} {root:aF} {i:Nat} {ns:List aF} {os:List (D aA)}
theorem e8.Ff (ok:er rd) (h:e8 rd root i ns os) (hi:i < ns.length) (he:¬ (rd (nth .str ns i)).2.2=0) :
  aR rd root=([],[],(rd (nth .str ns i)).2.2):=by
 rw [h.bad hi (by rw [pW he];exact he),pW he]
theorem e8.GG (h:e8 rd root i ns os) (hi:i < ns.length) (he:(rd (nth .str ns i)).2.2=0) (ho:¬ (bZ (rd (nth .str ns i)).1).2=0) :
  aR rd root=([],[],(bZ (rd (nth .str ns i)).1).2):=by
 rw [h.bad hi (by rw [mF he];exact ho),mF he]
theorem ue {s:aF} (he:(rd s).2.2=0) (ho:(bZ (rd s).1).2=0):b7 rd s=0:=by rw [mF he];exact ho
theorem e8.H5 (h:e8 rd root i ns os):os.length + 1<=1000000000:=by have:=h.len;have:=h.le;omega
theorem e8.Hy (h:e8 rd root i ns os) (ok:er rd) {s:aF} (hf:b7 rd s=0) (k:Nat):(cr ns (List.take k (ez rd s).1)).length + 1<=1000000000:=by
 obtain ⟨r,h1,h2,_⟩:=jO (List.take k (ez rd s).1) ns
 have:=(rT ok hf).n4
 have:=h.hi
 have:=h.le
 rw [h1,List.length_append]
 rw [List.length_take] at h2
 omega
theorem AE {l:List aF} {k:Nat} (h:k < l.length) (hn:(cr ns (l.take k)).any (fun x=>x == nth .str l k)=false):cr ns (l.take k)++[nth .str l k]=cr ns (l.take (k + 1)):=by
 rw [vp h,if_neg (by rw [hn];exact Bool.false_ne_true)]
theorem AF {l:List aF} {k:Nat} (h:k < l.length) (hn:(cr ns (l.take k)).any (fun x=>x == nth .str l k)=true):cr ns (l.take k)=cr ns (l.take (k + 1)):=by
 rw [vp h,if_pos hn]
theorem AG {l:List aF} {k:Nat} (h:¬ k < l.length):cr ns (l.take k)=cr ns l:=by rw [List.take_of_length_le (by omega)]
end
end Go.Mrl

namespace Go.Mrl
open Go.Vg
theorem nn:∀{s:List Int} {l:List (D aL)} {out o:List Int},cN l s out=some o->∃ext,o=out++ext/\ext.length=s.length:=by
 intro s
 induction s with
 | nil=>intro l out o h;simp only [cN,Option.some.injEq] at h;exact ⟨[],by simp [h],rfl⟩
 | cons n r ih=>
  intro l out o h
  simp only [cN] at h
  split at h
  ·cases h
  ·obtain ⟨ext,h1,h2⟩:=ih h
   exact ⟨_ :: ext,by rw [h1,List.append_assoc];rfl,by simp [h2]⟩
theorem xT {l:List (D aL)} {s o:List Int} {k:Nat} (hk:k < s.length) (h:cN l (s.drop k) (o.take k)=some o) (hl:o.length=s.length) :
  (nth (.int .i64) o k:Int)=cB l (bA (nth (.int .i64) s k)) 40 0/\cB l (bA (nth (.int .i64) s k)) 40 0 + bA (nth (.int .i64) s k)<=256/\
  cN (l++[(cB l (bA (nth (.int .i64) s k)) 40 0,bA (nth (.int .i64) s k),())]) (s.drop (k + 1)) (o.take (k + 1))=some o:=by
 rw [ly hk] at h
 split at h
 ·cases h
 ·rename_i hle
  obtain ⟨ext,h1,h2⟩:=nn h
  have hlen:(o.take k).length=k:=by rw [List.length_take];omega
  have hget:o[k]?=some (cB l (bA (nth (.int .i64) s k)) 40 0):=by
   rw [h1,List.append_assoc,List.getElem?_append_right (by omega),hlen,Nat.sub_self];rfl
  refine ⟨dz (t:=.int .i64) hget,by omega,?_⟩
  have:o.take (k + 1)=o.take k++[cB l (bA (nth (.int .i64) s k)) 40 0]:=by
   rw [List.take_add_one,hget];rfl
  rw [this];exact h
theorem B2 {s:List Int} {l:List (D aL)} (h:(br (s,l)).2.isNil=true) :
  s.length<=6/\l.length<=20/\(∀j,j < s.length->1<=(nth (.int .i64) s j:Int)/\(nth (.int .i64) s j:Int)<=40)/\(∀y∈l,gM y)/\cN l s []=some (br (s,l)).1/\(br (s,l)).1.length=s.length:=by
 by_cases h1:6 < s.length\/20 < l.length
 ·rw [qO h1] at h;cases h
 ·by_cases h2:rJ s=true\/rK l=true
  ·unfold br at h;rw [if_neg h1,if_pos h2] at h;cases h
  ·have hs:∀j,j < s.length->1<=(nth (.int .i64) s j:Int)/\(nth (.int .i64) s j:Int)<=40:=by
    intro j hj
    apply Classical.byContradiction
    intro hn
    rw [qP h1 hj hn] at h;cases h
   have ht:∀j,j < l.length->gM (nth aL l j):=by
    intro j hj
    apply Classical.byContradiction
    intro hn
    rw [pA h1 hj hn] at h;cases h
   rw [pB h1 hs ht] at h ⊢
   refine ⟨by omega,by omega,hs,fun y hy => ?_,?_⟩
   ·obtain ⟨i,hi,e⟩:=kU (t:=aL) hy;rw [<-e];exact ht i hi
   ·split at h
    ·rename_i o ho
     obtain ⟨ext,k1,k2⟩:=nn ho
     simp only [ho]
     exact ⟨trivial,by rw [k1];simpa using k2⟩
    ·cases h
end Go.Mrl
namespace Go.Mrl
open Go.Vg
theorem zF {n:Int}:n<=bA n/\bA n < n + 16:=by unfold bA;omega
end Go.Mrl

namespace Go.Mrl
open Go.Vg
def ee (s:List Int):Nat->Int
 | 0=>0
 | k + 1=>ee s k + bA (nth (.int .i64) s k)
def oq (l:List (Int × Int × Unit)) (S:Int):Prop:=0<=S/\(∃m:Nat,S=16 * (m:Int))/\(∀y∈l,y.1 + y.2.1<=S)/\∀p:Int,0<=p->p < S->∃y∈l,y.1<=p/\p < y.1 + y.2.1
theorem oq.nil:oq [] 0:=⟨Int.le_refl _,⟨0,rfl⟩,fun y hy=>by simp at hy,fun p h1 h2=>by omega⟩
theorem oq.snoc {l:List (Int × Int × Unit)} {S m:Int} (h:oq l S) (hm:0 < m) (h16:∃k:Nat,m=16 * (k:Int)):oq (l++[(S,m,())]) (S + m):=by
 obtain ⟨h1,⟨a,h2⟩,h3,h4⟩:=h
 obtain ⟨k,h5⟩:=h16
 refine ⟨by omega,⟨a + k,by omega⟩,fun y hy => ?_,fun p h6 h7 => ?_⟩
 ·rcases List.mem_append.1 hy with hy | hy
  ·have:=h3 y hy;omega
  ·simp only [List.mem_singleton] at hy;subst hy;simp only;omega
 ·by_cases c:p < S
  ·obtain ⟨y,hy,h8⟩:=h4 p h6 c
   exact ⟨y,by simp [hy],h8⟩
  ·exact ⟨(S,m,()),by simp,by simp only;omega⟩
theorem oq.base {l:List (Int × Int × Unit)} {S many:Int} (h:oq l S) (hm:0 < many):∀(n:Nat) (k:Nat),16 * (k:Int)<=S->S - 16 * (k:Int) < 16 * (n:Int)->cB l many n (16 * (k:Int))=S:=by
 obtain ⟨h1,⟨a,h2⟩,h3,h4⟩:=h
 intro n
 induction n with
 | zero=>intro k hk hn;omega
 | succ n ih=>
  intro k hk hn
  by_cases c:16 * (k:Int)=S
  ·rw [c]
   apply j9
   refine s6 fun j hj => ?_
   have:=h3 _ (eD (t:=aL) hj)
   rw [yW];simp only;omega
  ·obtain ⟨y,hy,h8,h9⟩:=h4 (16 * (k:Int)) (by omega) (by omega)
   have hf:dy (16 * (k:Int),many,()) l=false:=by
    obtain ⟨j,hj,e⟩:=kU (t:=aL) hy
    refine qN hj ?_
    rw [e,pz];simp only;omega
   rw [uT hf,show 16 * (k:Int) + 16=16 * ((k + 1:Nat):Int) by omega]
   exact ih (k + 1) (by omega) (by omega)
theorem GH {n:Int} (h:1<=n):∃k:Nat,bA n=16 * (k:Int):=⟨((n + 15) / 16).toNat,by unfold bA;omega⟩
theorem B3 {s:List Int} (hs:∀j,j < s.length->1<=(nth (.int .i64) s j:Int)/\(nth (.int .i64) s j:Int)<=40):∀d k,k + d<=s.length->ee s k<=ee s (k + d):=by
 intro d
 induction d with
 | zero=>intro k _;exact Int.le_refl _
 | succ d ih=>
  intro k hk
  have h1:=ih k (by omega)
  have h2:=hs (k + d) (by omega)
  have h3:=fj h2.1 h2.2
  have e:ee s (k + (d + 1))=ee s (k + d) + bA (nth (.int .i64) s (k + d)):=rfl
  rw [e]
  omega
end Go.Mrl

namespace Go.Mrl
open Go.Vg
theorem Fg {s:List Int} (hs:∀j,j < s.length->1<=(nth (.int .i64) s j:Int)/\(nth (.int .i64) s j:Int)<=40):∀(d k:Nat) {l:List (Int × Int × Unit)} {o:List Int},k + d=s.length->oq l (ee s k)->ee s k<=256->
  o.length=s.length->cN l (s.drop k) (o.take k)=some o->ee s s.length<=256/\∀i,k<=i->i < s.length->(nth (.int .i64) o i:Int)=ee s i:=by
 intro d
 induction d with
 | zero=>
  intro k l o hk hc hle hl h
  have e:k=s.length:=by omega
  subst e
  exact ⟨hle,fun i h1 h2=>by omega⟩
 | succ d ih=>
  intro k l o hk hc hle hl h
  have h2:=hs k (by omega)
  have h3:=fj h2.1 h2.2
  have hb:=hc.base (many:=bA (nth (.int .i64) s k)) (by omega) 40 0 (by have:=hc.1;omega) (by omega)
  simp only [Int.natCast_zero,Int.mul_zero] at hb
  obtain ⟨n1,n2,n3⟩:=xT (k:=k) (by omega) h hl
  rw [hb] at n1 n2 n3
  have e:ee s (k + 1)=ee s k + bA (nth (.int .i64) s k):=rfl
  obtain ⟨r1,r2⟩:=ih (k + 1) (by omega) (l:=l++[(ee s k,bA (nth (.int .i64) s k),())]) (by rw [e];exact hc.snoc (by omega) (GH h2.1)) (by omega) hl n3
  refine ⟨r1,fun i h4 h5 => ?_⟩
  rcases Nat.lt_or_ge k i with c | c
  ·exact r2 i (by omega) h5
  ·rw [show i=k by omega];exact n1
theorem DH {s:List Int} (h:(br (s,[])).2.isNil=true):(br (s,[])).1.length=s.length/\(∀j,j < s.length->1<=(nth (.int .i64) s j:Int)/\(nth (.int .i64) s j:Int)<=40)/\
  ee s s.length<=256/\∀i,i < s.length->(nth (.int .i64) (br (s,[])).1 i:Int)=ee s i:=by
 obtain ⟨_,_,h3,_,h5,h6⟩:=B2 h
 obtain ⟨r1,r2⟩:=Fg h3 s.length 0 (l:=[]) (o:=(br (s,[])).1) (by omega) oq.nil (by simp [ee]) h6 (by rw [List.drop_zero,List.take_zero];exact h5)
 exact ⟨h6,h3,r1,fun i hi=>r2 i (Nat.zero_le _) hi⟩
def bm (l:List (D aA)):List Int:=l.map fun o=>(o.2.1.length:Int)
def bx (l:List (D aA)):Ws:=l.map fun o=>o.2.1
theorem kO (l:List (D aA)):(bm l).length=l.length:=by simp [bm]
theorem jq (l:List (D aA)):(bx l).length=l.length:=by simp [bx]
theorem AH {t u:Ty} {f:D u->D t} {l:List (D u)} {i:Nat} (h:i < l.length):nth t (l.map f) i=f (nth u l i):=by
 unfold nth;rw [List.getD_eq_getElem?_getD,List.getD_eq_getElem?_getD,List.getElem?_map,List.getElem?_eq_getElem h];rfl
theorem ot {l:List (D aA)} {i:Nat} (h:i < l.length):(nth (.int .i64) (bm l) i:Int)=((nth aA l i).2.1.length:Int):=AH (u:=aA) (t:=.int .i64) h
theorem ou {l:List (D aA)} {i:Nat} (h:i < l.length):nth dk (bx l) i=(nth aA l i).2.1:=AH (u:=aA) (t:=dk) h
theorem qW {l:List (D aA)} {i:Nat} (h:i < l.length):bm (l.take (i + 1))=bm (l.take i)++[((nth aA l i).2.1.length:Int)]:=by
 unfold bm;rw [kr (t:=aA) h];simp
theorem qX {l:List (D aA)} {i:Nat} (h:i < l.length):bx (l.take (i + 1))=bx (l.take i)++[(nth aA l i).2.1]:=by
 unfold bx;rw [kr (t:=aA) h];simp
noncomputable def B4 (l:List (D aA)) (b:List Int) (i:Nat) (ts:List (D aN)):List Pt:=ts.map fun t=>((i:Int),t.1,(db l b i t).1,())
noncomputable def pY (l:List (D aA)) (b:List Int):List (D aA)->Nat->List Pt
 | [],_=>[]
 | o :: r,i=>B4 l b i o.2.2.2.1++pY l b r (i + 1)
theorem AI {l:List (D aA)} {b:List Int} {i:Nat}:∀{ts:List (D aN)} {out:List Pt},(hH l b i ts out).2.isNil=true->hH l b i ts out=(out++B4 l b i ts, .nil)/\∀t∈ts,(db l b i t).2.isNil=true
 | [],out,_=>⟨by simp [hH,B4],by simp⟩
 | t :: r,out,h=>by
  rw [hH] at h ⊢
  by_cases c:(db l b i t).2.isNil=true
  ·rw [if_pos c] at h ⊢
   obtain ⟨h1,h2⟩:=AI h
   refine ⟨by rw [h1];simp [B4],fun u hu => ?_⟩
   rcases List.mem_cons.1 hu with rfl | hu
   ·exact c
   ·exact h2 u hu
  ·rw [if_neg c] at h;exact absurd h c
theorem AJ {l:List (D aA)} {b:List Int}:∀{os:List (D aA)} {i:Nat} {out:List Pt},(gO l b os i out).2.isNil=true->gO l b os i out=(out++pY l b os i, .nil)/\
  ∀k,k < os.length->∀t∈(nth aA os k).2.2.2.1,(db l b ((i + k:Nat):Int) t).2.isNil=true
 | [],i,out,_=>⟨by simp [gO,pY],fun k hk=>by simp at hk⟩
 | o :: r,i,out,h=>by
  rw [gO] at h ⊢
  unfold il at h ⊢
  by_cases c:(hH l b i o.2.2.2.1 out).2.isNil=true
  ·rw [if_pos c] at h ⊢
   obtain ⟨h1,h2⟩:=AI c
   obtain ⟨h3,h4⟩:=AJ h
   refine ⟨by rw [h3,h1];simp [pY],fun k hk => ?_⟩
   rcases k with _ | k
   ·exact h2
   ·have:=h4 k (by simpa using hk)
    rw [show i + 1 + k=i + (k + 1) by omega] at this
    exact this
  ·rw [if_neg c] at h;exact absurd h c
theorem Fh {l:List (D aA)} {b:List Int} (h:(dm (l,b)).2.isNil=true):b.length=l.length/\jr b/\(dm (l,b)).1=pY l b l 0/\∀k,k < l.length->∀t∈(nth aA l k).2.2.2.1,(db l b (k:Int) t).2.isNil=true:=by
 have h':=h
 unfold dm at h ⊢
 split at h
 ·cases h
 ·rename_i hl
  split at h
  ·rename_i hb
   obtain ⟨h1,h2⟩:=AJ h
   refine ⟨Classical.byContradiction hl,hb,?_,fun k hk t ht=>by have:=h2 k hk t ht;rwa [Nat.zero_add] at this⟩
   rw [if_neg hl,if_pos hb,h1];rfl
  ·cases h
theorem xU {l:List (D aA)} {b:List Int}:∀{os:List (D aA)} {i:Nat} {p:Pt},p∈pY l b os i->∃k t,k < os.length/\t∈(nth aA os k).2.2.2.1/\p=(((i + k:Nat):Int),t.1,(db l b ((i + k:Nat):Int) t).1,())
 | [],i,p,h=>by simp [pY] at h
 | o :: r,i,p,h=>by
  rcases List.mem_append.1 h with h | h
  ·obtain ⟨t,ht,rfl⟩:=List.mem_map.1 h
   exact ⟨0,t,by simp,ht,rfl⟩
  ·obtain ⟨k,t,hk,ht,rfl⟩:=xU h
   exact ⟨k + 1,t,by simp;omega,ht,by rw [show i + 1 + k=i + (k + 1) by omega]⟩
theorem tp (x:List Int × List (D aL)):Told (br x).2:=by
 unfold br
 split
 ·rfl
 ·split
  ·rfl
  ·split <;> rfl
theorem Fi (x:Ws × List Pt):Told (dv x).2:=by
 unfold dv;split <;> rfl
theorem ov {e:aV} (h:Told e):aZ (dt e)=e:=by
 cases e with
 | nil=>rfl
 | no m=>
  have h':0 < m:=by have:=h;simpa [Told,qk,dt] using this
  have h2:¬ m=0:=by omega
  show aZ m=_
  unfold aZ
  rw [if_neg h2]
 | other=>unfold Told at h;simp [qk] at h
theorem xV {e:aV} (h:Told e) (hn:e.isNil=false):0 < dt e:=by
 cases e with
 | nil=>cases hn
 | no m=>
  have h':0 < m:=by have:=h;simpa [Told,qk,dt] using this
  exact h'
 | other=>unfold Told at h;simp [qk] at h
abbrev Rk:=List aF × List (D aA) × List Int × List Pt × Int
noncomputable def bg (rd:Rd) (root:aF):Rk:=
 if ¬ (aR rd root).2.2=0 then ([],[],[],[],(aR rd root).2.2)
 else if (br (bm (aR rd root).2.1,[])).2.isNil=false then ([],[],[],[],dt (br (bm (aR rd root).2.1,[])).2)
 else if (dm ((aR rd root).2.1,(br (bm (aR rd root).2.1,[])).1)).2.isNil=false then ([],[],[],[],dt (dm ((aR rd root).2.1,(br (bm (aR rd root).2.1,[])).1)).2)
 else ((aR rd root).1,(aR rd root).2.1,(br (bm (aR rd root).2.1,[])).1,(dm ((aR rd root).2.1,(br (bm (aR rd root).2.1,[])).1)).1,0)
theorem pZ {rd:Rd} {root:aF} (h:¬ (aR rd root).2.2=0):bg rd root=([],[],[],[],(aR rd root).2.2):=by unfold bg;rw [if_pos h]
theorem p0 {rd:Rd} {root:aF} (h:(aR rd root).2.2=0) (h1:(br (bm (aR rd root).2.1,[])).2.isNil=false):bg rd root=([],[],[],[],dt (br (bm (aR rd root).2.1,[])).2):=by
 unfold bg;rw [if_neg (not_not_intro h),if_pos h1]
theorem tq {rd:Rd} {root:aF} (h:(aR rd root).2.2=0) (h1:(br (bm (aR rd root).2.1,[])).2.isNil=true) (h2:(dm ((aR rd root).2.1,(br (bm (aR rd root).2.1,[])).1)).2.isNil=false) :
  bg rd root=([],[],[],[],dt (dm ((aR rd root).2.1,(br (bm (aR rd root).2.1,[])).1)).2):=by
 unfold bg;rw [if_neg (not_not_intro h),if_neg (by rw [h1];decide),if_pos h2]
theorem qY {rd:Rd} {root:aF} (h:(aR rd root).2.2=0) (h1:(br (bm (aR rd root).2.1,[])).2.isNil=true) (h2:(dm ((aR rd root).2.1,(br (bm (aR rd root).2.1,[])).1)).2.isNil=true) :
  bg rd root=((aR rd root).1,(aR rd root).2.1,(br (bm (aR rd root).2.1,[])).1,(dm ((aR rd root).2.1,(br (bm (aR rd root).2.1,[])).1)).1,0):=by
 unfold bg;rw [if_neg (not_not_intro h),if_neg (by rw [h1];decide),if_neg (by rw [h2];decide)]
structure jP (rd:Rd) (root:aF) (ns:List aF) (os:List (D aA)) (bs:List Int) (ps:List Pt):Prop where
 e:aR rd root=(ns,os,0)
 sc:Scope rd root ns os
 eb:br (bm os,[])=(bs, .nil)
 ea:dm (os,bs)=(ps, .nil)
 bl:bs.length=os.length
 bi:jr bs
 pt:ps=pY os bs os 0
 one:∀k,k < os.length->∀t∈(nth aA os k).2.2.2.1,(db os bs (k:Int) t).2.isNil=true
 H9:∀i,i < ps.length->nc (bx os) (nth bp ps i)
theorem vr {e:aV} (h:e.isNil=true):e = .nil:=by cases e <;> first | rfl | cases h
theorem Scope.obj {rd:Rd} {root:aF} {ns:List aF} {os:List (D aA)} (ok:er rd) (h:Scope rd root ns os) {i:Nat} (hi:i < os.length):eZ (nth aA os i):=by
 have:=h.AD i (by rw [<-h.len];exact hi)
 rw [this.2];exact rT ok this.1
theorem eZ.Fj {o:D aA} (h:eZ o):F4 o:=by
 refine ⟨by have:=h.t6;omega,fun i hi => ?_,fun i hi => ?_⟩
 ·have:=(h.sym hi).2;unfold jk at this;unfold Small;omega
 ·have:=h.tie hi
  have a:=this.a
  have w:=this.w
  unfold jk at a w
  unfold Small Word
  omega
theorem Scope.Fj {rd:Rd} {root:aF} {ns:List aF} {os:List (D aA)} (ok:er rd) (h:Scope rd root ns os):dV os:=⟨by have:=h.le;have:=h.len;omega,fun _ hi=>(h.obj ok hi).Fj⟩
theorem DI {a n:Int} (h:a<=n - 1):a < n:=by omega
theorem zG {o:D aA} (h:bE o=0):cW o.2.1.length [] o.2.2.1=0/\eO o.2.1.length none o.2.2.2.1=0:=by
 unfold bE at h
 split at h
 ·cases h
 ·split at h
  ·rename_i h1;exact absurd h h1
  ·split at h
   ·rename_i h2;exact absurd h h2
   ·split at h
    ·rename_i h3;exact absurd h h3
    ·rename_i h3;exact ⟨Classical.byContradiction h3,h⟩
theorem B5 {o:D aA} (h:bE o=0) {t:D aN} (ht:t∈o.2.2.2.1):0<=t.1/\t.1 < (o.2.1.length:Int):=by
 obtain ⟨p,hp⟩:=oe _ _ _ (zG h).2 t ht
 obtain ⟨⟨a,b⟩,_⟩:=ve hp
 exact ⟨a,DI b⟩
theorem Scope.fault {rd:Rd} {root:aF} {ns:List aF} {os:List (D aA)} (ok:er rd) (h:Scope rd root ns os) {i:Nat} (hi:i < os.length):bE (nth aA os i)=0:=by
 have:=h.AD i (by rw [<-h.len];exact hi)
 rw [this.2];exact tm (lG ok this.1).2
theorem p3 {rd:Rd} (ok:er rd) (root:aF):(∃f,0 < f/\bg rd root=([],[],[],[],f))\/(∃ns os bs ps,bg rd root=(ns,os,bs,ps,0)/\jP rd root ns os bs ps):=by
 rcases qV ok root with ⟨f,hf,e⟩ | ⟨ns,os,e,sc⟩
 ·exact .inl ⟨f,hf,by rw [pZ (by rw [e];simp only;omega),e]⟩
 ·have e0:(aR rd root).2.2=0:=by rw [e]
  have e1:(aR rd root).2.1=os:=by rw [e]
  have e2:(aR rd root).1=ns:=by rw [e]
  cases hb:(br (bm os,[])).2.isNil with
  | false=>exact .inl ⟨_,xV (tp _) hb,by rw [p0 e0 (by rw [e1];exact hb),e1]⟩
  | true=>
   cases ha:(dm (os,(br (bm os,[])).1)).2.isNil with
   | false=>exact .inl ⟨_,xV (xx _) ha,by rw [tq e0 (by rw [e1];exact hb) (by rw [e1];exact ha),e1]⟩
   | true=>
    obtain ⟨a1,a2,a3,a4⟩:=Fh ha
    refine .inr ⟨ns,os,_,_,by rw [qY e0 (by rw [e1];exact hb) (by rw [e1];exact ha),e1,e2],e,sc,Prod.ext rfl (vr hb),Prod.ext rfl (vr ha),a1,a2,a3,a4,fun i hi => ?_⟩
    obtain ⟨k,t,hk,ht,hp⟩:=xU (by rw [<-a3];exact eD (t:=bp) hi)
    rw [hp]
    have:=B5 (sc.fault ok hk) ht
    refine ⟨by simp only;omega,by simp only;rw [jq];omega,this.1,?_⟩
    simp only [Nat.zero_add]
    rw [show ((k:Int)).toNat=k from rfl,ou hk]
    exact this.2
def cO (ns:List aF) (bs:List Int) (w:Ws) (n:Nat):List (D aY):=(List.range n).map fun i=>(nth .str ns i,nth (.int .i64) bs i,nth dk w i,())
theorem ow (ns:List aF) (bs:List Int) (w:Ws) (n:Nat):(cO ns bs w n).length=n:=by simp [cO]
theorem qZ (ns:List aF) (bs:List Int) (w:Ws) (n:Nat):cO ns bs w (n + 1)=cO ns bs w n++[(nth .str ns n,nth (.int .i64) bs n,nth dk w n,())]:=by simp [cO,List.range_succ]
theorem ox {ns:List aF} {bs:List Int} {w:Ws} {n i:Nat} (h:i < n):nth aY (cO ns bs w n) i=(nth .str ns i,nth (.int .i64) bs i,nth dk w i,()):=by
 apply dz;simp [cO,h]
noncomputable def fT (ns:List aF) (bs:List Int) (os:List (D aA)) (ps:List Pt):List (D aY) × aV:=
 if ¬ ns.length=os.length\/¬ bs.length=os.length then ([], .no 3)
 else if (dv (bx os,ps)).2.isNil=false then ([],(dv (bx os,ps)).2)
 else (cO ns bs (dv (bx os,ps)).1 os.length, .nil)
theorem tt {ns:List aF} {bs:List Int} {os:List (D aA)} {ps:List Pt} (h:¬ ns.length=os.length\/¬ bs.length=os.length):fT ns bs os ps=([], .no 3):=by unfold fT;rw [if_pos h]
theorem Fk {ns:List aF} {bs:List Int} {os:List (D aA)} {ps:List Pt} (h:ns.length=os.length) (h':bs.length=os.length) (hp:(dv (bx os,ps)).2.isNil=false):fT ns bs os ps=([],(dv (bx os,ps)).2):=by
 unfold fT;rw [if_neg (by rintro (e | e);exact e h;exact e h'),if_pos hp]
theorem uf {ns:List aF} {bs:List Int} {os:List (D aA)} {ps:List Pt} (h:ns.length=os.length) (h':bs.length=os.length) (hp:(dv (bx os,ps)).2.isNil=true):fT ns bs os ps=(cO ns bs (dv (bx os,ps)).1 os.length, .nil):=by
 unfold fT;rw [if_neg (by rintro (e | e);exact e h;exact e h'),if_neg (by rw [hp];decide)]
theorem Fl (ns:List aF) (bs:List Int) (os:List (D aA)) (ps:List Pt):Told (fT ns bs os ps).2:=by
 unfold fT;split
 ·rfl
 ·split
  ·exact Fi _
  ·rfl
noncomputable def dq (rd:Rd) (root:aF):List (D aY) × Int:=
 if ¬ (bg rd root).2.2.2.2=0 then ([],(bg rd root).2.2.2.2)
 else ((fT (bg rd root).1 (bg rd root).2.2.1 (bg rd root).2.1 (bg rd root).2.2.2.1).1,dt (fT (bg rd root).1 (bg rd root).2.2.1 (bg rd root).2.1 (bg rd root).2.2.2.1).2)
theorem jP.put {rd:Rd} {root:aF} {ns:List aF} {os:List (D aA)} {bs:List Int} {ps:List Pt} (h:jP rd root ns os bs ps):dv (bx os,ps)=(eo (bx os) ps, .nil):=qm h.H9
theorem jP.lay {rd:Rd} {root:aF} {ns:List aF} {os:List (D aA)} {bs:List Int} {ps:List Pt} (h:jP rd root ns os bs ps):fT ns bs os ps=(cO ns bs (eo (bx os) ps) os.length, .nil):=by
 rw [uf h.sc.len.symm h.bl (by rw [h.put];rfl),h.put]
theorem xW {rd:Rd} {root:aF} (h:¬ (bg rd root).2.2.2.2=0):dq rd root=([],(bg rd root).2.2.2.2):=by unfold dq;rw [if_pos h]
theorem GI {rd:Rd} {root:aF} {ns:List aF} {os:List (D aA)} {bs:List Int} {ps:List Pt} (e:bg rd root=(ns,os,bs,ps,0)) (h:jP rd root ns os bs ps):dq rd root=(cO ns bs (eo (bx os) ps) os.length,0):=by
 unfold dq;rw [e,if_neg (by simp),h.lay];rfl
theorem tu {rd:Rd} (ok:er rd) (root:aF):(∃f,0 < f/\bg rd root=([],[],[],[],f)/\dq rd root=([],f))\/
  (∃ns os bs ps,bg rd root=(ns,os,bs,ps,0)/\jP rd root ns os bs ps/\dq rd root=(cO ns bs (eo (bx os) ps) os.length,0)):=by
 rcases p3 ok root with ⟨f,hf,e⟩ | ⟨ns,os,bs,ps,e,h⟩
 ·exact .inl ⟨f,hf,e,by rw [xW (by rw [e];simp only;omega),e]⟩
 ·exact .inr ⟨ns,os,bs,ps,e,h,GI e h⟩
theorem jP.DJ {rd:Rd} {root:aF} {ns:List aF} {os:List (D aA)} {bs:List Int} {ps:List Pt} (h:jP rd root ns os bs ps) {i:Nat} (hi:i < os.length):(nth dk (eo (bx os) ps) i).length=(nth aA os i).2.1.length:=by
 rw [l8,ou hi]
theorem jP.sum {rd:Rd} {root:aF} {ns:List aF} {os:List (D aA)} {bs:List Int} {ps:List Pt} (h:jP rd root ns os bs ps) :
  (∀j,j < os.length->1<=(nth aA os j).2.1.length/\(nth aA os j).2.1.length<=40)/\ee (bm os) os.length<=256/\∀i,i < os.length->(nth (.int .i64) bs i:Int)=ee (bm os) i:=by
 have hb:(br (bm os,[])).2.isNil=true:=by rw [h.eb];rfl
 have hn:(br (bm os,[])).1=bs:=by rw [h.eb]
 obtain ⟨_,h2,h3,h4⟩:=DH hb
 rw [hn] at h4
 have hl:=kO os
 refine ⟨fun j hj => ?_,by rw [hl] at h3;exact h3,fun i hi=>h4 i (by omega)⟩
 have:=h2 j (by omega)
 rw [ot hj] at this
 exact ⟨Int.ofNat_le.1 this.1,Int.ofNat_le.1 this.2⟩
theorem jP.apart {rd:Rd} {root:aF} {ns:List aF} {os:List (D aA)} {bs:List Int} {ps:List Pt} (h:jP rd root ns os bs ps) {i j:Nat} (hij:i < j) (hj:j < os.length) :
  (nth (.int .i64) bs i:Int) + (nth aA os i).2.1.length<=nth (.int .i64) bs j:=by
 obtain ⟨h1,h2,h3⟩:=h.sum
 have hs:∀j,j < (bm os).length->1<=(nth (.int .i64) (bm os) j:Int)/\(nth (.int .i64) (bm os) j:Int)<=40:=by
  intro k hk
  rw [kO] at hk
  rw [ot hk]
  have:=h1 k hk
  exact ⟨Int.ofNat_le.2 this.1,Int.ofNat_le.2 this.2⟩
 have hm:=B3 hs (j - (i + 1)) (i + 1) (by rw [kO];omega)
 rw [show i + 1 + (j - (i + 1))=j by omega] at hm
 have e:ee (bm os) (i + 1)=ee (bm os) i + bA (nth (.int .i64) (bm os) i):=rfl
 have hr:=(zF (n:=nth (.int .i64) (bm os) i)).1
 rw [ot (by omega)] at hr e
 rw [h3 i (by omega),h3 j hj]
 exact Int.le_trans (Int.add_le_add_left hr _) (e▸hm)
end Go.Mrl

namespace Go.Mrl
open Go.Vg
def jt (p:D aY) (a:Int):Prop:=(p.2.1:Int)<=a/\a < (p.2.1:Int) + (p.2.2.1.length:Int)
instance (p:D aY) (a:Int):Decidable (jt p a):=inferInstanceAs (Decidable (_/\_))
def eA:List (D aY)->Int->Int × Bool
 | [],_=>(0,false)
 | p :: l,a=>if jt p a then (nth (.int .i64) p.2.2.1 (a - p.2.1).toNat,true) else eA l a
def xX (l:List (D aY)):Prop:=∀i,i < l.length->(0:Int)<=(nth aY l i).2.1/\(nth aY l i).2.1<=(1000000:Int)/\(nth aY l i).2.2.1.length<=1000000
theorem Fm {l:List (D aY)} {a:Int} {i:Nat} (h:i < l.length) (e:eA (l.drop i) a=eA l a) (h1:((nth aY l i).2.1:Int)<=a) (h2:a < ((nth aY l i).2.1:Int) + ((nth aY l i).2.2.1.length:Int)) :
  eA l a=(nth (.int .i64) (nth aY l i).2.2.1 (a - (nth aY l i).2.1).toNat,true):=by
 rw [<-e,cP h];exact if_pos ⟨h1,h2⟩
theorem Fo {l:List (D aY)} {a:Int} {i:Nat} (h:i < l.length) (e:eA (l.drop i) a=eA l a) (hn:¬ (a>=(nth aY l i).2.1/\a < (nth aY l i).2.1 + ((nth aY l i).2.2.1.length:Int))) :
  eA (l.drop (i + 1)) a=eA l a:=by
 rw [<-e,cP h];exact (if_neg hn).symm
theorem GJ {l:List (D aY)} {a:Int} {i:Nat} (h:¬ i < l.length) (e:eA (l.drop i) a=eA l a):eA l a=(0,false):=by
 rw [<-e,List.drop_eq_nil_of_le (by omega)];rfl
theorem DK {rd:Rd} (ok:er rd) {root:aF} (h:(aR rd root).2.2=0):(aR rd root).2.1.length<=6:=by
 have:=(rU ok h).le;have:=(rU ok h).len;omega
theorem B6 {rd:Rd} (ok:er rd) {root:aF} (h:(aR rd root).2.2=0):dV (aR rd root).2.1:=(rU ok h).Fj ok
theorem GK {l:List (D aA)} (h:l.length<=1000/\∀i,i < l.length->(nth aA l i).2.1.length<=1000) :
  (bx l).length<=100000/\∀i,i < (bx l).length->(nth dk (bx l) i).length<=100000000:=by
 refine ⟨by rw [jq];omega,fun i hi => ?_⟩
 rw [jq] at hi
 rw [ou hi];have:=h.2 i hi;omega
theorem B7 {rd:Rd} (ok:er rd) {root:aF} {ns:List aF} {os:List (D aA)} (h:Scope rd root ns os):os.length<=1000/\∀i,i < os.length->(nth aA os i).2.1.length<=1000:=by
 refine ⟨by have:=h.le;have:=h.len;omega,fun i hi => ?_⟩
 exact Nat.le_trans (h.obj ok hi).Ht (by decide)
theorem xY {rd:Rd} (ok:er rd) {root:aF} (h:(bg rd root).2.2.2.2=0) :
  (bg rd root).2.1.length<=1000/\∀i,i < (bg rd root).2.1.length->(nth aA (bg rd root).2.1 i).2.1.length<=1000:=by
 rcases p3 ok root with ⟨f,hf,e⟩ | ⟨ns,os,bs,ps,e,hr⟩
 ·rw [e] at h;simp at h;omega
 ·rw [e];exact B7 ok hr.sc
theorem Fp {rd:Rd} {root:aF} (h:(bg rd root).2.2.2.2=0) :
  ((fT (bg rd root).1 (bg rd root).2.2.1 (bg rd root).2.1 (bg rd root).2.2.2.1).1,(fT (bg rd root).1 (bg rd root).2.2.1 (bg rd root).2.1 (bg rd root).2.2.2.1).2,()) =
   ((dq rd root).1,aZ (dq rd root).2,()):=by
 unfold dq;rw [if_neg (not_not_intro h)]
 simp only [ov (Fl _ _ _ _)]
theorem vt {f:Int} (h:(aZ f).isNil=false):¬ f=0:=fun e=>by rw [bc.2 e] at h;cases h
theorem Fq (x:List (D aA) × List Int):aZ (dt (dm x).2)=(dm x).2:=ov (xx x)
theorem tw {rd:Rd} (ok:er rd) (root:aF):xX (dq rd root).1:=by
 rcases tu ok root with ⟨f,hf,e,el⟩ | ⟨ns,os,bs,ps,e,hr,el⟩
 ·rw [el];intro i hi;simp at hi
 ·rw [el];intro i hi
  rw [ow] at hi
  rw [ox hi]
  have hb:=hr.bi i (by rw [hr.bl];exact hi)
  have hl:=hr.DJ hi
  have hw:=(hr.sc.obj ok hi).Ht
  exact ⟨hb.1,Int.le_trans hb.2 (by decide),Nat.le_trans (Nat.le_of_eq hl) (Nat.le_trans hw (by decide))⟩
end Go.Mrl

namespace Go.Mrl
open Go.Vg
section
variable {o:D aA} {b:Bool} {w:List aF} {k:Nat}
end
theorem eT {k n:Nat} (h:(k:Int) < (n:Int)):(decide ((k:Int) < 3))=true ↔ ((k:Int) < (n:Int)/\(k:Int) < 3):=by
 rw [decide_eq_true_eq];omega
end Go.Mrl

namespace Go.Mrl
open Go.Vg
def F8 (e:D di):Prop:=e.2.1.length < 1\/e.2.1.length > 6\/e.2.2.1.length > 36
instance (e:D di):Decidable (F8 e):=by unfold F8;infer_instance
end Go.Mrl

namespace Go.Mrl
open Go.Vg
end Go.Mrl

namespace Go.Mrl
open Go.Vg
end Go.Mrl

namespace Go.Mrl
open Go.Vg
theorem DL {rd:Rd} {root:aF} {ns:List aF} {os:List (D aA)} {bs:List Int} {ps:List Pt} {w:Ws} (h:aR rd root=(ns,os,0)) (hb:br (bm os,[])=(bs, .nil)) (ha:dm (os,bs)=(ps, .nil))
  (hn:ns.length=os.length) (hl:bs.length=os.length) (hp:∀i,i < ps.length->nc (bx os) (nth bp ps i)) (hw:eo (bx os) ps=w):dq rd root=(cO ns bs w os.length,0):=by
 have e:bg rd root=(ns,os,bs,ps,0):=by
  unfold bg
  rw [h]
  simp only [hb,ha,aV.isNil]
  rfl
 unfold dq
 rw [e,if_neg (by simp)]
 have hq:dv (bx os,ps)=(w, .nil):=by rw [qm hp,hw]
 simp only
 rw [uf hn hl (by rw [hq];rfl),hq]
 rfl
def rV:aF:=[110,101,101,100,32,98,10,119,111,114,100,32,48,10,119,104,111,108,101,32,48,32,48,32,120,10]
def ug:aF:=[119,111,114,100,32,55,10,115,121,109,98,111,108,32,120,32,48,10]
abbrev gJ:D aA:=([[98]],[0],[],[(0,2,0,[120],false,())],())
abbrev jQ:D aA:=([],[7],[([120],0,false,())],[],())
theorem F9:bZ rV=(gJ,0):=by
 have i0:Lib.itoa 0 = [48]:=by rw [rM (by decide) (by decide)];rfl
 refine qu (by decide) (by decide) ?_
 simp only [c7,dD,gu,gr,iI,od,me,mE,c6,List.length_singleton,List.length_nil,List.take_succ_cons,List.take_zero,List.flatMap_cons,List.flatMap_nil,i0]
 decide
theorem Ga:bZ ug=(jQ,0):=by
 have i7:Lib.itoa 7 = [55]:=by rw [rM (by decide) (by decide)];rfl
 have i0:Lib.itoa 0 = [48]:=by rw [rM (by decide) (by decide)];rfl
 refine qu (by decide) (by decide) ?_
 simp only [c7,dD,gu,gr,iI,me,rN,c6,List.length_singleton,List.length_nil,List.take_succ_cons,List.take_zero,List.flatMap_cons,List.flatMap_nil,i7,i0]
 decide
def Ia:dW:=(bX l9 [97] rV).1
def tx:dW:=(bX Ia [98] ug).1
theorem Hz:bt tx [97]=(rV,1,0):=by decide
theorem HA:bt tx [98]=(ug,2,0):=by decide
theorem HU:aR (bt tx) [97]=([[97],[98]],[gJ,jQ],0):=by
 have fa:b7 (bt tx) [97]=0:=by unfold b7;rw [Hz];show (if (0:Int)=0 then (bZ rV).2 else 0)=0;rw [F9];rfl
 have fb:b7 (bt tx) [98]=0:=by unfold b7;rw [HA];show (if (0:Int)=0 then (bZ ug).2 else 0)=0;rw [Ga];rfl
 have oa:ez (bt tx) [97]=gJ:=by unfold ez;rw [Hz];show (bZ rV).1=gJ;rw [F9]
 have ob:ez (bt tx) [98]=jQ:=by unfold ez;rw [HA];show (bZ ug).1=jQ;rw [Ga]
 have n0:nth .str [[97]] 0 = [97]:=rfl
 have n1:nth .str [[97],[98]] 1 = [98]:=rfl
 have a0:cr [[97]] gJ.1 = [[97],[98]]:=by decide
 have a1:cr [[97],[98]] jQ.1 = [[97],[98]]:=by decide
 unfold aR
 rw [hU,if_pos (by decide),n0,if_pos fa,oa,a0,hU,if_pos (by decide),n1,if_pos fb,ob,a1,hU,if_neg (by decide)]
 rfl
theorem GL:bL ([gJ,jQ],[120])=(1,0):=by
 refine lr (i:=1) (k:=0) ⟨⟨by decide,by decide,rfl,rfl⟩,?_⟩
 rintro i k (h | ⟨_,h⟩) ⟨_,h1,_,h2⟩
 ·obtain rfl:i=0:=by omega
  exact absurd (show k < 0 from h1) (Nat.not_lt_zero _)
 ·omega
theorem GM:dq (bt tx) [97]=([([97],0,[16],()),([98],16,[7],())],0):=by
 refine DL HU (bs:=[0,16]) (ps:=[(0,0,16,())]) (w:=[[16],[7]]) rfl ?_ rfl rfl ?_ rfl
 ·rw [ua rfl (by
   intro i hi
   have:i=0\/i=1:=by simp at hi;omega
   rcases this with rfl | rfl <;> simp [nth])]
  have h1:db [gJ,jQ] [0,16] 0 (0,2,0,[120],false,())=(16, .nil):=by
   have ht:b6 [gJ,jQ] [0,16] (0,2,0,[120],false,())=(16, .nil):=by
    unfold b6
    show (if 0<=(bL ([gJ,jQ],[120])).1 then (jg [0,16] (bL ([gJ,jQ],[120])).1.toNat + (nth aG (nth aA [gJ,jQ] (bL ([gJ,jQ],[120])).1.toNat).2.2.1 (bL ([gJ,jQ],[120])).2.toNat).2.1,aV.nil) else _)=_
    rw [GL];rfl
   rw [nf (by decide) (by rw [ht];rfl),ht]
   exact ub (by decide) rfl (by decide)
  simp [gO,hH,il,h1,aV.isNil]
 ·intro i hi
  obtain rfl:i=0:=by simp at hi;omega
  unfold nc;decide
def DM:dW:=((0 + 1 + 1,()),(cC b9 (cC b9 [] [97] (rV,0 + 1,()) 0) [98] (ug,0 + 1 + 1,()) (fC b9 [] [97] 0),fC b9 (cC b9 [] [97] (rV,0 + 1,()) 0) [98] (fC b9 [] [97] 0),()),())
theorem HV:tx=DM:=rfl
theorem rW:dq (bt DM) [97]=([([97],0,[16],()),([98],16,[7],())],0):=by rw [<-HV];exact GM
end Go.Mrl

namespace Go.Vg
open Go
theorem zH {H:Type} {enc:TypeId × Value->H} {a:Assume} {C:Checked} {os:Os} {f:FuncId} {fn:Func} {s:ChangeSpec} {conds:List PathCond} {apart fresh handsOn again:Bool} {X:World->Array Value->Prop}
  (hX:∀(w w':World) (args:Array Value),w.heap=w'.heap->X w args->X w' args)
  (own:ownKnob C.prog.godebug=none) (started:os.Started) (noInit:C.prog.inits.idxOf? f=none) (hfn:C.prog.funcs[f]?=some fn)
  (witness:∃(w:World) (tape:Tape) (i:Input),w.os=os/\(w.forCall tape i).Shaped C.prog/\i.vars = []/\Input.okWide C.prog (w.forCall tape i) .any w.heap.size f i/\
   ((s.pre enc C.prog fn conds apart (w.forCall tape i).memory i.args/\X (w.forCall tape i).memory i.args)/\sizedMet enc C.prog fn (OpenSpec.ofChange s) apart (w.forCall tape i).memory i.args)/\a.holds C.prog (lone (Frame.enter C.prog f i.args .normal) [] (w.forCall tape i)))
  (contract:∀(W:World) (base:Nat) (args:Array Value) (ds gs:List (DataW H)) (before:List MemPlace),
   (∀(j:Nat) t v,fn.params[j]?=some t->args[j]?=some v->Value.okWide C.prog W .any base t v)->
   DataW.Whole enc C.prog fn.params.toList s.vars apart W args.toList ds gs before->
   X W args->W.ShapedOpen C.prog->
   Calls C.prog f args W fun e W'=>∃v,e = .returned v/\s.post enc C.prog fn apart fresh handsOn again W args v W') :
  ReturnsInHanded a C os f .any (fun w args=>(s.pre enc C.prog fn conds apart w args/\X w args)/\sizedMet enc C.prog fn (OpenSpec.ofChange s) apart w args) (s.post enc C.prog fn apart fresh handsOn again):=by
 refine returnsInHanded_of_calls own started noInit witness ?_
 intro w tape i _ hsh _ hok hpre hholds
 obtain ⟨_,_,_,fn',hfn',_,_,_,_,hval⟩:=hok
 have e:fn'=fn:=Option.some.inj (hfn'.symm.trans hfn)
 subst e
 obtain ⟨⟨⟨ds,gs,before,hw,hc⟩,hx⟩,hz⟩:=hpre
 have hw':=DataW.Whole.of_heap (w':=w.forCall tape i) (by rfl) hw
 refine (contract (w.forCall tape i) w.heap.size i.args ds gs before hval hw' (hX _ _ _ (by rfl) hx) hsh).mono fun e W' ⟨v,he,hp⟩ => ?_
 subst he
 exact ChangeSpec.post_blind hp
theorem xZ {P:Program} {w:World} {g:Nat} {t:TypeId} {zero:Array Value} (h:w.ShapedOpen P) (hg:g < P.globals.size)
  (h0:((begin P (fun _ _=>0) default).world.heap[g]?).bind Obj.row?=some (zero,t)) (hz:zero.size=1)
  (hb:P.buildable t=true) (hc:P.cellTypes P.depth t=some [t]) (hu:P.underlying t=some (.int .i64)):∃m,w.cell? ⟨g,0,none⟩=some (.int .i64 m):=by
 obtain ⟨cs,hh,hs,hr⟩:=h.1 g zero t hg h0
 obtain ⟨ts,hts,_,hall⟩:=hr hb
 rw [hc] at hts
 cases hts
 have h1:0 < cs.size:=by omega
 obtain ⟨u,hu',hok⟩:=hall 0 cs[0] (by simp [h1])
 have:u=t:=by simpa using hu'.symm
 subst this
 have hcell:w.cell? ⟨g,0,none⟩=some cs[0]:=by simp [World.cell?,hh,h1]
 rw [hcell]
 unfold Cell.ok at hok
 rw [hu] at hok
 cases hv:cs[0] <;> rw [hv] at hok <;> first | exact hok.elim | (obtain ⟨rfl,_⟩:=hok;exact ⟨_,rfl⟩) | simp at hok
def Gb:Option TypeDesc->Bool
 | some (.interface _)=>true
 | _=>false
theorem np {P:Program} {W:World} {name nm:String} {d:DataW Unit} {g:Nat} {t:TypeId}
  (hg:P.globalNamed name=some g) (hty:(P.globals[g]?).map (·.type)=some t) (hi:Gb (P.underlying t)=true)
  (h:Lib.VarReads P W name (.iface nm d)):∃ev,W.cell? ⟨g,0,none⟩=some ev/\(ev = .nilIface\/∃te pe,ev = .iface te pe):=by
 obtain ⟨g',t',cs,fuel,p,hg',ht',hvar,hd⟩:=h
 obtain rfl:=Option.some.inj (hg.symm.trans hg')
 obtain rfl:=Option.some.inj (hty.symm.trans ht')
 have hc:=World.var?_cell hg hvar 0
 obtain ⟨ms,hu⟩:∃ms,P.underlying t=some (.interface ms):=by
  unfold Gb at hi
  split at hi
  ·rename_i ms hm;exact ⟨ms,hm⟩
  ·cases hi
 cases fuel with
 | zero=>simp [DataW.trod] at hd
 | succ n=>
  cases hl:cs.toList with
  | nil=>rw [hl] at hd;simp [DataW.trod,hu] at hd
  | cons v r=>
   have h0:cs[0]?=some v:=by rw [<-Array.getElem?_toList,hl];rfl
   rw [h0] at hc
   refine ⟨v,hc,?_⟩
   rw [hl] at hd
   cases v <;> first | exact .inl rfl | exact .inr ⟨_,_,rfl⟩ | (simp [DataW.trod,hu] at hd)
theorem x3 {P:Program} {W:World} {name:String} {k:IntKind} {zs:List Int} {g:Nat} {t e:TypeId} {n:Nat}
  (hg:P.globalNamed name=some g) (hty:(P.globals[g]?).map (·.type)=some t) (ht:P.underlying t=some (.array n e)) (he:P.underlying e=some (.int k)) (hce:P.cellsOf e=1) (hct:P.cellsOf t=n)
  (h:Lib.VarReads P W name (Lib.tabData k zs)):Lib.TabIs P W name k zs:=by
 obtain ⟨g',t',cs,fuel,p,hg',ht',hvar,hd⟩:=h
 obtain rfl:=Option.some.inj (hg.symm.trans hg')
 obtain rfl:=Option.some.inj (hty.symm.trans ht')
 unfold Lib.TabIs
 rw [hvar,<-Lib.cells_of_tab ht he hce hct hd]
end Go.Vg

namespace Go.Mrl
open Go.Vg
theorem ba.ok {x:dW} (h:ba x):er (bt x):=fu h.pre.1
end Go.Mrl

namespace Go.Mrl
open Go.Vg
def B8 (l:List (D aY)) (a:Int):Prop:=∀i j,i < l.length->j < l.length->jt (nth aY l i) a->jt (nth aY l j) a->i=j
theorem rX (p:D aY) (l:List (D aY)) (a:Int):eA (p :: l) a=if jt p a then (nth (.int .i64) p.2.2.1 (a - p.2.1).toNat,true) else eA l a:=rfl
theorem AK:∀{l:List (D aY)} {a:Int},(∀j,j < l.length->¬ jt (nth aY l j) a)->eA l a=(0,false)
 | [],_,_=>rfl
 | p :: l,a,h=>by
  rw [rX,if_neg (show ¬ jt p a from h 0 (by simp))]
  exact AK fun j hj=>h (j + 1) (by simp;omega)
theorem tz:∀{l:List (D aY)} {a:Int} {k:Nat},B8 l a->k < l.length->jt (nth aY l k) a->
  eA l a=(nth (.int .i64) (nth aY l k).2.2.1 (a - (nth aY l k).2.1).toNat,true)
 | [],_,_,_,h,_=>absurd h (Nat.not_lt_zero _)
 | p :: l,a,0,_,_,hp=>by rw [rX];exact if_pos hp
 | p :: l,a,k + 1,h1,hk,hp=>by
  have hn:¬ jt p a:=fun e=>by
   have:=h1 0 (k + 1) (by simp) hk e hp
   omega
  rw [rX,if_neg hn]
  refine tz (k:=k) (fun i j hi hj e1 e2 => ?_) (by simp at hk;omega) hp
  have:=h1 (i + 1) (j + 1) (by simp;omega) (by simp;omega) e1 e2
  omega
theorem oy {rd:Rd} (ok:er rd) (root:aF) (a:Int):B8 (dq rd root).1 a:=by
 rcases tu ok root with ⟨f,hf,e,el⟩ | ⟨ns,os,bs,ps,e,hr,el⟩
 ·rw [el];intro i j hi;simp at hi
 ·rw [el]
  have key:∀i j,i < j->j < os.length->jt (nth aY (cO ns bs (eo (bx os) ps) os.length) i) a->jt (nth aY (cO ns bs (eo (bx os) ps) os.length) j) a->False:=by
   intro i j hij hj h1 h2
   rw [ox (by omega)] at h1
   rw [ox hj] at h2
   have ha:=hr.apart hij hj
   have hl:=hr.DJ (i:=i) (by omega)
   have h1:=h1.2
   have h2:=h2.1
   simp only [hl] at h1
   exact absurd (Int.lt_of_lt_of_le h1 (Int.le_trans ha h2)) (Int.lt_irrefl _)
  intro i j hi hj h1 h2
  rw [ow] at hi hj
  rcases Nat.lt_trichotomy i j with h | h | h
  ·exact (key i j h hj h1 h2).elim
  ·exact h
  ·exact (key j i h hi h2 h1).elim
def fo (l:List (D aY)) (a:Int) (i:Nat) (m:Int):Prop:=(m=0/\∀j,j < i->¬ jt (nth aY l j) a)\/(m=1/\∃k,k < i/\jt (nth aY l k) a)
theorem fo.zero (l:List (D aY)) (a:Int):fo l a 0 0:=.inl ⟨rfl,fun j hj=>absurd hj (Nat.not_lt_zero _)⟩
theorem fo.range {l:List (D aY)} {a m:Int} {i:Nat} (h:fo l a i m):0<=m/\m<=1:=by
 rcases h with ⟨h,_⟩ | ⟨h,_⟩ <;> omega
theorem fo.skip {l:List (D aY)} {a m:Int} {i:Nat} (h:fo l a i m) (hn:¬ jt (nth aY l i) a):fo l a (i + 1) m:=by
 rcases h with ⟨h,h'⟩ | ⟨h,k,hk,h'⟩
 ·exact .inl ⟨h,fun j hj=>by
   rcases Nat.lt_or_ge j i with e | e
   ·exact h' j e
   ·obtain rfl:j=i:=by omega
    exact hn⟩
 ·exact .inr ⟨h,k,by omega,h'⟩
theorem fo.take {l:List (D aY)} {a m:Int} {i:Nat} (one:B8 l a) (h:fo l a i m) (hi:i < l.length) (hp:jt (nth aY l i) a):fo l a (i + 1) (m + 1):=by
 rcases h with ⟨h,h'⟩ | ⟨h,k,hk,h'⟩
 ·exact .inr ⟨by omega,i,by omega,hp⟩
 ·have:=one k i (by omega) hi h' hp
  omega
theorem fo.done {l:List (D aY)} {a m:Int} {i:Nat} (one:B8 l a) (h:fo l a i m) (hi:i=l.length):(eA l a).2=decide (m=1):=by
 rcases h with ⟨h,h'⟩ | ⟨h,k,hk,h'⟩
 ·rw [AK fun j hj=>h' j (by omega),h];rfl
 ·rw [tz one (by omega) h',h];rfl
theorem x4 {p:D aY} {a:Int} (h1:a>=p.2.1) (h2:a - p.2.1 < (p.2.2.1.length:Int)):jt p a:=⟨h1,by have:a - p.2.1 < (p.2.2.1.length:Int):=h2;show a < (p.2.1:Int) + (p.2.2.1.length:Int);omega⟩
theorem Fs {p:D aY} {a:Int} (h:a < (p.2.1:Int)):¬ jt p a:=fun e=>absurd h (Int.not_lt.2 e.1)
theorem Ft {p:D aY} {a:Int} (h:(p.2.2.1.length:Int)<=a - p.2.1):¬ jt p a:=fun e=>by
 have:=e.2;have h:(p.2.2.1.length:Int)<=a - (p.2.1:Int):=h;omega
end Go.Mrl

