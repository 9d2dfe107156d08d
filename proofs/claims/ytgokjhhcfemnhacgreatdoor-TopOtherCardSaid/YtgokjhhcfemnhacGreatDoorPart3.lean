/- A part of the proof that the law TopOtherCard holds of the given program: facts that are used there. -/
import Derived.Test.YtgokjhhcfemnhacGreatDoorPart2
import Derived.Lib.SplitLaws
import Derived.Lib.ItoaNum
import Derived.Lib.AtoiAll
import Derived.Handed
import Derived.Clock
import Derived.Lib.LaidTab
import Derived.Lib.LaidU8
import Derived.Lay
set_option linter.unusedSimpArgs false
set_option linter.unusedVariables false
namespace Go.Mrl
open Go.Vg
def _root_.Go.Vg.FT:List UInt8->UInt8
 | c :: _=>c
 | []=>0
def qd (c:UInt8):List aF->aF
 | []=>[]
 | [x]=>x
 | x :: y :: r=>x++c :: qd c (y :: r)
def parts (c:UInt8):aF->List aF
 | []=>[[]]
 | b :: r=>if b=c then [] :: parts c r else match parts c r with
  | h :: t=>(b :: h) :: t
  | []=>[[b]]
theorem rv (c:UInt8):∀s:aF,parts c s≠[]
 | []=>by simp [parts]
 | b :: r=>by
  unfold parts
  split
  ·simp
  ·split <;> simp
theorem fJ {c b:UInt8} {r:aF} (h:b≠c):∃x t,parts c r=x :: t/\parts c (b :: r)=(b :: x) :: t:=by
 cases hp:parts c r with
 | nil=>exact absurd hp (rv c r)
 | cons x t=>
  refine ⟨x,t,rfl,?_⟩
  conv=>lhs;unfold parts
  rw [if_neg h,hp]
theorem ik {c:UInt8} {r:aF}:parts c (c :: r) = [] :: parts c r:=by
 conv=>lhs;unfold parts
 rw [if_pos rfl]
theorem fp {c:UInt8}:∀{x:aF},c∉x->parts c x = [x]
 | [],_=>rfl
 | b :: r,h=>by
  obtain ⟨x,t,h1,h2⟩:=fJ (c:=c) (b:=b) (r:=r) (fun e=>h (by simp [e]))
  rw [fp (x:=r) (fun e=>h (by simp [e]))] at h1
  cases h1
  exact h2
theorem cP {c:UInt8}:∀{x:aF} {s:aF},c∉x->parts c (x++c :: s)=x :: parts c s
 | [],s,_=>ik
 | b :: r,s,h=>by
  obtain ⟨x,t,h1,h2⟩:=fJ (c:=c) (b:=b) (r:=r++c :: s) (fun e=>h (by simp [e]))
  rw [cP (x:=r) (fun e=>h (by simp [e]))] at h1
  cases h1
  exact h2
theorem qE {c:UInt8}:∀{L:List aF},L≠[]->(∀y∈L,c∉y)->parts c (qd c L)=L
 | [],h,_=>absurd rfl h
 | [x],_,h=>fp (h x (by simp))
 | x :: y :: r,_,h=>by
  show parts c (x++c :: qd c (y :: r))=_
  rw [cP (h x (by simp)),qE (by simp) fun z hz=>h z (List.mem_cons_of_mem _ hz)]
theorem pD (c:UInt8):∀(s:aF),(parts c s).length<=s.length + 1
 | []=>by simp [parts]
 | b :: r=>by
  by_cases h:b=c
  ·subst h;rw [ik];have:=pD b r;simp;omega
  ·obtain ⟨x,t,h1,h2⟩:=fJ (c:=c) (b:=b) (r:=r) h
   have:=pD c r
   rw [h1] at this
   rw [h2];simp at this ⊢;omega
theorem jJ (c:UInt8):∀(s:aF),∀y∈parts c s,y.length<=s.length
 | [],y,h=>by simp [parts] at h;simp [h]
 | b :: r,y,h=>by
  by_cases hb:b=c
  ·subst hb;rw [ik] at h
   rcases List.mem_cons.1 h with rfl | h
   ·simp
   ·have:=jJ b r y h;simp;omega
  ·obtain ⟨x,t,h1,h2⟩:=fJ (c:=c) (b:=b) (r:=r) hb
   rw [h2] at h
   rcases List.mem_cons.1 h with rfl | h
   ·have:=jJ c r x (by rw [h1];simp);simp;omega
   ·have:=jJ c r y (by rw [h1];simp [h]);simp;omega
theorem xz {b c:UInt8} {l:aF} (h:b≠c):Lib.index (b :: l) [c]=if Lib.index l [c] == -1 then -1 else Lib.index l [c] + 1:=by
 rw [Lib.index];simp [List.isPrefixOf,Ne.symm h]
theorem xA {c:UInt8} {l:aF}:Lib.index (c :: l) [c]=0:=by
 rw [Lib.index];simp [List.isPrefixOf]
theorem lz (c:UInt8):∀s:aF,Lib.splitK [c] 0 (s.count c) s=parts c s
 | []=>rfl
 | b :: l=>by
  by_cases h:b=c
  ·subst h
   rw [ik,List.count_cons_self,Lib.splitK,xA,if_neg (by decide),<-lz b l]
   simp
  ·obtain ⟨x,t,h1,h2⟩:=fJ (c:=c) (b:=b) (r:=l) h
   rw [h2,List.count_cons_of_ne h]
   rw [<-lz c l] at h1
   cases hk:l.count c with
   | zero=>
    rw [hk] at h1
    simp only [Lib.splitK] at h1 ⊢
    cases h1
    rfl
   | succ k=>
    rw [hk] at h1
    have hi:Lib.index l [c]≠-1:=by
     intro e
     have:=Lib.count_miss (s:=l) (sub:=[c]) e
     rw [Lib.count_one] at this
     omega
    have hge:=Lib.index_ge l [c]
    rw [Lib.splitK,if_neg (by simpa using hi)] at h1
    obtain ⟨i,e⟩:∃i:Nat,Lib.index l [c]=i:=⟨(Lib.index l [c]).toNat,by omega⟩
    have e2:Lib.index (b :: l) [c]=((i + 1:Nat):Int):=by rw [xz h,if_neg (by simpa using hi),e];rfl
    rw [Lib.splitK,e2,if_neg (by simp;omega)]
    rw [e] at h1
    simp only [Int.toNat_natCast,Nat.add_zero,List.length_singleton,List.take_succ_cons,List.drop_succ_cons,List.cons.injEq] at h1 ⊢
    exact ⟨⟨trivial,h1.1⟩,h1.2⟩
def ky (c:UInt8) (L:List aF):aF:=L.flatMap (· ++ [c])
theorem uK (c:UInt8) (x:aF) (L:List aF):ky c (x :: L)=x++c :: ky c L:=by simp [ky]
theorem uL {c:UInt8}:∀{L:List aF},L≠[]->ky c L=qd c L++[c]
 | [],h=>absurd rfl h
 | [x],_=>by simp [ky,qd]
 | x :: y :: r,_=>by
  rw [uK,uL (L:=y :: r) (by simp)];simp [qd]
theorem tQ (x:aF) (c:UInt8):Lib.trimSuffix (x++[c]) [c]=x:=by
 have h:Lib.hasSuffix (x++[c]) [c]=true:=by unfold Lib.hasSuffix;simp [List.isSuffixOf_iff_suffix]
 unfold Lib.trimSuffix
 rw [if_pos h];simp
theorem BD {c:UInt8} {L:List aF} (h:L≠[]) (hf:∀y∈L,c∉y):parts c (Lib.trimSuffix (ky c L) [c])=L:=by
 rw [uL h,tQ,qE h hf]
end Go.Mrl

namespace Go.Mrl
open Go.Vg
theorem pE {k:Nat} (h:k < 10):(UInt8.ofNat (48 + k)).toNat=48 + k:=by
 rw [UInt8.toNat_ofNat'];omega
theorem jk:∀(u:Nat),∀c∈Lib.decDigits u,48<=c.toNat/\c.toNat<=57:=by
 intro u
 induction u using Nat.strongRecOn with
 | _ u ih=>
  intro c hc
  by_cases h:u < 10
  ·rw [Lib.decDigits,dif_pos h] at hc
   simp only [List.mem_singleton] at hc
   rw [hc,pE h];omega
  ·rw [Lib.decDigits,dif_neg h] at hc
   rcases List.mem_append.1 hc with hc | hc
   ·exact ih _ (by omega) c hc
   ·simp only [List.mem_singleton] at hc
    rw [hc,pE (Nat.mod_lt _ (by decide))];omega
theorem pF (u:Nat):Lib.decDigits u≠[]:=by
 rw [Lib.decDigits];split <;> simp
theorem kz:∀(k u:Nat),u < 10 ^ (k + 1)->(Lib.decDigits u).length<=k + 1
 | 0,u,h=>by rw [Lib.decDigits,dif_pos (by simpa using h)];simp
 | k + 1,u,h=>by
  rw [Lib.decDigits]
  split
  ·simp
  ·have:=kz k (u / 10) (by rw [Nat.pow_succ] at h;omega)
   simp;exact this
theorem uM:∀(l:aF) (c:UInt8) (a v:Nat),Lib.parseUint10 a l = .ok v->Lib.parseUint10 a (l++[c])=Lib.parseUint10 v [c]
 | [],c,a,v,h=>by simp [Lib.parseUint10] at h;rw [h];rfl
 | b :: l,c,a,v,h=>by
  rw [List.cons_append,Lib.parseUint10]
  rw [Lib.parseUint10] at h
  split at h
  ·rename_i hb
   rw [if_pos hb]
   split at h
   ·cases h
   ·rename_i h1
    rw [if_neg h1]
    split at h
    ·cases h
    ·rename_i h2
     rw [if_neg h2]
     exact uM l c _ v h
  ·cases h
theorem xB {v d:Nat} (hd:d < 10) (h:10 * v + d < 18446744073709551616):Lib.parseUint10 v [UInt8.ofNat (48 + d)] = .ok (10 * v + d):=by
 unfold Lib.parseUint10
 rw [pE hd,if_pos (by omega),if_neg (by omega),if_neg (by omega)]
 unfold Lib.parseUint10
 congr 1;omega
theorem EW:∀u:Nat,u < 18446744073709551616->Lib.parseUint10 0 (Lib.decDigits u) = .ok u:=by
 intro u
 induction u using Nat.strongRecOn with
 | _ u ih=>
  intro hu
  by_cases h:u < 10
  ·rw [Lib.decDigits,dif_pos h]
   have:=xB (v:=0) (d:=u) h (by omega)
   simpa using this
  ·rw [Lib.decDigits,dif_neg h,uM _ _ _ _ (ih _ (by omega) (by omega)),xB (Nat.mod_lt _ (by decide)) (by omega)]
   congr 1;omega
theorem At {u:Nat} (hu:u < 18446744073709551616):Lib.parseMag (Lib.decDigits u) = .ok u:=by
 unfold Lib.parseMag
 rw [if_neg (pF u),EW u hu]
theorem Df {n:Int} (h0 : -9223372036854775808<=n) (h1:n<=9223372036854775807):Lib.atoiAll (Lib.itoa n) = .ok n:=by
 by_cases hn:n < 0
 ·have hm:=At (u:=n.natAbs) (by omega)
  simp only [Lib.itoa,if_pos hn,Lib.atoiAll]
  rw [if_pos (Or.inr (by decide)),hm]
  simp only
  rw [if_neg (by simp),if_neg (by simp;omega)]
  simp;omega
 ·have hm:=At (u:=n.toNat) (by omega)
  simp only [Lib.itoa,if_neg hn,Lib.atoiAll]
  cases hd:Lib.decDigits n.toNat with
  | nil=>exact absurd hd (pF _)
  | cons c r=>
   have hc:=jk n.toNat c (by rw [hd];simp)
   rw [hd] at hm
   simp only
   rw [if_neg (by omega),hm]
   simp only
   rw [if_neg (by omega),if_neg (by omega),if_neg (by omega)]
   congr 1;omega
def cb (s:List UInt8):Int × aV:=match Lib.atoiAll s with
 | .ok n=>(n, .nil)
 | Lib.NumEnd.syntax=>(0, .other)
 | .range=>(Lib.atoiSat s, .other)
def cD (s:aF):Option Int:=match Lib.atoiAll s with
 | .ok n=>if Lib.itoa n=s then some n else none
 | _=>none
theorem Dg {n:Int} (h0 : -9223372036854775808<=n) (h1:n<=9223372036854775807):cD (Lib.itoa n)=some n:=by
 unfold cD;rw [Df h0 h1];simp
theorem uN {s:aF}:(cD s).isNone=(!(cb s).2.isNil || !decide (Lib.itoa (cb s).1=s)):=by
 unfold cD cb
 cases Lib.atoiAll s with
 | ok v=>simp only [aV.isNil];by_cases h:Lib.itoa v=s <;> simp [h]
 | range=>rfl
 | _=>rfl
theorem uO {n:Int} {c:UInt8} (h:c.toNat<=44):c∉Lib.itoa n:=by
 intro hc
 have h45:(45:UInt8).toNat=45:=rfl
 unfold Lib.itoa at hc
 split at hc
 ·rcases List.mem_cons.1 hc with rfl | hc
  ·omega
  ·have:=jk _ c hc;omega
 ·have:=jk _ c hc;omega
theorem ry {n:Int} (h:0<=n) (h':n < 10):Lib.itoa n = [UInt8.ofNat (48 + n).toNat]:=by
 unfold Lib.itoa;rw [if_neg (by omega),Lib.decDigits,dif_pos (by omega)];congr 2;omega
end Go.Mrl

namespace Go.Mrl
open Go.Vg
theorem kr {f:Int} (h0:0<=f) (h:(aW f).isNil=false):f > 0:=by
 have:¬ f=0:=fun e=>by rw [ba.2 e] at h;cases h
 omega
theorem jK {f:Int} (h:(aW f).isNil=true):f<=0:=by
 have:=ba.1 h;omega
theorem uP {t:Ty} {l:List (D t)} {i j:Nat} (h:j < i):nth t (List.drop 0 (List.take i l)) j=nth t l j:=by
 rw [List.drop_zero,xf h]
theorem uQ {α:Type} {l:List α} {i:Nat} (h:i<=l.length):(List.drop 0 (List.take i l)).length=i:=by
 rw [List.drop_zero,List.length_take];omega
def cZ (b:Bool):List UInt8:=if b=true then [119,101,97,107,32] else []
def nY (s:aF):aF:=[110,101,101,100,32]++s++[10]
def l7 (n:Int):aF:=[119,111,114,100,32]++Lib.itoa n++[10]
def rA (y:D aG):aF:=cZ y.2.2.1++[115,121,109,98,111,108,32]++y.1++[32]++Lib.itoa y.2.1++[10]
def mw (t:D aN):aF:=
 if t.2.1=1 then [98,97,115,101,32]++Lib.itoa t.1++[32]++Lib.itoa t.2.2.1++[10]
 else if t.2.1=2 then cZ t.2.2.2.2.1++[119,104,111,108,101,32]++Lib.itoa t.1++[32]++Lib.itoa t.2.2.1++[32]++t.2.2.2.1++[10]
 else cZ t.2.2.2.2.1++[110,101,97,114,32]++Lib.itoa t.1++[32]++Lib.itoa t.2.2.1++[32]++t.2.2.2.1++[10]
def iC (o:D aA) (i:Nat):aF:=(o.1.take i).flatMap nY
def gm (o:D aA) (i:Nat):aF:=iC o o.1.length++(o.2.1.take i).flatMap l7
def gn (o:D aA) (i:Nat):aF:=gm o o.2.1.length++(o.2.2.1.take i).flatMap rA
def dE (o:D aA) (i:Nat):aF:=gn o o.2.2.1.length++(o.2.2.2.1.take i).flatMap mw
def c6 (o:D aA):aF:=dE o o.2.2.2.1.length
def ew (o:D aA):aF × aV:=if bA o≠0 then ([],aW (bA o)) else if (c6 o).length > 1200 then ([], .no 2) else (c6 o, .nil)
theorem Dh {o:D aA} {i:Nat} (h:i < o.1.length):iC o (i + 1)=iC o i++nY (nth .str o.1 i):=by
 unfold iC;rw [gl (t:=.str) h];simp
theorem Di {o:D aA} {i:Nat} (h:i < o.2.1.length):gm o (i + 1)=gm o i++l7 (nth (.int .i64) o.2.1 i):=by
 unfold gm;rw [gl (t:=.int .i64) h];simp
theorem Dj {o:D aA} {i:Nat} (h:i < o.2.2.1.length):gn o (i + 1)=gn o i++rA (nth aG o.2.2.1 i):=by
 unfold gn;rw [gl (t:=aG) h];simp
theorem pG {o:D aA} {i:Nat} (h:i < o.2.2.2.1.length):dE o (i + 1)=dE o i++mw (nth aN o.2.2.2.1 i):=by
 unfold dE;rw [gl (t:=aN) h];simp
theorem Dl (o:D aA):gm o 0=iC o o.1.length:=by unfold gm;simp
theorem Dm (o:D aA):gn o 0=gm o o.2.1.length:=by unfold gn;simp
theorem Dn (o:D aA):dE o 0=gn o o.2.2.1.length:=by unfold dE;simp
def Nm (s:aF):Prop:=s≠[]/\s.length<=8/\∀c∈s,c≠10/\c≠32
def jl (a b x:Int):Prop:=a<=x/\x<=b
structure sU (t:D aN):Prop where
 a:jl 0 39 t.1
 w:jl (-2147483648) 2147483647 t.2.2.1
 k:t.2.1=1\/t.2.1=2\/t.2.1=3
 base:t.2.1=1->t.2.2.2.1 = []/\t.2.2.2.2.1=false
 nm:t.2.1≠1->Nm t.2.2.2.1
structure eY (o:D aA):Prop where
 n4:o.1.length<=4
 w1:1<=o.2.1.length
 HF:o.2.1.length<=40
 s8:o.2.2.1.length<=8
 t6:o.2.2.2.1.length<=6
 vX:∀s∈o.1,Nm s
 words:∀n∈o.2.1,jl (-2147483648) 2147483647 n
 syms:∀y∈o.2.2.1,Nm y.1/\jl 0 39 y.2.1
 BE:∀t∈o.2.2.2.1,sU t
end Go.Mrl

namespace Go.Mrl
open Go.Vg
theorem qF:∀(l p:List aF),dP p l=0->∀s∈l,aI s=0
 | [],_,_,s,h=>absurd h (by simp)
 | x :: r,p,h,s,hs=>by
  have hx:=dB x
  unfold dP at h
  split at h
  ·omega
  ·split at h
   ·cases h
   ·rcases List.mem_cons.1 hs with rfl | hs
    ·omega
    ·exact qF r _ h s hs
theorem qG:∀(l:List Int),eN l=0->∀n∈l,dS n=true
 | [],_,s,h=>absurd h (by simp)
 | x :: r,h,s,hs=>by
  unfold eN at h
  split at h
  ·rename_i hx
   rcases List.mem_cons.1 hs with rfl | hs
   ·exact hx
   ·exact qG r h s hs
  ·cases h
theorem sV (n:Nat):∀(l p:List (D aG)),cU n p l=0->∀y∈l,aI y.1=0/\jl 0 (n - 1) y.2.1
 | [],_,_,s,h=>absurd h (by simp)
 | x :: r,p,h,s,hs=>by
  have hx:=dB x.1
  unfold cU at h
  split at h
  ·omega
  ·split at h
   ·cases h
   ·rename_i h2
    split at h
    ·cases h
    ·rcases List.mem_cons.1 hs with rfl | hs
     ·exact ⟨by omega,Int.not_lt.1 fun e=>h2 (.inl e),Int.le_sub_one_of_lt (Int.not_le.1 fun e=>h2 (.inr e))⟩
     ·exact sV n r _ h s hs
theorem uR {n:Nat} {p:Option Int} {t:D aN} (h:gk n p t=0) :
  jl 0 (n - 1) t.1/\dS t.2.2.1=true/\jl 1 3 t.2.1/\(t.2.1=1->t.2.2.2.1 = []/\t.2.2.2.2.1=false)/\(t.2.1≠1->aI t.2.2.2.1=0):=by
 unfold gk at h
 split at h
 ·cases h
 ·rename_i h1
  split at h
  ·cases h
  ·rename_i h2
   refine ⟨⟨Int.not_lt.1 fun e=>h1 (.inl e),Int.le_sub_one_of_lt (Int.not_le.1 fun e=>h1 (.inr (.inl e)))⟩,?_,⟨Int.not_lt.1 fun e=>h2 (.inl e),Int.not_lt.1 fun e=>h2 (.inr (.inl e))⟩,?_,?_⟩
   ·cases hw:dS t.2.2.1 with
    | true=>rfl
    | false=>exact absurd (.inr (.inr hw)) h1
   ·intro e
    rw [if_pos e] at h
    split at h
    ·cases h
    ·rename_i h3
     refine ⟨Classical.byContradiction fun e=>h3 (.inl e),?_⟩
     cases hb:t.2.2.2.2.1 with
     | false=>rfl
     | true=>exact absurd (.inr hb) h3
   ·intro e
    rw [if_neg e] at h
    exact h
theorem nZ (n:Nat):∀(l:List (D aN)) (p:Option Int),eO n p l=0->∀t∈l,∃p,gk n p t=0
 | [],_,_,s,h=>absurd h (by simp)
 | x :: r,p,h,s,hs=>by
  unfold eO at h
  split at h
  ·rename_i h0;exact absurd h h0
  ·rename_i h0
   rcases List.mem_cons.1 hs with rfl | hs
   ·exact ⟨p,Classical.byContradiction h0⟩
   ·exact nZ n r _ h s hs
theorem BF {s:aF} (h:aI s=0):Nm s:=by
 unfold aI at h
 split at h
 ·cases h
 ·rename_i hl
  split at h
  ·cases h
  ·rename_i hb
   refine ⟨by rintro rfl;simp at hl,by omega,fun c hc => ?_⟩
   obtain ⟨i,hi,rfl⟩:=List.getElem_of_mem hc
   have hn:dv i (ec s i)=false:=by
    unfold mS at hb
    rw [Bool.not_eq_true,List.any_eq_false] at hb
    have:=hb i (by simpa using hi)
    simpa using this
   have he:ec s i=s[i]:=by unfold ec;simp [hi]
   rw [he] at hn
   constructor
   ·intro e;rw [e] at hn;unfold dv small other at hn;simp at hn
   ·intro e;rw [e] at hn;unfold dv small other at hn;simp at hn
theorem three {x:Int} (h:1<=x) (h':x<=3):x=1\/x=2\/x=3:=by omega
theorem hE {o:D aA} (h:bA o=0):eY o:=by
 unfold bA at h
 split at h
 ·cases h
 ·rename_i hm
  split at h
  ·rename_i h1;exact absurd h h1
  ·rename_i h1
   split at h
   ·rename_i h2;exact absurd h h2
   ·rename_i h2
    split at h
    ·rename_i h3;exact absurd h h3
    ·rename_i h3
     have h1:=Classical.byContradiction h1
     have h2:=Classical.byContradiction h2
     have h3:=Classical.byContradiction h3
     unfold fC at hm
     have hw:o.2.1.length<=40:=Nat.not_lt.1 fun e=>hm (.inr (.inr (.inl e)))
     refine ⟨Nat.not_lt.1 fun e=>hm (.inl e),Nat.not_lt.1 fun e=>hm (.inr (.inl e)),hw,Nat.not_lt.1 fun e=>hm (.inr (.inr (.inr (.inl e)))),Nat.not_lt.1 fun e=>hm (.inr (.inr (.inr (.inr e)))),
      fun s hs=>BF (qF _ _ h1 s hs),fun n hn => ?_,fun y hy => ?_,fun t ht => ?_⟩
     ·have:=qG _ h2 n hn
      unfold dS at this
      simp only [Bool.and_eq_true,decide_eq_true_eq] at this
      exact this
     ·obtain ⟨a,b,c⟩:=sV _ _ _ h3 y hy
      exact ⟨BF a,b,Int.le_trans c (by omega)⟩
     ·obtain ⟨p,hp⟩:=nZ _ _ _ h t ht
      obtain ⟨⟨a,b⟩,c,⟨d,e⟩,f,g⟩:=uR hp
      unfold dS at c
      simp only [Bool.and_eq_true,decide_eq_true_eq] at c
      exact ⟨⟨a,Int.le_trans b (by omega)⟩,c,three d e,f,fun e=>BF (g e)⟩
theorem eQ {a b n:Int} (h:jl a b n) (ha : -999999999999999999<=a) (hb:b<=999999999999999999):(Lib.itoa n).length<=19:=by
 obtain ⟨h0,h1⟩:=h
 unfold Lib.itoa
 split
 ·rw [List.length_cons]
  have:=kz 17 n.natAbs (by omega)
  omega
 ·have:=kz 17 n.toNat (by omega)
  omega
theorem l8 (b:Bool):(cZ b).length<=5:=by cases b <;> decide
theorem Dp {s:aF} (h:Nm s):(nY s).length<=64:=by have:=h.2.1;simp [nY];omega
theorem Dq {n:Int} (h:jl (-2147483648) 2147483647 n):(l7 n).length<=64:=by have:=eQ h (by decide) (by decide);simp [l7];omega
theorem EX {y:D aG} (h:Nm y.1/\jl 0 39 y.2.1):(rA y).length<=64:=by
 have h1:=eQ h.2 (by decide) (by decide)
 have h2:=l8 y.2.2.1
 have h3:=h.1.2.1
 simp [rA];omega
theorem EY {t:D aN} (h:sU t):(mw t).length<=64:=by
 have h1:=eQ h.a (by decide) (by decide)
 have h4:=eQ h.w (by decide) (by decide)
 have h2:=l8 t.2.2.2.2.1
 unfold mw
 split
 ·simp;omega
 ·rename_i hk
  have h3:=(h.nm hk).2.1
  split
  ·simp;omega
  ·simp;omega
theorem lA {α:Type} {f:α->aF}:∀{l:List α},(∀x∈l,(f x).length<=64)->(l.flatMap f).length<=64 * l.length
 | [],_=>by simp
 | x :: r,h=>by
  have h1:=h x (by simp)
  have h2:=lA (f:=f) (l:=r) fun y hy=>h y (List.mem_cons_of_mem _ hy)
  rw [List.flatMap_cons,List.length_append,List.length_cons];omega
theorem eY.Hd {o:D aA} (h:eY o) (i:Nat):(iC o i).length<=1000:=by
 have:=lA (f:=nY) (l:=o.1.take i) fun s hs=>Dp (h.vX s (List.mem_of_mem_take hs))
 have h2:=h.n4
 unfold iC;simp only [List.length_take] at this;omega
theorem eY.He {o:D aA} (h:eY o) (i:Nat):(gm o i).length<=4000:=by
 have h0:=h.Hd o.1.length
 have:=lA (f:=l7) (l:=o.2.1.take i) fun s hs=>Dq (h.words s (List.mem_of_mem_take hs))
 have h2:=h.HF
 unfold gm;rw [List.length_append];simp only [List.length_take] at this;omega
theorem eY.Hf {o:D aA} (h:eY o) (i:Nat):(gn o i).length<=5000:=by
 have h0:=h.He o.2.1.length
 have:=lA (f:=rA) (l:=o.2.2.1.take i) fun s hs=>EX (h.syms s (List.mem_of_mem_take hs))
 have h2:=h.s8
 unfold gn;rw [List.length_append];simp only [List.length_take] at this;omega
theorem eY.HK {o:D aA} (h:eY o) (i:Nat):(dE o i).length<=6000:=by
 have h0:=h.Hf o.2.2.1.length
 have:=lA (f:=mw) (l:=o.2.2.2.1.take i) fun s hs=>EY (h.BE s (List.mem_of_mem_take hs))
 have h2:=h.t6
 unfold dE;rw [List.length_append];simp only [List.length_take] at this;omega
theorem eY.pH {o:D aA} (h:eY o) {i:Nat} (hi:i < o.1.length):Nm (nth .str o.1 i):=h.vX _ (eB (t:=.str) hi)
theorem eY.word {o:D aA} (h:eY o) {i:Nat} (hi:i < o.2.1.length):jl (-2147483648) 2147483647 (nth (.int .i64) o.2.1 i):=h.words _ (eB (t:=.int .i64) hi)
theorem eY.sym {o:D aA} (h:eY o) {i:Nat} (hi:i < o.2.2.1.length):Nm (nth aG o.2.2.1 i).1/\jl 0 39 (nth aG o.2.2.1 i).2.1:=h.syms _ (eB (t:=aG) hi)
theorem eY.tie {o:D aA} (h:eY o) {i:Nat} (hi:i < o.2.2.2.1.length):sU (nth aN o.2.2.2.1 i):=h.BE _ (eB (t:=aN) hi)
theorem yZ (a b:aF):bC a++bC b=bC (a++b):=by simp [bC]
theorem uS {o:D aA} (h:eY o) {i:Nat} (hi:i < o.1.length):(nth .str o.1 i).length<=8/\(iC o i).length<=1000:=⟨(h.pH hi).2.1,h.Hd i⟩
theorem uT {o:D aA} (h:eY o) {i:Nat} (hi:i < o.2.1.length):(Lib.itoa (nth (.int .i64) o.2.1 i)).length<=19/\(gm o i).length<=4000:=
 ⟨eQ (h.word hi) (by decide) (by decide),h.He i⟩
theorem xC {o:D aA} (h:eY o) {i:Nat} (hi:i < o.2.2.1.length) :
  (nth aG o.2.2.1 i).1.length<=8/\(Lib.itoa (nth aG o.2.2.1 i).2.1).length<=19/\(cZ (nth aG o.2.2.1 i).2.2.1).length<=5/\(gn o i).length<=5000:=
 ⟨(h.sym hi).1.2.1,eQ (h.sym hi).2 (by decide) (by decide),l8 _,h.Hf i⟩
theorem xD {o:D aA} (h:eY o) {i:Nat} (hi:i < o.2.2.2.1.length) :
  (nth aN o.2.2.2.1 i).2.2.2.1.length<=8/\(Lib.itoa (nth aN o.2.2.2.1 i).1).length<=19/\(Lib.itoa (nth aN o.2.2.2.1 i).2.2.1).length<=19/\(cZ (nth aN o.2.2.2.1 i).2.2.2.2.1).length<=5/\(dE o i).length<=6000:=by
 have ht:=h.tie hi
 refine ⟨?_,eQ ht.a (by decide) (by decide),eQ ht.w (by decide) (by decide),l8 _,h.HK i⟩
 by_cases hk:(nth aN o.2.2.2.1 i).2.1=1
 ·rw [(ht.base hk).1];decide
 ·exact (ht.nm hk).2.1
theorem jL {p p' q:aF} {a b:Int} (h:p'=p++q):(((bC p++bC q,a,b,()):D eR))=((bC p',a,b,()):D eR):=by rw [h,yZ]
theorem rB {p p':aF} {a b:Int} (h:p=p'):((bC p,a,b,()):D eR)=((bC p',a,b,()):D eR):=by rw [h]
theorem BG {o:D aA} {i:Nat} (h:i < o.2.2.2.1.length) (hk:(nth aN o.2.2.2.1 i).2.1=1) :
  dE o (i + 1)=dE o i++([98,97,115,101,32]++Lib.itoa (nth aN o.2.2.2.1 i).1++[32]++Lib.itoa (nth aN o.2.2.2.1 i).2.2.1++[10]):=by
 rw [pG h];unfold mw;rw [if_pos hk]
theorem BH {o:D aA} {i:Nat} (h:i < o.2.2.2.1.length) (hk:¬ (nth aN o.2.2.2.1 i).2.1=1) (hk2:(nth aN o.2.2.2.1 i).2.1=2) :
  dE o (i + 1)=dE o i++(cZ (nth aN o.2.2.2.1 i).2.2.2.2.1++[119,104,111,108,101,32]++Lib.itoa (nth aN o.2.2.2.1 i).1++[32]++Lib.itoa (nth aN o.2.2.2.1 i).2.2.1++[32]++(nth aN o.2.2.2.1 i).2.2.2.1++[10]):=by
 rw [pG h];unfold mw;rw [if_neg hk,if_pos hk2]
theorem BI {o:D aA} {i:Nat} (h:i < o.2.2.2.1.length) (hk:¬ (nth aN o.2.2.2.1 i).2.1=1) (hk2:¬ (nth aN o.2.2.2.1 i).2.1=2) :
  dE o (i + 1)=dE o i++(cZ (nth aN o.2.2.2.1 i).2.2.2.2.1++[110,101,97,114,32]++Lib.itoa (nth aN o.2.2.2.1 i).1++[32]++Lib.itoa (nth aN o.2.2.2.1 i).2.2.1++[32]++(nth aN o.2.2.2.1 i).2.2.2.1++[10]):=by
 rw [pG h];unfold mw;rw [if_neg hk,if_neg hk2]
theorem uU {o:D aA} (h:bA o≠0):ew o=([],aW (bA o)):=by unfold ew;rw [if_pos h]
theorem sW {o:D aA} (h:bA o=0) {i:Nat} (hi:i=o.2.2.2.1.length) (hl:(dE o i).length > 1200):ew o=([], .no 2):=by
 unfold ew;rw [if_neg (by rw [h];decide),if_pos (by unfold c6;rw [<-hi];exact hl)]
theorem n5 {o:D aA} (h:bA o=0) {i:Nat} (hi:i=o.2.2.2.1.length) (hl:(dE o i).length<=1200):ew o=(dE o i, .nil):=by
 unfold ew;rw [if_neg (by rw [h];decide),if_neg (by unfold c6;rw [<-hi];omega)];unfold c6;rw [<-hi]
end Go.Mrl

namespace Go.Mrl
open Go.Vg
@[reducible] def bT:aF:=[119,101,97,107,32]
@[reducible] def ey:aF:=[110,101,101,100]
@[reducible] def ef:aF:=[119,111,114,100]
@[reducible] def dF:aF:=[115,121,109,98,111,108]
@[reducible] def fV:aF:=[98,97,115,101]
@[reducible] def fj:aF:=[119,104,111,108,101]
@[reducible] def fc:aF:=[110,101,97,114]
def jM (o:D aA) (s:aF):D aA:=(o.1++[s],o.2)
def jN (o:D aA) (n:Int):D aA:=(o.1,o.2.1++[n],o.2.2)
def nc (o:D aA) (y:D aG):D aA:=(o.1,o.2.1,o.2.2.1++[y],o.2.2.2)
def jm (o:D aA) (t:D aN):D aA:=(o.1,o.2.1,o.2.2.1,o.2.2.2.1++[t],())
def rC (x y:aF) (k:Int->Int->D aA):Option (D aA):=
 match cD x,cD y with
 | some m,some n=>some (k m n)
 | _,_=>none
def gp (o:D aA) (b:Bool):List aF->Option (D aA)
 | [a,x]=>if a=ey then some (jM o x) else if a=ef then (cD x).map (jN o) else none
 | [a,x,y]=>if a=dF then (cD y).map fun n=>nc o (x,n,b,()) else if a=fV then rC x y fun m n=>jm o (m,1,n,[],false,()) else none
 | [a,x,y,z]=>if a=fj\/a=fc then rC x y fun m n=>jm o (m,if a=fc then 3 else 2,n,z,b,()) else none
 | _=>none
def jn (o:D aA) (s:aF):Option (D aA):=gp o (Lib.hasPrefix s bT) (parts 32 (Lib.trimPrefix s bT))
def run (f:D aA->aF->Option (D aA)):D aA->List aF->Option (D aA)
 | o,[]=>some o
 | o,s :: r=>match f o s with
  | some p=>run f p r
  | none=>none
theorem xE {f:D aA->aF->Option (D aA)}:∀{l:List aF} {o:D aA} {s:aF},run f o (l++[s])=(run f o l).bind fun p=>f p s
 | [],o,s=>by simp only [List.nil_append,run,Option.bind_some];cases f o s <;> rfl
 | x :: r,o,s=>by
  simp only [List.cons_append,run]
  cases f o x with
  | none=>rfl
  | some p=>exact xE
theorem qe {f:D aA->aF->Option (D aA)}:∀{l m:List aF} {o p:D aA},run f o l=some p->run f o (l++m)=run f p m
 | [],m,o,p,h=>by simp only [run,Option.some.injEq] at h;rw [h];rfl
 | x :: r,m,o,p,h=>by
  simp only [run] at h
  simp only [List.cons_append,run]
  cases hx:f o x with
  | none=>rw [hx] at h;cases h
  | some q=>rw [hx] at h;exact qe h
def jo (s:aF):aF:=[110,101,101,100,32]++s
def jq (n:Int):aF:=[119,111,114,100,32]++Lib.itoa n
def rD (y:D aG):aF:=cZ y.2.2.1++([115,121,109,98,111,108,32]++(y.1++32 :: Lib.itoa y.2.1))
def pI (t:D aN):aF:=
 if t.2.1=1 then [98,97,115,101,32]++(Lib.itoa t.1++32 :: Lib.itoa t.2.2.1)
 else if t.2.1=2 then cZ t.2.2.2.2.1++([119,104,111,108,101,32]++(Lib.itoa t.1++32 :: (Lib.itoa t.2.2.1++32 :: t.2.2.2.1)))
 else cZ t.2.2.2.2.1++([110,101,97,114,32]++(Lib.itoa t.1++32 :: (Lib.itoa t.2.2.1++32 :: t.2.2.2.1)))
def ku (o:D aA):List aF:=o.1.map jo++(o.2.1.map jq++(o.2.2.1.map rD++o.2.2.2.1.map pI))
theorem lB {α:Type} {f g:α->aF} (h:∀x,f x=g x++[10]):∀l:List α,l.flatMap f=ky 10 (l.map g)
 | []=>rfl
 | x :: r=>by rw [List.flatMap_cons,lB h r,List.map_cons,uK,h];simp
theorem rE (c:UInt8) (l m:List aF):ky c (l++m)=ky c l++ky c m:=by simp [ky]
theorem y5 (o:D aA):c6 o=ky 10 (ku o):=by
 unfold c6 dE gn gm iC ku
 rw [List.take_length,List.take_length,List.take_length,List.take_length,rE,rE,rE,
  lB (g:=jo) (fun s=>by simp [nY,jo]) o.1,lB (g:=jq) (fun s=>by simp [l7,jq]) o.2.1,
  lB (g:=rD) (fun s=>by simp [rA,rD]) o.2.2.1,
  lB (g:=pI) (fun s=>by unfold mw pI;split <;> (try split) <;> simp) o.2.2.2.1]
 simp
structure Reads (f:D aA->aF->Option (D aA)):Prop where
 pH:∀(o:D aA) (s:aF),Nm s->f o (jo s)=some (jM o s)
 word:∀(o:D aA) (n:Int),jl (-2147483648) 2147483647 n->f o (jq n)=some (jN o n)
 sym:∀(o:D aA) (y:D aG),Nm y.1->jl 0 39 y.2.1->f o (rD y)=some (nc o y)
 tie:∀(o:D aA) (t:D aN),sU t->f o (pI t)=some (jm o t)
section
variable {f:D aA->aF->Option (D aA)} (h:Reads f)
include h
theorem uV:∀(l:List aF) (o:D aA),(∀s∈l,Nm s)->run f o (l.map jo)=some (o.1++l,o.2)
 | [],o,_=>by simp [run]
 | s :: r,o,hl=>by
  rw [List.map_cons,run,h.pH o s (hl s (by simp))]
  show run f (jM o s) (r.map jo)=_
  rw [uV r _ fun x hx=>hl x (List.mem_cons_of_mem _ hx)]
  simp [jM]
theorem uW:∀(l:List Int) (o:D aA),(∀n∈l,jl (-2147483648) 2147483647 n)->run f o (l.map jq)=some (o.1,o.2.1++l,o.2.2)
 | [],o,_=>by simp [run]
 | s :: r,o,hl=>by
  rw [List.map_cons,run,h.word o s (hl s (by simp))]
  show run f (jN o s) (r.map jq)=_
  rw [uW r _ fun x hx=>hl x (List.mem_cons_of_mem _ hx)]
  simp [jN]
theorem xF:∀(l:List (D aG)) (o:D aA),(∀y∈l,Nm y.1/\jl 0 39 y.2.1)->run f o (l.map rD)=some (o.1,o.2.1,o.2.2.1++l,o.2.2.2)
 | [],o,_=>by simp [run]
 | s :: r,o,hl=>by
  rw [List.map_cons,run,h.sym o s (hl s (by simp)).1 (hl s (by simp)).2]
  show run f (nc o s) (r.map rD)=_
  rw [xF r _ fun x hx=>hl x (List.mem_cons_of_mem _ hx)]
  simp [nc]
theorem xG:∀(l:List (D aN)) (o:D aA),(∀t∈l,sU t)->run f o (l.map pI)=some (o.1,o.2.1,o.2.2.1,o.2.2.2.1++l,())
 | [],o,_=>by simp [run]
 | s :: r,o,hl=>by
  rw [List.map_cons,run,h.tie o s (hl s (by simp))]
  show run f (jm o s) (r.map pI)=_
  rw [xG r _ fun x hx=>hl x (List.mem_cons_of_mem _ hx)]
  simp [jm]
theorem Dr {o:D aA} (ok:eY o):run f (bF aA) (ku o)=some o:=by
 unfold ku
 rw [qe (uV h o.1 _ ok.vX),qe (uW h o.2.1 _ ok.words),qe (xF h o.2.2.1 _ ok.syms),xG h o.2.2.2.1 _ ok.BE]
 rfl
end
theorem sX {a:UInt8} {s:aF} (h:a≠119):Lib.hasPrefix (a :: s) bT=false:=by
 unfold Lib.hasPrefix bT;simp [List.isPrefixOf];intro e;exact absurd e.symm h
theorem Gp {s:aF} (h:Lib.hasPrefix s bT=false):Lib.trimPrefix s bT=s:=by unfold Lib.trimPrefix;rw [if_neg (by rw [h];decide)]
theorem Au (s:aF):Lib.hasPrefix (bT++s) bT=true:=by unfold Lib.hasPrefix bT;simp [List.isPrefixOf]
theorem EZ (s:aF):Lib.trimPrefix (bT++s) bT=s:=by unfold Lib.trimPrefix;rw [if_pos (Au s)];rfl
theorem Av {a b:UInt8} {s:aF} (h:b≠101):Lib.hasPrefix (a :: b :: s) bT=false:=by
 unfold Lib.hasPrefix bT;simp [List.isPrefixOf];intro _ e;exact absurd e.symm h
theorem gF (o:D aA) (b:Bool) (s:aF) (h:Lib.hasPrefix s bT=false):jn o (cZ b++s)=gp o b (parts 32 s):=by
 unfold jn
 cases b with
 | false=>show gp o (Lib.hasPrefix s bT) (parts 32 (Lib.trimPrefix s bT))=_;rw [h,Gp h]
 | true=>show gp o (Lib.hasPrefix (bT++s) bT) (parts 32 (Lib.trimPrefix (bT++s) bT))=_;rw [Au,EZ]
theorem jO {s:aF} (h:Nm s):(32:UInt8)∉s/\(10:UInt8)∉s:=⟨fun hc=>(h.2.2 _ hc).2 rfl,fun hc=>(h.2.2 _ hc).1 rfl⟩
theorem gq (n:Int):(32:UInt8)∉Lib.itoa n:=uO (by decide)
theorem n7 (n:Int):(10:UInt8)∉Lib.itoa n:=uO (by decide)
theorem BJ {s:aF} (h:Nm s):parts 32 (jo s) = [ey,s]:=by
 show parts 32 (ey++32 :: s)=_
 rw [cP (by decide),fp (jO h).1]
theorem BK (n:Int):parts 32 (jq n) = [ef,Lib.itoa n]:=by
 show parts 32 (ef++32 :: Lib.itoa n)=_
 rw [cP (by decide),fp (gq n)]
theorem Ds {s:aF} {n:Int} (h:Nm s):parts 32 ([115,121,109,98,111,108,32]++(s++32 :: Lib.itoa n)) = [dF,s,Lib.itoa n]:=by
 show parts 32 (dF++32 :: (s++32 :: Lib.itoa n))=_
 rw [cP (by decide),cP (jO h).1,fp (gq n)]
theorem BL (m n:Int):parts 32 ([98,97,115,101,32]++(Lib.itoa m++32 :: Lib.itoa n)) = [fV,Lib.itoa m,Lib.itoa n]:=by
 show parts 32 (fV++32 :: (Lib.itoa m++32 :: Lib.itoa n))=_
 rw [cP (by decide),cP (gq m),fp (gq n)]
theorem y7 {s:aF} (m n:Int) (h:Nm s):parts 32 ([119,104,111,108,101,32]++(Lib.itoa m++32 :: (Lib.itoa n++32 :: s))) = [fj,Lib.itoa m,Lib.itoa n,s]:=by
 show parts 32 (fj++32 :: (Lib.itoa m++32 :: (Lib.itoa n++32 :: s)))=_
 rw [cP (by decide),cP (gq m),cP (gq n),fp (jO h).1]
theorem BM {s:aF} (m n:Int) (h:Nm s):parts 32 ([110,101,97,114,32]++(Lib.itoa m++32 :: (Lib.itoa n++32 :: s))) = [fc,Lib.itoa m,Lib.itoa n,s]:=by
 show parts 32 (fc++32 :: (Lib.itoa m++32 :: (Lib.itoa n++32 :: s)))=_
 rw [cP (by decide),cP (gq m),cP (gq n),fp (jO h).1]
theorem qf {a b n:Int} (h:jl a b n) (ha : -9223372036854775808<=a) (hb:b<=9223372036854775807):cD (Lib.itoa n)=some n:=Dg (Int.le_trans ha h.1) (Int.le_trans h.2 hb)
theorem Hg:Reads jn where
 pH o s h:=by
  have:=gF o false (jo s) (sX (by decide))
  rw [show cZ false++jo s=jo s from rfl,BJ h] at this
  exact this
 word o n h:=by
  have:=gF o false (jq n) (Av (by decide))
  rw [show cZ false++jq n=jq n from rfl,BK] at this
  rw [this]
  show (if ef=ey then some (jM o (Lib.itoa n)) else if ef=ef then (cD (Lib.itoa n)).map (jN o) else none)=_
  rw [if_neg (by decide),if_pos rfl,qf h (by decide) (by decide)];rfl
 sym o y h h':=by
  have:=gF o y.2.2.1 ([115,121,109,98,111,108,32]++(y.1++32 :: Lib.itoa y.2.1)) (sX (by decide))
  rw [Ds h] at this
  refine Eq.trans this ?_
  dsimp only [gp]
  rw [if_pos rfl,qf h' (by decide) (by decide)];rfl
 tie o t h:=by
  obtain ⟨at',k,ad,nm,b,_⟩:=t
  have ha:=qf h.a (by decide) (by decide)
  have hw:=qf h.w (by decide) (by decide)
  simp only at ha hw
  unfold pI
  rcases h.k with e | e | e
  ·have hb:=h.base e
   simp only at e hb
   obtain ⟨rfl,rfl⟩:=hb
   subst e
   rw [if_pos rfl]
   have:=gF o false ([98,97,115,101,32]++(Lib.itoa at'++32 :: Lib.itoa ad)) (sX (by decide))
   rw [BL] at this
   refine this.trans ?_
   dsimp only [gp]
   rw [if_neg (by decide),if_pos rfl];unfold rC;rw [ha,hw]
  ·have hn:=h.nm (by rw [show _=_ from e];decide)
   simp only at e hn
   subst e
   rw [if_neg (by simp),if_pos rfl]
   have:=gF o b ([119,104,111,108,101,32]++(Lib.itoa at'++32 :: (Lib.itoa ad++32 :: nm))) (Av (by decide))
   rw [y7 _ _ hn] at this
   refine this.trans ?_
   dsimp only [gp]
   rw [if_pos (.inl rfl),if_neg (by decide)];unfold rC;rw [ha,hw]
  ·have hn:=h.nm (by rw [show _=_ from e];decide)
   simp only at e hn
   subst e
   rw [if_neg (by simp),if_neg (by simp)]
   have:=gF o b ([110,101,97,114,32]++(Lib.itoa at'++32 :: (Lib.itoa ad++32 :: nm))) (sX (by decide))
   rw [BM _ _ hn] at this
   refine this.trans ?_
   dsimp only [gp]
   rw [if_pos (.inr rfl),if_pos rfl];unfold rC;rw [ha,hw]
end Go.Mrl

namespace Go.Mrl
open Go.Vg
theorem BN {o:D aA} (h:eY o):∀l∈ku o,(10:UInt8)∉l:=by
 intro l hl
 unfold ku at hl
 simp only [List.mem_append,List.mem_map] at hl
 have hw:∀b,(10:UInt8)∉cZ b:=by intro b;cases b <;> decide
 rcases hl with ⟨s,hs,rfl⟩ | ⟨n,hn,rfl⟩ | ⟨y,hy,rfl⟩ | ⟨t,ht,rfl⟩
 ·have:=(jO (h.vX s hs)).2
  unfold jo;simp [this]
 ·have:=n7 n
  unfold jq;simp [this]
 ·have h1:=(jO (h.syms y hy).1).2
  have h2:=n7 y.2.1
  have h3:=hw y.2.2.1
  unfold rD;simp [h1,h2,h3]
 ·have h1:=n7 t.1
  have h2:=n7 t.2.2.1
  have h3:=hw t.2.2.2.2.1
  unfold pI
  split
  ·simp [h1,h2]
  ·rename_i hk
   have h4:=(jO ((h.BE t ht).nm hk)).2
   split <;> simp [h1,h2,h3,h4]
theorem E0 {o:D aA} (h:eY o):ku o≠[]:=by
 have h1:=h.w1
 unfold ku
 intro e
 simp only [List.append_eq_nil_iff,List.map_eq_nil_iff] at e
 rw [e.2.1] at h1
 simp at h1
def BO (s:aF):Option (D aA):=run jn (bF aA) (parts 10 (Lib.trimSuffix s [10]))
theorem l9 {o:D aA} (h:bA o=0):BO (c6 o)=some o:=by
 have ok:=hE h
 unfold BO
 rw [y5,BD (E0 ok) (BN ok),Dr Hg ok]
theorem Dt {o p:D aA} (h:bA o=0) (h':bA p=0) (e:c6 o=c6 p):o=p:=by
 have a:=l9 h
 rw [e,l9 h'] at a
 exact (Option.some.inj a).symm
open Classical in
noncomputable def b5 (s:aF):D aA × Int:=
 if s.length > 1200 then (bF aA,2)
 else if h:∃o:D aA,bA o=0/\c6 o=s then (Classical.choose h,0) else (bF aA,4)
theorem uX {s:aF} (h:s.length > 1200):b5 s=(bF aA,2):=by unfold b5;rw [if_pos h]
theorem qg {s:aF} {o:D aA} (h:¬ s.length > 1200) (hf:bA o=0) (ht:c6 o=s):b5 s=(o,0):=by
 have hx:∃o:D aA,bA o=0/\c6 o=s:=⟨o,hf,ht⟩
 have hc:=Classical.choose_spec hx
 unfold b5
 rw [if_neg h,dif_pos hx,Dt hc.1 hf (hc.2.trans ht.symm)]
theorem rF {s:aF} (h:¬ s.length > 1200) (hn:∀o:D aA,bA o=0->c6 o≠s):b5 s=(bF aA,4):=by
 unfold b5
 rw [if_neg h,dif_neg fun ⟨o,h1,h2⟩=>hn o h1 h2]
theorem BP {s:aF} (h:¬ s.length > 1200) (hr:BO s=none):b5 s=(bF aA,4):=
 rF h fun o h1 h2=>by rw [<-h2,l9 h1] at hr;cases hr
theorem sY {s:aF} {o:D aA} (h:¬ s.length > 1200) (hr:BO s=some o) (hb:bA o=0->c6 o≠s):b5 s=(bF aA,4):=
 rF h fun p h1 h2=>by
  have:p=o:=by rw [<-h2,l9 h1] at hr;exact Option.some.inj hr
  rw [this] at h1 h2
  exact hb h1 h2
def cG (o:D aA) (b:Bool) (s:aF):D aA × Bool:=
 let w:=parts 32 (Lib.trimPrefix s bT)
 if nth .str w 0=ey/\w.length=2 then (jM o (nth .str w 1),b)
 else if nth .str w 0=ef/\w.length=2 then (jN o (cb (nth .str w 1)).1,b || (cD (nth .str w 1)).isNone)
 else if nth .str w 0=dF/\w.length=3 then (nc o (nth .str w 1,(cb (nth .str w 2)).1,Lib.hasPrefix s bT,()),b || (cD (nth .str w 2)).isNone)
 else if nth .str w 0=fV/\w.length=3 then (jm o ((cb (nth .str w 1)).1,1,(cb (nth .str w 2)).1,[],false,()),(b || (cD (nth .str w 1)).isNone) || (cD (nth .str w 2)).isNone)
 else if (nth .str w 0=fj\/nth .str w 0=fc)/\w.length=4 then
  (jm o ((cb (nth .str w 1)).1,if nth .str w 0=fc then 3 else 2,(cb (nth .str w 2)).1,nth .str w 3,Lib.hasPrefix s bT,()),(b || (cD (nth .str w 1)).isNone) || (cD (nth .str w 2)).isNone)
 else (o,true)
theorem iM {s:aF} {n:Int} (h:cD s=some n):(cb s).1=n:=by
 unfold cD at h
 unfold cb
 cases ha:Lib.atoiAll s with
 | ok v=>rw [ha] at h;simp only at h ⊢;split at h <;> simp_all
 | range=>rw [ha] at h;cases h
 | _=>rw [ha] at h;cases h
theorem BQ (o:D aA) (b:Bool) (s:aF):(∃p,jn o s=some p/\cG o b s=(p,b))\/(jn o s=none/\(cG o b s).2=true):=by
 unfold jn cG
 generalize hw:parts 32 (Lib.trimPrefix s bT)=w
 generalize Lib.hasPrefix s bT=k
 have hne:=rv 32 (Lib.trimPrefix s bT)
 rw [hw] at hne
 match w,hne with
 | [],hne=>exact absurd rfl hne
 | [a],_=>exact .inr ⟨rfl,by simp⟩
 | [a,x],_=>
  dsimp only [gp]
  simp only [show nth .str [a,x] 0=a from rfl,show nth .str [a,x] 1=x from rfl]
  by_cases h1:a=ey
  ·rw [if_pos h1,if_pos (show (a=ey)/\[a,x].length=2 from ⟨h1,rfl⟩)];exact .inl ⟨_,rfl,rfl⟩
  ·rw [if_neg h1,if_neg (show ¬ ((a=ey)/\[a,x].length=2) from fun e=>h1 e.1)]
   by_cases h2:a=ef
   ·rw [if_pos h2,if_pos (show (a=ef)/\[a,x].length=2 from ⟨h2,rfl⟩)]
    cases hn:cD x with
    | none=>exact .inr ⟨rfl,by simp⟩
    | some n=>exact .inl ⟨_,rfl,by rw [iM hn];simp⟩
   ·rw [if_neg h2,if_neg (show ¬ ((a=ef)/\[a,x].length=2) from fun e=>h2 e.1),if_neg (show ¬ ((a=dF)/\[a,x].length=3) from fun e=>absurd e.2 (by simp)),if_neg (show ¬ ((a=fV)/\[a,x].length=3) from fun e=>absurd e.2 (by simp)),if_neg (show ¬ ((a=fj\/a=fc)/\[a,x].length=4) from fun e=>absurd e.2 (by simp))];exact .inr ⟨rfl,rfl⟩
 | [a,x,y],_=>
  dsimp only [gp]
  simp only [show nth .str [a,x,y] 0=a from rfl,show nth .str [a,x,y] 1=x from rfl,show nth .str [a,x,y] 2=y from rfl]
  rw [if_neg (show ¬ ((a=ey)/\[a,x,y].length=2) from fun e=>absurd e.2 (by simp)),if_neg (show ¬ ((a=ef)/\[a,x,y].length=2) from fun e=>absurd e.2 (by simp))]
  by_cases h1:a=dF
  ·rw [if_pos h1,if_pos (show (a=dF)/\[a,x,y].length=3 from ⟨h1,rfl⟩)]
   cases hn:cD y with
   | none=>exact .inr ⟨rfl,by simp⟩
   | some n=>exact .inl ⟨_,rfl,by rw [iM hn];simp⟩
  ·rw [if_neg h1,if_neg (show ¬ ((a=dF)/\[a,x,y].length=3) from fun e=>h1 e.1)]
   by_cases h2:a=fV
   ·rw [if_pos h2,if_pos (show (a=fV)/\[a,x,y].length=3 from ⟨h2,rfl⟩)]
    unfold rC
    cases hm:cD x with
    | none=>exact .inr ⟨rfl,by simp⟩
    | some m=>
     cases hn:cD y with
     | none=>exact .inr ⟨rfl,by simp⟩
     | some n=>exact .inl ⟨_,rfl,by rw [iM hn,iM hm];simp⟩
   ·rw [if_neg h2,if_neg (show ¬ ((a=fV)/\[a,x,y].length=3) from fun e=>h2 e.1),if_neg (show ¬ ((a=fj\/a=fc)/\[a,x,y].length=4) from fun e=>absurd e.2 (by simp))];exact .inr ⟨rfl,rfl⟩
 | [a,x,y,z],_=>
  dsimp only [gp]
  simp only [show nth .str [a,x,y,z] 0=a from rfl,show nth .str [a,x,y,z] 1=x from rfl,show nth .str [a,x,y,z] 2=y from rfl,show nth .str [a,x,y,z] 3=z from rfl]
  rw [if_neg (show ¬ ((a=ey)/\[a,x,y,z].length=2) from fun e=>absurd e.2 (by simp)),if_neg (show ¬ ((a=ef)/\[a,x,y,z].length=2) from fun e=>absurd e.2 (by simp)),if_neg (show ¬ ((a=dF)/\[a,x,y,z].length=3) from fun e=>absurd e.2 (by simp)),if_neg (show ¬ ((a=fV)/\[a,x,y,z].length=3) from fun e=>absurd e.2 (by simp))]
  by_cases h1:a=fj\/a=fc
  ·rw [if_pos h1,if_pos (show (a=fj\/a=fc)/\[a,x,y,z].length=4 from ⟨h1,rfl⟩)]
   unfold rC
   cases hm:cD x with
   | none=>exact .inr ⟨rfl,by simp⟩
   | some m=>
    cases hn:cD y with
    | none=>exact .inr ⟨rfl,by simp⟩
    | some n=>exact .inl ⟨_,rfl,by rw [iM hn,iM hm];simp⟩
  ·rw [if_neg h1,if_neg (show ¬ ((a=fj\/a=fc)/\[a,x,y,z].length=4) from fun e=>h1 e.1)];exact .inr ⟨rfl,rfl⟩
 | a :: x :: y :: z :: u :: r,_=>exact .inr ⟨rfl,by simp⟩
theorem Du (o:D aA) (s:aF):(cG o true s).2=true:=by
 unfold cG;simp only [Bool.true_or]
 split
 ·rfl
 ·split
  ·rfl
  ·split
   ·rfl
   ·split
    ·rfl
    ·split <;> rfl
theorem Dv (o:D aA) (b:Bool) (s:aF) :
  (cG o b s).1.1.length<=o.1.length + 1/\(cG o b s).1.2.1.length<=o.2.1.length + 1/\(cG o b s).1.2.2.1.length<=o.2.2.1.length + 1/\(cG o b s).1.2.2.2.1.length<=o.2.2.2.1.length + 1:=by
 have e:∀{α:Type} (l:List α) (x:α),(l++[x]).length<=l.length + 1:=fun l x=>by simp
 have e0:∀n:Nat,n<=n + 1:=fun n=>Nat.le_succ n
 unfold cG
 simp only
 split
 ·exact ⟨e _ _,e0 _,e0 _,e0 _⟩
 ·split
  ·exact ⟨e0 _,e _ _,e0 _,e0 _⟩
  ·split
   ·exact ⟨e0 _,e0 _,e _ _,e0 _⟩
   ·split
    ·exact ⟨e0 _,e0 _,e0 _,e _ _⟩
    ·split
     ·exact ⟨e0 _,e0 _,e0 _,e _ _⟩
     ·exact ⟨e0 _,e0 _,e0 _,e0 _⟩
structure fk (L:List aF) (i:Nat) (o:D aA) (b:Bool):Prop where
 le:i<=L.length
 st:(run jn (bF aA) (L.take i)=some o/\b=false)\/(run jn (bF aA) (L.take i)=none/\b=true)
 l1:o.1.length<=i
 l2:o.2.1.length<=i
 l3:o.2.2.1.length<=i
 l4:o.2.2.2.1.length<=i
theorem fk.zero (L:List aF):fk L 0 (bF aA) false:=⟨Nat.zero_le _, .inl ⟨rfl,rfl⟩,Nat.le_refl _,Nat.le_refl _,Nat.le_refl _,Nat.le_refl _⟩
theorem fk.next {L:List aF} {i:Nat} {o:D aA} {b:Bool} (h:fk L i o b) (hi:i < L.length):fk L (i + 1) (cG o b (nth .str L i)).1 (cG o b (nth .str L i)).2:=by
 obtain ⟨a1,a2,a3,a4⟩:=Dv o b (nth .str L i)
 refine ⟨hi,?_,by have:=h.l1;omega,by have:=h.l2;omega,by have:=h.l3;omega,by have:=h.l4;omega⟩
 rw [gl (t:=.str) hi,xE]
 rcases h.st with ⟨hr,hb⟩ | ⟨hr,hb⟩
 ·rw [hr,Option.bind_some]
  rcases BQ o b (nth .str L i) with ⟨p,h1,h2⟩ | ⟨h1,h2⟩
  ·rw [h2];exact .inl ⟨h1,hb⟩
  ·exact .inr ⟨h1,h2⟩
 ·rw [hr,hb];exact .inr ⟨rfl,Du o _⟩
end Go.Mrl

namespace Go.Mrl
open Go.Vg
abbrev FU:=Unit × List (List UInt8) × List Int × List (D aG) × List (D aN) × (Bool × Unit) × Unit
def E1 (x:FU):D aA:=(x.2.1,x.2.2.1,x.2.2.2.1,x.2.2.2.2.1,())
def Dw (p:D aA × Bool):FU:=((),p.1.1,p.1.2.1,p.1.2.2.1,p.1.2.2.2.1,(p.2,()),())
theorem xH (s p:aF):(Lib.trimPrefix s p).length<=s.length:=by unfold Lib.trimPrefix;split <;> simp
theorem Aw {s:aF} {w:List aF} (hw:w=parts 32 (Lib.trimPrefix s bT)) (i:Nat):(nth .str w i).length<=s.length:=by
 by_cases h:i < w.length
 ·have h1:=eB (t:=.str) h
  rw [hw] at h1
  have:=jJ _ _ _ h1
  rw [<-hw] at this
  exact Nat.le_trans this (xH _ _)
 ·unfold nth;rw [List.getD_eq_getElem?_getD,List.getElem?_eq_none (by omega)];exact Nat.zero_le _
theorem E2 {s:aF} {w:List aF} (hw:w=parts 32 (Lib.trimPrefix s bT)):0 < w.length:=by rw [hw];exact List.length_pos_iff.2 (rv _ _)
theorem fD {c:Bool} {P:Prop} (q:c=true ↔ P) (h:c=false):¬ P:=fun p=>by rw [q.2 p] at h;cases h
section
variable {o:D aA} {b:Bool} {s:aF} {w:List aF} (hw:w=parts 32 (Lib.trimPrefix s bT))
include hw
theorem BR (h:nth .str w 0=ey/\w.length=2):cG o b s=(jM o (nth .str w 1),b):=by
 unfold cG;simp only;rw [<-hw,if_pos h]
theorem BS (h0:¬ (nth .str w 0=ey/\w.length=2)) (h:nth .str w 0=ef/\w.length=2):cG o b s=(jN o (cb (nth .str w 1)).1,b || (cD (nth .str w 1)).isNone):=by
 unfold cG;simp only;rw [<-hw,if_neg h0,if_pos h]
theorem Dx (h0:¬ (nth .str w 0=ey/\w.length=2)) (h1:¬ (nth .str w 0=ef/\w.length=2)) (h:nth .str w 0=dF/\w.length=3) :
  cG o b s=(nc o (nth .str w 1,(cb (nth .str w 2)).1,Lib.hasPrefix s bT,()),b || (cD (nth .str w 2)).isNone):=by
 unfold cG;simp only;rw [<-hw,if_neg h0,if_neg h1,if_pos h]
theorem BT (h0:¬ (nth .str w 0=ey/\w.length=2)) (h1:¬ (nth .str w 0=ef/\w.length=2)) (h2:¬ (nth .str w 0=dF/\w.length=3)) (h:nth .str w 0=fV/\w.length=3) :
  cG o b s=(jm o ((cb (nth .str w 1)).1,1,(cb (nth .str w 2)).1,[],false,()),(b || (cD (nth .str w 1)).isNone) || (cD (nth .str w 2)).isNone):=by
 unfold cG;simp only;rw [<-hw,if_neg h0,if_neg h1,if_neg h2,if_pos h]
theorem uY (h0:¬ (nth .str w 0=ey/\w.length=2)) (h1:¬ (nth .str w 0=ef/\w.length=2)) (h2:¬ (nth .str w 0=dF/\w.length=3)) (h3:¬ (nth .str w 0=fV/\w.length=3))
  (h:(nth .str w 0=fj\/nth .str w 0=fc)/\w.length=4) {k:Int} (hk:k=if nth .str w 0=fc then 3 else 2) :
  cG o b s=(jm o ((cb (nth .str w 1)).1,k,(cb (nth .str w 2)).1,nth .str w 3,Lib.hasPrefix s bT,()),(b || (cD (nth .str w 1)).isNone) || (cD (nth .str w 2)).isNone):=by
 unfold cG;simp only;rw [<-hw,if_neg h0,if_neg h1,if_neg h2,if_neg h3,if_pos h,hk]
theorem BU (h0:¬ (nth .str w 0=ey/\w.length=2)) (h1:¬ (nth .str w 0=ef/\w.length=2)) (h2:¬ (nth .str w 0=dF/\w.length=3)) (h3:¬ (nth .str w 0=fV/\w.length=3))
  (h:¬ ((nth .str w 0=fj\/nth .str w 0=fc)/\w.length=4)):cG o b s=(o,true):=by
 unfold cG;simp only;rw [<-hw,if_neg h0,if_neg h1,if_neg h2,if_neg h3,if_neg h]
end
end Go.Mrl

namespace Go.Mrl
open Go.Vg
end Go.Mrl

namespace Go.Mrl
open Go.Vg
noncomputable def hH (s:aF):D aA × aV:=((b5 s).1,aW (b5 s).2)
theorem BV {s:aF} (h:s.length > 1200):(bF aA,aV.no 2)=hH s:=by unfold hH;rw [uX h];rfl
theorem fk.run {L:List aF} {i:Nat} {o:D aA} {b:Bool} (h:fk L i o b) (hi:¬ i < L.length):(run jn (bF aA) L=some o/\b=false)\/(run jn (bF aA) L=none/\b=true):=by
 have:=h.st
 rwa [List.take_of_length_le (by omega)] at this
theorem pJ {s:aF} {i:Nat} {o:D aA} {b:Bool} (h:fk (parts 10 (Lib.trimSuffix s [10])) i o b) (hi:¬ i < (parts 10 (Lib.trimSuffix s [10])).length) (hl:¬ s.length > 1200)
  (hb:b=true\/(ew o).2.isNil=false\/¬ (ew o).1=s):(bF aA,aV.no 4)=hH s:=by
 have:b5 s=(bF aA,4):=by
  rcases h.run hi with ⟨hr,h0⟩ | ⟨hr,h0⟩
  ·rcases hb with hb | hb | hb
   ·rw [hb] at h0;cases h0
   ·refine sY hl hr fun hf ht => ?_
    rw [n5 hf rfl (by show (c6 o).length<=1200;rw [ht];omega)] at hb
    cases hb
   ·refine sY hl hr fun hf ht=>hb ?_
    rw [n5 hf rfl (by show (c6 o).length<=1200;rw [ht];omega)]
    exact ht
  ·exact BP hl hr
 unfold hH;rw [this];rfl
theorem E3 {s:aF} {o:D aA} (hl:¬ s.length > 1200)
  (hn:(ew o).2.isNil=true) (ht:(ew o).1=s):(o,aV.nil)=hH s:=by
 have hf:bA o=0:=by
  apply Classical.byContradiction;intro hf
  rw [uU hf] at hn
  exact hf (ba.1 hn)
 have hs:c6 o=s:=by
  by_cases h:(c6 o).length > 1200
  ·rw [sW hf rfl h] at hn;cases hn
  ·rw [n5 hf rfl (by show (c6 o).length<=1200;omega)] at ht;exact ht
 unfold hH;rw [qg hl hf hs];rfl
theorem Gq (s p:aF):(Lib.trimSuffix s p).length<=s.length:=by unfold Lib.trimSuffix;split <;> simp
theorem Dy (s:aF) (h:s.length<=1200):(parts 10 (Lib.trimSuffix s [10])).length<=1201:=by
 have h1:=pD 10 (Lib.trimSuffix s [10])
 have h2:(Lib.trimSuffix s [10]).length<=s.length:=by unfold Lib.trimSuffix;split <;> simp
 omega
theorem BW {s:aF} (h:s.length<=1200) (i:Nat):(nth .str (parts 10 (Lib.trimSuffix s [10])) i).length<=1200:=by
 by_cases hi:i < (parts 10 (Lib.trimSuffix s [10])).length
 ·have:=jJ _ _ _ (eB (t:=.str) hi)
  have h2:(Lib.trimSuffix s [10]).length<=s.length:=by unfold Lib.trimSuffix;split <;> simp
  omega
 ·unfold nth;rw [List.getD_eq_getElem?_getD,List.getElem?_eq_none (by omega)];exact Nat.zero_le _
end Go.Mrl

namespace Go.Mrl
open Go.Vg
abbrev Rd:=aF->aF × Int × Int
structure fE (rd:Rd):Prop where
 code:∀s,(rd s).2.2=0\/(rd s).2.2=5
 HQ:∃K:List aF,K.length<=6/\∀s,(rd s).2.2=0->s∈K
def cr (ns l:List aF):List aF:=l.foldl (fun ns s=>if ns.any (· == s)=true then ns else ns++[s]) ns
noncomputable def dx (rd:Rd) (s:aF):D aA:=(b5 (rd s).1).1
noncomputable def bU (rd:Rd) (s:aF):Int:=if (rd s).2.2=0 then (b5 (rd s).1).2 else (rd s).2.2
noncomputable def dn (rd:Rd):Nat->Nat->List aF->List (D aA)->List aF × List (D aA) × Int
 | 0,_,ns,os=>(ns,os,0)
 | k + 1,i,ns,os=>
  if i < ns.length then
   if bU rd (nth .str ns i)=0 then dn rd k (i + 1) (cr ns (dx rd (nth .str ns i)).1) (os++[dx rd (nth .str ns i)])
   else ([],[],bU rd (nth .str ns i))
  else (ns,os,0)
noncomputable def aL (rd:Rd) (root:aF):List aF × List (D aA) × Int:=dn rd 7 0 [root] []
theorem sZ (s:aF):((b5 s).2=0/\bA (b5 s).1=0/\c6 (b5 s).1=s)\/b5 s=(bF aA,2)\/b5 s=(bF aA,4):=by
 by_cases h:s.length > 1200
 ·exact .inr (.inl (uX h))
 ·by_cases h2:∃o:D aA,bA o=0/\c6 o=s
  ·obtain ⟨o,h3,h4⟩:=h2
   rw [qg h h3 h4];exact .inl ⟨rfl,h3,h4⟩
  ·exact .inr (.inr (rF h fun o h3 h4=>h2 ⟨o,h3,h4⟩))
theorem y8 (s:aF):0<=(b5 s).2:=by
 rcases sZ s with ⟨h,_⟩ | h | h <;> rw [h] <;> decide
theorem s0 {s:aF} (h:(b5 s).2=0):bA (b5 s).1=0:=by
 rcases sZ s with ⟨_,h,_⟩ | h' | h'
 ·exact h
 ·rw [h'] at h;cases h
 ·rw [h'] at h;cases h
theorem tR {rd:Rd} (h:fE rd) (s:aF):0<=bU rd s:=by
 unfold bU
 split
 ·exact y8 _
 ·rcases h.code s with e | e <;> rw [e] <;> decide
theorem lC {rd:Rd} (h:fE rd) {s:aF} (e:bU rd s=0):(rd s).2.2=0/\(b5 (rd s).1).2=0:=by
 unfold bU at e
 rcases h.code s with c | c
 ·rw [if_pos c] at e;exact ⟨c,e⟩
 ·rw [if_neg (by rw [c];decide),c] at e;cases e
theorem pK {rd:Rd} {s:aF} (e:¬ (rd s).2.2=0):bU rd s=(rd s).2.2:=by unfold bU;rw [if_neg e]
theorem my {rd:Rd} {s:aF} (e:(rd s).2.2=0):bU rd s=(b5 (rd s).1).2:=by unfold bU;rw [if_pos e]
theorem E4 (ns:List aF):cr ns []=ns:=rfl
theorem pL (ns l:List aF) (s:aF):cr ns (s :: l)=cr (if ns.any (· == s)=true then ns else ns++[s]) l:=rfl
theorem Dz (ns l:List aF) (s:aF):cr ns (l++[s])=if (cr ns l).any (· == s)=true then cr ns l else cr ns l++[s]:=by
 unfold cr;rw [List.foldl_append];rfl
theorem Ax {ns:List aF} {s:aF}:ns.any (· == s)=true ↔ s∈ns:=by
 rw [List.any_eq_true]
 constructor
 ·rintro ⟨x,hx,e⟩;rw [<-(by simpa using e:x=s)];exact hx
 ·intro h;exact ⟨s,h,by simp⟩
theorem iF:∀(l ns:List aF),∃r,cr ns l=ns++r/\r.length<=l.length/\∀s∈r,s∈l
 | [],ns=>⟨[],by simp [E4],by simp,by simp⟩
 | x :: l,ns=>by
  rw [pL]
  split
  ·obtain ⟨r,h1,h2,h3⟩:=iF l ns
   exact ⟨r,h1,by simp;omega,fun s hs=>by simp [h3 s hs]⟩
  ·obtain ⟨r,h1,h2,h3⟩:=iF l (ns++[x])
   refine ⟨x :: r,by rw [h1];simp,by simp;omega,fun s hs => ?_⟩
   rcases List.mem_cons.1 hs with rfl | hs
   ·simp
   ·simp [h3 s hs]
theorem n8:∀(l ns:List aF),ns.Nodup->(cr ns l).Nodup
 | [],ns,h=>h
 | x :: l,ns,h=>by
  rw [pL]
  split
  ·exact n8 l ns h
  ·rename_i hx
   refine n8 l _ ?_
   rw [List.nodup_append]
   refine ⟨h,by simp,fun a ha b hb e=>hx (Ax.2 ?_)⟩
   simp at hb;subst hb;exact e▸ha
theorem xI:∀(l ns:List aF),∀s∈l,s∈cr ns l
 | [],_,s,h=>by simp at h
 | x :: l,ns,s,h=>by
  rw [pL]
  rcases List.mem_cons.1 h with rfl | h
  ·split
   ·rename_i hx
    obtain ⟨r,h1,_⟩:=iF l ns
    rw [h1];exact List.mem_append_left _ (Ax.1 hx)
   ·obtain ⟨r,h1,_⟩:=iF l (ns++[s])
    rw [h1];simp
  ·exact xI l _ s h
theorem uZ {ns l:List aF} {i:Nat} (h:i < l.length):cr ns (l.take (i + 1))=if (cr ns (l.take i)).any (· == nth .str l i)=true then cr ns (l.take i) else cr ns (l.take i)++[nth .str l i]:=by
 rw [gl (t:=.str) h,Dz]
theorem u3 {t:Ty} {a b:List (D t)} {i:Nat} (h:i < a.length):nth t (a++b) i=nth t a i:=by rw [nV,if_pos h]
structure eZ (rd:Rd) (root:aF) (i:Nat) (ns:List aF) (os:List (D aA)):Prop where
 eq:dn rd (7 - i) i ns os=aL rd root
 le:i<=6
 lo:i<=ns.length
 pos:0 < ns.length
 len:os.length=i
 hi:ns.length<=1 + 4 * i
 head:nth .str ns 0=root
 nd:ns.Nodup
 Ay:∀j,j < i->bU rd (nth .str ns j)=0/\nth aA os j=dx rd (nth .str ns j)
 want:∀j,j < ns.length->j≠0->∃k,k < i/\k < j/\nth .str ns j∈(nth aA os k).1
 pH:∀j,j < i->∀s∈(nth aA os j).1,s∈ns
theorem eZ.zero (rd:Rd) (root:aF):eZ rd root 0 [root] []:=
 ⟨rfl,by omega,by simp,by simp,rfl,by simp,rfl,by simp,fun j h=>by omega,fun j h h'=>by simp at h;omega,fun j h=>by omega⟩
theorem eZ.room {rd:Rd} {root:aF} {i:Nat} {ns:List aF} {os:List (D aA)} (ok:fE rd) (h:eZ rd root i ns os) (hi:i < ns.length) (hf:bU rd (nth .str ns i)=0):i + 1<=6:=by
 obtain ⟨K,hK,hm⟩:=ok.HQ
 have hsub:∀y∈ns.take (i + 1),y∈K:=by
  intro y hy
  obtain ⟨j,hj,rfl⟩:=mV (t:=.str) hy
  rw [List.length_take] at hj
  rw [xf (t:=.str) (by omega)]
  refine hm _ (lC ok ?_).1
  rcases Nat.lt_or_ge j i with hl | hl
  ·exact (h.Ay j hl).1
  ·rw [show j=i by omega];exact hf
 have:=uG (h.nd.sublist (List.take_sublist (i + 1) ns)) hsub
 rw [List.length_take] at this
 omega
theorem eZ.fuel {rd:Rd} {root:aF} {i:Nat} {ns:List aF} {os:List (D aA)} (h:eZ rd root i ns os):dn rd (6 - i + 1) i ns os=aL rd root:=by
 rw [<-h.eq];congr 1;have:=h.le;omega
theorem eZ.bad {rd:Rd} {root:aF} {i:Nat} {ns:List aF} {os:List (D aA)} (h:eZ rd root i ns os) (hi:i < ns.length) (hf:¬ bU rd (nth .str ns i)=0) :
  aL rd root=([],[],bU rd (nth .str ns i)):=by
 rw [<-h.fuel,dn,if_pos hi,if_neg hf]
theorem eZ.done {rd:Rd} {root:aF} {i:Nat} {ns:List aF} {os:List (D aA)} (h:eZ rd root i ns os) (hi:¬ i < ns.length):aL rd root=(ns,os,0):=by
 rw [<-h.fuel,dn,if_neg hi]
theorem rG {rd:Rd} (ok:fE rd) {s:aF} (hf:bU rd s=0):eY (dx rd s):=hE (s0 (lC ok hf).2)
theorem eZ.next {rd:Rd} {root:aF} {i:Nat} {ns:List aF} {os:List (D aA)} (ok:fE rd) (h:eZ rd root i ns os) (hi:i < ns.length) (hf:bU rd (nth .str ns i)=0) :
  eZ rd root (i + 1) (cr ns (dx rd (nth .str ns i)).1) (os++[dx rd (nth .str ns i)]):=by
 have hr:=h.room ok hi hf
 have ho:=rG ok hf
 obtain ⟨r,h1,h2,h3⟩:=iF (dx rd (nth .str ns i)).1 ns
 have hn4:=ho.n4
 have hlen:=h.len
 have hhi:=h.hi
 have hpos:=h.pos
 have hos:nth aA (os++[dx rd (nth .str ns i)]) i=dx rd (nth .str ns i):=by rw [nV,if_neg (by omega),h.len,Nat.sub_self];rfl
 have hns:∀j,j < ns.length->nth .str (cr ns (dx rd (nth .str ns i)).1) j=nth .str ns j:=fun j hj=>by rw [h1,u3 (t:=.str) hj]
 have hoj:∀j,j < i->nth aA (os++[dx rd (nth .str ns i)]) j=nth aA os j:=fun j hj=>u3 (t:=aA) (by omega)
 refine ⟨?_,hr,by rw [h1,List.length_append];omega,by rw [h1,List.length_append];omega,by rw [List.length_append,h.len];rfl,by rw [h1,List.length_append];omega,
  by rw [hns 0 hpos];exact h.head,n8 _ _ h.nd,fun j hj => ?_,fun j hj h0 => ?_,fun j hj s hs => ?_⟩
 ·rw [<-h.fuel,dn,if_pos hi,if_pos hf];congr 1;omega
 ·rcases Nat.lt_or_ge j i with hl | hl
  ·rw [hns j (by omega),hoj j hl];exact h.Ay j hl
  ·rw [show j=i by omega,hns i hi,hos];exact ⟨hf,rfl⟩
 ·rcases Nat.lt_or_ge j ns.length with hl | hl
  ·obtain ⟨k,k1,k2,k3⟩:=h.want j hl h0
   exact ⟨k,by omega,k2,by rw [hns j hl,hoj k k1];exact k3⟩
  ·refine ⟨i,by omega,by omega,?_⟩
   rw [hos,h1,nV,if_neg (by omega)]
   refine h3 _ (eB (t:=.str) ?_)
   rw [h1,List.length_append] at hj;omega
 ·rcases Nat.lt_or_ge j i with hl | hl
  ·rw [hoj j hl] at hs
   rw [h1];exact List.mem_append_left _ (h.pH j hl s hs)
  ·rw [show j=i by omega,hos] at hs
   exact xI _ _ s hs
structure Scope (rd:Rd) (root:aF) (ns:List aF) (os:List (D aA)):Prop where
 le:ns.length<=6
 pos:0 < ns.length
 len:os.length=ns.length
 head:nth .str ns 0=root
 nd:ns.Nodup
 Ay:∀j,j < ns.length->bU rd (nth .str ns j)=0/\nth aA os j=dx rd (nth .str ns j)
 want:∀j,j < ns.length->j≠0->∃k,k < j/\nth .str ns j∈(nth aA os k).1
 pH:∀j,j < ns.length->∀s∈(nth aA os j).1,s∈ns
theorem s3 {rd:Rd} {root:aF} (ok:fE rd):∀(m i:Nat) (ns:List aF) (os:List (D aA)),m=7 - i->eZ rd root i ns os->
  (∃f,0 < f/\aL rd root=([],[],f))\/(∃ns os,aL rd root=(ns,os,0)/\Scope rd root ns os)
 | 0,i,ns,os,hm,h=>by have:=h.le;omega
 | m + 1,i,ns,os,hm,h=>by
  by_cases hi:i < ns.length
  ·by_cases hf:bU rd (nth .str ns i)=0
   ·exact s3 ok m (i + 1) _ _ (by omega) (h.next ok hi hf)
   ·have:=tR ok (nth .str ns i)
    exact .inl ⟨_,by omega,h.bad hi hf⟩
  ·have h1:=h.lo
   have h2:=h.le
   have e:i=ns.length:=by omega
   subst e
   exact .inr ⟨ns,os,h.done hi,h2,h.pos,h.len,h.head,h.nd,h.Ay,fun j hj h0=>let ⟨k,_,k2,k3⟩:=h.want j hj h0;⟨k,k2,k3⟩,h.pH⟩
theorem qH {rd:Rd} (ok:fE rd) (root:aF):(∃f,0 < f/\aL rd root=([],[],f))\/(∃ns os,aL rd root=(ns,os,0)/\Scope rd root ns os):=
 s3 ok 7 0 _ _ rfl (eZ.zero rd root)
theorem rH {rd:Rd} (ok:fE rd) {root:aF} (h:(aL rd root).2.2=0):Scope rd root (aL rd root).1 (aL rd root).2.1:=by
 rcases qH ok root with ⟨f,hf,e⟩ | ⟨ns,os,e,h'⟩
 ·rw [e] at h;simp only at h;omega
 ·rw [e];exact h'
theorem s4 (rd:Rd):∀(k i:Nat) (ns:List aF) (os:List (D aA)),(dn rd k i ns os).2.2=0->∀s∈ns,s∈(dn rd k i ns os).1
 | 0,_,ns,os,_=>fun s hs=>hs
 | k + 1,i,ns,os,h=>by
  unfold dn at h ⊢
  split
  ·rename_i hi
   rw [if_pos hi] at h
   split
   ·rename_i hf
    rw [if_pos hf] at h
    obtain ⟨r,h1,_⟩:=iF (dx rd (nth .str ns i)).1 ns
    intro s hs
    exact s4 rd k _ _ _ h s (by rw [h1];exact List.mem_append_left _ hs)
   ·rename_i hf
    rw [if_neg hf] at h
    exact absurd h hf
  ·exact fun s hs=>hs
theorem pM {rd rd':Rd}:∀(k i:Nat) (ns:List aF) (os:List (D aA)),(dn rd k i ns os).2.2=0->(∀s∈(dn rd k i ns os).1,rd' s=rd s)->dn rd' k i ns os=dn rd k i ns os
 | 0,_,ns,os,_,_=>rfl
 | k + 1,i,ns,os,h,hs=>by
  by_cases hi:i < ns.length
  ·have hm:=hs _ (s4 rd (k + 1) i ns os h _ (eB (t:=.str) hi))
   have e1:bU rd' (nth .str ns i)=bU rd (nth .str ns i):=by unfold bU;rw [hm]
   have e2:dx rd' (nth .str ns i)=dx rd (nth .str ns i):=by unfold dx;rw [hm]
   unfold dn at h hs ⊢
   rw [if_pos hi] at h hs ⊢
   rw [if_pos hi,e1,e2]
   by_cases hf:bU rd (nth .str ns i)=0
   ·rw [if_pos hf] at h hs ⊢
    rw [if_pos hf]
    exact pM k _ _ _ h hs
   ·rw [if_neg hf,if_neg hf]
  ·unfold dn;rw [if_neg hi,if_neg hi]
theorem qI {rd rd':Rd} {root:aF} (h:(aL rd root).2.2=0) (hs:∀s∈(aL rd root).1,rd' s=rd s):aL rd' root=aL rd root:=pM _ _ _ _ h hs
theorem gr {x:dK} (h:x.2.1.1.length<=6):fE (aY x):=by
 refine ⟨fun s => ?_,x.2.1.1.map lr,by rw [List.length_map];exact h,fun s hs => ?_⟩
 ·unfold aY;split
  ·exact .inl rfl
  ·exact .inr rfl
 ·by_cases c:bN bD x.2.1.1 s=true
  ·obtain ⟨y,hy,e⟩:=jI.1 c
   rw [<-e];exact List.mem_map_of_mem hy
  ·rw [lZ (by simpa using c)] at hs;cases hs
end Go.Mrl

namespace Go.Mrl
open Go.Vg
section
variable {rd:Rd} {root:aF} {i:Nat} {ns:List aF} {os:List (D aA)}
theorem eZ.E5 (ok:fE rd) (h:eZ rd root i ns os) (hi:i < ns.length) (he:¬ (rd (nth .str ns i)).2.2=0) :
  aL rd root=([],[],(rd (nth .str ns i)).2.2):=by
 rw [h.bad hi (by rw [pK he];exact he),pK he]
theorem eZ.Gr (h:eZ rd root i ns os) (hi:i < ns.length) (he:(rd (nth .str ns i)).2.2=0) (ho:¬ (b5 (rd (nth .str ns i)).1).2=0) :
  aL rd root=([],[],(b5 (rd (nth .str ns i)).1).2):=by
 rw [h.bad hi (by rw [my he];exact ho),my he]
theorem tS {s:aF} (he:(rd s).2.2=0) (ho:(b5 (rd s).1).2=0):bU rd s=0:=by rw [my he];exact ho
theorem eZ.HM (h:eZ rd root i ns os):os.length + 1<=1000000000:=by have:=h.len;have:=h.le;omega
theorem eZ.Hh (h:eZ rd root i ns os) (ok:fE rd) {s:aF} (hf:bU rd s=0) (k:Nat):(cr ns (List.take k (dx rd s).1)).length + 1<=1000000000:=by
 obtain ⟨r,h1,h2,_⟩:=iF (List.take k (dx rd s).1) ns
 have:=(rG ok hf).n4
 have:=h.hi
 have:=h.le
 rw [h1,List.length_append]
 rw [List.length_take] at h2
 omega
theorem Az {l:List aF} {k:Nat} (h:k < l.length) (hn:(cr ns (l.take k)).any (fun x=>x == nth .str l k)=false):cr ns (l.take k)++[nth .str l k]=cr ns (l.take (k + 1)):=by
 rw [uZ h,if_neg (by rw [hn];exact Bool.false_ne_true)]
theorem AA {l:List aF} {k:Nat} (h:k < l.length) (hn:(cr ns (l.take k)).any (fun x=>x == nth .str l k)=true):cr ns (l.take k)=cr ns (l.take (k + 1)):=by
 rw [uZ h,if_pos hn]
theorem AB {l:List aF} {k:Nat} (h:¬ k < l.length):cr ns (l.take k)=cr ns l:=by rw [List.take_of_length_le (by omega)]
end
end Go.Mrl

namespace Go.Mrl
open Go.Vg
end Go.Mrl
namespace Go.Mrl
open Go.Vg
end Go.Mrl

namespace Go.Mrl
open Go.Vg
end Go.Mrl

namespace Go.Mrl
open Go.Vg
def bI (l:List (D aA)):List Int:=l.map fun o=>(o.2.1.length:Int)
def bQ (l:List (D aA)):Ws:=l.map fun o=>o.2.1
theorem BX (l:List (D aA)):(bI l).length=l.length:=by simp [bI]
theorem jr (l:List (D aA)):(bQ l).length=l.length:=by simp [bQ]
theorem Gs {t u:Ty} {f:D u->D t} {l:List (D u)} {i:Nat} (h:i < l.length):nth t (l.map f) i=f (nth u l i):=by
 unfold nth;rw [List.getD_eq_getElem?_getD,List.getD_eq_getElem?_getD,List.getElem?_map,List.getElem?_eq_getElem h];rfl
theorem s5 {l:List (D aA)} {i:Nat} (h:i < l.length):nth dC (bQ l) i=(nth aA l i).2.1:=Gs (u:=aA) (t:=dC) h
theorem qJ {l:List (D aA)} {i:Nat} (h:i < l.length):bI (l.take (i + 1))=bI (l.take i)++[((nth aA l i).2.1.length:Int)]:=by
 unfold bI;rw [kq (t:=aA) h];simp
theorem qK {l:List (D aA)} {i:Nat} (h:i < l.length):bQ (l.take (i + 1))=bQ (l.take i)++[(nth aA l i).2.1]:=by
 unfold bQ;rw [kq (t:=aA) h];simp
noncomputable def BY (l:List (D aA)) (b:List Int) (i:Nat) (ts:List (D aN)):List Pt:=ts.map fun t=>((i:Int),t.1,(da l b i t).1,())
noncomputable def pN (l:List (D aA)) (b:List Int):List (D aA)->Nat->List Pt
 | [],_=>[]
 | o :: r,i=>BY l b i o.2.2.2.1++pN l b r (i + 1)
theorem AD {l:List (D aA)} {b:List Int} {i:Nat}:∀{ts:List (D aN)} {out:List Pt},(gY l b i ts out).2.isNil=true->gY l b i ts out=(out++BY l b i ts, .nil)/\∀t∈ts,(da l b i t).2.isNil=true
 | [],out,_=>⟨by simp [gY,BY],by simp⟩
 | t :: r,out,h=>by
  rw [gY] at h ⊢
  by_cases c:(da l b i t).2.isNil=true
  ·rw [if_pos c] at h ⊢
   obtain ⟨h1,h2⟩:=AD h
   refine ⟨by rw [h1];simp [BY],fun u hu => ?_⟩
   rcases List.mem_cons.1 hu with rfl | hu
   ·exact c
   ·exact h2 u hu
  ·rw [if_neg c] at h;exact absurd h c
theorem AE {l:List (D aA)} {b:List Int}:∀{os:List (D aA)} {i:Nat} {out:List Pt},(gJ l b os i out).2.isNil=true->gJ l b os i out=(out++pN l b os i, .nil)/\
  ∀k,k < os.length->∀t∈(nth aA os k).2.2.2.1,(da l b ((i + k:Nat):Int) t).2.isNil=true
 | [],i,out,_=>⟨by simp [gJ,pN],fun k hk=>by simp at hk⟩
 | o :: r,i,out,h=>by
  rw [gJ] at h ⊢
  unfold ie at h ⊢
  by_cases c:(gY l b i o.2.2.2.1 out).2.isNil=true
  ·rw [if_pos c] at h ⊢
   obtain ⟨h1,h2⟩:=AD c
   obtain ⟨h3,h4⟩:=AE h
   refine ⟨by rw [h3,h1];simp [pN],fun k hk => ?_⟩
   rcases k with _ | k
   ·exact h2
   ·have:=h4 k (by simpa using hk)
    rw [show i + 1 + k=i + (k + 1) by omega] at this
    exact this
  ·rw [if_neg c] at h;exact absurd h c
theorem E6 {l:List (D aA)} {b:List Int} (h:(dk (l,b)).2.isNil=true):b.length=l.length/\jt b/\(dk (l,b)).1=pN l b l 0/\∀k,k < l.length->∀t∈(nth aA l k).2.2.2.1,(da l b (k:Int) t).2.isNil=true:=by
 have h':=h
 unfold dk at h ⊢
 split at h
 ·cases h
 ·rename_i hl
  split at h
  ·rename_i hb
   obtain ⟨h1,h2⟩:=AE h
   refine ⟨Classical.byContradiction hl,hb,?_,fun k hk t ht=>by have:=h2 k hk t ht;rwa [Nat.zero_add] at this⟩
   rw [if_neg hl,if_pos hb,h1];rfl
  ·cases h
theorem xJ {l:List (D aA)} {b:List Int}:∀{os:List (D aA)} {i:Nat} {p:Pt},p∈pN l b os i->∃k t,k < os.length/\t∈(nth aA os k).2.2.2.1/\p=(((i + k:Nat):Int),t.1,(da l b ((i + k:Nat):Int) t).1,())
 | [],i,p,h=>by simp [pN] at h
 | o :: r,i,p,h=>by
  rcases List.mem_append.1 h with h | h
  ·obtain ⟨t,ht,rfl⟩:=List.mem_map.1 h
   exact ⟨0,t,by simp,ht,rfl⟩
  ·obtain ⟨k,t,hk,ht,rfl⟩:=xJ h
   exact ⟨k + 1,t,by simp;omega,ht,by rw [show i + 1 + k=i + (k + 1) by omega]⟩
theorem s6 (x:List Int × List (D aP)):Told (bP x).2:=by
 unfold bP
 split
 ·rfl
 ·split
  ·rfl
  ·split <;> rfl
theorem E7 (x:Ws × List Pt):Told (dD x).2:=by
 unfold dD;split <;> rfl
theorem n9 {e:aV} (h:Told e):aW (cI e)=e:=by
 cases e with
 | nil=>rfl
 | no m=>
  have h':0 < m:=by have:=h;simpa [Told,p9,cI] using this
  have h2:¬ m=0:=by omega
  show aW m=_
  unfold aW
  rw [if_neg h2]
 | other=>unfold Told at h;simp [p9] at h
theorem xK {e:aV} (h:Told e) (hn:e.isNil=false):0 < cI e:=by
 cases e with
 | nil=>cases hn
 | no m=>
  have h':0 < m:=by have:=h;simpa [Told,p9,cI] using this
  exact h'
 | other=>unfold Told at h;simp [p9] at h
abbrev Rk:=List aF × List (D aA) × List Int × List Pt × Int
noncomputable def bf (rd:Rd) (root:aF):Rk:=
 if ¬ (aL rd root).2.2=0 then ([],[],[],[],(aL rd root).2.2)
 else if (bP (bI (aL rd root).2.1,[])).2.isNil=false then ([],[],[],[],cI (bP (bI (aL rd root).2.1,[])).2)
 else if (dk ((aL rd root).2.1,(bP (bI (aL rd root).2.1,[])).1)).2.isNil=false then ([],[],[],[],cI (dk ((aL rd root).2.1,(bP (bI (aL rd root).2.1,[])).1)).2)
 else ((aL rd root).1,(aL rd root).2.1,(bP (bI (aL rd root).2.1,[])).1,(dk ((aL rd root).2.1,(bP (bI (aL rd root).2.1,[])).1)).1,0)
theorem pO {rd:Rd} {root:aF} (h:¬ (aL rd root).2.2=0):bf rd root=([],[],[],[],(aL rd root).2.2):=by unfold bf;rw [if_pos h]
theorem pP {rd:Rd} {root:aF} (h:(aL rd root).2.2=0) (h1:(bP (bI (aL rd root).2.1,[])).2.isNil=false):bf rd root=([],[],[],[],cI (bP (bI (aL rd root).2.1,[])).2):=by
 unfold bf;rw [if_neg (not_not_intro h),if_pos h1]
theorem s7 {rd:Rd} {root:aF} (h:(aL rd root).2.2=0) (h1:(bP (bI (aL rd root).2.1,[])).2.isNil=true) (h2:(dk ((aL rd root).2.1,(bP (bI (aL rd root).2.1,[])).1)).2.isNil=false) :
  bf rd root=([],[],[],[],cI (dk ((aL rd root).2.1,(bP (bI (aL rd root).2.1,[])).1)).2):=by
 unfold bf;rw [if_neg (not_not_intro h),if_neg (by rw [h1];decide),if_pos h2]
theorem qL {rd:Rd} {root:aF} (h:(aL rd root).2.2=0) (h1:(bP (bI (aL rd root).2.1,[])).2.isNil=true) (h2:(dk ((aL rd root).2.1,(bP (bI (aL rd root).2.1,[])).1)).2.isNil=true) :
  bf rd root=((aL rd root).1,(aL rd root).2.1,(bP (bI (aL rd root).2.1,[])).1,(dk ((aL rd root).2.1,(bP (bI (aL rd root).2.1,[])).1)).1,0):=by
 unfold bf;rw [if_neg (not_not_intro h),if_neg (by rw [h1];decide),if_neg (by rw [h2];decide)]
structure HN (rd:Rd) (root:aF) (ns:List aF) (os:List (D aA)) (bs:List Int) (ps:List Pt):Prop where
 e:aL rd root=(ns,os,0)
 sc:Scope rd root ns os
 eb:bP (bI os,[])=(bs, .nil)
 ea:dk (os,bs)=(ps, .nil)
 bl:bs.length=os.length
 bi:jt bs
 pt:ps=pN os bs os 0
 one:∀k,k < os.length->∀t∈(nth aA os k).2.2.2.1,(da os bs (k:Int) t).2.isNil=true
 HZ:∀i,i < ps.length->mW (bQ os) (nth bn ps i)
theorem u4 {e:aV} (h:e.isNil=true):e = .nil:=by cases e <;> first | rfl | cases h
theorem Scope.obj {rd:Rd} {root:aF} {ns:List aF} {os:List (D aA)} (ok:fE rd) (h:Scope rd root ns os) {i:Nat} (hi:i < os.length):eY (nth aA os i):=by
 have:=h.Ay i (by rw [<-h.len];exact hi)
 rw [this.2];exact rG ok this.1
theorem eY.E8 {o:D aA} (h:eY o):FQ o:=by
 refine ⟨by have:=h.t6;omega,fun i hi => ?_,fun i hi => ?_⟩
 ·have:=(h.sym hi).2;unfold jl at this;unfold Small;omega
 ·have:=h.tie hi
  have a:=this.a
  have w:=this.w
  unfold jl at a w
  unfold Small Word
  omega
theorem Scope.E8 {rd:Rd} {root:aF} {ns:List aF} {os:List (D aA)} (ok:fE rd) (h:Scope rd root ns os):dY os:=⟨by have:=h.le;have:=h.len;omega,fun _ hi=>(h.obj ok hi).E8⟩
theorem DA {a n:Int} (h:a<=n - 1):a < n:=by omega
theorem y9 {o:D aA} (h:bA o=0):cU o.2.1.length [] o.2.2.1=0/\eO o.2.1.length none o.2.2.2.1=0:=by
 unfold bA at h
 split at h
 ·cases h
 ·split at h
  ·rename_i h1;exact absurd h h1
  ·split at h
   ·rename_i h2;exact absurd h h2
   ·split at h
    ·rename_i h3;exact absurd h h3
    ·rename_i h3;exact ⟨Classical.byContradiction h3,h⟩
theorem BZ {o:D aA} (h:bA o=0) {t:D aN} (ht:t∈o.2.2.2.1):0<=t.1/\t.1 < (o.2.1.length:Int):=by
 obtain ⟨p,hp⟩:=nZ _ _ _ (y9 h).2 t ht
 obtain ⟨⟨a,b⟩,_⟩:=uR hp
 exact ⟨a,DA b⟩
theorem Scope.fault {rd:Rd} {root:aF} {ns:List aF} {os:List (D aA)} (ok:fE rd) (h:Scope rd root ns os) {i:Nat} (hi:i < os.length):bA (nth aA os i)=0:=by
 have:=h.Ay i (by rw [<-h.len];exact hi)
 rw [this.2];exact s0 (lC ok this.1).2
theorem xL {rd:Rd} (ok:fE rd) (root:aF):(∃f,0 < f/\bf rd root=([],[],[],[],f))\/(∃ns os bs ps,bf rd root=(ns,os,bs,ps,0)/\HN rd root ns os bs ps):=by
 rcases qH ok root with ⟨f,hf,e⟩ | ⟨ns,os,e,sc⟩
 ·exact .inl ⟨f,hf,by rw [pO (by rw [e];simp only;omega),e]⟩
 ·have e0:(aL rd root).2.2=0:=by rw [e]
  have e1:(aL rd root).2.1=os:=by rw [e]
  have e2:(aL rd root).1=ns:=by rw [e]
  cases hb:(bP (bI os,[])).2.isNil with
  | false=>exact .inl ⟨_,xK (s6 _) hb,by rw [pP e0 (by rw [e1];exact hb),e1]⟩
  | true=>
   cases ha:(dk (os,(bP (bI os,[])).1)).2.isNil with
   | false=>exact .inl ⟨_,xK (xk _) ha,by rw [s7 e0 (by rw [e1];exact hb) (by rw [e1];exact ha),e1]⟩
   | true=>
    obtain ⟨a1,a2,a3,a4⟩:=E6 ha
    refine .inr ⟨ns,os,_,_,by rw [qL e0 (by rw [e1];exact hb) (by rw [e1];exact ha),e1,e2],e,sc,Prod.ext rfl (u4 hb),Prod.ext rfl (u4 ha),a1,a2,a3,a4,fun i hi => ?_⟩
    obtain ⟨k,t,hk,ht,hp⟩:=xJ (by rw [<-a3];exact eB (t:=bn) hi)
    rw [hp]
    have:=BZ (sc.fault ok hk) ht
    refine ⟨by simp only;omega,by simp only;rw [jr];omega,this.1,?_⟩
    simp only [Nat.zero_add]
    rw [show ((k:Int)).toNat=k from rfl,s5 hk]
    exact this.2
def et (ns:List aF) (bs:List Int) (w:Ws) (n:Nat):List (D bS):=(List.range n).map fun i=>(nth .str ns i,nth (.int .i64) bs i,nth dC w i,())
theorem B0 (ns:List aF) (bs:List Int) (w:Ws) (n:Nat):(et ns bs w n).length=n:=by simp [et]
theorem qM (ns:List aF) (bs:List Int) (w:Ws) (n:Nat):et ns bs w (n + 1)=et ns bs w n++[(nth .str ns n,nth (.int .i64) bs n,nth dC w n,())]:=by simp [et,List.range_succ]
noncomputable def gu (ns:List aF) (bs:List Int) (os:List (D aA)) (ps:List Pt):List (D bS) × aV:=
 if ¬ ns.length=os.length\/¬ bs.length=os.length then ([], .no 3)
 else if (dD (bQ os,ps)).2.isNil=false then ([],(dD (bQ os,ps)).2)
 else (et ns bs (dD (bQ os,ps)).1 os.length, .nil)
theorem s9 {ns:List aF} {bs:List Int} {os:List (D aA)} {ps:List Pt} (h:¬ ns.length=os.length\/¬ bs.length=os.length):gu ns bs os ps=([], .no 3):=by unfold gu;rw [if_pos h]
theorem E9 {ns:List aF} {bs:List Int} {os:List (D aA)} {ps:List Pt} (h:ns.length=os.length) (h':bs.length=os.length) (hp:(dD (bQ os,ps)).2.isNil=false):gu ns bs os ps=([],(dD (bQ os,ps)).2):=by
 unfold gu;rw [if_neg (by rintro (e | e);exact e h;exact e h'),if_pos hp]
theorem AF {ns:List aF} {bs:List Int} {os:List (D aA)} {ps:List Pt} (h:ns.length=os.length) (h':bs.length=os.length) (hp:(dD (bQ os,ps)).2.isNil=true):gu ns bs os ps=(et ns bs (dD (bQ os,ps)).1 os.length, .nil):=by
 unfold gu;rw [if_neg (by rintro (e | e);exact e h;exact e h'),if_neg (by rw [hp];decide)]
theorem Fa (ns:List aF) (bs:List Int) (os:List (D aA)) (ps:List Pt):Told (gu ns bs os ps).2:=by
 unfold gu;split
 ·rfl
 ·split
  ·exact E7 _
  ·rfl
noncomputable def cQ (rd:Rd) (root:aF):List (D bS) × Int:=
 if ¬ (bf rd root).2.2.2.2=0 then ([],(bf rd root).2.2.2.2)
 else ((gu (bf rd root).1 (bf rd root).2.2.1 (bf rd root).2.1 (bf rd root).2.2.2.1).1,cI (gu (bf rd root).1 (bf rd root).2.2.1 (bf rd root).2.1 (bf rd root).2.2.2.1).2)
theorem Fb {rd:Rd} {root:aF} (h:¬ (bf rd root).2.2.2.2=0):cQ rd root=([],(bf rd root).2.2.2.2):=by unfold cQ;rw [if_pos h]
end Go.Mrl

namespace Go.Mrl
open Go.Vg
def HR (p:D bS) (a:Int):Prop:=(p.2.1:Int)<=a/\a < (p.2.1:Int) + (p.2.2.1.length:Int)
instance (p:D bS) (a:Int):Decidable (HR p a):=inferInstanceAs (Decidable (_/\_))
theorem DB {rd:Rd} (ok:fE rd) {root:aF} (h:(aL rd root).2.2=0):(aL rd root).2.1.length<=6:=by
 have:=(rH ok h).le;have:=(rH ok h).len;omega
theorem B1 {rd:Rd} (ok:fE rd) {root:aF} (h:(aL rd root).2.2=0):dY (aL rd root).2.1:=(rH ok h).E8 ok
theorem Gt {l:List (D aA)} (h:l.length<=1000/\∀i,i < l.length->(nth aA l i).2.1.length<=1000) :
  (bQ l).length<=100000/\∀i,i < (bQ l).length->(nth dC (bQ l) i).length<=100000000:=by
 refine ⟨by rw [jr];omega,fun i hi => ?_⟩
 rw [jr] at hi
 rw [s5 hi];have:=h.2 i hi;omega
theorem B2 {rd:Rd} (ok:fE rd) {root:aF} {ns:List aF} {os:List (D aA)} (h:Scope rd root ns os):os.length<=1000/\∀i,i < os.length->(nth aA os i).2.1.length<=1000:=by
 refine ⟨by have:=h.le;have:=h.len;omega,fun i hi => ?_⟩
 exact Nat.le_trans (h.obj ok hi).HF (by decide)
theorem xM {rd:Rd} (ok:fE rd) {root:aF} (h:(bf rd root).2.2.2.2=0) :
  (bf rd root).2.1.length<=1000/\∀i,i < (bf rd root).2.1.length->(nth aA (bf rd root).2.1 i).2.1.length<=1000:=by
 rcases xL ok root with ⟨f,hf,e⟩ | ⟨ns,os,bs,ps,e,hr⟩
 ·rw [e] at h;simp at h;omega
 ·rw [e];exact B2 ok hr.sc
theorem Fc {rd:Rd} {root:aF} (h:(bf rd root).2.2.2.2=0) :
  ((gu (bf rd root).1 (bf rd root).2.2.1 (bf rd root).2.1 (bf rd root).2.2.2.1).1,(gu (bf rd root).1 (bf rd root).2.2.1 (bf rd root).2.1 (bf rd root).2.2.2.1).2,()) =
   ((cQ rd root).1,aW (cQ rd root).2,()):=by
 unfold cQ;rw [if_neg (not_not_intro h)]
 simp only [n9 (Fa _ _ _ _)]
theorem u5 {f:Int} (h:(aW f).isNil=false):¬ f=0:=fun e=>by rw [ba.2 e] at h;cases h
theorem Fe (x:List (D aA) × List Int):aW (cI (dk x).2)=(dk x).2:=n9 (xk x)
end Go.Mrl

namespace Go.Mrl
open Go.Vg
section
variable {o:D aA} {b:Bool} {w:List aF} {k:Nat}
end
theorem eT {k n:Nat} (h:(k:Int) < (n:Int)):(decide ((k:Int) < 3))=true ↔ ((k:Int) < (n:Int)/\(k:Int) < 3):=by
 rw [decide_eq_true_eq];omega
end Go.Mrl

namespace Go.Mrl
open Go.Vg
def FV (e:D dh):Prop:=e.2.1.length < 1\/e.2.1.length > 6\/e.2.2.1.length > 36
instance (e:D dh):Decidable (FV e):=by unfold FV;infer_instance
end Go.Mrl

namespace Go.Mrl
open Go.Vg
end Go.Mrl

namespace Go.Mrl
open Go.Vg
end Go.Mrl

namespace Go.Mrl
open Go.Vg
theorem DC {rd:Rd} {root:aF} {ns:List aF} {os:List (D aA)} {bs:List Int} {ps:List Pt} {w:Ws} (h:aL rd root=(ns,os,0)) (hb:bP (bI os,[])=(bs, .nil)) (ha:dk (os,bs)=(ps, .nil))
  (hn:ns.length=os.length) (hl:bs.length=os.length) (hp:∀i,i < ps.length->mW (bQ os) (nth bn ps i)) (hw:gL (bQ os) ps=w):cQ rd root=(et ns bs w os.length,0):=by
 have e:bf rd root=(ns,os,bs,ps,0):=by
  unfold bf
  rw [h]
  simp only [hb,ha,aV.isNil]
  rfl
 unfold cQ
 rw [e,if_neg (by simp)]
 have hq:dD (bQ os,ps)=(w, .nil):=by rw [tN hp,hw]
 simp only
 rw [AF hn hl (by rw [hq];rfl),hq]
 rfl
def rI:aF:=[110,101,101,100,32,98,10,119,111,114,100,32,48,10,119,104,111,108,101,32,48,32,48,32,120,10]
def tT:aF:=[119,111,114,100,32,55,10,115,121,109,98,111,108,32,120,32,48,10]
abbrev gG:D aA:=([[98]],[0],[],[(0,2,0,[120],false,())],())
abbrev jP:D aA:=([],[7],[([120],0,false,())],[],())
theorem FW:b5 rI=(gG,0):=by
 have i0:Lib.itoa 0 = [48]:=by rw [ry (by decide) (by decide)];rfl
 refine qg (by decide) (by decide) ?_
 simp only [c6,dE,gn,gm,iC,nY,l7,mw,cZ,List.length_singleton,List.length_nil,List.take_succ_cons,List.take_zero,List.flatMap_cons,List.flatMap_nil,i0]
 decide
theorem FX:b5 tT=(jP,0):=by
 have i7:Lib.itoa 7 = [55]:=by rw [ry (by decide) (by decide)];rfl
 have i0:Lib.itoa 0 = [48]:=by rw [ry (by decide) (by decide)];rfl
 refine qg (by decide) (by decide) ?_
 simp only [c6,dE,gn,gm,iC,l7,rA,cZ,List.length_singleton,List.length_nil,List.take_succ_cons,List.take_zero,List.flatMap_cons,List.flatMap_nil,i7,i0]
 decide
def HS:dK:=(bH ji [97] rI).1
def ta:dK:=(bH HS [98] tT).1
theorem Hi:aY ta [97]=(rI,1,0):=by decide
theorem Hj:aY ta [98]=(tT,2,0):=by decide
theorem HA:aL (aY ta) [97]=([[97],[98]],[gG,jP],0):=by
 have fa:bU (aY ta) [97]=0:=by unfold bU;rw [Hi];show (if (0:Int)=0 then (b5 rI).2 else 0)=0;rw [FW];rfl
 have fb:bU (aY ta) [98]=0:=by unfold bU;rw [Hj];show (if (0:Int)=0 then (b5 tT).2 else 0)=0;rw [FX];rfl
 have oa:dx (aY ta) [97]=gG:=by unfold dx;rw [Hi];show (b5 rI).1=gG;rw [FW]
 have ob:dx (aY ta) [98]=jP:=by unfold dx;rw [Hj];show (b5 tT).1=jP;rw [FX]
 have n0:nth .str [[97]] 0 = [97]:=rfl
 have n1:nth .str [[97],[98]] 1 = [98]:=rfl
 have a0:cr [[97]] gG.1 = [[97],[98]]:=by decide
 have a1:cr [[97],[98]] jP.1 = [[97],[98]]:=by decide
 unfold aL
 rw [dn,if_pos (by decide),n0,if_pos fa,oa,a0,dn,if_pos (by decide),n1,if_pos fb,ob,a1,dn,if_neg (by decide)]
 rfl
theorem Gu:bJ ([gG,jP],[120])=(1,0):=by
 refine lp (i:=1) (k:=0) ⟨⟨by decide,by decide,rfl,rfl⟩,?_⟩
 rintro i k (h | ⟨_,h⟩) ⟨_,h1,_,h2⟩
 ·obtain rfl:i=0:=by omega
  exact absurd (show k < 0 from h1) (Nat.not_lt_zero _)
 ·omega
theorem Gv:cQ (aY ta) [97]=([([97],0,[16],()),([98],16,[7],())],0):=by
 refine DC HA (bs:=[0,16]) (ps:=[(0,0,16,())]) (w:=[[16],[7]]) rfl ?_ rfl rfl ?_ rfl
 ·rw [tO rfl (by
   intro i hi
   have:i=0\/i=1:=by simp at hi;omega
   rcases this with rfl | rfl <;> simp [nth])]
  have h1:da [gG,jP] [0,16] 0 (0,2,0,[120],false,())=(16, .nil):=by
   have ht:b8 [gG,jP] [0,16] (0,2,0,[120],false,())=(16, .nil):=by
    unfold b8
    show (if 0<=(bJ ([gG,jP],[120])).1 then (jf [0,16] (bJ ([gG,jP],[120])).1.toNat + (nth aG (nth aA [gG,jP] (bJ ([gG,jP],[120])).1.toNat).2.2.1 (bJ ([gG,jP],[120])).2.toNat).2.1,aV.nil) else _)=_
    rw [Gu];rfl
   rw [mX (by decide) (by rw [ht];rfl),ht]
   exact tP (by decide) rfl (by decide)
  simp [gJ,gY,ie,h1,aV.isNil]
 ·intro i hi
  obtain rfl:i=0:=by simp at hi;omega
  unfold mW;decide
def DD:dK:=((0 + 1 + 1,()),(cg bD (cg bD [] [97] (rI,0 + 1,()) 0) [98] (tT,0 + 1 + 1,()) (fy bD [] [97] 0),fy bD (cg bD [] [97] (rI,0 + 1,()) 0) [98] (fy bD [] [97] 0),()),())
theorem HB:ta=DD:=rfl
theorem rJ:cQ (aY DD) [97]=([([97],0,[16],()),([98],16,[7],())],0):=by rw [<-HB];exact Gv
end Go.Mrl

namespace Go.Vg
open Go
theorem zA {H:Type} {enc:TypeId × Value->H} {a:Assume} {C:Checked} {os:Os} {f:FuncId} {fn:Func} {s:ChangeSpec} {conds:List PathCond} {apart fresh handsOn again:Bool} {X:World->Array Value->Prop}
  (hX:∀(w w':World) (args:Array Value),w.heap=w'.heap->X w args->X w' args)
  (own:ownKnob C.prog.godebug=none) (started:os.Started) (noInit:C.prog.inits.idxOf? f=none) (hfn:C.prog.funcs[f]?=some fn)
  (witness:∃(w:World) (tape:Tape) (i:Input),w.os=os/\(w.forCall tape i).Shaped C.prog/\i.vars = []/\Input.okWide C.prog (w.forCall tape i) .any w.heap.size f i/\
   ((s.pre enc C.prog fn conds apart (w.forCall tape i).memory i.args/\X (w.forCall tape i).memory i.args)/\sizedMet enc C.prog fn (OpenSpec.ofChange s) apart (w.forCall tape i).memory i.args)/\a.holds C.prog (lone (Frame.enter C.prog f i.args .normal) [] (w.forCall tape i)))
  (contract:∀(W:World) (base:Nat) (args:Array Value) (ds gs:List (DataW H)) (before:List MemPlace),
   (∀(j:Nat) t v,fn.params[j]?=some t->args[j]?=some v->Value.okWide C.prog W .any base t v)->
   DataW.Whole enc C.prog fn.params.toList s.vars apart W args.toList ds gs before->
   X W args->W.ShapedOpen C.prog->
   Calls C.prog f args W fun e W'=>∃v,e = .returned v/\s.post enc C.prog fn apart fresh handsOn again W args v W') :
  ReturnsInHanded a C os f .any (fun w args=>(s.pre enc C.prog fn conds apart w args/\X w args)/\sizedMet enc C.prog fn (OpenSpec.ofChange s) apart w args) (s.post enc C.prog fn apart fresh handsOn again):=by
 refine returnsInHanded_of_calls own started noInit witness ?_
 intro w tape i _ hsh _ hok hpre hholds
 obtain ⟨_,_,_,fn',hfn',_,_,_,_,hval⟩:=hok
 have e:fn'=fn:=Option.some.inj (hfn'.symm.trans hfn)
 subst e
 obtain ⟨⟨⟨ds,gs,before,hw,hc⟩,hx⟩,hz⟩:=hpre
 have hw':=DataW.Whole.of_heap (w':=w.forCall tape i) (by rfl) hw
 refine (contract (w.forCall tape i) w.heap.size i.args ds gs before hval hw' (hX _ _ _ (by rfl) hx) hsh).mono fun e W' ⟨v,he,hp⟩ => ?_
 subst he
 exact ChangeSpec.post_blind hp
theorem xN {P:Program} {w:World} {g:Nat} {t:TypeId} {zero:Array Value} (h:w.ShapedOpen P) (hg:g < P.globals.size)
  (h0:((begin P (fun _ _=>0) default).world.heap[g]?).bind Obj.row?=some (zero,t)) (hz:zero.size=1)
  (hb:P.buildable t=true) (hc:P.cellTypes P.depth t=some [t]) (hu:P.underlying t=some (.int .i64)):∃m,w.cell? ⟨g,0,none⟩=some (.int .i64 m):=by
 obtain ⟨cs,hh,hs,hr⟩:=h.1 g zero t hg h0
 obtain ⟨ts,hts,_,hall⟩:=hr hb
 rw [hc] at hts
 cases hts
 have h1:0 < cs.size:=by omega
 obtain ⟨u,hu',hok⟩:=hall 0 cs[0] (by simp [h1])
 have:u=t:=by simpa using hu'.symm
 subst this
 have hcell:w.cell? ⟨g,0,none⟩=some cs[0]:=by simp [World.cell?,hh,h1]
 rw [hcell]
 unfold Cell.ok at hok
 rw [hu] at hok
 cases hv:cs[0] <;> rw [hv] at hok <;> first | exact hok.elim | (obtain ⟨rfl,_⟩:=hok;exact ⟨_,rfl⟩) | simp at hok
def FY:Option TypeDesc->Bool
 | some (.interface _)=>true
 | _=>false
theorem nf {P:Program} {W:World} {name nm:String} {d:DataW Unit} {g:Nat} {t:TypeId}
  (hg:P.globalNamed name=some g) (hty:(P.globals[g]?).map (·.type)=some t) (hi:FY (P.underlying t)=true)
  (h:Lib.VarReads P W name (.iface nm d)):∃ev,W.cell? ⟨g,0,none⟩=some ev/\(ev = .nilIface\/∃te pe,ev = .iface te pe):=by
 obtain ⟨g',t',cs,fuel,p,hg',ht',hvar,hd⟩:=h
 obtain rfl:=Option.some.inj (hg.symm.trans hg')
 obtain rfl:=Option.some.inj (hty.symm.trans ht')
 have hc:=World.var?_cell hg hvar 0
 obtain ⟨ms,hu⟩:∃ms,P.underlying t=some (.interface ms):=by
  unfold FY at hi
  split at hi
  ·rename_i ms hm;exact ⟨ms,hm⟩
  ·cases hi
 cases fuel with
 | zero=>simp [DataW.trod] at hd
 | succ n=>
  cases hl:cs.toList with
  | nil=>rw [hl] at hd;simp [DataW.trod,hu] at hd
  | cons v r=>
   have h0:cs[0]?=some v:=by rw [<-Array.getElem?_toList,hl];rfl
   rw [h0] at hc
   refine ⟨v,hc,?_⟩
   rw [hl] at hd
   cases v <;> first | exact .inl rfl | exact .inr ⟨_,_,rfl⟩ | (simp [DataW.trod,hu] at hd)
theorem xO {P:Program} {W:World} {name:String} {k:IntKind} {zs:List Int} {g:Nat} {t e:TypeId} {n:Nat}
  (hg:P.globalNamed name=some g) (hty:(P.globals[g]?).map (·.type)=some t) (ht:P.underlying t=some (.array n e)) (he:P.underlying e=some (.int k)) (hce:P.cellsOf e=1) (hct:P.cellsOf t=n)
  (h:Lib.VarReads P W name (Lib.tabData k zs)):Lib.TabIs P W name k zs:=by
 obtain ⟨g',t',cs,fuel,p,hg',ht',hvar,hd⟩:=h
 obtain rfl:=Option.some.inj (hg.symm.trans hg')
 obtain rfl:=Option.some.inj (hty.symm.trans ht')
 unfold Lib.TabIs
 rw [hvar,<-Lib.cells_of_tab ht he hce hct hd]
end Go.Vg

namespace Go.Mrl
open Go.Vg
theorem xP {rd rd':Rd} {root:aF} (h:aL rd' root=aL rd root):bf rd' root=bf rd root:=by unfold bf;rw [h]
theorem tc {rd rd':Rd} {root:aF} (h:aL rd' root=aL rd root):cQ rd' root=cQ rd root:=by unfold cQ;rw [xP h]
theorem u6 {s k:aF} (h:¬ k=s):∀{es:List FE},bN bD (cV bD es s) k=bN bD es k/\dr bD (cV bD es s) k=dr bD es k
 | []=>⟨rfl,rfl⟩
 | y :: es=>by
  obtain ⟨h1,h2⟩:=u6 h (es:=es)
  by_cases e:y.1=s
  ·have hk:¬ y.1=k:=fun e'=>h (e'.symm.trans e)
   have hs:¬ s=k:=fun e'=>h e'.symm
   have hd:cV bD (y :: es) s=es:=if_pos e
   rw [hd]
   constructor
   ·simp [bN,hk]
   ·show dr bD es k=if y.1=k then y.2.1 else dr bD es k;rw [if_neg hk]
  ·have hd:cV bD (y :: es) s=y :: cV bD es s:=if_neg e
   rw [hd]
   constructor
   ·simp only [bN] at h1 ⊢;simp [h1]
   ·show (if y.1=k then y.2.1 else dr bD (cV bD es s) k)=if y.1=k then y.2.1 else dr bD es k;rw [h2]
theorem DE {x:dK} {s k:aF} (h:¬ k=s):aY (cy x s).1 k=aY x k:=by
 cases hh:bN bD x.2.1.1 s with
 | false=>rw [j9 hh]
 | true=>
  rw [jj hh]
  unfold aY
  obtain ⟨h1,h2⟩:=u6 h (es:=x.2.1.1)
  simp only [h1,h2]
theorem kN {ns:List aF} {s:aF} {i:Nat} (hi:¬ i < ns.length) (h:∀j,j < i->¬ nth .str ns j=s):∀k∈ns,¬ k=s:=by
 intro k hk e
 obtain ⟨j,hj,e'⟩:=mV (t:=.str) hk
 exact h j (by omega) (e'.trans e)
theorem zB {x:dK} {root s t:aF} (h:(aL (aY x) root).2.2=0) (hs:∀k∈(aL (aY x) root).1,¬ k=s):aL (aY (bH x s t).1) root=aL (aY x) root:=
 qI h fun _ hk=>BC (hs _ hk)
theorem xQ {x:dK} {root s:aF} (h:(aL (aY x) root).2.2=0) (hs:∀k∈(aL (aY x) root).1,¬ k=s):aL (aY (cy x s).1) root=aL (aY x) root:=
 qI h fun _ hk=>DE (hs _ hk)
theorem kO {x:dK} {root s t:aF} (h:(aW (aL (aY x) root).2.2).isNil=true) (hs:∀k∈(aL (aY x) root).1,¬ k=s) :
  cQ (aY (bH x s t).1) root=cQ (aY x) root/\cQ (aY (cy (bH x s t).1 s).1) root=cQ (aY x) root:=by
 have h0:=ba.1 h
 have e1:=zB (t:=t) h0 hs
 have e2:=xQ (x:=(bH x s t).1) (root:=root) (s:=s) (by rw [e1];exact h0) (by rw [e1];exact hs)
 exact ⟨tc e1,tc (e2.trans e1)⟩
end Go.Mrl

