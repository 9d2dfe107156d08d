/- A part of the proof that the law TopBoundCard holds of the given program: facts that are used there. -/
import Derived.Test.YtgokjhhcfemnhacGreatDoorPart2
import Derived.Lib.SplitLaws
import Derived.Lib.ItoaNum
import Derived.Lib.AtoiAll
import Derived.Handed
import Derived.Clock
import Derived.Lib.LaidTab
import Derived.Lib.LaidU8
import Derived.Lay
set_option linter.unusedSimpArgs false
set_option linter.unusedVariables false
namespace Go.Mrl
open Go.Vg
def _root_.Go.Vg.Gy:List UInt8->UInt8
 | c :: _=>c
 | []=>0
def qE (c:UInt8):List aG->aG
 | []=>[]
 | [x]=>x
 | x :: y :: r=>x++c :: qE c (y :: r)
def parts (c:UInt8):aG->List aG
 | []=>[[]]
 | b :: r=>if b=c then [] :: parts c r else match parts c r with
  | h :: t=>(b :: h) :: t
  | []=>[[b]]
theorem r7 (c:UInt8):∀s:aG,parts c s≠[]
 | []=>by simp [parts]
 | b :: r=>by
  unfold parts
  split
  ·simp
  ·split <;> simp
theorem fS {c b:UInt8} {r:aG} (h:b≠c):∃x t,parts c r=x :: t/\parts c (b :: r)=(b :: x) :: t:=by
 cases hp:parts c r with
 | nil=>exact absurd hp (r7 c r)
 | cons x t=>
  refine ⟨x,t,rfl,?_⟩
  conv=>lhs;unfold parts
  rw [if_neg h,hp]
theorem iC {c:UInt8} {r:aG}:parts c (c :: r) = [] :: parts c r:=by
 conv=>lhs;unfold parts
 rw [if_pos rfl]
theorem fA {c:UInt8}:∀{x:aG},c∉x->parts c x = [x]
 | [],_=>rfl
 | b :: r,h=>by
  obtain ⟨x,t,h1,h2⟩:=fS (c:=c) (b:=b) (r:=r) (fun e=>h (by simp [e]))
  rw [fA (x:=r) (fun e=>h (by simp [e]))] at h1
  cases h1
  exact h2
theorem cY {c:UInt8}:∀{x:aG} {s:aG},c∉x->parts c (x++c :: s)=x :: parts c s
 | [],s,_=>iC
 | b :: r,s,h=>by
  obtain ⟨x,t,h1,h2⟩:=fS (c:=c) (b:=b) (r:=r++c :: s) (fun e=>h (by simp [e]))
  rw [cY (x:=r) (fun e=>h (by simp [e]))] at h1
  cases h1
  exact h2
theorem re {c:UInt8}:∀{L:List aG},L≠[]->(∀y∈L,c∉y)->parts c (qE c L)=L
 | [],h,_=>absurd rfl h
 | [x],_,h=>fA (h x (by simp))
 | x :: y :: r,_,h=>by
  show parts c (x++c :: qE c (y :: r))=_
  rw [cY (h x (by simp)),re (by simp) fun z hz=>h z (List.mem_cons_of_mem _ hz)]
theorem p6 (c:UInt8):∀(s:aG),(parts c s).length<=s.length + 1
 | []=>by simp [parts]
 | b :: r=>by
  by_cases h:b=c
  ·subst h;rw [iC];have:=p6 b r;simp;omega
  ·obtain ⟨x,t,h1,h2⟩:=fS (c:=c) (b:=b) (r:=r) h
   have:=p6 c r
   rw [h1] at this
   rw [h2];simp at this ⊢;omega
theorem jS (c:UInt8):∀(s:aG),∀y∈parts c s,y.length<=s.length
 | [],y,h=>by simp [parts] at h;simp [h]
 | b :: r,y,h=>by
  by_cases hb:b=c
  ·subst hb;rw [iC] at h
   rcases List.mem_cons.1 h with rfl | h
   ·simp
   ·have:=jS b r y h;simp;omega
  ·obtain ⟨x,t,h1,h2⟩:=fS (c:=c) (b:=b) (r:=r) hb
   rw [h2] at h
   rcases List.mem_cons.1 h with rfl | h
   ·have:=jS c r x (by rw [h1];simp);simp;omega
   ·have:=jS c r y (by rw [h1];simp [h]);simp;omega
theorem x9 {b c:UInt8} {l:aG} (h:b≠c):Lib.index (b :: l) [c]=if Lib.index l [c] == -1 then -1 else Lib.index l [c] + 1:=by
 rw [Lib.index];simp [List.isPrefixOf,Ne.symm h]
theorem ya {c:UInt8} {l:aG}:Lib.index (c :: l) [c]=0:=by
 rw [Lib.index];simp [List.isPrefixOf]
theorem lR (c:UInt8):∀s:aG,Lib.splitK [c] 0 (s.count c) s=parts c s
 | []=>rfl
 | b :: l=>by
  by_cases h:b=c
  ·subst h
   rw [iC,List.count_cons_self,Lib.splitK,ya,if_neg (by decide),<-lR b l]
   simp
  ·obtain ⟨x,t,h1,h2⟩:=fS (c:=c) (b:=b) (r:=l) h
   rw [h2,List.count_cons_of_ne h]
   rw [<-lR c l] at h1
   cases hk:l.count c with
   | zero=>
    rw [hk] at h1
    simp only [Lib.splitK] at h1 ⊢
    cases h1
    rfl
   | succ k=>
    rw [hk] at h1
    have hi:Lib.index l [c]≠-1:=by
     intro e
     have:=Lib.count_miss (s:=l) (sub:=[c]) e
     rw [Lib.count_one] at this
     omega
    have hge:=Lib.index_ge l [c]
    rw [Lib.splitK,if_neg (by simpa using hi)] at h1
    obtain ⟨i,e⟩:∃i:Nat,Lib.index l [c]=i:=⟨(Lib.index l [c]).toNat,by omega⟩
    have e2:Lib.index (b :: l) [c]=((i + 1:Nat):Int):=by rw [x9 h,if_neg (by simpa using hi),e];rfl
    rw [Lib.splitK,e2,if_neg (by simp;omega)]
    rw [e] at h1
    simp only [Int.toNat_natCast,Nat.add_zero,List.length_singleton,List.take_succ_cons,List.drop_succ_cons,List.cons.injEq] at h1 ⊢
    exact ⟨⟨trivial,h1.1⟩,h1.2⟩
def kJ (c:UInt8) (L:List aG):aG:=L.flatMap (· ++ [c])
theorem vt (c:UInt8) (x:aG) (L:List aG):kJ c (x :: L)=x++c :: kJ c L:=by simp [kJ]
theorem vu {c:UInt8}:∀{L:List aG},L≠[]->kJ c L=qE c L++[c]
 | [],h=>absurd rfl h
 | [x],_=>by simp [kJ,qE]
 | x :: y :: r,_=>by
  rw [vt,vu (L:=y :: r) (by simp)];simp [qE]
theorem uC (x:aG) (c:UInt8):Lib.trimSuffix (x++[c]) [c]=x:=by
 have h:Lib.hasSuffix (x++[c]) [c]=true:=by unfold Lib.hasSuffix;simp [List.isSuffixOf_iff_suffix]
 unfold Lib.trimSuffix
 rw [if_pos h];simp
theorem B6 {c:UInt8} {L:List aG} (h:L≠[]) (hf:∀y∈L,c∉y):parts c (Lib.trimSuffix (kJ c L) [c])=L:=by
 rw [vu h,uC,re h hf]
end Go.Mrl

namespace Go.Mrl
open Go.Vg
theorem p7 {k:Nat} (h:k < 10):(UInt8.ofNat (48 + k)).toNat=48 + k:=by
 rw [UInt8.toNat_ofNat'];omega
theorem js:∀(u:Nat),∀c∈Lib.decDigits u,48<=c.toNat/\c.toNat<=57:=by
 intro u
 induction u using Nat.strongRecOn with
 | _ u ih=>
  intro c hc
  by_cases h:u < 10
  ·rw [Lib.decDigits,dif_pos h] at hc
   simp only [List.mem_singleton] at hc
   rw [hc,p7 h];omega
  ·rw [Lib.decDigits,dif_neg h] at hc
   rcases List.mem_append.1 hc with hc | hc
   ·exact ih _ (by omega) c hc
   ·simp only [List.mem_singleton] at hc
    rw [hc,p7 (Nat.mod_lt _ (by decide))];omega
theorem p8 (u:Nat):Lib.decDigits u≠[]:=by
 rw [Lib.decDigits];split <;> simp
theorem kK:∀(k u:Nat),u < 10 ^ (k + 1)->(Lib.decDigits u).length<=k + 1
 | 0,u,h=>by rw [Lib.decDigits,dif_pos (by simpa using h)];simp
 | k + 1,u,h=>by
  rw [Lib.decDigits]
  split
  ·simp
  ·have:=kK k (u / 10) (by rw [Nat.pow_succ] at h;omega)
   simp;exact this
theorem vw:∀(l:aG) (c:UInt8) (a v:Nat),Lib.parseUint10 a l = .ok v->Lib.parseUint10 a (l++[c])=Lib.parseUint10 v [c]
 | [],c,a,v,h=>by simp [Lib.parseUint10] at h;rw [h];rfl
 | b :: l,c,a,v,h=>by
  rw [List.cons_append,Lib.parseUint10]
  rw [Lib.parseUint10] at h
  split at h
  ·rename_i hb
   rw [if_pos hb]
   split at h
   ·cases h
   ·rename_i h1
    rw [if_neg h1]
    split at h
    ·cases h
    ·rename_i h2
     rw [if_neg h2]
     exact vw l c _ v h
  ·cases h
theorem yb {v d:Nat} (hd:d < 10) (h:10 * v + d < 18446744073709551616):Lib.parseUint10 v [UInt8.ofNat (48 + d)] = .ok (10 * v + d):=by
 unfold Lib.parseUint10
 rw [p7 hd,if_pos (by omega),if_neg (by omega),if_neg (by omega)]
 unfold Lib.parseUint10
 congr 1;omega
theorem Fx:∀u:Nat,u < 18446744073709551616->Lib.parseUint10 0 (Lib.decDigits u) = .ok u:=by
 intro u
 induction u using Nat.strongRecOn with
 | _ u ih=>
  intro hu
  by_cases h:u < 10
  ·rw [Lib.decDigits,dif_pos h]
   have:=yb (v:=0) (d:=u) h (by omega)
   simpa using this
  ·rw [Lib.decDigits,dif_neg h,vw _ _ _ _ (ih _ (by omega) (by omega)),yb (Nat.mod_lt _ (by decide)) (by omega)]
   congr 1;omega
theorem A4 {u:Nat} (hu:u < 18446744073709551616):Lib.parseMag (Lib.decDigits u) = .ok u:=by
 unfold Lib.parseMag
 rw [if_neg (p8 u),Fx u hu]
theorem DN {n:Int} (h0 : -9223372036854775808<=n) (h1:n<=9223372036854775807):Lib.atoiAll (Lib.itoa n) = .ok n:=by
 by_cases hn:n < 0
 ·have hm:=A4 (u:=n.natAbs) (by omega)
  simp only [Lib.itoa,if_pos hn,Lib.atoiAll]
  rw [if_pos (Or.inr (by decide)),hm]
  simp only
  rw [if_neg (by simp),if_neg (by simp;omega)]
  simp;omega
 ·have hm:=A4 (u:=n.toNat) (by omega)
  simp only [Lib.itoa,if_neg hn,Lib.atoiAll]
  cases hd:Lib.decDigits n.toNat with
  | nil=>exact absurd hd (p8 _)
  | cons c r=>
   have hc:=js n.toNat c (by rw [hd];simp)
   rw [hd] at hm
   simp only
   rw [if_neg (by omega),hm]
   simp only
   rw [if_neg (by omega),if_neg (by omega),if_neg (by omega)]
   congr 1;omega
def ch (s:List UInt8):Int × aY:=match Lib.atoiAll s with
 | .ok n=>(n, .nil)
 | Lib.NumEnd.syntax=>(0, .other)
 | .range=>(Lib.atoiSat s, .other)
def cL (s:aG):Option Int:=match Lib.atoiAll s with
 | .ok n=>if Lib.itoa n=s then some n else none
 | _=>none
theorem DO {n:Int} (h0 : -9223372036854775808<=n) (h1:n<=9223372036854775807):cL (Lib.itoa n)=some n:=by
 unfold cL;rw [DN h0 h1];simp
theorem vy {s:aG}:(cL s).isNone=(!(ch s).2.isNil || !decide (Lib.itoa (ch s).1=s)):=by
 unfold cL ch
 cases Lib.atoiAll s with
 | ok v=>simp only [aY.isNil];by_cases h:Lib.itoa v=s <;> simp [h]
 | range=>rfl
 | _=>rfl
theorem vz {n:Int} {c:UInt8} (h:c.toNat<=44):c∉Lib.itoa n:=by
 intro hc
 have h45:(45:UInt8).toNat=45:=rfl
 unfold Lib.itoa at hc
 split at hc
 ·rcases List.mem_cons.1 hc with rfl | hc
  ·omega
  ·have:=js _ c hc;omega
 ·have:=js _ c hc;omega
theorem r8 {n:Int} (h:0<=n) (h':n < 10):Lib.itoa n = [UInt8.ofNat (48 + n).toNat]:=by
 unfold Lib.itoa;rw [if_neg (by omega),Lib.decDigits,dif_pos (by omega)];congr 2;omega
end Go.Mrl

namespace Go.Mrl
open Go.Vg
theorem kE {f:Int} (h0:0<=f) (h:(bd f).isNil=false):f > 0:=by
 have:¬ f=0:=fun e=>by rw [bf.2 e] at h;cases h
 omega
theorem jU {f:Int} (h:(bd f).isNil=true):f<=0:=by
 have:=bf.1 h;omega
theorem vA {t:Ty} {l:List (D t)} {i j:Nat} (h:j < i):nth t (List.drop 0 (List.take i l)) j=nth t l j:=by
 rw [List.drop_zero,xP h]
theorem vB {α:Type} {l:List α} {i:Nat} (h:i<=l.length):(List.drop 0 (List.take i l)).length=i:=by
 rw [List.drop_zero,List.length_take];omega
def dj (b:Bool):List UInt8:=if b=true then [119,101,97,107,32] else []
def oE (s:aG):aG:=[110,101,101,100,32]++s++[10]
def mw (n:Int):aG:=[119,111,114,100,32]++Lib.itoa n++[10]
def r9 (y:D aI):aG:=dj y.2.2.1++[115,121,109,98,111,108,32]++y.1++[32]++Lib.itoa y.2.1++[10]
def mT (t:D aH):aG:=
 if t.2.1=1 then [98,97,115,101,32]++Lib.itoa t.1++[32]++Lib.itoa t.2.2.1++[10]
 else if t.2.1=2 then dj t.2.2.2.2.1++[119,104,111,108,101,32]++Lib.itoa t.1++[32]++Lib.itoa t.2.2.1++[32]++t.2.2.2.1++[10]
 else dj t.2.2.2.2.1++[110,101,97,114,32]++Lib.itoa t.1++[32]++Lib.itoa t.2.2.1++[32]++t.2.2.2.1++[10]
def iS (o:D aA) (i:Nat):aG:=(o.1.take i).flatMap oE
def gA (o:D aA) (i:Nat):aG:=iS o o.1.length++(o.2.1.take i).flatMap mw
def gB (o:D aA) (i:Nat):aG:=gA o o.2.1.length++(o.2.2.1.take i).flatMap r9
def dK (o:D aA) (i:Nat):aG:=gB o o.2.2.1.length++(o.2.2.2.1.take i).flatMap mT
def dk (o:D aA):aG:=dK o o.2.2.2.1.length
def eD (o:D aA):aG × aY:=if bF o≠0 then ([],bd (bF o)) else if (dk o).length > 1200 then ([], .no 2) else (dk o, .nil)
theorem DP {o:D aA} {i:Nat} (h:i < o.1.length):iS o (i + 1)=iS o i++oE (nth .str o.1 i):=by
 unfold iS;rw [gz (t:=.str) h];simp
theorem DQ {o:D aA} {i:Nat} (h:i < o.2.1.length):gA o (i + 1)=gA o i++mw (nth (.int .i64) o.2.1 i):=by
 unfold gA;rw [gz (t:=.int .i64) h];simp
theorem DR {o:D aA} {i:Nat} (h:i < o.2.2.1.length):gB o (i + 1)=gB o i++r9 (nth aI o.2.2.1 i):=by
 unfold gB;rw [gz (t:=aI) h];simp
theorem p9 {o:D aA} {i:Nat} (h:i < o.2.2.2.1.length):dK o (i + 1)=dK o i++mT (nth aH o.2.2.2.1 i):=by
 unfold dK;rw [gz (t:=aH) h];simp
theorem DS (o:D aA):gA o 0=iS o o.1.length:=by unfold gA;simp
theorem DT (o:D aA):gB o 0=gA o o.2.1.length:=by unfold gB;simp
theorem DU (o:D aA):dK o 0=gB o o.2.2.1.length:=by unfold dK;simp
def Nm (s:aG):Prop:=s≠[]/\s.length<=8/\∀c∈s,c≠10/\c≠32
def jt (a b x:Int):Prop:=a<=x/\x<=b
structure tI (t:D aH):Prop where
 a:jt 0 39 t.1
 w:jt (-2147483648) 2147483647 t.2.2.1
 k:t.2.1=1\/t.2.1=2\/t.2.1=3
 base:t.2.1=1->t.2.2.2.1 = []/\t.2.2.2.2.1=false
 nm:t.2.1≠1->Nm t.2.2.2.1
structure fg (o:D aA):Prop where
 n4:o.1.length<=4
 w1:1<=o.2.1.length
 DV:o.2.1.length<=40
 s8:o.2.2.1.length<=8
 t6:o.2.2.2.1.length<=6
 wP:∀s∈o.1,Nm s
 words:∀n∈o.2.1,jt (-2147483648) 2147483647 n
 syms:∀y∈o.2.2.1,Nm y.1/\jt 0 39 y.2.1
 B7:∀t∈o.2.2.2.1,tI t
end Go.Mrl

namespace Go.Mrl
open Go.Vg
theorem rf:∀(l p:List aG),dV p l=0->∀s∈l,aK s=0
 | [],_,_,s,h=>absurd h (by simp)
 | x :: r,p,h,s,hs=>by
  have hx:=dJ x
  unfold dV at h
  split at h
  ·omega
  ·split at h
   ·cases h
   ·rcases List.mem_cons.1 hs with rfl | hs
    ·omega
    ·exact rf r _ h s hs
theorem rh:∀(l:List Int),eS l=0->∀n∈l,dZ n=true
 | [],_,s,h=>absurd h (by simp)
 | x :: r,h,s,hs=>by
  unfold eS at h
  split at h
  ·rename_i hx
   rcases List.mem_cons.1 hs with rfl | hs
   ·exact hx
   ·exact rh r h s hs
  ·cases h
theorem oF (n:Nat):∀(l p:List (D aI)),da n p l=0->∀y∈l,aK y.1=0/\jt 0 (n - 1) y.2.1
 | [],_,_,s,h=>absurd h (by simp)
 | x :: r,p,h,s,hs=>by
  have hx:=dJ x.1
  unfold da at h
  split at h
  ·omega
  ·split at h
   ·cases h
   ·rename_i h2
    split at h
    ·cases h
    ·rcases List.mem_cons.1 hs with rfl | hs
     ·exact ⟨by omega,Int.not_lt.1 fun e=>h2 (.inl e),Int.le_sub_one_of_lt (Int.not_le.1 fun e=>h2 (.inr e))⟩
     ·exact oF n r _ h s hs
theorem vC {n:Nat} {p:Option Int} {t:D aH} (h:ga n p t=0) :
  jt 0 (n - 1) t.1/\dZ t.2.2.1=true/\jt 1 3 t.2.1/\(t.2.1=1->t.2.2.2.1 = []/\t.2.2.2.2.1=false)/\(t.2.1≠1->aK t.2.2.2.1=0):=by
 unfold ga at h
 split at h
 ·cases h
 ·rename_i h1
  split at h
  ·cases h
  ·rename_i h2
   refine ⟨⟨Int.not_lt.1 fun e=>h1 (.inl e),Int.le_sub_one_of_lt (Int.not_le.1 fun e=>h1 (.inr (.inl e)))⟩,?_,⟨Int.not_lt.1 fun e=>h2 (.inl e),Int.not_lt.1 fun e=>h2 (.inr (.inl e))⟩,?_,?_⟩
   ·cases hw:dZ t.2.2.1 with
    | true=>rfl
    | false=>exact absurd (.inr (.inr hw)) h1
   ·intro e
    rw [if_pos e] at h
    split at h
    ·cases h
    ·rename_i h3
     refine ⟨Classical.byContradiction fun e=>h3 (.inl e),?_⟩
     cases hb:t.2.2.2.2.1 with
     | false=>rfl
     | true=>exact absurd (.inr hb) h3
   ·intro e
    rw [if_neg e] at h
    exact h
theorem oG (n:Nat):∀(l:List (D aH)) (p:Option Int),en n p l=0->∀t∈l,∃p,ga n p t=0
 | [],_,_,s,h=>absurd h (by simp)
 | x :: r,p,h,s,hs=>by
  unfold en at h
  split at h
  ·rename_i h0;exact absurd h h0
  ·rename_i h0
   rcases List.mem_cons.1 hs with rfl | hs
   ·exact ⟨p,Classical.byContradiction h0⟩
   ·exact oG n r _ h s hs
theorem B8 {s:aG} (h:aK s=0):Nm s:=by
 unfold aK at h
 split at h
 ·cases h
 ·rename_i hl
  split at h
  ·cases h
  ·rename_i hb
   refine ⟨by rintro rfl;simp at hl,by omega,fun c hc => ?_⟩
   obtain ⟨i,hi,rfl⟩:=List.getElem_of_mem hc
   have hn:dD i (ei s i)=false:=by
    unfold nv at hb
    rw [Bool.not_eq_true,List.any_eq_false] at hb
    have:=hb i (by simpa using hi)
    simpa using this
   have he:ei s i=s[i]:=by unfold ei;simp [hi]
   rw [he] at hn
   constructor
   ·intro e;rw [e] at hn;unfold dD small other at hn;simp at hn
   ·intro e;rw [e] at hn;unfold dD small other at hn;simp at hn
theorem three {x:Int} (h:1<=x) (h':x<=3):x=1\/x=2\/x=3:=by omega
theorem ie {o:D aA} (h:bF o=0):fg o:=by
 unfold bF at h
 split at h
 ·cases h
 ·rename_i hm
  split at h
  ·rename_i h1;exact absurd h h1
  ·rename_i h1
   split at h
   ·rename_i h2;exact absurd h h2
   ·rename_i h2
    split at h
    ·rename_i h3;exact absurd h h3
    ·rename_i h3
     have h1:=Classical.byContradiction h1
     have h2:=Classical.byContradiction h2
     have h3:=Classical.byContradiction h3
     unfold fM at hm
     have hw:o.2.1.length<=40:=Nat.not_lt.1 fun e=>hm (.inr (.inr (.inl e)))
     refine ⟨Nat.not_lt.1 fun e=>hm (.inl e),Nat.not_lt.1 fun e=>hm (.inr (.inl e)),hw,Nat.not_lt.1 fun e=>hm (.inr (.inr (.inr (.inl e)))),Nat.not_lt.1 fun e=>hm (.inr (.inr (.inr (.inr e)))),
      fun s hs=>B8 (rf _ _ h1 s hs),fun n hn => ?_,fun y hy => ?_,fun t ht => ?_⟩
     ·have:=rh _ h2 n hn
      unfold dZ at this
      simp only [Bool.and_eq_true,decide_eq_true_eq] at this
      exact this
     ·obtain ⟨a,b,c⟩:=oF _ _ _ h3 y hy
      exact ⟨B8 a,b,Int.le_trans c (by omega)⟩
     ·obtain ⟨p,hp⟩:=oG _ _ _ h t ht
      obtain ⟨⟨a,b⟩,c,⟨d,e⟩,f,g⟩:=vC hp
      unfold dZ at c
      simp only [Bool.and_eq_true,decide_eq_true_eq] at c
      exact ⟨⟨a,Int.le_trans b (by omega)⟩,c,three d e,f,fun e=>B8 (g e)⟩
theorem eV {a b n:Int} (h:jt a b n) (ha : -999999999999999999<=a) (hb:b<=999999999999999999):(Lib.itoa n).length<=19:=by
 obtain ⟨h0,h1⟩:=h
 unfold Lib.itoa
 split
 ·rw [List.length_cons]
  have:=kK 17 n.natAbs (by omega)
  omega
 ·have:=kK 17 n.toNat (by omega)
  omega
theorem my (b:Bool):(dj b).length<=5:=by cases b <;> decide
theorem DW {s:aG} (h:Nm s):(oE s).length<=64:=by have:=h.2.1;simp [oE];omega
theorem DX {n:Int} (h:jt (-2147483648) 2147483647 n):(mw n).length<=64:=by have:=eV h (by decide) (by decide);simp [mw];omega
theorem Fy {y:D aI} (h:Nm y.1/\jt 0 39 y.2.1):(r9 y).length<=64:=by
 have h1:=eV h.2 (by decide) (by decide)
 have h2:=my y.2.2.1
 have h3:=h.1.2.1
 simp [r9];omega
theorem Fz {t:D aH} (h:tI t):(mT t).length<=64:=by
 have h1:=eV h.a (by decide) (by decide)
 have h4:=eV h.w (by decide) (by decide)
 have h2:=my t.2.2.2.2.1
 unfold mT
 split
 ·simp;omega
 ·rename_i hk
  have h3:=(h.nm hk).2.1
  split
  ·simp;omega
  ·simp;omega
theorem lS {α:Type} {f:α->aG}:∀{l:List α},(∀x∈l,(f x).length<=64)->(l.flatMap f).length<=64 * l.length
 | [],_=>by simp
 | x :: r,h=>by
  have h1:=h x (by simp)
  have h2:=lS (f:=f) (l:=r) fun y hy=>h y (List.mem_cons_of_mem _ hy)
  rw [List.flatMap_cons,List.length_append,List.length_cons];omega
theorem fg.HX {o:D aA} (h:fg o) (i:Nat):(iS o i).length<=1000:=by
 have:=lS (f:=oE) (l:=o.1.take i) fun s hs=>DW (h.wP s (List.mem_of_mem_take hs))
 have h2:=h.n4
 unfold iS;simp only [List.length_take] at this;omega
theorem fg.HY {o:D aA} (h:fg o) (i:Nat):(gA o i).length<=4000:=by
 have h0:=h.HX o.1.length
 have:=lS (f:=mw) (l:=o.2.1.take i) fun s hs=>DX (h.words s (List.mem_of_mem_take hs))
 have h2:=h.DV
 unfold gA;rw [List.length_append];simp only [List.length_take] at this;omega
theorem fg.HZ {o:D aA} (h:fg o) (i:Nat):(gB o i).length<=5000:=by
 have h0:=h.HY o.2.1.length
 have:=lS (f:=r9) (l:=o.2.2.1.take i) fun s hs=>Fy (h.syms s (List.mem_of_mem_take hs))
 have h2:=h.s8
 unfold gB;rw [List.length_append];simp only [List.length_take] at this;omega
theorem fg.ID {o:D aA} (h:fg o) (i:Nat):(dK o i).length<=6000:=by
 have h0:=h.HZ o.2.2.1.length
 have:=lS (f:=mT) (l:=o.2.2.2.1.take i) fun s hs=>Fz (h.B7 s (List.mem_of_mem_take hs))
 have h2:=h.t6
 unfold dK;rw [List.length_append];simp only [List.length_take] at this;omega
theorem fg.qa {o:D aA} (h:fg o) {i:Nat} (hi:i < o.1.length):Nm (nth .str o.1 i):=h.wP _ (dY (t:=.str) hi)
theorem fg.word {o:D aA} (h:fg o) {i:Nat} (hi:i < o.2.1.length):jt (-2147483648) 2147483647 (nth (.int .i64) o.2.1 i):=h.words _ (dY (t:=.int .i64) hi)
theorem fg.sym {o:D aA} (h:fg o) {i:Nat} (hi:i < o.2.2.1.length):Nm (nth aI o.2.2.1 i).1/\jt 0 39 (nth aI o.2.2.1 i).2.1:=h.syms _ (dY (t:=aI) hi)
theorem fg.tie {o:D aA} (h:fg o) {i:Nat} (hi:i < o.2.2.2.1.length):tI (nth aH o.2.2.2.1 i):=h.B7 _ (dY (t:=aH) hi)
theorem z8 (a b:aG):bK a++bK b=bK (a++b):=by simp [bK]
theorem vD {o:D aA} (h:fg o) {i:Nat} (hi:i < o.1.length):(nth .str o.1 i).length<=8/\(iS o i).length<=1000:=⟨(h.qa hi).2.1,h.HX i⟩
theorem vE {o:D aA} (h:fg o) {i:Nat} (hi:i < o.2.1.length):(Lib.itoa (nth (.int .i64) o.2.1 i)).length<=19/\(gA o i).length<=4000:=
 ⟨eV (h.word hi) (by decide) (by decide),h.HY i⟩
theorem yc {o:D aA} (h:fg o) {i:Nat} (hi:i < o.2.2.1.length) :
  (nth aI o.2.2.1 i).1.length<=8/\(Lib.itoa (nth aI o.2.2.1 i).2.1).length<=19/\(dj (nth aI o.2.2.1 i).2.2.1).length<=5/\(gB o i).length<=5000:=
 ⟨(h.sym hi).1.2.1,eV (h.sym hi).2 (by decide) (by decide),my _,h.HZ i⟩
theorem yd {o:D aA} (h:fg o) {i:Nat} (hi:i < o.2.2.2.1.length) :
  (nth aH o.2.2.2.1 i).2.2.2.1.length<=8/\(Lib.itoa (nth aH o.2.2.2.1 i).1).length<=19/\(Lib.itoa (nth aH o.2.2.2.1 i).2.2.1).length<=19/\(dj (nth aH o.2.2.2.1 i).2.2.2.2.1).length<=5/\(dK o i).length<=6000:=by
 have ht:=h.tie hi
 refine ⟨?_,eV ht.a (by decide) (by decide),eV ht.w (by decide) (by decide),my _,h.ID i⟩
 by_cases hk:(nth aH o.2.2.2.1 i).2.1=1
 ·rw [(ht.base hk).1];decide
 ·exact (ht.nm hk).2.1
theorem jV {p p' q:aG} {a b:Int} (h:p'=p++q):(((bK p++bK q,a,b,()):D eW))=((bK p',a,b,()):D eW):=by rw [h,z8]
theorem sa {p p':aG} {a b:Int} (h:p=p'):((bK p,a,b,()):D eW)=((bK p',a,b,()):D eW):=by rw [h]
theorem B9 {o:D aA} {i:Nat} (h:i < o.2.2.2.1.length) (hk:(nth aH o.2.2.2.1 i).2.1=1) :
  dK o (i + 1)=dK o i++([98,97,115,101,32]++Lib.itoa (nth aH o.2.2.2.1 i).1++[32]++Lib.itoa (nth aH o.2.2.2.1 i).2.2.1++[10]):=by
 rw [p9 h];unfold mT;rw [if_pos hk]
theorem Ca {o:D aA} {i:Nat} (h:i < o.2.2.2.1.length) (hk:¬ (nth aH o.2.2.2.1 i).2.1=1) (hk2:(nth aH o.2.2.2.1 i).2.1=2) :
  dK o (i + 1)=dK o i++(dj (nth aH o.2.2.2.1 i).2.2.2.2.1++[119,104,111,108,101,32]++Lib.itoa (nth aH o.2.2.2.1 i).1++[32]++Lib.itoa (nth aH o.2.2.2.1 i).2.2.1++[32]++(nth aH o.2.2.2.1 i).2.2.2.1++[10]):=by
 rw [p9 h];unfold mT;rw [if_neg hk,if_pos hk2]
theorem Cb {o:D aA} {i:Nat} (h:i < o.2.2.2.1.length) (hk:¬ (nth aH o.2.2.2.1 i).2.1=1) (hk2:¬ (nth aH o.2.2.2.1 i).2.1=2) :
  dK o (i + 1)=dK o i++(dj (nth aH o.2.2.2.1 i).2.2.2.2.1++[110,101,97,114,32]++Lib.itoa (nth aH o.2.2.2.1 i).1++[32]++Lib.itoa (nth aH o.2.2.2.1 i).2.2.1++[32]++(nth aH o.2.2.2.1 i).2.2.2.1++[10]):=by
 rw [p9 h];unfold mT;rw [if_neg hk,if_neg hk2]
theorem vF {o:D aA} (h:bF o≠0):eD o=([],bd (bF o)):=by unfold eD;rw [if_pos h]
theorem tJ {o:D aA} (h:bF o=0) {i:Nat} (hi:i=o.2.2.2.1.length) (hl:(dK o i).length > 1200):eD o=([], .no 2):=by
 unfold eD;rw [if_neg (by rw [h];decide),if_pos (by unfold dk;rw [<-hi];exact hl)]
theorem oH {o:D aA} (h:bF o=0) {i:Nat} (hi:i=o.2.2.2.1.length) (hl:(dK o i).length<=1200):eD o=(dK o i, .nil):=by
 unfold eD;rw [if_neg (by rw [h];decide),if_neg (by unfold dk;rw [<-hi];omega)];unfold dk;rw [<-hi]
end Go.Mrl

namespace Go.Mrl
open Go.Vg
@[reducible] def bV:aG:=[119,101,97,107,32]
@[reducible] def eE:aG:=[110,101,101,100]
@[reducible] def eo:aG:=[119,111,114,100]
@[reducible] def dL:aG:=[115,121,109,98,111,108]
@[reducible] def gj:aG:=[98,97,115,101]
@[reducible] def ft:aG:=[119,104,111,108,101]
@[reducible] def fm:aG:=[110,101,97,114]
def jW (o:D aA) (s:aG):D aA:=(o.1++[s],o.2)
def jX (o:D aA) (n:Int):D aA:=(o.1,o.2.1++[n],o.2.2)
def nE (o:D aA) (y:D aI):D aA:=(o.1,o.2.1,o.2.2.1++[y],o.2.2.2)
def ju (o:D aA) (t:D aH):D aA:=(o.1,o.2.1,o.2.2.1,o.2.2.2.1++[t],())
def sb (x y:aG) (k:Int->Int->D aA):Option (D aA):=
 match cL x,cL y with
 | some m,some n=>some (k m n)
 | _,_=>none
def gC (o:D aA) (b:Bool):List aG->Option (D aA)
 | [a,x]=>if a=eE then some (jW o x) else if a=eo then (cL x).map (jX o) else none
 | [a,x,y]=>if a=dL then (cL y).map fun n=>nE o (x,n,b,()) else if a=gj then sb x y fun m n=>ju o (m,1,n,[],false,()) else none
 | [a,x,y,z]=>if a=ft\/a=fm then sb x y fun m n=>ju o (m,if a=fm then 3 else 2,n,z,b,()) else none
 | _=>none
def jv (o:D aA) (s:aG):Option (D aA):=gC o (Lib.hasPrefix s bV) (parts 32 (Lib.trimPrefix s bV))
def run (f:D aA->aG->Option (D aA)):D aA->List aG->Option (D aA)
 | o,[]=>some o
 | o,s :: r=>match f o s with
  | some p=>run f p r
  | none=>none
theorem ye {f:D aA->aG->Option (D aA)}:∀{l:List aG} {o:D aA} {s:aG},run f o (l++[s])=(run f o l).bind fun p=>f p s
 | [],o,s=>by simp only [List.nil_append,run,Option.bind_some];cases f o s <;> rfl
 | x :: r,o,s=>by
  simp only [List.cons_append,run]
  cases f o x with
  | none=>rfl
  | some p=>exact ye
theorem qF {f:D aA->aG->Option (D aA)}:∀{l m:List aG} {o p:D aA},run f o l=some p->run f o (l++m)=run f p m
 | [],m,o,p,h=>by simp only [run,Option.some.injEq] at h;rw [h];rfl
 | x :: r,m,o,p,h=>by
  simp only [run] at h
  simp only [List.cons_append,run]
  cases hx:f o x with
  | none=>rw [hx] at h;cases h
  | some q=>rw [hx] at h;exact qF h
def jw (s:aG):aG:=[110,101,101,100,32]++s
def jx (n:Int):aG:=[119,111,114,100,32]++Lib.itoa n
def sd (y:D aI):aG:=dj y.2.2.1++([115,121,109,98,111,108,32]++(y.1++32 :: Lib.itoa y.2.1))
def qb (t:D aH):aG:=
 if t.2.1=1 then [98,97,115,101,32]++(Lib.itoa t.1++32 :: Lib.itoa t.2.2.1)
 else if t.2.1=2 then dj t.2.2.2.2.1++([119,104,111,108,101,32]++(Lib.itoa t.1++32 :: (Lib.itoa t.2.2.1++32 :: t.2.2.2.1)))
 else dj t.2.2.2.2.1++([110,101,97,114,32]++(Lib.itoa t.1++32 :: (Lib.itoa t.2.2.1++32 :: t.2.2.2.1)))
def kG (o:D aA):List aG:=o.1.map jw++(o.2.1.map jx++(o.2.2.1.map sd++o.2.2.2.1.map qb))
theorem lT {α:Type} {f g:α->aG} (h:∀x,f x=g x++[10]):∀l:List α,l.flatMap f=kJ 10 (l.map g)
 | []=>rfl
 | x :: r=>by rw [List.flatMap_cons,lT h r,List.map_cons,vt,h];simp
theorem se (c:UInt8) (l m:List aG):kJ c (l++m)=kJ c l++kJ c m:=by simp [kJ]
theorem Aa (o:D aA):dk o=kJ 10 (kG o):=by
 unfold dk dK gB gA iS kG
 rw [List.take_length,List.take_length,List.take_length,List.take_length,se,se,se,
  lT (g:=jw) (fun s=>by simp [oE,jw]) o.1,lT (g:=jx) (fun s=>by simp [mw,jx]) o.2.1,
  lT (g:=sd) (fun s=>by simp [r9,sd]) o.2.2.1,
  lT (g:=qb) (fun s=>by unfold mT qb;split <;> (try split) <;> simp) o.2.2.2.1]
 simp
structure Reads (f:D aA->aG->Option (D aA)):Prop where
 qa:∀(o:D aA) (s:aG),Nm s->f o (jw s)=some (jW o s)
 word:∀(o:D aA) (n:Int),jt (-2147483648) 2147483647 n->f o (jx n)=some (jX o n)
 sym:∀(o:D aA) (y:D aI),Nm y.1->jt 0 39 y.2.1->f o (sd y)=some (nE o y)
 tie:∀(o:D aA) (t:D aH),tI t->f o (qb t)=some (ju o t)
section
variable {f:D aA->aG->Option (D aA)} (h:Reads f)
include h
theorem vG:∀(l:List aG) (o:D aA),(∀s∈l,Nm s)->run f o (l.map jw)=some (o.1++l,o.2)
 | [],o,_=>by simp [run]
 | s :: r,o,hl=>by
  rw [List.map_cons,run,h.qa o s (hl s (by simp))]
  show run f (jW o s) (r.map jw)=_
  rw [vG r _ fun x hx=>hl x (List.mem_cons_of_mem _ hx)]
  simp [jW]
theorem vH:∀(l:List Int) (o:D aA),(∀n∈l,jt (-2147483648) 2147483647 n)->run f o (l.map jx)=some (o.1,o.2.1++l,o.2.2)
 | [],o,_=>by simp [run]
 | s :: r,o,hl=>by
  rw [List.map_cons,run,h.word o s (hl s (by simp))]
  show run f (jX o s) (r.map jx)=_
  rw [vH r _ fun x hx=>hl x (List.mem_cons_of_mem _ hx)]
  simp [jX]
theorem yf:∀(l:List (D aI)) (o:D aA),(∀y∈l,Nm y.1/\jt 0 39 y.2.1)->run f o (l.map sd)=some (o.1,o.2.1,o.2.2.1++l,o.2.2.2)
 | [],o,_=>by simp [run]
 | s :: r,o,hl=>by
  rw [List.map_cons,run,h.sym o s (hl s (by simp)).1 (hl s (by simp)).2]
  show run f (nE o s) (r.map sd)=_
  rw [yf r _ fun x hx=>hl x (List.mem_cons_of_mem _ hx)]
  simp [nE]
theorem yg:∀(l:List (D aH)) (o:D aA),(∀t∈l,tI t)->run f o (l.map qb)=some (o.1,o.2.1,o.2.2.1,o.2.2.2.1++l,())
 | [],o,_=>by simp [run]
 | s :: r,o,hl=>by
  rw [List.map_cons,run,h.tie o s (hl s (by simp))]
  show run f (ju o s) (r.map qb)=_
  rw [yg r _ fun x hx=>hl x (List.mem_cons_of_mem _ hx)]
  simp [ju]
theorem DY {o:D aA} (ok:fg o):run f (bL aA) (kG o)=some o:=by
 unfold kG
 rw [qF (vG h o.1 _ ok.wP),qF (vH h o.2.1 _ ok.words),qF (yf h o.2.2.1 _ ok.syms),yg h o.2.2.2.1 _ ok.B7]
 rfl
end
theorem tK {a:UInt8} {s:aG} (h:a≠119):Lib.hasPrefix (a :: s) bV=false:=by
 unfold Lib.hasPrefix bV;simp [List.isPrefixOf];intro e;exact absurd e.symm h
theorem G6 {s:aG} (h:Lib.hasPrefix s bV=false):Lib.trimPrefix s bV=s:=by unfold Lib.trimPrefix;rw [if_neg (by rw [h];decide)]
theorem A5 (s:aG):Lib.hasPrefix (bV++s) bV=true:=by unfold Lib.hasPrefix bV;simp [List.isPrefixOf]
theorem FA (s:aG):Lib.trimPrefix (bV++s) bV=s:=by unfold Lib.trimPrefix;rw [if_pos (A5 s)];rfl
theorem A6 {a b:UInt8} {s:aG} (h:b≠101):Lib.hasPrefix (a :: b :: s) bV=false:=by
 unfold Lib.hasPrefix bV;simp [List.isPrefixOf];intro _ e;exact absurd e.symm h
theorem gQ (o:D aA) (b:Bool) (s:aG) (h:Lib.hasPrefix s bV=false):jv o (dj b++s)=gC o b (parts 32 s):=by
 unfold jv
 cases b with
 | false=>show gC o (Lib.hasPrefix s bV) (parts 32 (Lib.trimPrefix s bV))=_;rw [h,G6 h]
 | true=>show gC o (Lib.hasPrefix (bV++s) bV) (parts 32 (Lib.trimPrefix (bV++s) bV))=_;rw [A5,FA]
theorem jY {s:aG} (h:Nm s):(32:UInt8)∉s/\(10:UInt8)∉s:=⟨fun hc=>(h.2.2 _ hc).2 rfl,fun hc=>(h.2.2 _ hc).1 rfl⟩
theorem gD (n:Int):(32:UInt8)∉Lib.itoa n:=vz (by decide)
theorem oI (n:Int):(10:UInt8)∉Lib.itoa n:=vz (by decide)
theorem Cc {s:aG} (h:Nm s):parts 32 (jw s) = [eE,s]:=by
 show parts 32 (eE++32 :: s)=_
 rw [cY (by decide),fA (jY h).1]
theorem Cd (n:Int):parts 32 (jx n) = [eo,Lib.itoa n]:=by
 show parts 32 (eo++32 :: Lib.itoa n)=_
 rw [cY (by decide),fA (gD n)]
theorem DZ {s:aG} {n:Int} (h:Nm s):parts 32 ([115,121,109,98,111,108,32]++(s++32 :: Lib.itoa n)) = [dL,s,Lib.itoa n]:=by
 show parts 32 (dL++32 :: (s++32 :: Lib.itoa n))=_
 rw [cY (by decide),cY (jY h).1,fA (gD n)]
theorem Ce (m n:Int):parts 32 ([98,97,115,101,32]++(Lib.itoa m++32 :: Lib.itoa n)) = [gj,Lib.itoa m,Lib.itoa n]:=by
 show parts 32 (gj++32 :: (Lib.itoa m++32 :: Lib.itoa n))=_
 rw [cY (by decide),cY (gD m),fA (gD n)]
theorem Ab {s:aG} (m n:Int) (h:Nm s):parts 32 ([119,104,111,108,101,32]++(Lib.itoa m++32 :: (Lib.itoa n++32 :: s))) = [ft,Lib.itoa m,Lib.itoa n,s]:=by
 show parts 32 (ft++32 :: (Lib.itoa m++32 :: (Lib.itoa n++32 :: s)))=_
 rw [cY (by decide),cY (gD m),cY (gD n),fA (jY h).1]
theorem Cf {s:aG} (m n:Int) (h:Nm s):parts 32 ([110,101,97,114,32]++(Lib.itoa m++32 :: (Lib.itoa n++32 :: s))) = [fm,Lib.itoa m,Lib.itoa n,s]:=by
 show parts 32 (fm++32 :: (Lib.itoa m++32 :: (Lib.itoa n++32 :: s)))=_
 rw [cY (by decide),cY (gD m),cY (gD n),fA (jY h).1]
theorem qG {a b n:Int} (h:jt a b n) (ha : -9223372036854775808<=a) (hb:b<=9223372036854775807):cL (Lib.itoa n)=some n:=DO (Int.le_trans ha h.1) (Int.le_trans h.2 hb)
theorem H0:Reads jv where
 qa o s h:=by
  have:=gQ o false (jw s) (tK (by decide))
  rw [show dj false++jw s=jw s from rfl,Cc h] at this
  exact this
 word o n h:=by
  have:=gQ o false (jx n) (A6 (by decide))
  rw [show dj false++jx n=jx n from rfl,Cd] at this
  rw [this]
  show (if eo=eE then some (jW o (Lib.itoa n)) else if eo=eo then (cL (Lib.itoa n)).map (jX o) else none)=_
  rw [if_neg (by decide),if_pos rfl,qG h (by decide) (by decide)];rfl
 sym o y h h':=by
  have:=gQ o y.2.2.1 ([115,121,109,98,111,108,32]++(y.1++32 :: Lib.itoa y.2.1)) (tK (by decide))
  rw [DZ h] at this
  refine Eq.trans this ?_
  dsimp only [gC]
  rw [if_pos rfl,qG h' (by decide) (by decide)];rfl
 tie o t h:=by
  obtain ⟨at',k,ad,nm,b,_⟩:=t
  have ha:=qG h.a (by decide) (by decide)
  have hw:=qG h.w (by decide) (by decide)
  simp only at ha hw
  unfold qb
  rcases h.k with e | e | e
  ·have hb:=h.base e
   simp only at e hb
   obtain ⟨rfl,rfl⟩:=hb
   subst e
   rw [if_pos rfl]
   have:=gQ o false ([98,97,115,101,32]++(Lib.itoa at'++32 :: Lib.itoa ad)) (tK (by decide))
   rw [Ce] at this
   refine this.trans ?_
   dsimp only [gC]
   rw [if_neg (by decide),if_pos rfl];unfold sb;rw [ha,hw]
  ·have hn:=h.nm (by rw [show _=_ from e];decide)
   simp only at e hn
   subst e
   rw [if_neg (by simp),if_pos rfl]
   have:=gQ o b ([119,104,111,108,101,32]++(Lib.itoa at'++32 :: (Lib.itoa ad++32 :: nm))) (A6 (by decide))
   rw [Ab _ _ hn] at this
   refine this.trans ?_
   dsimp only [gC]
   rw [if_pos (.inl rfl),if_neg (by decide)];unfold sb;rw [ha,hw]
  ·have hn:=h.nm (by rw [show _=_ from e];decide)
   simp only at e hn
   subst e
   rw [if_neg (by simp),if_neg (by simp)]
   have:=gQ o b ([110,101,97,114,32]++(Lib.itoa at'++32 :: (Lib.itoa ad++32 :: nm))) (tK (by decide))
   rw [Cf _ _ hn] at this
   refine this.trans ?_
   dsimp only [gC]
   rw [if_pos (.inr rfl),if_pos rfl];unfold sb;rw [ha,hw]
end Go.Mrl

namespace Go.Mrl
open Go.Vg
theorem Cg {o:D aA} (h:fg o):∀l∈kG o,(10:UInt8)∉l:=by
 intro l hl
 unfold kG at hl
 simp only [List.mem_append,List.mem_map] at hl
 have hw:∀b,(10:UInt8)∉dj b:=by intro b;cases b <;> decide
 rcases hl with ⟨s,hs,rfl⟩ | ⟨n,hn,rfl⟩ | ⟨y,hy,rfl⟩ | ⟨t,ht,rfl⟩
 ·have:=(jY (h.wP s hs)).2
  unfold jw;simp [this]
 ·have:=oI n
  unfold jx;simp [this]
 ·have h1:=(jY (h.syms y hy).1).2
  have h2:=oI y.2.1
  have h3:=hw y.2.2.1
  unfold sd;simp [h1,h2,h3]
 ·have h1:=oI t.1
  have h2:=oI t.2.2.1
  have h3:=hw t.2.2.2.2.1
  unfold qb
  split
  ·simp [h1,h2]
  ·rename_i hk
   have h4:=(jY ((h.B7 t ht).nm hk)).2
   split <;> simp [h1,h2,h3,h4]
theorem FB {o:D aA} (h:fg o):kG o≠[]:=by
 have h1:=h.w1
 unfold kG
 intro e
 simp only [List.append_eq_nil_iff,List.map_eq_nil_iff] at e
 rw [e.2.1] at h1
 simp at h1
def Ch (s:aG):Option (D aA):=run jv (bL aA) (parts 10 (Lib.trimSuffix s [10]))
theorem mz {o:D aA} (h:bF o=0):Ch (dk o)=some o:=by
 have ok:=ie h
 unfold Ch
 rw [Aa,B6 (FB ok) (Cg ok),DY H0 ok]
theorem D0 {o p:D aA} (h:bF o=0) (h':bF p=0) (e:dk o=dk p):o=p:=by
 have a:=mz h
 rw [e,mz h'] at a
 exact (Option.some.inj a).symm
open Classical in
noncomputable def b8 (s:aG):D aA × Int:=
 if s.length > 1200 then (bL aA,2)
 else if h:∃o:D aA,bF o=0/\dk o=s then (Classical.choose h,0) else (bL aA,4)
theorem vI {s:aG} (h:s.length > 1200):b8 s=(bL aA,2):=by unfold b8;rw [if_pos h]
theorem qH {s:aG} {o:D aA} (h:¬ s.length > 1200) (hf:bF o=0) (ht:dk o=s):b8 s=(o,0):=by
 have hx:∃o:D aA,bF o=0/\dk o=s:=⟨o,hf,ht⟩
 have hc:=Classical.choose_spec hx
 unfold b8
 rw [if_neg h,dif_pos hx,D0 hc.1 hf (hc.2.trans ht.symm)]
theorem sf {s:aG} (h:¬ s.length > 1200) (hn:∀o:D aA,bF o=0->dk o≠s):b8 s=(bL aA,4):=by
 unfold b8
 rw [if_neg h,dif_neg fun ⟨o,h1,h2⟩=>hn o h1 h2]
theorem Ci {s:aG} (h:¬ s.length > 1200) (hr:Ch s=none):b8 s=(bL aA,4):=
 sf h fun o h1 h2=>by rw [<-h2,mz h1] at hr;cases hr
theorem tL {s:aG} {o:D aA} (h:¬ s.length > 1200) (hr:Ch s=some o) (hb:bF o=0->dk o≠s):b8 s=(bL aA,4):=
 sf h fun p h1 h2=>by
  have:p=o:=by rw [<-h2,mz h1] at hr;exact Option.some.inj hr
  rw [this] at h1 h2
  exact hb h1 h2
def cO (o:D aA) (b:Bool) (s:aG):D aA × Bool:=
 let w:=parts 32 (Lib.trimPrefix s bV)
 if nth .str w 0=eE/\w.length=2 then (jW o (nth .str w 1),b)
 else if nth .str w 0=eo/\w.length=2 then (jX o (ch (nth .str w 1)).1,b || (cL (nth .str w 1)).isNone)
 else if nth .str w 0=dL/\w.length=3 then (nE o (nth .str w 1,(ch (nth .str w 2)).1,Lib.hasPrefix s bV,()),b || (cL (nth .str w 2)).isNone)
 else if nth .str w 0=gj/\w.length=3 then (ju o ((ch (nth .str w 1)).1,1,(ch (nth .str w 2)).1,[],false,()),(b || (cL (nth .str w 1)).isNone) || (cL (nth .str w 2)).isNone)
 else if (nth .str w 0=ft\/nth .str w 0=fm)/\w.length=4 then
  (ju o ((ch (nth .str w 1)).1,if nth .str w 0=fm then 3 else 2,(ch (nth .str w 2)).1,nth .str w 3,Lib.hasPrefix s bV,()),(b || (cL (nth .str w 1)).isNone) || (cL (nth .str w 2)).isNone)
 else (o,true)
theorem iY {s:aG} {n:Int} (h:cL s=some n):(ch s).1=n:=by
 unfold cL at h
 unfold ch
 cases ha:Lib.atoiAll s with
 | ok v=>rw [ha] at h;simp only at h ⊢;split at h <;> simp_all
 | range=>rw [ha] at h;cases h
 | _=>rw [ha] at h;cases h
theorem Cj (o:D aA) (b:Bool) (s:aG):(∃p,jv o s=some p/\cO o b s=(p,b))\/(jv o s=none/\(cO o b s).2=true):=by
 unfold jv cO
 generalize hw:parts 32 (Lib.trimPrefix s bV)=w
 generalize Lib.hasPrefix s bV=k
 have hne:=r7 32 (Lib.trimPrefix s bV)
 rw [hw] at hne
 match w,hne with
 | [],hne=>exact absurd rfl hne
 | [a],_=>exact .inr ⟨rfl,by simp⟩
 | [a,x],_=>
  dsimp only [gC]
  simp only [show nth .str [a,x] 0=a from rfl,show nth .str [a,x] 1=x from rfl]
  by_cases h1:a=eE
  ·rw [if_pos h1,if_pos (show (a=eE)/\[a,x].length=2 from ⟨h1,rfl⟩)];exact .inl ⟨_,rfl,rfl⟩
  ·rw [if_neg h1,if_neg (show ¬ ((a=eE)/\[a,x].length=2) from fun e=>h1 e.1)]
   by_cases h2:a=eo
   ·rw [if_pos h2,if_pos (show (a=eo)/\[a,x].length=2 from ⟨h2,rfl⟩)]
    cases hn:cL x with
    | none=>exact .inr ⟨rfl,by simp⟩
    | some n=>exact .inl ⟨_,rfl,by rw [iY hn];simp⟩
   ·rw [if_neg h2,if_neg (show ¬ ((a=eo)/\[a,x].length=2) from fun e=>h2 e.1),if_neg (show ¬ ((a=dL)/\[a,x].length=3) from fun e=>absurd e.2 (by simp)),if_neg (show ¬ ((a=gj)/\[a,x].length=3) from fun e=>absurd e.2 (by simp)),if_neg (show ¬ ((a=ft\/a=fm)/\[a,x].length=4) from fun e=>absurd e.2 (by simp))];exact .inr ⟨rfl,rfl⟩
 | [a,x,y],_=>
  dsimp only [gC]
  simp only [show nth .str [a,x,y] 0=a from rfl,show nth .str [a,x,y] 1=x from rfl,show nth .str [a,x,y] 2=y from rfl]
  rw [if_neg (show ¬ ((a=eE)/\[a,x,y].length=2) from fun e=>absurd e.2 (by simp)),if_neg (show ¬ ((a=eo)/\[a,x,y].length=2) from fun e=>absurd e.2 (by simp))]
  by_cases h1:a=dL
  ·rw [if_pos h1,if_pos (show (a=dL)/\[a,x,y].length=3 from ⟨h1,rfl⟩)]
   cases hn:cL y with
   | none=>exact .inr ⟨rfl,by simp⟩
   | some n=>exact .inl ⟨_,rfl,by rw [iY hn];simp⟩
  ·rw [if_neg h1,if_neg (show ¬ ((a=dL)/\[a,x,y].length=3) from fun e=>h1 e.1)]
   by_cases h2:a=gj
   ·rw [if_pos h2,if_pos (show (a=gj)/\[a,x,y].length=3 from ⟨h2,rfl⟩)]
    unfold sb
    cases hm:cL x with
    | none=>exact .inr ⟨rfl,by simp⟩
    | some m=>
     cases hn:cL y with
     | none=>exact .inr ⟨rfl,by simp⟩
     | some n=>exact .inl ⟨_,rfl,by rw [iY hn,iY hm];simp⟩
   ·rw [if_neg h2,if_neg (show ¬ ((a=gj)/\[a,x,y].length=3) from fun e=>h2 e.1),if_neg (show ¬ ((a=ft\/a=fm)/\[a,x,y].length=4) from fun e=>absurd e.2 (by simp))];exact .inr ⟨rfl,rfl⟩
 | [a,x,y,z],_=>
  dsimp only [gC]
  simp only [show nth .str [a,x,y,z] 0=a from rfl,show nth .str [a,x,y,z] 1=x from rfl,show nth .str [a,x,y,z] 2=y from rfl,show nth .str [a,x,y,z] 3=z from rfl]
  rw [if_neg (show ¬ ((a=eE)/\[a,x,y,z].length=2) from fun e=>absurd e.2 (by simp)),if_neg (show ¬ ((a=eo)/\[a,x,y,z].length=2) from fun e=>absurd e.2 (by simp)),if_neg (show ¬ ((a=dL)/\[a,x,y,z].length=3) from fun e=>absurd e.2 (by simp)),if_neg (show ¬ ((a=gj)/\[a,x,y,z].length=3) from fun e=>absurd e.2 (by simp))]
  by_cases h1:a=ft\/a=fm
  ·rw [if_pos h1,if_pos (show (a=ft\/a=fm)/\[a,x,y,z].length=4 from ⟨h1,rfl⟩)]
   unfold sb
   cases hm:cL x with
   | none=>exact .inr ⟨rfl,by simp⟩
   | some m=>
    cases hn:cL y with
    | none=>exact .inr ⟨rfl,by simp⟩
    | some n=>exact .inl ⟨_,rfl,by rw [iY hn,iY hm];simp⟩
  ·rw [if_neg h1,if_neg (show ¬ ((a=ft\/a=fm)/\[a,x,y,z].length=4) from fun e=>h1 e.1)];exact .inr ⟨rfl,rfl⟩
 | a :: x :: y :: z :: u :: r,_=>exact .inr ⟨rfl,by simp⟩
theorem D1 (o:D aA) (s:aG):(cO o true s).2=true:=by
 unfold cO;simp only [Bool.true_or]
 split
 ·rfl
 ·split
  ·rfl
  ·split
   ·rfl
   ·split
    ·rfl
    ·split <;> rfl
theorem D2 (o:D aA) (b:Bool) (s:aG) :
  (cO o b s).1.1.length<=o.1.length + 1/\(cO o b s).1.2.1.length<=o.2.1.length + 1/\(cO o b s).1.2.2.1.length<=o.2.2.1.length + 1/\(cO o b s).1.2.2.2.1.length<=o.2.2.2.1.length + 1:=by
 have e:∀{α:Type} (l:List α) (x:α),(l++[x]).length<=l.length + 1:=fun l x=>by simp
 have e0:∀n:Nat,n<=n + 1:=fun n=>Nat.le_succ n
 unfold cO
 simp only
 split
 ·exact ⟨e _ _,e0 _,e0 _,e0 _⟩
 ·split
  ·exact ⟨e0 _,e _ _,e0 _,e0 _⟩
  ·split
   ·exact ⟨e0 _,e0 _,e _ _,e0 _⟩
   ·split
    ·exact ⟨e0 _,e0 _,e0 _,e _ _⟩
    ·split
     ·exact ⟨e0 _,e0 _,e0 _,e _ _⟩
     ·exact ⟨e0 _,e0 _,e0 _,e0 _⟩
structure fu (L:List aG) (i:Nat) (o:D aA) (b:Bool):Prop where
 le:i<=L.length
 st:(run jv (bL aA) (L.take i)=some o/\b=false)\/(run jv (bL aA) (L.take i)=none/\b=true)
 l1:o.1.length<=i
 l2:o.2.1.length<=i
 l3:o.2.2.1.length<=i
 l4:o.2.2.2.1.length<=i
theorem fu.zero (L:List aG):fu L 0 (bL aA) false:=⟨Nat.zero_le _, .inl ⟨rfl,rfl⟩,Nat.le_refl _,Nat.le_refl _,Nat.le_refl _,Nat.le_refl _⟩
theorem fu.next {L:List aG} {i:Nat} {o:D aA} {b:Bool} (h:fu L i o b) (hi:i < L.length):fu L (i + 1) (cO o b (nth .str L i)).1 (cO o b (nth .str L i)).2:=by
 obtain ⟨a1,a2,a3,a4⟩:=D2 o b (nth .str L i)
 refine ⟨hi,?_,by have:=h.l1;omega,by have:=h.l2;omega,by have:=h.l3;omega,by have:=h.l4;omega⟩
 rw [gz (t:=.str) hi,ye]
 rcases h.st with ⟨hr,hb⟩ | ⟨hr,hb⟩
 ·rw [hr,Option.bind_some]
  rcases Cj o b (nth .str L i) with ⟨p,h1,h2⟩ | ⟨h1,h2⟩
  ·rw [h2];exact .inl ⟨h1,hb⟩
  ·exact .inr ⟨h1,h2⟩
 ·rw [hr,hb];exact .inr ⟨rfl,D1 o _⟩
end Go.Mrl

namespace Go.Mrl
open Go.Vg
abbrev Gz:=Unit × List (List UInt8) × List Int × List (D aI) × List (D aH) × (Bool × Unit) × Unit
def FC (x:Gz):D aA:=(x.2.1,x.2.2.1,x.2.2.2.1,x.2.2.2.2.1,())
def D3 (p:D aA × Bool):Gz:=((),p.1.1,p.1.2.1,p.1.2.2.1,p.1.2.2.2.1,(p.2,()),())
theorem yh (s p:aG):(Lib.trimPrefix s p).length<=s.length:=by unfold Lib.trimPrefix;split <;> simp
theorem A7 {s:aG} {w:List aG} (hw:w=parts 32 (Lib.trimPrefix s bV)) (i:Nat):(nth .str w i).length<=s.length:=by
 by_cases h:i < w.length
 ·have h1:=dY (t:=.str) h
  rw [hw] at h1
  have:=jS _ _ _ h1
  rw [<-hw] at this
  exact Nat.le_trans this (yh _ _)
 ·unfold nth;rw [List.getD_eq_getElem?_getD,List.getElem?_eq_none (by omega)];exact Nat.zero_le _
theorem FD {s:aG} {w:List aG} (hw:w=parts 32 (Lib.trimPrefix s bV)):0 < w.length:=by rw [hw];exact List.length_pos_iff.2 (r7 _ _)
theorem fN {c:Bool} {P:Prop} (q:c=true ↔ P) (h:c=false):¬ P:=fun p=>by rw [q.2 p] at h;cases h
section
variable {o:D aA} {b:Bool} {s:aG} {w:List aG} (hw:w=parts 32 (Lib.trimPrefix s bV))
include hw
theorem Ck (h:nth .str w 0=eE/\w.length=2):cO o b s=(jW o (nth .str w 1),b):=by
 unfold cO;simp only;rw [<-hw,if_pos h]
theorem Cm (h0:¬ (nth .str w 0=eE/\w.length=2)) (h:nth .str w 0=eo/\w.length=2):cO o b s=(jX o (ch (nth .str w 1)).1,b || (cL (nth .str w 1)).isNone):=by
 unfold cO;simp only;rw [<-hw,if_neg h0,if_pos h]
theorem D4 (h0:¬ (nth .str w 0=eE/\w.length=2)) (h1:¬ (nth .str w 0=eo/\w.length=2)) (h:nth .str w 0=dL/\w.length=3) :
  cO o b s=(nE o (nth .str w 1,(ch (nth .str w 2)).1,Lib.hasPrefix s bV,()),b || (cL (nth .str w 2)).isNone):=by
 unfold cO;simp only;rw [<-hw,if_neg h0,if_neg h1,if_pos h]
theorem Cn (h0:¬ (nth .str w 0=eE/\w.length=2)) (h1:¬ (nth .str w 0=eo/\w.length=2)) (h2:¬ (nth .str w 0=dL/\w.length=3)) (h:nth .str w 0=gj/\w.length=3) :
  cO o b s=(ju o ((ch (nth .str w 1)).1,1,(ch (nth .str w 2)).1,[],false,()),(b || (cL (nth .str w 1)).isNone) || (cL (nth .str w 2)).isNone):=by
 unfold cO;simp only;rw [<-hw,if_neg h0,if_neg h1,if_neg h2,if_pos h]
theorem vJ (h0:¬ (nth .str w 0=eE/\w.length=2)) (h1:¬ (nth .str w 0=eo/\w.length=2)) (h2:¬ (nth .str w 0=dL/\w.length=3)) (h3:¬ (nth .str w 0=gj/\w.length=3))
  (h:(nth .str w 0=ft\/nth .str w 0=fm)/\w.length=4) {k:Int} (hk:k=if nth .str w 0=fm then 3 else 2) :
  cO o b s=(ju o ((ch (nth .str w 1)).1,k,(ch (nth .str w 2)).1,nth .str w 3,Lib.hasPrefix s bV,()),(b || (cL (nth .str w 1)).isNone) || (cL (nth .str w 2)).isNone):=by
 unfold cO;simp only;rw [<-hw,if_neg h0,if_neg h1,if_neg h2,if_neg h3,if_pos h,hk]
theorem Co (h0:¬ (nth .str w 0=eE/\w.length=2)) (h1:¬ (nth .str w 0=eo/\w.length=2)) (h2:¬ (nth .str w 0=dL/\w.length=3)) (h3:¬ (nth .str w 0=gj/\w.length=3))
  (h:¬ ((nth .str w 0=ft\/nth .str w 0=fm)/\w.length=4)):cO o b s=(o,true):=by
 unfold cO;simp only;rw [<-hw,if_neg h0,if_neg h1,if_neg h2,if_neg h3,if_neg h]
end
end Go.Mrl

namespace Go.Mrl
open Go.Vg
end Go.Mrl

namespace Go.Mrl
open Go.Vg
noncomputable def ig (s:aG):D aA × aY:=((b8 s).1,bd (b8 s).2)
theorem Cp {s:aG} (h:s.length > 1200):(bL aA,aY.no 2)=ig s:=by unfold ig;rw [vI h];rfl
theorem fu.run {L:List aG} {i:Nat} {o:D aA} {b:Bool} (h:fu L i o b) (hi:¬ i < L.length):(run jv (bL aA) L=some o/\b=false)\/(run jv (bL aA) L=none/\b=true):=by
 have:=h.st
 rwa [List.take_of_length_le (by omega)] at this
theorem qc {s:aG} {i:Nat} {o:D aA} {b:Bool} (h:fu (parts 10 (Lib.trimSuffix s [10])) i o b) (hi:¬ i < (parts 10 (Lib.trimSuffix s [10])).length) (hl:¬ s.length > 1200)
  (hb:b=true\/(eD o).2.isNil=false\/¬ (eD o).1=s):(bL aA,aY.no 4)=ig s:=by
 have:b8 s=(bL aA,4):=by
  rcases h.run hi with ⟨hr,h0⟩ | ⟨hr,h0⟩
  ·rcases hb with hb | hb | hb
   ·rw [hb] at h0;cases h0
   ·refine tL hl hr fun hf ht => ?_
    rw [oH hf rfl (by show (dk o).length<=1200;rw [ht];omega)] at hb
    cases hb
   ·refine tL hl hr fun hf ht=>hb ?_
    rw [oH hf rfl (by show (dk o).length<=1200;rw [ht];omega)]
    exact ht
  ·exact Ci hl hr
 unfold ig;rw [this];rfl
theorem FF {s:aG} {o:D aA} (hl:¬ s.length > 1200)
  (hn:(eD o).2.isNil=true) (ht:(eD o).1=s):(o,aY.nil)=ig s:=by
 have hf:bF o=0:=by
  apply Classical.byContradiction;intro hf
  rw [vF hf] at hn
  exact hf (bf.1 hn)
 have hs:dk o=s:=by
  by_cases h:(dk o).length > 1200
  ·rw [tJ hf rfl h] at hn;cases hn
  ·rw [oH hf rfl (by show (dk o).length<=1200;omega)] at ht;exact ht
 unfold ig;rw [qH hl hf hs];rfl
theorem G7 (s p:aG):(Lib.trimSuffix s p).length<=s.length:=by unfold Lib.trimSuffix;split <;> simp
theorem D5 (s:aG) (h:s.length<=1200):(parts 10 (Lib.trimSuffix s [10])).length<=1201:=by
 have h1:=p6 10 (Lib.trimSuffix s [10])
 have h2:(Lib.trimSuffix s [10]).length<=s.length:=by unfold Lib.trimSuffix;split <;> simp
 omega
theorem Cq {s:aG} (h:s.length<=1200) (i:Nat):(nth .str (parts 10 (Lib.trimSuffix s [10])) i).length<=1200:=by
 by_cases hi:i < (parts 10 (Lib.trimSuffix s [10])).length
 ·have:=jS _ _ _ (dY (t:=.str) hi)
  have h2:(Lib.trimSuffix s [10]).length<=s.length:=by unfold Lib.trimSuffix;split <;> simp
  omega
 ·unfold nth;rw [List.getD_eq_getElem?_getD,List.getElem?_eq_none (by omega)];exact Nat.zero_le _
end Go.Mrl

namespace Go.Mrl
open Go.Vg
abbrev Rd:=aG->aG × Int × Int
structure dy (rd:Rd):Prop where
 code:∀s,(rd s).2.2=0\/(rd s).2.2=5
 Iw:∃K:List aG,K.length<=6/\∀s,(rd s).2.2=0->s∈K
def cB (ns l:List aG):List aG:=l.foldl (fun ns s=>if ns.any (· == s)=true then ns else ns++[s]) ns
noncomputable def eG (rd:Rd) (s:aG):D aA:=(b8 (rd s).1).1
noncomputable def cd (rd:Rd) (s:aG):Int:=if (rd s).2.2=0 then (b8 (rd s).1).2 else (rd s).2.2
noncomputable def ij (rd:Rd):Nat->Nat->List aG->List (D aA)->List aG × List (D aA) × Int
 | 0,_,ns,os=>(ns,os,0)
 | k + 1,i,ns,os=>
  if i < ns.length then
   if cd rd (nth .str ns i)=0 then ij rd k (i + 1) (cB ns (eG rd (nth .str ns i)).1) (os++[eG rd (nth .str ns i)])
   else ([],[],cd rd (nth .str ns i))
  else (ns,os,0)
noncomputable def aF (rd:Rd) (root:aG):List aG × List (D aA) × Int:=ij rd 7 0 [root] []
theorem tM (s:aG):((b8 s).2=0/\bF (b8 s).1=0/\dk (b8 s).1=s)\/b8 s=(bL aA,2)\/b8 s=(bL aA,4):=by
 by_cases h:s.length > 1200
 ·exact .inr (.inl (vI h))
 ·by_cases h2:∃o:D aA,bF o=0/\dk o=s
  ·obtain ⟨o,h3,h4⟩:=h2
   rw [qH h h3 h4];exact .inl ⟨rfl,h3,h4⟩
  ·exact .inr (.inr (sf h fun o h3 h4=>h2 ⟨o,h3,h4⟩))
theorem Ac (s:aG):0<=(b8 s).2:=by
 rcases tM s with ⟨h,_⟩ | h | h <;> rw [h] <;> decide
theorem tN {s:aG} (h:(b8 s).2=0):bF (b8 s).1=0:=by
 rcases tM s with ⟨_,h,_⟩ | h' | h'
 ·exact h
 ·rw [h'] at h;cases h
 ·rw [h'] at h;cases h
theorem uD {rd:Rd} (h:dy rd) (s:aG):0<=cd rd s:=by
 unfold cd
 split
 ·exact Ac _
 ·rcases h.code s with e | e <;> rw [e] <;> decide
theorem lU {rd:Rd} (h:dy rd) {s:aG} (e:cd rd s=0):(rd s).2.2=0/\(b8 (rd s).1).2=0:=by
 unfold cd at e
 rcases h.code s with c | c
 ·rw [if_pos c] at e;exact ⟨c,e⟩
 ·rw [if_neg (by rw [c];decide),c] at e;cases e
theorem qd {rd:Rd} {s:aG} (e:¬ (rd s).2.2=0):cd rd s=(rd s).2.2:=by unfold cd;rw [if_neg e]
theorem mU {rd:Rd} {s:aG} (e:(rd s).2.2=0):cd rd s=(b8 (rd s).1).2:=by unfold cd;rw [if_pos e]
theorem FG (ns:List aG):cB ns []=ns:=rfl
theorem qe (ns l:List aG) (s:aG):cB ns (s :: l)=cB (if ns.any (· == s)=true then ns else ns++[s]) l:=rfl
theorem D6 (ns l:List aG) (s:aG):cB ns (l++[s])=if (cB ns l).any (· == s)=true then cB ns l else cB ns l++[s]:=by
 unfold cB;rw [List.foldl_append];rfl
theorem A8 {ns:List aG} {s:aG}:ns.any (· == s)=true ↔ s∈ns:=by
 rw [List.any_eq_true]
 constructor
 ·rintro ⟨x,hx,e⟩;rw [<-(by simpa using e:x=s)];exact hx
 ·intro h;exact ⟨s,h,by simp⟩
theorem jZ:∀(l ns:List aG),∃r,cB ns l=ns++r/\r.length<=l.length/\∀s∈r,s∈l
 | [],ns=>⟨[],by simp [FG],by simp,by simp⟩
 | x :: l,ns=>by
  rw [qe]
  split
  ·obtain ⟨r,h1,h2,h3⟩:=jZ l ns
   exact ⟨r,h1,by simp;omega,fun s hs=>by simp [h3 s hs]⟩
  ·obtain ⟨r,h1,h2,h3⟩:=jZ l (ns++[x])
   refine ⟨x :: r,by rw [h1];simp,by simp;omega,fun s hs => ?_⟩
   rcases List.mem_cons.1 hs with rfl | hs
   ·simp
   ·simp [h3 s hs]
theorem oJ:∀(l ns:List aG),ns.Nodup->(cB ns l).Nodup
 | [],ns,h=>h
 | x :: l,ns,h=>by
  rw [qe]
  split
  ·exact oJ l ns h
  ·rename_i hx
   refine oJ l _ ?_
   rw [List.nodup_append]
   refine ⟨h,by simp,fun a ha b hb e=>hx (A8.2 ?_)⟩
   simp at hb;subst hb;exact e▸ha
theorem yi:∀(l ns:List aG),∀s∈l,s∈cB ns l
 | [],_,s,h=>by simp at h
 | x :: l,ns,s,h=>by
  rw [qe]
  rcases List.mem_cons.1 h with rfl | h
  ·split
   ·rename_i hx
    obtain ⟨r,h1,_⟩:=jZ l ns
    rw [h1];exact List.mem_append_left _ (A8.1 hx)
   ·obtain ⟨r,h1,_⟩:=jZ l (ns++[s])
    rw [h1];simp
  ·exact yi l _ s h
theorem vK {ns l:List aG} {i:Nat} (h:i < l.length):cB ns (l.take (i + 1))=if (cB ns (l.take i)).any (· == nth .str l i)=true then cB ns (l.take i) else cB ns (l.take i)++[nth .str l i]:=by
 rw [gz (t:=.str) h,D6]
theorem vL {t:Ty} {a b:List (D t)} {i:Nat} (h:i < a.length):nth t (a++b) i=nth t a i:=by rw [oz,if_pos h]
structure fh (rd:Rd) (root:aG) (i:Nat) (ns:List aG) (os:List (D aA)):Prop where
 eq:ij rd (7 - i) i ns os=aF rd root
 le:i<=6
 lo:i<=ns.length
 pos:0 < ns.length
 len:os.length=i
 hi:ns.length<=1 + 4 * i
 head:nth .str ns 0=root
 nd:ns.Nodup
 A9:∀j,j < i->cd rd (nth .str ns j)=0/\nth aA os j=eG rd (nth .str ns j)
 want:∀j,j < ns.length->j≠0->∃k,k < i/\k < j/\nth .str ns j∈(nth aA os k).1
 qa:∀j,j < i->∀s∈(nth aA os j).1,s∈ns
theorem fh.zero (rd:Rd) (root:aG):fh rd root 0 [root] []:=
 ⟨rfl,by omega,by simp,by simp,rfl,by simp,rfl,by simp,fun j h=>by omega,fun j h h'=>by simp at h;omega,fun j h=>by omega⟩
theorem fh.room {rd:Rd} {root:aG} {i:Nat} {ns:List aG} {os:List (D aA)} (ok:dy rd) (h:fh rd root i ns os) (hi:i < ns.length) (hf:cd rd (nth .str ns i)=0):i + 1<=6:=by
 obtain ⟨K,hK,hm⟩:=ok.Iw
 have hsub:∀y∈ns.take (i + 1),y∈K:=by
  intro y hy
  obtain ⟨j,hj,rfl⟩:=jN (t:=.str) hy
  rw [List.length_take] at hj
  rw [xP (t:=.str) (by omega)]
  refine hm _ (lU ok ?_).1
  rcases Nat.lt_or_ge j i with hl | hl
  ·exact (h.A9 j hl).1
  ·rw [show j=i by omega];exact hf
 have:=vo (h.nd.sublist (List.take_sublist (i + 1) ns)) hsub
 rw [List.length_take] at this
 omega
theorem fh.fuel {rd:Rd} {root:aG} {i:Nat} {ns:List aG} {os:List (D aA)} (h:fh rd root i ns os):ij rd (6 - i + 1) i ns os=aF rd root:=by
 rw [<-h.eq];congr 1;have:=h.le;omega
theorem fh.bad {rd:Rd} {root:aG} {i:Nat} {ns:List aG} {os:List (D aA)} (h:fh rd root i ns os) (hi:i < ns.length) (hf:¬ cd rd (nth .str ns i)=0) :
  aF rd root=([],[],cd rd (nth .str ns i)):=by
 rw [<-h.fuel,ij,if_pos hi,if_neg hf]
theorem fh.done {rd:Rd} {root:aG} {i:Nat} {ns:List aG} {os:List (D aA)} (h:fh rd root i ns os) (hi:¬ i < ns.length):aF rd root=(ns,os,0):=by
 rw [<-h.fuel,ij,if_neg hi]
theorem sg {rd:Rd} (ok:dy rd) {s:aG} (hf:cd rd s=0):fg (eG rd s):=ie (tN (lU ok hf).2)
theorem fh.next {rd:Rd} {root:aG} {i:Nat} {ns:List aG} {os:List (D aA)} (ok:dy rd) (h:fh rd root i ns os) (hi:i < ns.length) (hf:cd rd (nth .str ns i)=0) :
  fh rd root (i + 1) (cB ns (eG rd (nth .str ns i)).1) (os++[eG rd (nth .str ns i)]):=by
 have hr:=h.room ok hi hf
 have ho:=sg ok hf
 obtain ⟨r,h1,h2,h3⟩:=jZ (eG rd (nth .str ns i)).1 ns
 have hn4:=ho.n4
 have hlen:=h.len
 have hhi:=h.hi
 have hpos:=h.pos
 have hos:nth aA (os++[eG rd (nth .str ns i)]) i=eG rd (nth .str ns i):=by rw [oz,if_neg (by omega),h.len,Nat.sub_self];rfl
 have hns:∀j,j < ns.length->nth .str (cB ns (eG rd (nth .str ns i)).1) j=nth .str ns j:=fun j hj=>by rw [h1,vL (t:=.str) hj]
 have hoj:∀j,j < i->nth aA (os++[eG rd (nth .str ns i)]) j=nth aA os j:=fun j hj=>vL (t:=aA) (by omega)
 refine ⟨?_,hr,by rw [h1,List.length_append];omega,by rw [h1,List.length_append];omega,by rw [List.length_append,h.len];rfl,by rw [h1,List.length_append];omega,
  by rw [hns 0 hpos];exact h.head,oJ _ _ h.nd,fun j hj => ?_,fun j hj h0 => ?_,fun j hj s hs => ?_⟩
 ·rw [<-h.fuel,ij,if_pos hi,if_pos hf];congr 1;omega
 ·rcases Nat.lt_or_ge j i with hl | hl
  ·rw [hns j (by omega),hoj j hl];exact h.A9 j hl
  ·rw [show j=i by omega,hns i hi,hos];exact ⟨hf,rfl⟩
 ·rcases Nat.lt_or_ge j ns.length with hl | hl
  ·obtain ⟨k,k1,k2,k3⟩:=h.want j hl h0
   exact ⟨k,by omega,k2,by rw [hns j hl,hoj k k1];exact k3⟩
  ·refine ⟨i,by omega,by omega,?_⟩
   rw [hos,h1,oz,if_neg (by omega)]
   refine h3 _ (dY (t:=.str) ?_)
   rw [h1,List.length_append] at hj;omega
 ·rcases Nat.lt_or_ge j i with hl | hl
  ·rw [hoj j hl] at hs
   rw [h1];exact List.mem_append_left _ (h.qa j hl s hs)
  ·rw [show j=i by omega,hos] at hs
   exact yi _ _ s hs
structure Scope (rd:Rd) (root:aG) (ns:List aG) (os:List (D aA)):Prop where
 le:ns.length<=6
 pos:0 < ns.length
 len:os.length=ns.length
 head:nth .str ns 0=root
 nd:ns.Nodup
 A9:∀j,j < ns.length->cd rd (nth .str ns j)=0/\nth aA os j=eG rd (nth .str ns j)
 want:∀j,j < ns.length->j≠0->∃k,k < j/\nth .str ns j∈(nth aA os k).1
 qa:∀j,j < ns.length->∀s∈(nth aA os j).1,s∈ns
theorem tO {rd:Rd} {root:aG} (ok:dy rd):∀(m i:Nat) (ns:List aG) (os:List (D aA)),m=7 - i->fh rd root i ns os->
  (∃f,0 < f/\aF rd root=([],[],f))\/(∃ns os,aF rd root=(ns,os,0)/\Scope rd root ns os)
 | 0,i,ns,os,hm,h=>by have:=h.le;omega
 | m + 1,i,ns,os,hm,h=>by
  by_cases hi:i < ns.length
  ·by_cases hf:cd rd (nth .str ns i)=0
   ·exact tO ok m (i + 1) _ _ (by omega) (h.next ok hi hf)
   ·have:=uD ok (nth .str ns i)
    exact .inl ⟨_,by omega,h.bad hi hf⟩
  ·have h1:=h.lo
   have h2:=h.le
   have e:i=ns.length:=by omega
   subst e
   exact .inr ⟨ns,os,h.done hi,h2,h.pos,h.len,h.head,h.nd,h.A9,fun j hj h0=>let ⟨k,_,k2,k3⟩:=h.want j hj h0;⟨k,k2,k3⟩,h.qa⟩
theorem ri {rd:Rd} (ok:dy rd) (root:aG):(∃f,0 < f/\aF rd root=([],[],f))\/(∃ns os,aF rd root=(ns,os,0)/\Scope rd root ns os):=
 tO ok 7 0 _ _ rfl (fh.zero rd root)
theorem sh {rd:Rd} (ok:dy rd) {root:aG} (h:(aF rd root).2.2=0):Scope rd root (aF rd root).1 (aF rd root).2.1:=by
 rcases ri ok root with ⟨f,hf,e⟩ | ⟨ns,os,e,h'⟩
 ·rw [e] at h;simp only at h;omega
 ·rw [e];exact h'
theorem fB {x:bp} (h:x.2.1.1.length<=6):dy (aJ x):=by
 refine ⟨fun s => ?_,x.2.1.1.map lP,by rw [List.length_map];exact h,fun s hs => ?_⟩
 ·unfold aJ;split
  ·exact .inl rfl
  ·exact .inr rfl
 ·by_cases c:cu b9 x.2.1.1 s=true
  ·obtain ⟨y,hy,e⟩:=jQ.1 c
   rw [<-e];exact List.mem_map_of_mem hy
  ·rw [mr (by simpa using c)] at hs;cases hs
end Go.Mrl

namespace Go.Mrl
open Go.Vg
section
variable {rd:Rd} {root:aG} {i:Nat} {ns:List aG} {os:List (D aA)}
theorem fh.FH (ok:dy rd) (h:fh rd root i ns os) (hi:i < ns.length) (he:¬ (rd (nth .str ns i)).2.2=0) :
  aF rd root=([],[],(rd (nth .str ns i)).2.2):=by
 rw [h.bad hi (by rw [qd he];exact he),qd he]
theorem fh.G8 (h:fh rd root i ns os) (hi:i < ns.length) (he:(rd (nth .str ns i)).2.2=0) (ho:¬ (b8 (rd (nth .str ns i)).1).2=0) :
  aF rd root=([],[],(b8 (rd (nth .str ns i)).1).2):=by
 rw [h.bad hi (by rw [mU he];exact ho),mU he]
theorem uE {s:aG} (he:(rd s).2.2=0) (ho:(b8 (rd s).1).2=0):cd rd s=0:=by rw [mU he];exact ho
theorem fh.IE (h:fh rd root i ns os):os.length + 1<=1000000000:=by have:=h.len;have:=h.le;omega
theorem fh.H2 (h:fh rd root i ns os) (ok:dy rd) {s:aG} (hf:cd rd s=0) (k:Nat):(cB ns (List.take k (eG rd s).1)).length + 1<=1000000000:=by
 obtain ⟨r,h1,h2,_⟩:=jZ (List.take k (eG rd s).1) ns
 have:=(sg ok hf).n4
 have:=h.hi
 have:=h.le
 rw [h1,List.length_append]
 rw [List.length_take] at h2
 omega
theorem Ba {l:List aG} {k:Nat} (h:k < l.length) (hn:(cB ns (l.take k)).any (fun x=>x == nth .str l k)=false):cB ns (l.take k)++[nth .str l k]=cB ns (l.take (k + 1)):=by
 rw [vK h,if_neg (by rw [hn];exact Bool.false_ne_true)]
theorem Bb {l:List aG} {k:Nat} (h:k < l.length) (hn:(cB ns (l.take k)).any (fun x=>x == nth .str l k)=true):cB ns (l.take k)=cB ns (l.take (k + 1)):=by
 rw [vK h,if_pos hn]
theorem Bc {l:List aG} {k:Nat} (h:¬ k < l.length):cB ns (l.take k)=cB ns l:=by rw [List.take_of_length_le (by omega)]
end
end Go.Mrl

namespace Go.Mrl
open Go.Vg
theorem nF:∀{s:List Int} {l:List (D aP)} {out o:List Int},cV l s out=some o->∃ext,o=out++ext/\ext.length=s.length:=by
 intro s
 induction s with
 | nil=>intro l out o h;simp only [cV,Option.some.injEq] at h;exact ⟨[],by simp [h],rfl⟩
 | cons n r ih=>
  intro l out o h
  simp only [cV] at h
  split at h
  ·cases h
  ·obtain ⟨ext,h1,h2⟩:=ih h
   exact ⟨_ :: ext,by rw [h1,List.append_assoc];rfl,by simp [h2]⟩
theorem yj {l:List (D aP)} {s o:List Int} {k:Nat} (hk:k < s.length) (h:cV l (s.drop k) (o.take k)=some o) (hl:o.length=s.length) :
  (nth (.int .i64) o k:Int)=cI l (bE (nth (.int .i64) s k)) 40 0/\cI l (bE (nth (.int .i64) s k)) 40 0 + bE (nth (.int .i64) s k)<=256/\
  cV (l++[(cI l (bE (nth (.int .i64) s k)) 40 0,bE (nth (.int .i64) s k),())]) (s.drop (k + 1)) (o.take (k + 1))=some o:=by
 rw [lM hk] at h
 split at h
 ·cases h
 ·rename_i hle
  obtain ⟨ext,h1,h2⟩:=nF h
  have hlen:(o.take k).length=k:=by rw [List.length_take];omega
  have hget:o[k]?=some (cI l (bE (nth (.int .i64) s k)) 40 0):=by
   rw [h1,List.append_assoc,List.getElem?_append_right (by omega),hlen,Nat.sub_self];rfl
  refine ⟨dF (t:=.int .i64) hget,by omega,?_⟩
  have:o.take (k + 1)=o.take k++[cI l (bE (nth (.int .i64) s k)) 40 0]:=by
   rw [List.take_add_one,hget];rfl
  rw [this];exact h
theorem Cr {s:List Int} {l:List (D aP)} (h:(bz (s,l)).2.isNil=true) :
  s.length<=6/\l.length<=20/\(∀j,j < s.length->1<=(nth (.int .i64) s j:Int)/\(nth (.int .i64) s j:Int)<=40)/\(∀y∈l,gW y)/\cV l s []=some (bz (s,l)).1/\(bz (s,l)).1.length=s.length:=by
 by_cases h1:6 < s.length\/20 < l.length
 ·rw [q8 h1] at h;cases h
 ·by_cases h2:rY s=true\/rZ l=true
  ·unfold bz at h;rw [if_neg h1,if_pos h2] at h;cases h
  ·have hs:∀j,j < s.length->1<=(nth (.int .i64) s j:Int)/\(nth (.int .i64) s j:Int)<=40:=by
    intro j hj
    apply Classical.byContradiction
    intro hn
    rw [q9 h1 hj hn] at h;cases h
   have ht:∀j,j < l.length->gW (nth aP l j):=by
    intro j hj
    apply Classical.byContradiction
    intro hn
    rw [pQ h1 hj hn] at h;cases h
   rw [pR h1 hs ht] at h ⊢
   refine ⟨by omega,by omega,hs,fun y hy => ?_,?_⟩
   ·obtain ⟨i,hi,e⟩:=jN (t:=aP) hy;rw [<-e];exact ht i hi
   ·split at h
    ·rename_i o ho
     obtain ⟨ext,k1,k2⟩:=nF ho
     simp only [ho]
     exact ⟨trivial,by rw [k1];simpa using k2⟩
    ·cases h
end Go.Mrl
namespace Go.Mrl
open Go.Vg
theorem Ad {n:Int}:n<=bE n/\bE n < n + 16:=by unfold bE;omega
end Go.Mrl

namespace Go.Mrl
open Go.Vg
def ep (s:List Int):Nat->Int
 | 0=>0
 | k + 1=>ep s k + bE (nth (.int .i64) s k)
def oK (l:List (Int × Int × Unit)) (S:Int):Prop:=0<=S/\(∃m:Nat,S=16 * (m:Int))/\(∀y∈l,y.1 + y.2.1<=S)/\∀p:Int,0<=p->p < S->∃y∈l,y.1<=p/\p < y.1 + y.2.1
theorem oK.nil:oK [] 0:=⟨Int.le_refl _,⟨0,rfl⟩,fun y hy=>by simp at hy,fun p h1 h2=>by omega⟩
theorem oK.snoc {l:List (Int × Int × Unit)} {S m:Int} (h:oK l S) (hm:0 < m) (h16:∃k:Nat,m=16 * (k:Int)):oK (l++[(S,m,())]) (S + m):=by
 obtain ⟨h1,⟨a,h2⟩,h3,h4⟩:=h
 obtain ⟨k,h5⟩:=h16
 refine ⟨by omega,⟨a + k,by omega⟩,fun y hy => ?_,fun p h6 h7 => ?_⟩
 ·rcases List.mem_append.1 hy with hy | hy
  ·have:=h3 y hy;omega
  ·simp only [List.mem_singleton] at hy;subst hy;simp only;omega
 ·by_cases c:p < S
  ·obtain ⟨y,hy,h8⟩:=h4 p h6 c
   exact ⟨y,by simp [hy],h8⟩
  ·exact ⟨(S,m,()),by simp,by simp only;omega⟩
theorem oK.base {l:List (Int × Int × Unit)} {S many:Int} (h:oK l S) (hm:0 < many):∀(n:Nat) (k:Nat),16 * (k:Int)<=S->S - 16 * (k:Int) < 16 * (n:Int)->cI l many n (16 * (k:Int))=S:=by
 obtain ⟨h1,⟨a,h2⟩,h3,h4⟩:=h
 intro n
 induction n with
 | zero=>intro k hk hn;omega
 | succ n ih=>
  intro k hk hn
  by_cases c:16 * (k:Int)=S
  ·rw [c]
   apply km
   refine tC fun j hj => ?_
   have:=h3 _ (dY (t:=aP) hj)
   rw [zV];simp only;omega
  ·obtain ⟨y,hy,h8,h9⟩:=h4 (16 * (k:Int)) (by omega) (by omega)
   have hf:dE (16 * (k:Int),many,()) l=false:=by
    obtain ⟨j,hj,e⟩:=jN (t:=aP) hy
    refine q7 hj ?_
    rw [e,pP];simp only;omega
   rw [vj hf,show 16 * (k:Int) + 16=16 * ((k + 1:Nat):Int) by omega]
   exact ih (k + 1) (by omega) (by omega)
theorem G9 {n:Int} (h:1<=n):∃k:Nat,bE n=16 * (k:Int):=⟨((n + 15) / 16).toNat,by unfold bE;omega⟩
theorem Cs {s:List Int} (hs:∀j,j < s.length->1<=(nth (.int .i64) s j:Int)/\(nth (.int .i64) s j:Int)<=40):∀d k,k + d<=s.length->ep s k<=ep s (k + d):=by
 intro d
 induction d with
 | zero=>intro k _;exact Int.le_refl _
 | succ d ih=>
  intro k hk
  have h1:=ih k (by omega)
  have h2:=hs (k + d) (by omega)
  have h3:=fq h2.1 h2.2
  have e:ep s (k + (d + 1))=ep s (k + d) + bE (nth (.int .i64) s (k + d)):=rfl
  rw [e]
  omega
end Go.Mrl

namespace Go.Mrl
open Go.Vg
theorem FI {s:List Int} (hs:∀j,j < s.length->1<=(nth (.int .i64) s j:Int)/\(nth (.int .i64) s j:Int)<=40):∀(d k:Nat) {l:List (Int × Int × Unit)} {o:List Int},k + d=s.length->oK l (ep s k)->ep s k<=256->
  o.length=s.length->cV l (s.drop k) (o.take k)=some o->ep s s.length<=256/\∀i,k<=i->i < s.length->(nth (.int .i64) o i:Int)=ep s i:=by
 intro d
 induction d with
 | zero=>
  intro k l o hk hc hle hl h
  have e:k=s.length:=by omega
  subst e
  exact ⟨hle,fun i h1 h2=>by omega⟩
 | succ d ih=>
  intro k l o hk hc hle hl h
  have h2:=hs k (by omega)
  have h3:=fq h2.1 h2.2
  have hb:=hc.base (many:=bE (nth (.int .i64) s k)) (by omega) 40 0 (by have:=hc.1;omega) (by omega)
  simp only [Int.natCast_zero,Int.mul_zero] at hb
  obtain ⟨n1,n2,n3⟩:=yj (k:=k) (by omega) h hl
  rw [hb] at n1 n2 n3
  have e:ep s (k + 1)=ep s k + bE (nth (.int .i64) s k):=rfl
  obtain ⟨r1,r2⟩:=ih (k + 1) (by omega) (l:=l++[(ep s k,bE (nth (.int .i64) s k),())]) (by rw [e];exact hc.snoc (by omega) (G9 h2.1)) (by omega) hl n3
  refine ⟨r1,fun i h4 h5 => ?_⟩
  rcases Nat.lt_or_ge k i with c | c
  ·exact r2 i (by omega) h5
  ·rw [show i=k by omega];exact n1
theorem D7 {s:List Int} (h:(bz (s,[])).2.isNil=true):(bz (s,[])).1.length=s.length/\(∀j,j < s.length->1<=(nth (.int .i64) s j:Int)/\(nth (.int .i64) s j:Int)<=40)/\
  ep s s.length<=256/\∀i,i < s.length->(nth (.int .i64) (bz (s,[])).1 i:Int)=ep s i:=by
 obtain ⟨_,_,h3,_,h5,h6⟩:=Cr h
 obtain ⟨r1,r2⟩:=FI h3 s.length 0 (l:=[]) (o:=(bz (s,[])).1) (by omega) oK.nil (by simp [ep]) h6 (by rw [List.drop_zero,List.take_zero];exact h5)
 exact ⟨h6,h3,r1,fun i hi=>r2 i (Nat.zero_le _) hi⟩
def br (l:List (D aA)):List Int:=l.map fun o=>(o.2.1.length:Int)
def bm (l:List (D aA)):Ws:=l.map fun o=>o.2.1
theorem kY (l:List (D aA)):(br l).length=l.length:=by simp [br]
theorem gR (l:List (D aA)):(bm l).length=l.length:=by simp [bm]
theorem Bd {t u:Ty} {f:D u->D t} {l:List (D u)} {i:Nat} (h:i < l.length):nth t (l.map f) i=f (nth u l i):=by
 unfold nth;rw [List.getD_eq_getElem?_getD,List.getD_eq_getElem?_getD,List.getElem?_map,List.getElem?_eq_getElem h];rfl
theorem oL {l:List (D aA)} {i:Nat} (h:i < l.length):(nth (.int .i64) (br l) i:Int)=((nth aA l i).2.1.length:Int):=Bd (u:=aA) (t:=.int .i64) h
theorem kZ {l:List (D aA)} {i:Nat} (h:i < l.length):nth cq (bm l) i=(nth aA l i).2.1:=Bd (u:=aA) (t:=cq) h
theorem rj {l:List (D aA)} {i:Nat} (h:i < l.length):br (l.take (i + 1))=br (l.take i)++[((nth aA l i).2.1.length:Int)]:=by
 unfold br;rw [iX (t:=aA) h];simp
theorem rk {l:List (D aA)} {i:Nat} (h:i < l.length):bm (l.take (i + 1))=bm (l.take i)++[(nth aA l i).2.1]:=by
 unfold bm;rw [iX (t:=aA) h];simp
noncomputable def Ct (l:List (D aA)) (b:List Int) (i:Nat) (ts:List (D aH)):List Pt:=ts.map fun t=>((i:Int),t.1,(cA l b i t).1,())
noncomputable def oM (l:List (D aA)) (b:List Int):List (D aA)->Nat->List Pt
 | [],_=>[]
 | o :: r,i=>Ct l b i o.2.2.2.1++oM l b r (i + 1)
theorem Be {l:List (D aA)} {b:List Int} {i:Nat}:∀{ts:List (D aH)} {out:List Pt},(ic l b i ts out).2.isNil=true->ic l b i ts out=(out++Ct l b i ts, .nil)/\∀t∈ts,(cA l b i t).2.isNil=true
 | [],out,_=>⟨by simp [ic,Ct],by simp⟩
 | t :: r,out,h=>by
  rw [ic] at h ⊢
  by_cases c:(cA l b i t).2.isNil=true
  ·rw [if_pos c] at h ⊢
   obtain ⟨h1,h2⟩:=Be h
   refine ⟨by rw [h1];simp [Ct],fun u hu => ?_⟩
   rcases List.mem_cons.1 hu with rfl | hu
   ·exact c
   ·exact h2 u hu
  ·rw [if_neg c] at h;exact absurd h c
theorem Bf {l:List (D aA)} {b:List Int}:∀{os:List (D aA)} {i:Nat} {out:List Pt},(gX l b os i out).2.isNil=true->gX l b os i out=(out++oM l b os i, .nil)/\
  ∀k,k < os.length->∀t∈(nth aA os k).2.2.2.1,(cA l b ((i + k:Nat):Int) t).2.isNil=true
 | [],i,out,_=>⟨by simp [gX,oM],fun k hk=>by simp at hk⟩
 | o :: r,i,out,h=>by
  rw [gX] at h ⊢
  unfold iz at h ⊢
  by_cases c:(ic l b i o.2.2.2.1 out).2.isNil=true
  ·rw [if_pos c] at h ⊢
   obtain ⟨h1,h2⟩:=Be c
   obtain ⟨h3,h4⟩:=Bf h
   refine ⟨by rw [h3,h1];simp [oM],fun k hk => ?_⟩
   rcases k with _ | k
   ·exact h2
   ·have:=h4 k (by simpa using hk)
    rw [show i + 1 + k=i + (k + 1) by omega] at this
    exact this
  ·rw [if_neg c] at h;exact absurd h c
theorem FJ {l:List (D aA)} {b:List Int} (h:(dx (l,b)).2.isNil=true):b.length=l.length/\jA b/\(dx (l,b)).1=oM l b l 0/\∀k,k < l.length->∀t∈(nth aA l k).2.2.2.1,(cA l b (k:Int) t).2.isNil=true:=by
 have h':=h
 unfold dx at h ⊢
 split at h
 ·cases h
 ·rename_i hl
  split at h
  ·rename_i hb
   obtain ⟨h1,h2⟩:=Bf h
   refine ⟨Classical.byContradiction hl,hb,?_,fun k hk t ht=>by have:=h2 k hk t ht;rwa [Nat.zero_add] at this⟩
   rw [if_neg hl,if_pos hb,h1];rfl
  ·cases h
theorem si {l:List (D aA)} {b:List Int}:∀{os:List (D aA)} {i:Nat} {p:Pt},p∈oM l b os i->∃k t,k < os.length/\t∈(nth aA os k).2.2.2.1/\p=(((i + k:Nat):Int),t.1,(cA l b ((i + k:Nat):Int) t).1,())
 | [],i,p,h=>by simp [oM] at h
 | o :: r,i,p,h=>by
  rcases List.mem_append.1 h with h | h
  ·obtain ⟨t,ht,rfl⟩:=List.mem_map.1 h
   exact ⟨0,t,by simp,ht,rfl⟩
  ·obtain ⟨k,t,hk,ht,rfl⟩:=si h
   exact ⟨k + 1,t,by simp;omega,ht,by rw [show i + 1 + k=i + (k + 1) by omega]⟩
theorem tP (x:List Int × List (D aP)):Told (bz x).2:=by
 unfold bz
 split
 ·rfl
 ·split
  ·rfl
  ·split <;> rfl
theorem FK (x:Ws × List Pt):Told (dw x).2:=by
 unfold dw;split <;> rfl
theorem oN {e:aY} (h:Told e):bd (dA e)=e:=by
 cases e with
 | nil=>rfl
 | no m=>
  have h':0 < m:=by have:=h;simpa [Told,qB,dA] using this
  have h2:¬ m=0:=by omega
  show bd m=_
  unfold bd
  rw [if_neg h2]
 | other=>unfold Told at h;simp [qB] at h
theorem yk {e:aY} (h:Told e) (hn:e.isNil=false):0 < dA e:=by
 cases e with
 | nil=>cases hn
 | no m=>
  have h':0 < m:=by have:=h;simpa [Told,qB,dA] using this
  exact h'
 | other=>unfold Told at h;simp [qB] at h
abbrev Rk:=List aG × List (D aA) × List Int × List Pt × Int
noncomputable def bg (rd:Rd) (root:aG):Rk:=
 if ¬ (aF rd root).2.2=0 then ([],[],[],[],(aF rd root).2.2)
 else if (bz (br (aF rd root).2.1,[])).2.isNil=false then ([],[],[],[],dA (bz (br (aF rd root).2.1,[])).2)
 else if (dx ((aF rd root).2.1,(bz (br (aF rd root).2.1,[])).1)).2.isNil=false then ([],[],[],[],dA (dx ((aF rd root).2.1,(bz (br (aF rd root).2.1,[])).1)).2)
 else ((aF rd root).1,(aF rd root).2.1,(bz (br (aF rd root).2.1,[])).1,(dx ((aF rd root).2.1,(bz (br (aF rd root).2.1,[])).1)).1,0)
theorem qf {rd:Rd} {root:aG} (h:¬ (aF rd root).2.2=0):bg rd root=([],[],[],[],(aF rd root).2.2):=by unfold bg;rw [if_pos h]
theorem qg {rd:Rd} {root:aG} (h:(aF rd root).2.2=0) (h1:(bz (br (aF rd root).2.1,[])).2.isNil=false):bg rd root=([],[],[],[],dA (bz (br (aF rd root).2.1,[])).2):=by
 unfold bg;rw [if_neg (not_not_intro h),if_pos h1]
theorem tQ {rd:Rd} {root:aG} (h:(aF rd root).2.2=0) (h1:(bz (br (aF rd root).2.1,[])).2.isNil=true) (h2:(dx ((aF rd root).2.1,(bz (br (aF rd root).2.1,[])).1)).2.isNil=false) :
  bg rd root=([],[],[],[],dA (dx ((aF rd root).2.1,(bz (br (aF rd root).2.1,[])).1)).2):=by
 unfold bg;rw [if_neg (not_not_intro h),if_neg (by rw [h1];decide),if_pos h2]
theorem rl {rd:Rd} {root:aG} (h:(aF rd root).2.2=0) (h1:(bz (br (aF rd root).2.1,[])).2.isNil=true) (h2:(dx ((aF rd root).2.1,(bz (br (aF rd root).2.1,[])).1)).2.isNil=true) :
  bg rd root=((aF rd root).1,(aF rd root).2.1,(bz (br (aF rd root).2.1,[])).1,(dx ((aF rd root).2.1,(bz (br (aF rd root).2.1,[])).1)).1,0):=by
 unfold bg;rw [if_neg (not_not_intro h),if_neg (by rw [h1];decide),if_neg (by rw [h2];decide)]
structure e9 (rd:Rd) (root:aG) (ns:List aG) (os:List (D aA)) (bs:List Int) (ps:List Pt):Prop where
 e:aF rd root=(ns,os,0)
 sc:Scope rd root ns os
 eb:bz (br os,[])=(bs, .nil)
 ea:dx (os,bs)=(ps, .nil)
 bl:bs.length=os.length
 bi:jA bs
 pt:ps=oM os bs os 0
 one:∀k,k < os.length->∀t∈(nth aA os k).2.2.2.1,(cA os bs (k:Int) t).2.isNil=true
 Ix:∀i,i < ps.length->mo (bm os) (nth bt ps i)
theorem vM {e:aY} (h:e.isNil=true):e = .nil:=by cases e <;> first | rfl | cases h
theorem Scope.obj {rd:Rd} {root:aG} {ns:List aG} {os:List (D aA)} (ok:dy rd) (h:Scope rd root ns os) {i:Nat} (hi:i < os.length):fg (nth aA os i):=by
 have:=h.A9 i (by rw [<-h.len];exact hi)
 rw [this.2];exact sg ok this.1
theorem fg.Cu {o:D aA} (h:fg o):Gw o:=by
 refine ⟨by have:=h.t6;omega,fun i hi => ?_,fun i hi => ?_⟩
 ·have:=(h.sym hi).2;unfold jt at this;unfold Small;omega
 ·have:=h.tie hi
  have a:=this.a
  have w:=this.w
  unfold jt at a w
  unfold Small Word
  omega
theorem Scope.Cu {rd:Rd} {root:aG} {ns:List aG} {os:List (D aA)} (ok:dy rd) (h:Scope rd root ns os):eg os:=⟨by have:=h.le;have:=h.len;omega,fun _ hi=>(h.obj ok hi).Cu⟩
theorem vN {a n:Int} (h:a<=n - 1):a < n:=by omega
theorem mV {o:D aA} (h:bF o=0):da o.2.1.length [] o.2.2.1=0/\en o.2.1.length none o.2.2.2.1=0:=by
 unfold bF at h
 split at h
 ·cases h
 ·split at h
  ·rename_i h1;exact absurd h h1
  ·split at h
   ·rename_i h2;exact absurd h h2
   ·split at h
    ·rename_i h3;exact absurd h h3
    ·rename_i h3;exact ⟨Classical.byContradiction h3,h⟩
theorem gS {o:D aA} (h:bF o=0) {t:D aH} (ht:t∈o.2.2.2.1):0<=t.1/\t.1 < (o.2.1.length:Int):=by
 obtain ⟨p,hp⟩:=oG _ _ _ (mV h).2 t ht
 obtain ⟨⟨a,b⟩,_⟩:=vC hp
 exact ⟨a,vN b⟩
theorem Cv {o:D aA} (h:bF o=0) {y:D aI} (hy:y∈o.2.2.1):0<=y.2.1/\y.2.1 < (o.2.1.length:Int):=by
 obtain ⟨_,a,b⟩:=oF _ _ _ (mV h).1 y hy
 exact ⟨a,vN b⟩
theorem tR (n:Nat):∀(l:List (D aH)) (p:Option Int),en n p l=0->l.Pairwise (fun a b=>a.1 < b.1)/\∀t∈l,∀b,p=some b->b < t.1
 | [],_,_=>⟨.nil,by simp⟩
 | x :: r,p,h=>by
  unfold en at h
  split at h
  ·rename_i h0;exact absurd h h0
  ·rename_i h0
   have h0:=Classical.byContradiction h0
   obtain ⟨h1,h2⟩:=tR n r _ h
   have hx:∀b,p=some b->b < x.1:=by
    rintro b rfl
    unfold ga at h0
    split at h0
    ·cases h0
    ·split at h0
     ·cases h0
     ·rename_i h3
      exact Int.not_le.1 fun e=>h3 (.inr (.inr (by unfold gy;simpa using e)))
   refine ⟨List.pairwise_cons.2 ⟨fun y hy=>h2 y hy _ rfl,h1⟩,fun t ht b hb => ?_⟩
   rcases List.mem_cons.1 ht with rfl | ht
   ·exact hx b hb
   ·exact Int.lt_trans (hx b hb) (h2 t ht _ rfl)
theorem D8 {o:D aA} (h:bF o=0):o.2.2.2.1.Pairwise (fun a b=>a.1 < b.1):=(tR _ _ _ (mV h).2).1
theorem Scope.fault {rd:Rd} {root:aG} {ns:List aG} {os:List (D aA)} (ok:dy rd) (h:Scope rd root ns os) {i:Nat} (hi:i < os.length):bF (nth aA os i)=0:=by
 have:=h.A9 i (by rw [<-h.len];exact hi)
 rw [this.2];exact tN (lU ok this.1).2
theorem qh {rd:Rd} (ok:dy rd) (root:aG):(∃f,0 < f/\bg rd root=([],[],[],[],f))\/(∃ns os bs ps,bg rd root=(ns,os,bs,ps,0)/\e9 rd root ns os bs ps):=by
 rcases ri ok root with ⟨f,hf,e⟩ | ⟨ns,os,e,sc⟩
 ·exact .inl ⟨f,hf,by rw [qf (by rw [e];simp only;omega),e]⟩
 ·have e0:(aF rd root).2.2=0:=by rw [e]
  have e1:(aF rd root).2.1=os:=by rw [e]
  have e2:(aF rd root).1=ns:=by rw [e]
  cases hb:(bz (br os,[])).2.isNil with
  | false=>exact .inl ⟨_,yk (tP _) hb,by rw [qg e0 (by rw [e1];exact hb),e1]⟩
  | true=>
   cases ha:(dx (os,(bz (br os,[])).1)).2.isNil with
   | false=>exact .inl ⟨_,yk (xU _) ha,by rw [tQ e0 (by rw [e1];exact hb) (by rw [e1];exact ha),e1]⟩
   | true=>
    obtain ⟨a1,a2,a3,a4⟩:=FJ ha
    refine .inr ⟨ns,os,_,_,by rw [rl e0 (by rw [e1];exact hb) (by rw [e1];exact ha),e1,e2],e,sc,Prod.ext rfl (vM hb),Prod.ext rfl (vM ha),a1,a2,a3,a4,fun i hi => ?_⟩
    obtain ⟨k,t,hk,ht,hp⟩:=si (by rw [<-a3];exact dY (t:=bt) hi)
    rw [hp]
    have:=gS (sc.fault ok hk) ht
    refine ⟨by simp only;omega,by simp only;rw [gR];omega,this.1,?_⟩
    simp only [Nat.zero_add]
    rw [show ((k:Int)).toNat=k from rfl,kZ hk]
    exact this.2
def cw (ns:List aG) (bs:List Int) (w:Ws) (n:Nat):List (D ba):=(List.range n).map fun i=>(nth .str ns i,nth (.int .i64) bs i,nth cq w i,())
theorem la (ns:List aG) (bs:List Int) (w:Ws) (n:Nat):(cw ns bs w n).length=n:=by simp [cw]
theorem rm (ns:List aG) (bs:List Int) (w:Ws) (n:Nat):cw ns bs w (n + 1)=cw ns bs w n++[(nth .str ns n,nth (.int .i64) bs n,nth cq w n,())]:=by simp [cw,List.range_succ]
theorem ld {ns:List aG} {bs:List Int} {w:Ws} {n i:Nat} (h:i < n):nth ba (cw ns bs w n) i=(nth .str ns i,nth (.int .i64) bs i,nth cq w i,()):=by
 apply dF;simp [cw,h]
noncomputable def gb (ns:List aG) (bs:List Int) (os:List (D aA)) (ps:List Pt):List (D ba) × aY:=
 if ¬ ns.length=os.length\/¬ bs.length=os.length then ([], .no 3)
 else if (dw (bm os,ps)).2.isNil=false then ([],(dw (bm os,ps)).2)
 else (cw ns bs (dw (bm os,ps)).1 os.length, .nil)
theorem tS {ns:List aG} {bs:List Int} {os:List (D aA)} {ps:List Pt} (h:¬ ns.length=os.length\/¬ bs.length=os.length):gb ns bs os ps=([], .no 3):=by unfold gb;rw [if_pos h]
theorem FL {ns:List aG} {bs:List Int} {os:List (D aA)} {ps:List Pt} (h:ns.length=os.length) (h':bs.length=os.length) (hp:(dw (bm os,ps)).2.isNil=false):gb ns bs os ps=([],(dw (bm os,ps)).2):=by
 unfold gb;rw [if_neg (by rintro (e | e);exact e h;exact e h'),if_pos hp]
theorem uF {ns:List aG} {bs:List Int} {os:List (D aA)} {ps:List Pt} (h:ns.length=os.length) (h':bs.length=os.length) (hp:(dw (bm os,ps)).2.isNil=true):gb ns bs os ps=(cw ns bs (dw (bm os,ps)).1 os.length, .nil):=by
 unfold gb;rw [if_neg (by rintro (e | e);exact e h;exact e h'),if_neg (by rw [hp];decide)]
theorem FM (ns:List aG) (bs:List Int) (os:List (D aA)) (ps:List Pt):Told (gb ns bs os ps).2:=by
 unfold gb;split
 ·rfl
 ·split
  ·exact FK _
  ·rfl
noncomputable def cJ (rd:Rd) (root:aG):List (D ba) × Int:=
 if ¬ (bg rd root).2.2.2.2=0 then ([],(bg rd root).2.2.2.2)
 else ((gb (bg rd root).1 (bg rd root).2.2.1 (bg rd root).2.1 (bg rd root).2.2.2.1).1,dA (gb (bg rd root).1 (bg rd root).2.2.1 (bg rd root).2.1 (bg rd root).2.2.2.1).2)
theorem e9.put {rd:Rd} {root:aG} {ns:List aG} {os:List (D aA)} {bs:List Int} {ps:List Pt} (h:e9 rd root ns os bs ps):dw (bm os,ps)=(cK (bm os) ps, .nil):=nz h.Ix
theorem e9.lay {rd:Rd} {root:aG} {ns:List aG} {os:List (D aA)} {bs:List Int} {ps:List Pt} (h:e9 rd root ns os bs ps):gb ns bs os ps=(cw ns bs (cK (bm os) ps) os.length, .nil):=by
 rw [uF h.sc.len.symm h.bl (by rw [h.put];rfl),h.put]
theorem yl {rd:Rd} {root:aG} (h:¬ (bg rd root).2.2.2.2=0):cJ rd root=([],(bg rd root).2.2.2.2):=by unfold cJ;rw [if_pos h]
theorem Ha {rd:Rd} {root:aG} {ns:List aG} {os:List (D aA)} {bs:List Int} {ps:List Pt} (e:bg rd root=(ns,os,bs,ps,0)) (h:e9 rd root ns os bs ps):cJ rd root=(cw ns bs (cK (bm os) ps) os.length,0):=by
 unfold cJ;rw [e,if_neg (by simp),h.lay];rfl
theorem lf {rd:Rd} (ok:dy rd) (root:aG):(∃f,0 < f/\bg rd root=([],[],[],[],f)/\cJ rd root=([],f))\/
  (∃ns os bs ps,bg rd root=(ns,os,bs,ps,0)/\e9 rd root ns os bs ps/\cJ rd root=(cw ns bs (cK (bm os) ps) os.length,0)):=by
 rcases qh ok root with ⟨f,hf,e⟩ | ⟨ns,os,bs,ps,e,h⟩
 ·exact .inl ⟨f,hf,e,by rw [yl (by rw [e];simp only;omega),e]⟩
 ·exact .inr ⟨ns,os,bs,ps,e,h,Ha e h⟩
theorem e9.row {rd:Rd} {root:aG} {ns:List aG} {os:List (D aA)} {bs:List Int} {ps:List Pt} (h:e9 rd root ns os bs ps) {i:Nat} (hi:i < os.length):nth cq (cK (bm os) ps) i=r4 (nth aA os i).2.1 i ps:=by
 have:=Fp (w:=bm os) (l:=ps) (i:=i) (by rw [gR];exact hi) h.Ix
 rw [h.put,kZ hi] at this
 exact this
theorem e9.ym {rd:Rd} {root:aG} {ns:List aG} {os:List (D aA)} {bs:List Int} {ps:List Pt} (h:e9 rd root ns os bs ps) {i:Nat} (hi:i < os.length):(nth cq (cK (bm os) ps) i).length=(nth aA os i).2.1.length:=by
 rw [mq,kZ hi]
theorem e9.sum {rd:Rd} {root:aG} {ns:List aG} {os:List (D aA)} {bs:List Int} {ps:List Pt} (h:e9 rd root ns os bs ps) :
  (∀j,j < os.length->1<=(nth aA os j).2.1.length/\(nth aA os j).2.1.length<=40)/\ep (br os) os.length<=256/\∀i,i < os.length->(nth (.int .i64) bs i:Int)=ep (br os) i:=by
 have hb:(bz (br os,[])).2.isNil=true:=by rw [h.eb];rfl
 have hn:(bz (br os,[])).1=bs:=by rw [h.eb]
 obtain ⟨_,h2,h3,h4⟩:=D7 hb
 rw [hn] at h4
 have hl:=kY os
 refine ⟨fun j hj => ?_,by rw [hl] at h3;exact h3,fun i hi=>h4 i (by omega)⟩
 have:=h2 j (by omega)
 rw [oL hj] at this
 exact ⟨Int.ofNat_le.1 this.1,Int.ofNat_le.1 this.2⟩
theorem e9.apart {rd:Rd} {root:aG} {ns:List aG} {os:List (D aA)} {bs:List Int} {ps:List Pt} (h:e9 rd root ns os bs ps) {i j:Nat} (hij:i < j) (hj:j < os.length) :
  (nth (.int .i64) bs i:Int) + (nth aA os i).2.1.length<=nth (.int .i64) bs j:=by
 obtain ⟨h1,h2,h3⟩:=h.sum
 have hs:∀j,j < (br os).length->1<=(nth (.int .i64) (br os) j:Int)/\(nth (.int .i64) (br os) j:Int)<=40:=by
  intro k hk
  rw [kY] at hk
  rw [oL hk]
  have:=h1 k hk
  exact ⟨Int.ofNat_le.2 this.1,Int.ofNat_le.2 this.2⟩
 have hm:=Cs hs (j - (i + 1)) (i + 1) (by rw [kY];omega)
 rw [show i + 1 + (j - (i + 1))=j by omega] at hm
 have e:ep (br os) (i + 1)=ep (br os) i + bE (nth (.int .i64) (br os) i):=rfl
 have hr:=(Ad (n:=nth (.int .i64) (br os) i)).1
 rw [oL (by omega)] at hr e
 rw [h3 i (by omega),h3 j hj]
 exact Int.le_trans (Int.add_le_add_left hr _) (e▸hm)
end Go.Mrl

namespace Go.Mrl
open Go.Vg
def qi (p:D ba) (a:Int):Prop:=(p.2.1:Int)<=a/\a < (p.2.1:Int) + (p.2.2.1.length:Int)
instance (p:D ba) (a:Int):Decidable (qi p a):=inferInstanceAs (Decidable (_/\_))
def fv:List (D ba)->Int->Int × Bool
 | [],_=>(0,false)
 | p :: l,a=>if qi p a then (nth (.int .i64) p.2.2.1 (a - p.2.1).toNat,true) else fv l a
def yn (l:List (D ba)):Prop:=∀i,i < l.length->(0:Int)<=(nth ba l i).2.1/\(nth ba l i).2.1<=(1000000:Int)/\(nth ba l i).2.2.1.length<=1000000
theorem FN {l:List (D ba)} {a:Int} {i:Nat} (h:i < l.length) (e:fv (l.drop i) a=fv l a) (h1:((nth ba l i).2.1:Int)<=a) (h2:a < ((nth ba l i).2.1:Int) + ((nth ba l i).2.2.1.length:Int)) :
  fv l a=(nth (.int .i64) (nth ba l i).2.2.1 (a - (nth ba l i).2.1).toNat,true):=by
 rw [<-e,cW h];exact if_pos ⟨h1,h2⟩
theorem FO {l:List (D ba)} {a:Int} {i:Nat} (h:i < l.length) (e:fv (l.drop i) a=fv l a) (hn:¬ (a>=(nth ba l i).2.1/\a < (nth ba l i).2.1 + ((nth ba l i).2.2.1.length:Int))) :
  fv (l.drop (i + 1)) a=fv l a:=by
 rw [<-e,cW h];exact (if_neg hn).symm
theorem Hb {l:List (D ba)} {a:Int} {i:Nat} (h:¬ i < l.length) (e:fv (l.drop i) a=fv l a):fv l a=(0,false):=by
 rw [<-e,List.drop_eq_nil_of_le (by omega)];rfl
theorem D9 {rd:Rd} (ok:dy rd) {root:aG} (h:(aF rd root).2.2=0):(aF rd root).2.1.length<=6:=by
 have:=(sh ok h).le;have:=(sh ok h).len;omega
theorem Cw {rd:Rd} (ok:dy rd) {root:aG} (h:(aF rd root).2.2=0):eg (aF rd root).2.1:=(sh ok h).Cu ok
theorem Hc {l:List (D aA)} (h:l.length<=1000/\∀i,i < l.length->(nth aA l i).2.1.length<=1000) :
  (bm l).length<=100000/\∀i,i < (bm l).length->(nth cq (bm l) i).length<=100000000:=by
 refine ⟨by rw [gR];omega,fun i hi => ?_⟩
 rw [gR] at hi
 rw [kZ hi];have:=h.2 i hi;omega
theorem Cy {rd:Rd} (ok:dy rd) {root:aG} {ns:List aG} {os:List (D aA)} (h:Scope rd root ns os):os.length<=1000/\∀i,i < os.length->(nth aA os i).2.1.length<=1000:=by
 refine ⟨by have:=h.le;have:=h.len;omega,fun i hi => ?_⟩
 exact Nat.le_trans (h.obj ok hi).DV (by decide)
theorem yp {rd:Rd} (ok:dy rd) {root:aG} (h:(bg rd root).2.2.2.2=0) :
  (bg rd root).2.1.length<=1000/\∀i,i < (bg rd root).2.1.length->(nth aA (bg rd root).2.1 i).2.1.length<=1000:=by
 rcases qh ok root with ⟨f,hf,e⟩ | ⟨ns,os,bs,ps,e,hr⟩
 ·rw [e] at h;simp at h;omega
 ·rw [e];exact Cy ok hr.sc
theorem FP {rd:Rd} {root:aG} (h:(bg rd root).2.2.2.2=0) :
  ((gb (bg rd root).1 (bg rd root).2.2.1 (bg rd root).2.1 (bg rd root).2.2.2.1).1,(gb (bg rd root).1 (bg rd root).2.2.1 (bg rd root).2.1 (bg rd root).2.2.2.1).2,()) =
   ((cJ rd root).1,bd (cJ rd root).2,()):=by
 unfold cJ;rw [if_neg (not_not_intro h)]
 simp only [oN (FM _ _ _ _)]
theorem mA {f:Int} (h:(bd f).isNil=false):¬ f=0:=fun e=>by rw [bf.2 e] at h;cases h
theorem FQ (x:List (D aA) × List Int):bd (dA (dx x).2)=(dx x).2:=oN (xU x)
theorem Cz {rd:Rd} (ok:dy rd) (root:aG):yn (cJ rd root).1:=by
 rcases lf ok root with ⟨f,hf,e,el⟩ | ⟨ns,os,bs,ps,e,hr,el⟩
 ·rw [el];intro i hi;simp at hi
 ·rw [el];intro i hi
  rw [la] at hi
  rw [ld hi]
  have hb:=hr.bi i (by rw [hr.bl];exact hi)
  have hl:=hr.ym hi
  have hw:=(hr.sc.obj ok hi).DV
  exact ⟨hb.1,Int.le_trans hb.2 (by decide),Nat.le_trans (Nat.le_of_eq hl) (Nat.le_trans hw (by decide))⟩
theorem FR {α:Type} {l:List α} {i:Nat} (h:¬ i < l.length):l.take i=l:=List.take_of_length_le (by omega)
end Go.Mrl

namespace Go.Mrl
open Go.Vg
section
variable {o:D aA} {b:Bool} {w:List aG} {k:Nat}
end
theorem eT {k n:Nat} (h:(k:Int) < (n:Int)):(decide ((k:Int) < 3))=true ↔ ((k:Int) < (n:Int)/\(k:Int) < 3):=by
 rw [decide_eq_true_eq];omega
end Go.Mrl

namespace Go.Mrl
open Go.Vg
def GA (e:D du):Prop:=e.2.1.length < 1\/e.2.1.length > 6\/e.2.2.1.length > 36
instance (e:D du):Decidable (GA e):=by unfold GA;infer_instance
end Go.Mrl

namespace Go.Mrl
open Go.Vg
end Go.Mrl

namespace Go.Mrl
open Go.Vg
end Go.Mrl

namespace Go.Mrl
open Go.Vg
theorem Ea {rd:Rd} {root:aG} {ns:List aG} {os:List (D aA)} {bs:List Int} {ps:List Pt} {w:Ws} (h:aF rd root=(ns,os,0)) (hb:bz (br os,[])=(bs, .nil)) (ha:dx (os,bs)=(ps, .nil))
  (hn:ns.length=os.length) (hl:bs.length=os.length) (hp:∀i,i < ps.length->mo (bm os) (nth bt ps i)) (hw:cK (bm os) ps=w):cJ rd root=(cw ns bs w os.length,0):=by
 have e:bg rd root=(ns,os,bs,ps,0):=by
  unfold bg
  rw [h]
  simp only [hb,ha,aY.isNil]
  rfl
 unfold cJ
 rw [e,if_neg (by simp)]
 have hq:dw (bm os,ps)=(w, .nil):=by rw [nz hp,hw]
 simp only
 rw [uF hn hl (by rw [hq];rfl),hq]
 rfl
def sj:aG:=[110,101,101,100,32,98,10,119,111,114,100,32,48,10,119,104,111,108,101,32,48,32,48,32,120,10]
def uG:aG:=[119,111,114,100,32,55,10,115,121,109,98,111,108,32,120,32,48,10]
abbrev gT:D aA:=([[98]],[0],[],[(0,2,0,[120],false,())],())
abbrev j0:D aA:=([],[7],[([120],0,false,())],[],())
theorem GB:b8 sj=(gT,0):=by
 have i0:Lib.itoa 0 = [48]:=by rw [r8 (by decide) (by decide)];rfl
 refine qH (by decide) (by decide) ?_
 simp only [dk,dK,gB,gA,iS,oE,mw,mT,dj,List.length_singleton,List.length_nil,List.take_succ_cons,List.take_zero,List.flatMap_cons,List.flatMap_nil,i0]
 decide
theorem GC:b8 uG=(j0,0):=by
 have i7:Lib.itoa 7 = [55]:=by rw [r8 (by decide) (by decide)];rfl
 have i0:Lib.itoa 0 = [48]:=by rw [r8 (by decide) (by decide)];rfl
 refine qH (by decide) (by decide) ?_
 simp only [dk,dK,gB,gA,iS,mw,r9,dj,List.length_singleton,List.length_nil,List.take_succ_cons,List.take_zero,List.flatMap_cons,List.flatMap_nil,i7,i0]
 decide
def IJ:bp:=(bX kW [97] sj).1
def tT:bp:=(bX IJ [98] uG).1
theorem H3:aJ tT [97]=(sj,1,0):=by decide
theorem H4:aJ tT [98]=(uG,2,0):=by decide
theorem Ir:aF (aJ tT) [97]=([[97],[98]],[gT,j0],0):=by
 have fa:cd (aJ tT) [97]=0:=by unfold cd;rw [H3];show (if (0:Int)=0 then (b8 sj).2 else 0)=0;rw [GB];rfl
 have fb:cd (aJ tT) [98]=0:=by unfold cd;rw [H4];show (if (0:Int)=0 then (b8 uG).2 else 0)=0;rw [GC];rfl
 have oa:eG (aJ tT) [97]=gT:=by unfold eG;rw [H3];show (b8 sj).1=gT;rw [GB]
 have ob:eG (aJ tT) [98]=j0:=by unfold eG;rw [H4];show (b8 uG).1=j0;rw [GC]
 have n0:nth .str [[97]] 0 = [97]:=rfl
 have n1:nth .str [[97],[98]] 1 = [98]:=rfl
 have a0:cB [[97]] gT.1 = [[97],[98]]:=by decide
 have a1:cB [[97],[98]] j0.1 = [[97],[98]]:=by decide
 unfold aF
 rw [ij,if_pos (by decide),n0,if_pos fa,oa,a0,ij,if_pos (by decide),n1,if_pos fb,ob,a1,ij,if_neg (by decide)]
 rfl
theorem Hd:bo ([gT,j0],[120])=(1,0):=by
 refine lK (i:=1) (k:=0) ⟨⟨by decide,by decide,rfl,rfl⟩,?_⟩
 rintro i k (h | ⟨_,h⟩) ⟨_,h1,_,h2⟩
 ·obtain rfl:i=0:=by omega
  exact absurd (show k < 0 from h1) (Nat.not_lt_zero _)
 ·omega
theorem He:cJ (aJ tT) [97]=([([97],0,[16],()),([98],16,[7],())],0):=by
 refine Ea Ir (bs:=[0,16]) (ps:=[(0,0,16,())]) (w:=[[16],[7]]) rfl ?_ rfl rfl ?_ rfl
 ·rw [uz rfl (by
   intro i hi
   have:i=0\/i=1:=by simp at hi;omega
   rcases this with rfl | rfl <;> simp [nth])]
  have h1:cA [gT,j0] [0,16] 0 (0,2,0,[120],false,())=(16, .nil):=by
   have ht:bQ [gT,j0] [0,16] (0,2,0,[120],false,())=(16, .nil):=by
    unfold bQ
    show (if 0<=(bo ([gT,j0],[120])).1 then (dG [0,16] (bo ([gT,j0],[120])).1.toNat + (nth aI (nth aA [gT,j0] (bo ([gT,j0],[120])).1.toNat).2.2.1 (bo ([gT,j0],[120])).2.toNat).2.1,aY.nil) else _)=_
    rw [Hd];rfl
   rw [ln (by decide) (by rw [ht];rfl),ht]
   exact uB (by decide) rfl (by decide)
  simp [gX,ic,iz,h1,aY.isNil]
 ·intro i hi
  obtain rfl:i=0:=by simp at hi;omega
  unfold mo;decide
def Eb:bp:=((0 + 1 + 1,()),(cz b9 (cz b9 [] [97] (sj,0 + 1,()) 0) [98] (uG,0 + 1 + 1,()) (fI b9 [] [97] 0),fI b9 (cz b9 [] [97] (sj,0 + 1,()) 0) [98] (fI b9 [] [97] 0),()),())
theorem Is:tT=Eb:=rfl
theorem sk:cJ (aJ Eb) [97]=([([97],0,[16],()),([98],16,[7],())],0):=by rw [<-Is];exact He
theorem FT {rd:Rd} (ok:dy rd) {s:aG} (h:(cJ rd s).2<=0):∃ns os bs ps,bg rd s=(ns,os,bs,ps,0)/\e9 rd s ns os bs ps/\cJ rd s=(cw ns bs (cK (bm os) ps) os.length,0):=by
 rcases lf ok s with ⟨f,hf,e1,e⟩ | h'
 ·rw [e] at h;exact absurd hf (Int.not_lt.2 h)
 ·exact h'
end Go.Mrl

namespace Go.Vg
open Go
theorem Ae {H:Type} {enc:TypeId × Value->H} {a:Assume} {C:Checked} {os:Os} {f:FuncId} {fn:Func} {s:ChangeSpec} {conds:List PathCond} {apart fresh handsOn again:Bool} {X:World->Array Value->Prop}
  (hX:∀(w w':World) (args:Array Value),w.heap=w'.heap->X w args->X w' args)
  (own:ownKnob C.prog.godebug=none) (started:os.Started) (noInit:C.prog.inits.idxOf? f=none) (hfn:C.prog.funcs[f]?=some fn)
  (witness:∃(w:World) (tape:Tape) (i:Input),w.os=os/\(w.forCall tape i).Shaped C.prog/\i.vars = []/\Input.okWide C.prog (w.forCall tape i) .any w.heap.size f i/\
   ((s.pre enc C.prog fn conds apart (w.forCall tape i).memory i.args/\X (w.forCall tape i).memory i.args)/\sizedMet enc C.prog fn (OpenSpec.ofChange s) apart (w.forCall tape i).memory i.args)/\a.holds C.prog (lone (Frame.enter C.prog f i.args .normal) [] (w.forCall tape i)))
  (contract:∀(W:World) (base:Nat) (args:Array Value) (ds gs:List (DataW H)) (before:List MemPlace),
   (∀(j:Nat) t v,fn.params[j]?=some t->args[j]?=some v->Value.okWide C.prog W .any base t v)->
   DataW.Whole enc C.prog fn.params.toList s.vars apart W args.toList ds gs before->
   X W args->W.ShapedOpen C.prog->
   Calls C.prog f args W fun e W'=>∃v,e = .returned v/\s.post enc C.prog fn apart fresh handsOn again W args v W') :
  ReturnsInHanded a C os f .any (fun w args=>(s.pre enc C.prog fn conds apart w args/\X w args)/\sizedMet enc C.prog fn (OpenSpec.ofChange s) apart w args) (s.post enc C.prog fn apart fresh handsOn again):=by
 refine returnsInHanded_of_calls own started noInit witness ?_
 intro w tape i _ hsh _ hok hpre hholds
 obtain ⟨_,_,_,fn',hfn',_,_,_,_,hval⟩:=hok
 have e:fn'=fn:=Option.some.inj (hfn'.symm.trans hfn)
 subst e
 obtain ⟨⟨⟨ds,gs,before,hw,hc⟩,hx⟩,hz⟩:=hpre
 have hw':=DataW.Whole.of_heap (w':=w.forCall tape i) (by rfl) hw
 refine (contract (w.forCall tape i) w.heap.size i.args ds gs before hval hw' (hX _ _ _ (by rfl) hx) hsh).mono fun e W' ⟨v,he,hp⟩ => ?_
 subst he
 exact ChangeSpec.post_blind hp
theorem yq {P:Program} {w:World} {g:Nat} {t:TypeId} {zero:Array Value} (h:w.ShapedOpen P) (hg:g < P.globals.size)
  (h0:((begin P (fun _ _=>0) default).world.heap[g]?).bind Obj.row?=some (zero,t)) (hz:zero.size=1)
  (hb:P.buildable t=true) (hc:P.cellTypes P.depth t=some [t]) (hu:P.underlying t=some (.int .i64)):∃m,w.cell? ⟨g,0,none⟩=some (.int .i64 m):=by
 obtain ⟨cs,hh,hs,hr⟩:=h.1 g zero t hg h0
 obtain ⟨ts,hts,_,hall⟩:=hr hb
 rw [hc] at hts
 cases hts
 have h1:0 < cs.size:=by omega
 obtain ⟨u,hu',hok⟩:=hall 0 cs[0] (by simp [h1])
 have:u=t:=by simpa using hu'.symm
 subst this
 have hcell:w.cell? ⟨g,0,none⟩=some cs[0]:=by simp [World.cell?,hh,h1]
 rw [hcell]
 unfold Cell.ok at hok
 rw [hu] at hok
 cases hv:cs[0] <;> rw [hv] at hok <;> first | exact hok.elim | (obtain ⟨rfl,_⟩:=hok;exact ⟨_,rfl⟩) | simp at hok
def GD:Option TypeDesc->Bool
 | some (.interface _)=>true
 | _=>false
theorem nG {P:Program} {W:World} {name nm:String} {d:DataW Unit} {g:Nat} {t:TypeId}
  (hg:P.globalNamed name=some g) (hty:(P.globals[g]?).map (·.type)=some t) (hi:GD (P.underlying t)=true)
  (h:Lib.VarReads P W name (.iface nm d)):∃ev,W.cell? ⟨g,0,none⟩=some ev/\(ev = .nilIface\/∃te pe,ev = .iface te pe):=by
 obtain ⟨g',t',cs,fuel,p,hg',ht',hvar,hd⟩:=h
 obtain rfl:=Option.some.inj (hg.symm.trans hg')
 obtain rfl:=Option.some.inj (hty.symm.trans ht')
 have hc:=World.var?_cell hg hvar 0
 obtain ⟨ms,hu⟩:∃ms,P.underlying t=some (.interface ms):=by
  unfold GD at hi
  split at hi
  ·rename_i ms hm;exact ⟨ms,hm⟩
  ·cases hi
 cases fuel with
 | zero=>simp [DataW.trod] at hd
 | succ n=>
  cases hl:cs.toList with
  | nil=>rw [hl] at hd;simp [DataW.trod,hu] at hd
  | cons v r=>
   have h0:cs[0]?=some v:=by rw [<-Array.getElem?_toList,hl];rfl
   rw [h0] at hc
   refine ⟨v,hc,?_⟩
   rw [hl] at hd
   cases v <;> first | exact .inl rfl | exact .inr ⟨_,_,rfl⟩ | (simp [DataW.trod,hu] at hd)
theorem yr {P:Program} {W:World} {name:String} {k:IntKind} {zs:List Int} {g:Nat} {t e:TypeId} {n:Nat}
  (hg:P.globalNamed name=some g) (hty:(P.globals[g]?).map (·.type)=some t) (ht:P.underlying t=some (.array n e)) (he:P.underlying e=some (.int k)) (hce:P.cellsOf e=1) (hct:P.cellsOf t=n)
  (h:Lib.VarReads P W name (Lib.tabData k zs)):Lib.TabIs P W name k zs:=by
 obtain ⟨g',t',cs,fuel,p,hg',ht',hvar,hd⟩:=h
 obtain rfl:=Option.some.inj (hg.symm.trans hg')
 obtain rfl:=Option.some.inj (hty.symm.trans ht')
 unfold Lib.TabIs
 rw [hvar,<-Lib.cells_of_tab ht he hce hct hd]
end Go.Vg

namespace Go.Mrl
open Go.Vg
theorem bN.ok {x:bp} (h:bN x):dy (aJ x):=fB h.pre.1
end Go.Mrl

namespace Go.Mrl
open Go.Vg
def FU (l:List (D ba)) (a:Int):Prop:=∀i j,i < l.length->j < l.length->qi (nth ba l i) a->qi (nth ba l j) a->i=j
theorem yt (p:D ba) (l:List (D ba)) (a:Int):fv (p :: l) a=if qi p a then (nth (.int .i64) p.2.2.1 (a - p.2.1).toNat,true) else fv l a:=rfl
theorem yu:∀{l:List (D ba)} {a:Int} {k:Nat},FU l a->k < l.length->qi (nth ba l k) a->
  fv l a=(nth (.int .i64) (nth ba l k).2.2.1 (a - (nth ba l k).2.1).toNat,true)
 | [],_,_,_,h,_=>absurd h (Nat.not_lt_zero _)
 | p :: l,a,0,_,_,hp=>by rw [yt];exact if_pos hp
 | p :: l,a,k + 1,h1,hk,hp=>by
  have hn:¬ qi p a:=fun e=>by
   have:=h1 0 (k + 1) (by simp) hk e hp
   omega
  rw [yt,if_neg hn]
  refine yu (k:=k) (fun i j hi hj e1 e2 => ?_) (by simp at hk;omega) hp
  have:=h1 (i + 1) (j + 1) (by simp;omega) (by simp;omega) e1 e2
  omega
theorem FV {rd:Rd} (ok:dy rd) (root:aG) (a:Int):FU (cJ rd root).1 a:=by
 rcases lf ok root with ⟨f,hf,e,el⟩ | ⟨ns,os,bs,ps,e,hr,el⟩
 ·rw [el];intro i j hi;simp at hi
 ·rw [el]
  have key:∀i j,i < j->j < os.length->qi (nth ba (cw ns bs (cK (bm os) ps) os.length) i) a->qi (nth ba (cw ns bs (cK (bm os) ps) os.length) j) a->False:=by
   intro i j hij hj h1 h2
   rw [ld (by omega)] at h1
   rw [ld hj] at h2
   have ha:=hr.apart hij hj
   have hl:=hr.ym (i:=i) (by omega)
   have h1:=h1.2
   have h2:=h2.1
   simp only [hl] at h1
   exact absurd (Int.lt_of_lt_of_le h1 (Int.le_trans ha h2)) (Int.lt_irrefl _)
  intro i j hi hj h1 h2
  rw [la] at hi hj
  rcases Nat.lt_trichotomy i j with h | h | h
  ·exact (key i j h hj h1 h2).elim
  ·exact h
  ·exact (key j i h hi h2 h1).elim
end Go.Mrl

namespace Go.Mrl
open Go.Vg
end Go.Mrl

namespace Go.Mrl
open Go.Vg
structure aV (x:bp):Prop where
 st:bN x
 GF:∀y∈x.2.1.1,aK y.1=0/\y.2.1.1.length<=1200/\1<=y.2.1.2.1
theorem aV.new:aV kW:=⟨.new,fun y hy=>by simp [kW] at hy⟩
theorem yv {s:aG} {v:aG × Int × Unit} {c:Int}:∀{es:List FE} {y:FE},y∈cz b9 es s v c->(y.1=s/\y.2.1=v)\/y∈es
 | [],y,h=>by simp [cz] at h;subst h;exact .inl ⟨rfl,rfl⟩
 | z :: r,y,h=>by
  unfold cz at h
  split at h
  ·rcases List.mem_cons.1 h with rfl | h
   ·exact .inl ⟨rfl,rfl⟩
   ·exact .inr (by simp [h])
  ·rcases List.mem_cons.1 h with rfl | h
   ·exact .inr (by simp)
   ·rcases yv h with h | h
    ·exact .inl h
    ·exact .inr (by simp [h])
theorem yw {x:bp} {s t:aG} (h:(bX x s t).2=0):aK s=0/\t.length<=1200/\¬ x.1.1=1000000:=by
 unfold bX at h
 split at h
 ·rename_i h1;exact absurd h h1
 ·rename_i h1
  split at h
  ·simp at h
  ·rename_i h2
   split at h
   ·simp at h
   ·rename_i h3
    exact ⟨by simpa using h1,by omega,fun e=>h3 (.inr e)⟩
theorem bN.pos {x:bp} (h:bN x):0<=x.1.1:=h.pre.2.1
theorem aV.write {x:bp} (h:aV x) (s t:aG):aV (bX x s t).1:=by
 refine ⟨(h.st.write s t).1,?_⟩
 rcases o1 x s t with ⟨e,_⟩ | ⟨e,e2⟩
 ·rw [e];exact h.GF
 ·rw [e]
  intro y hy
  obtain ⟨k1,k2,_⟩:=yw e2
  rcases yv hy with ⟨h1,h2⟩ | hy
  ·rw [h1,h2];exact ⟨k1,k2,by have:=h.st.pos;show (1:Int)<=x.1.1 + 1;omega⟩
  ·exact h.GF y hy
theorem aV.remove {x:bp} (h:aV x) (s:aG):aV (db x s).1:=by
 refine ⟨(h.st.remove s).1,?_⟩
 cases c:cu b9 x.2.1.1 s with
 | false=>rw [kq c];exact h.GF
 | true=>rw [jr c];exact fun y hy=>h.GF y (jR.subset hy)
theorem aV.fl {x:bp} (h:aV x) (a:D bP):aV (fl x a):=by
 unfold Mrl.fl
 split
 ·exact h.write _ _
 ·split
  ·exact h.remove _
  ·exact h
theorem aV.done:∀(l:List (D bP)) {x:bp},aV x->aV (aO x l)
 | [],_,h=>h
 | a :: l,_,h=>aV.done l (h.fl a)
theorem aV.ok {x:bp} (h:aV x):dy (aJ x):=h.st.ok
end Go.Mrl

namespace Go.Mrl
open Go.Vg
end Go.Mrl

namespace Go.Mrl
open Go.Vg
end Go.Mrl

namespace Go.Mrl
open Go.Vg
theorem vO {b:List Int} {i n:Int} {t:D aH} (h:(dP b i t n).2.isNil=true):(-2147483648:Int)<=(dP b i t n).1/\(dP b i t n).1<=(2147483647:Int):=by
 unfold dP at h ⊢
 split
 ·rename_i hk
  rw [if_pos hk] at h
  split
  ·exact ⟨by decide,by decide⟩
  ·rename_i h1
   exact ⟨by show (-2147483648:Int)<=n - (dG b i.toNat + t.1);omega,by show n - (dG b i.toNat + t.1)<=(2147483647:Int);omega⟩
 ·split
  ·exact ⟨by decide,by decide⟩
  ·rename_i h1
   exact ⟨by show (-2147483648:Int)<=n;omega,by show n<=(2147483647:Int);omega⟩
theorem FW {l:List (D aA)} {b:List Int} {i:Int} {t:D aH} (h:(cA l b i t).2.isNil=true):(-2147483648:Int)<=(cA l b i t).1/\(cA l b i t).1<=(2147483647:Int):=by
 unfold cA at h ⊢
 split
 ·rename_i hk;rw [if_pos hk] at h;exact vO h
 ·rename_i hk
  rw [if_neg hk] at h
  split
  ·rename_i h1;rw [if_pos h1] at h;exact vO h
  ·exact ⟨show (-2147483648:Int)<=0 by decide,show (0:Int)<=2147483647 by decide⟩
end Go.Mrl

namespace Go.Mrl
open Go.Vg
end Go.Mrl

namespace Go.Mrl
open Go.Vg
end Go.Mrl

namespace Go.Mrl
open Go.Vg
theorem yx {b:List Int} {i n:Int} {t:D aH} (h:(dP b i t n).2.isNil=true):(dP b i t n).1=n - (if t.2.1=(3:Int) then dG b i.toNat + t.1 else 0):=by
 unfold dP at h ⊢
 by_cases hk:t.2.1=(3:Int)
 ·rw [if_pos hk] at h ⊢
  rw [if_pos hk]
  split
  ·rename_i h1;rw [if_pos h1] at h;cases h
  ·rfl
 ·rw [if_neg hk] at h ⊢
  rw [if_neg hk]
  split
  ·rename_i h1;rw [if_pos h1] at h;cases h
  ·show n=n - 0;omega
theorem Hf {l:List (D aA)} {b:List Int} {i:Int} {t:D aH} (h:(cA l b i t).2.isNil=true) :
  (cA l b i t).1=(if t.2.1=(1:Int) then dG b i.toNat + t.2.2.1 else (bQ l b t).1 + t.2.2.1) - (if t.2.1=(3:Int) then dG b i.toNat + t.1 else 0):=by
 by_cases hk:t.2.1=(1:Int)
 ·have e:=r6 (l:=l) (b:=b) (i:=i) hk
  rw [e] at h ⊢
  rw [if_pos hk];exact yx h
 ·rw [if_neg hk]
  cases ht:(bQ l b t).2.isNil with
  | true=>
   have e:=ln (i:=i) hk ht
   rw [e] at h ⊢
   exact yx h
  | false=>
   have e:=uA (i:=i) hk ht
   rw [e] at h
   rw [ht] at h;cases h
end Go.Mrl

namespace Go.Mrl
open Go.Vg
theorem vP {v:Int} {i k:Nat}:∀{l:List Pt},(∀p∈l,¬ (p.1=(i:Int)/\p.2.1=(k:Int)))->oA v i k l=v
 | [],_=>rfl
 | p :: l,h=>by
  unfold oA
  rw [if_neg (h p (by simp))]
  exact vP fun q hq=>h q (by simp [hq])
theorem sq {w:Int} {i k:Nat}:∀{l:List Pt} {v:Int},(∀p∈l,p.1=(i:Int)->p.2.1=(k:Int)->p.2.2.1=w)->(v=w\/∃p∈l,p.1=(i:Int)/\p.2.1=(k:Int))->oA v i k l=w
 | [],v,_,h=>by
  rcases h with h | ⟨p,hp,_⟩
  ·exact h
  ·simp at hp
 | p :: l,v,hu,h=>by
  unfold oA
  have hu':∀q∈l,q.1=(i:Int)->q.2.1=(k:Int)->q.2.2.1=w:=fun q hq=>hu q (by simp [hq])
  by_cases hp:p.1=(i:Int)/\p.2.1=(k:Int)
  ·rw [if_pos hp]
   exact sq hu' (.inl (hu p (by simp) hp.1 hp.2))
  ·rw [if_neg hp]
   refine sq hu' ?_
   rcases h with h | ⟨q,hq,hq'⟩
   ·exact .inl h
   ·rcases List.mem_cons.1 hq with rfl | hq
    ·exact absurd hq' hp
    ·exact .inr ⟨q,hq,hq'⟩
theorem e9.mem {rd:Rd} {root:aG} {ns:List aG} {os:List (D aA)} {bs:List Int} {ps:List Pt} (h:e9 rd root ns os bs ps) {p:Pt} (hp:p∈ps) :
  ∃k t,k < os.length/\t∈(nth aA os k).2.2.2.1/\p=((k:Int),t.1,(cA os bs (k:Int) t).1,()):=by
 rw [h.pt] at hp
 obtain ⟨k,t,hk,ht,e⟩:=si hp
 rw [Nat.zero_add] at e
 exact ⟨k,t,hk,ht,e⟩
theorem yy {l:List (D aA)} {b:List Int}:∀{os:List (D aA)} {s i:Nat} {t:D aH},i < os.length->t∈(nth aA os i).2.2.2.1->(((s + i:Nat):Int),t.1,(cA l b ((s + i:Nat):Int) t).1,())∈oM l b os s
 | [],s,i,t,hi,_=>absurd hi (Nat.not_lt_zero _)
 | o :: r,s,0,t,_,ht=>List.mem_append.2 (.inl (List.mem_map.2 ⟨t,ht,rfl⟩))
 | o :: r,s,i + 1,t,hi,ht=>by
  have:=yy (l:=l) (b:=b) (os:=r) (s:=s + 1) (i:=i) (t:=t) (by simp at hi;omega) ht
  rw [show s + 1 + i=s + (i + 1) by omega] at this
  exact List.mem_append.2 (.inr this)
theorem FX {l:List (D aH)} (h:l.Pairwise (fun a b=>a.1 < b.1)) {a b:D aH} (ha:a∈l) (hb:b∈l) (e:a.1=b.1):a=b:=by
 induction l with
 | nil=>simp at ha
 | cons x l ih=>
  obtain ⟨h1,h2⟩:=List.pairwise_cons.1 h
  rcases List.mem_cons.1 ha with ha' | ha'
  ·rcases List.mem_cons.1 hb with hb' | hb'
   ·rw [ha',hb']
   ·have h3:=h1 _ hb'
    rw [<-ha',e] at h3;exact absurd h3 (Int.lt_irrefl _)
  ·rcases List.mem_cons.1 hb with hb' | hb'
   ·have h3:=h1 _ ha'
    rw [<-hb',e] at h3;exact absurd h3 (Int.lt_irrefl _)
   ·exact ih h2 ha' hb'
theorem vQ {rd:Rd} (ok:dy rd) {root:aG} {ns:List aG} {os:List (D aA)} {bs:List Int} {ps:List Pt} (h:e9 rd root ns os bs ps) {i:Nat} (hi:i < os.length) {t:D aH} (ht:t∈(nth aA os i).2.2.2.1) :
  nth (.int .i64) (nth cq (cK (bm os) ps) i) (Int.toNat t.1)=(cA os bs (i:Int) t).1:=by
 have hf:=h.sc.fault ok hi
 obtain ⟨t0,t1⟩:=gS hf ht
 have hc:((Int.toNat t.1:Nat):Int)=t.1:=Int.toNat_of_nonneg t0
 rw [h.row hi,r5 i (Int.toNat t.1) ps _ ((Int.toNat_lt t0).2 t1) (fun p hp => ?_)]
 ·refine sq (fun p hp e1 e2 => ?_) (.inr ?_)
  ·obtain ⟨k,t',hk,ht',e⟩:=h.mem hp
   rw [e] at e1 e2 ⊢
   have hk':k=i:=Int.ofNat_inj.1 e1
   subst hk'
   have:t'=t:=FX (D8 hf) ht' ht (e2.trans hc)
   rw [this]
  ·have hm:=yy (l:=os) (b:=bs) (os:=os) (s:=0) hi ht
   rw [Nat.zero_add,<-h.pt] at hm
   exact ⟨_,hm,rfl,hc.symm⟩
 ·obtain ⟨k,t',hk,ht',e⟩:=h.mem hp
  rw [e];exact (gS (h.sc.fault ok hk) ht').1
theorem Ec {rd:Rd} (ok:dy rd) {root:aG} {ns:List aG} {os:List (D aA)} {bs:List Int} {ps:List Pt} (h:e9 rd root ns os bs ps) {i k:Nat} (hi:i < os.length) (hk:k < (nth aA os i).2.1.length)
  (hn:∀t∈(nth aA os i).2.2.2.1,¬ Int.toNat t.1=k):nth (.int .i64) (nth cq (cK (bm os) ps) i) k=nth (.int .i64) (nth aA os i).2.1 k:=by
 rw [h.row hi,r5 i k ps _ hk (fun p hp => ?_)]
 ·refine vP fun p hp => ?_
  rintro ⟨e1,e2⟩
  obtain ⟨k',t',hk',ht',e⟩:=h.mem hp
  rw [e] at e1 e2
  have hk2:k'=i:=Int.ofNat_inj.1 e1
  subst hk2
  exact hn t' ht' (by rw [show t'.1=(k:Int) from e2];exact Int.toNat_natCast k)
 ·obtain ⟨k',t',hk',ht',e⟩:=h.mem hp
  rw [e];exact (gS (h.sc.fault ok hk') ht').1
def jy (ts:List (D aH)):List Bool:=ts.foldl (fun u t=>u.set (Int.toNat t.1) true) (List.replicate 40 false)
theorem CA {ts:List (D aH)} {k:Nat} (h:k < ts.length):jy (ts.take (k + 1))=(jy (ts.take k)).set (Int.toNat (nth aH ts k).1) true:=by
 rw [iX (t:=aH) h];simp [jy]
theorem sr:∀(ts:List (D aH)) (u:List Bool),(ts.foldl (fun u t=>u.set (Int.toNat t.1) true) u).length=u.length/\
  ∀k,nth .bool (ts.foldl (fun u t=>u.set (Int.toNat t.1) true) u) k=false->nth .bool u k=false/\(k < u.length->∀t∈ts,¬ Int.toNat t.1=k)
 | [],u=>⟨rfl,fun k h=>⟨h,fun _ t ht=>by simp at ht⟩⟩
 | t :: ts,u=>by
  obtain ⟨h1,h2⟩:=sr ts (u.set (Int.toNat t.1) true)
  refine ⟨by rw [List.foldl_cons,h1,List.length_set],fun k h => ?_⟩
  rw [List.foldl_cons] at h
  obtain ⟨h3,h4⟩:=h2 k h
  by_cases e:Int.toNat t.1=k
  ·by_cases hk:k < u.length
   ·subst e
    unfold nth at h3
    rw [List.getD_eq_getElem?_getD,List.getElem?_set_self hk] at h3
    cases h3
   ·refine ⟨?_,fun hk'=>absurd hk' hk⟩
    unfold nth
    rw [List.getD_eq_getElem?_getD,List.getElem?_eq_none (by omega)];rfl
  ·refine ⟨?_,fun hk t' ht' => ?_⟩
   ·unfold nth at h3 ⊢
    rw [List.getD_eq_getElem?_getD,List.getElem?_set_ne e] at h3
    rw [List.getD_eq_getElem?_getD];exact h3
   ·rcases List.mem_cons.1 ht' with rfl | ht'
    ·exact e
    ·exact h4 (by rw [List.length_set];exact hk) t' ht'
theorem mB (ts:List (D aH)):(jy ts).length=40:=by unfold jy;rw [(sr ts _).1];simp
theorem Hg {ts:List (D aH)} {k:Nat} (hk:k < 40) (h:nth .bool (jy ts) k=false):∀t∈ts,¬ Int.toNat t.1=k:=
 ((sr ts _).2 k h).2 (by simpa using hk)
theorem yz {rd:Rd} (ok:dy rd) {root:aG} {ns:List aG} {os:List (D aA)} {bs:List Int} {ps:List Pt} (h:e9 rd root ns os bs ps) {i:Nat} (hi:i < os.length) {t:D aH} (ht:t∈(nth aA os i).2.2.2.1) :
  (nth (.int .i64) (nth cq (cK (bm os) ps) i) (Int.toNat t.1):Int)=(if t.2.1=(1:Int) then dG bs i + t.2.2.1 else (bQ os bs t).1 + t.2.2.1) - (if t.2.1=(3:Int) then dG bs i + t.1 else 0)/\
  (¬ t.2.1=(1:Int)->(bQ os bs t).2.isNil=true):=by
 have hone:=h.one i hi t ht
 have e:=Hf hone
 rw [Int.toNat_natCast] at e
 refine ⟨(vQ ok h hi ht).trans e,fun hk => ?_⟩
 cases hb:(bQ os bs t).2.isNil with
 | true=>rfl
 | false=>
  rw [uA hk hb] at hone
  rw [hb] at hone;cases hone
end Go.Mrl

namespace Go.Mrl
open Go.Vg
def jz (p:D ba) (t:D aH):Int:=(nth (.int .i64) p.2.2.1 (Int.toNat t.1) - t.2.2.1) + (if t.2.1=(3:Int) then p.2.1 + t.1 else 0)
structure Iy (L:List (D ba)) (O:List (D aA)):Prop where
 len:L.length=O.length
 Iw:O.length<=6
 base:∀i,i < O.length->(0:Int)<=(nth ba L i).2.1/\(256:Int)>=(nth ba L i).2.1
 fc:∀i,i < O.length->(nth ba L i).2.2.1.length=(nth aA O i).2.1.length/\(nth aA O i).2.1.length<=40
 tie:∀i,i < O.length->∀k,k < (nth aA O i).2.2.2.1.length->(0:Int)<=(nth aH (nth aA O i).2.2.2.1 k).1/\((nth aA O i).2.1.length:Int) > (nth aH (nth aA O i).2.2.2.1 k).1/\
  Word (nth aH (nth aA O i).2.2.2.1 k).2.2.1/\Word (nth (.int .i64) (nth ba L i).2.2.1 (Int.toNat (nth aH (nth aA O i).2.2.2.1 k).1))
 IF:∀i,i < O.length->∀k,k < (nth aA O i).2.2.2.1.length->(nth aH (nth aA O i).2.2.2.1 k).2.1=(1:Int)->jz (nth ba L i) (nth aH (nth aA O i).2.2.2.1 k)=(nth ba L i).2.1
 H5:∀i,i < O.length->∀k,k < (nth aA O i).2.2.2.1.length->¬ (nth aH (nth aA O i).2.2.2.1 k).2.1=(1:Int)->(bo (O,(nth aH (nth aA O i).2.2.2.1 k).2.2.2.1)).1 < 0->
  jz (nth ba L i) (nth aH (nth aA O i).2.2.2.1 k)=0/\(nth aH (nth aA O i).2.2.2.1 k).2.2.2.2.1=true
 IG:∀i,i < O.length->∀k,k < (nth aA O i).2.2.2.1.length->¬ (nth aH (nth aA O i).2.2.2.1 k).2.1=(1:Int)->0<=(bo (O,(nth aH (nth aA O i).2.2.2.1 k).2.2.2.1)).1->
  jz (nth ba L i) (nth aH (nth aA O i).2.2.2.1 k)=(nth ba L (bo (O,(nth aH (nth aA O i).2.2.2.1 k).2.2.2.1)).1.toNat).2.1 +
   (nth aI (nth aA O (bo (O,(nth aH (nth aA O i).2.2.2.1 k).2.2.2.1)).1.toNat).2.2.1 (bo (O,(nth aH (nth aA O i).2.2.2.1 k).2.2.2.1)).2.toNat).2.1
 sym:∀a,a < O.length->∀k,k < (nth aA O a).2.2.1.length->(0:Int)<=(nth aI (nth aA O a).2.2.1 k).2.1/\((nth aA O a).2.1.length:Int) > (nth aI (nth aA O a).2.2.1 k).2.1
 free:∀i,i < O.length->∀k,k < (nth aA O i).2.1.length->nth .bool (jy (nth aA O i).2.2.2.1) k=false->nth (.int .i64) (nth ba L i).2.2.1 k=nth (.int .i64) (nth aA O i).2.1 k
 one:∀a,FU L a
theorem di {rd:Rd} (ok:dy rd) {root:aG} (h:(bd (cJ rd root).2).isNil=true):(aF rd root).2.2=0/\Iy (cJ rd root).1 (aF rd root).2.1:=by
 obtain ⟨ns,os,bs,ps,e1,hr,e2⟩:=FT ok (Int.le_of_eq (bf.1 h))
 have hone:=FV ok root
 rw [e2] at hone ⊢
 rw [hr.e]
 refine ⟨rfl,?_⟩
 show Iy (cw ns bs (cK (bm os) ps) os.length) os
 have hp:∀i,i < os.length->nth ba (cw ns bs (cK (bm os) ps) os.length) i=(nth .str ns i,nth (.int .i64) bs i,nth cq (cK (bm os) ps) i,()):=fun i hi=>ld hi
 have hmem:∀i,∀k,k < (nth aA os i).2.2.2.1.length->nth aH (nth aA os i).2.2.2.1 k∈(nth aA os i).2.2.2.1:=fun i k hk=>dY (t:=aH) hk
 have hval:∀i,(hi:i < os.length)->∀k,(hk:k < (nth aA os i).2.2.2.1.length)->jz (nth ba (cw ns bs (cK (bm os) ps) os.length) i) (nth aH (nth aA os i).2.2.2.1 k) =
   (if (nth aH (nth aA os i).2.2.2.1 k).2.1=(1:Int) then dG bs i else (bQ os bs (nth aH (nth aA os i).2.2.2.1 k)).1):=by
  intro i hi k hk
  have hb:=(yz ok hr hi (hmem i k hk)).1
  rw [hp i hi]
  unfold jz
  show (nth (.int .i64) (nth cq (cK (bm os) ps) i) (Int.toNat (nth aH (nth aA os i).2.2.2.1 k).1) - (nth aH (nth aA os i).2.2.2.1 k).2.2.1) + (if (nth aH (nth aA os i).2.2.2.1 k).2.1=(3:Int) then dG bs i + (nth aH (nth aA os i).2.2.2.1 k).1 else 0)=_
  rw [hb]
  by_cases hk1:(nth aH (nth aA os i).2.2.2.1 k).2.1=(1:Int)
  ·have hk3:¬ (nth aH (nth aA os i).2.2.2.1 k).2.1=(3:Int):=fun e=>by rw [hk1] at e;exact absurd e (by decide)
   rw [if_pos hk1,if_neg hk3,if_pos hk1]
   have:∀a c:Int,a + c - 0 - c + 0=a:=by intros;omega
   exact this _ _
  ·rw [if_neg hk1,if_neg hk1]
   by_cases hk3:(nth aH (nth aA os i).2.2.2.1 k).2.1=(3:Int)
   ·rw [if_pos hk3]
    have:∀a c x:Int,a + c - x - c + x=a:=by intros;omega
    exact this _ _ _
   ·rw [if_neg hk3]
    have:∀a c:Int,a + c - 0 - c + 0=a:=by intros;omega
    exact this _ _
 refine ⟨la _ _ _ _,by have:=hr.sc.le;have:=hr.sc.len;omega,fun i hi => ?_,fun i hi => ?_,fun i hi k hk => ?_,fun i hi k hk h1 => ?_,fun i hi k hk h1 hf => ?_,fun i hi k hk h1 hf => ?_,fun a ha k hk => ?_,fun i hi k hk hn => ?_,hone⟩
 ·rw [hp i hi];exact hr.bi i (by rw [hr.bl];exact hi)
 ·rw [hp i hi];exact ⟨hr.ym hi,(hr.sc.obj ok hi).DV⟩
 ·rw [hp i hi]
  have ht:=hmem i k hk
  have hw:=FW (hr.one i hi _ ht)
  have hm:=((hr.sc.obj ok hi).Cu).2.2 k hk
  exact ⟨(gS (hr.sc.fault ok hi) ht).1,(gS (hr.sc.fault ok hi) ht).2,hm.2,by
   show Word (nth (.int .i64) (nth cq (cK (bm os) ps) i) (Int.toNat (nth aH (nth aA os i).2.2.2.1 k).1))
   rw [vQ ok hr hi ht];exact hw⟩
 ·rw [hval i hi k hk,if_pos h1,hp i hi];rfl
 ·rw [hval i hi k hk,if_neg h1]
  have hn:=(yz ok hr hi (hmem i k hk)).2 h1
  cases hw:(nth aH (nth aA os i).2.2.2.1 k).2.2.2.2.1 with
  | true=>exact ⟨by rw [mR hf hw],rfl⟩
  | false=>rw [lO hf hw] at hn;cases hn
 ·rw [hval i hi k hk,if_neg h1,oB hf]
  have hfi:=fY (l:=os) (s:=(nth aH (nth aA os i).2.2.2.1 k).2.2.2.1) hf
  rw [hp _ (by omega)]
 ·exact Cv (hr.sc.fault ok ha) (dY (t:=aI) hk)
 ·rw [hp i hi]
  exact Ec ok hr hi hk (Hg (by have:=(hr.sc.obj ok hi).DV;omega) hn)
end Go.Mrl

