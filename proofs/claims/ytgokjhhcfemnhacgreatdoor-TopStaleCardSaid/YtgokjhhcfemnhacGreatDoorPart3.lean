/- A part of the proof that the law TopStaleCard holds of the given program: facts that are used there. -/
import Derived.Test.YtgokjhhcfemnhacGreatDoorPart2
import Derived.Lib.SplitLaws
import Derived.Lib.ItoaNum
import Derived.Lib.AtoiAll
import Derived.Handed
import Derived.Clock
import Derived.Lib.LaidTab
import Derived.Lib.LaidU8
import Derived.Lay
set_option linter.unusedSimpArgs false
set_option linter.unusedVariables false
namespace Go.Mrl
open Go.Vg
def _root_.Go.Vg.IY:List UInt8->UInt8
 | c :: _=>c
 | []=>0
def tc (c:UInt8):List aF->aF
 | []=>[]
 | [x]=>x
 | x :: y :: r=>x++c :: tc c (y :: r)
def parts (c:UInt8):aF->List aF
 | []=>[[]]
 | b :: r=>if b=c then [] :: parts c r else match parts c r with
  | h :: t=>(b :: h) :: t
  | []=>[[b]]
theorem uE (c:UInt8):∀s:aF,parts c s≠[]
 | []=>by simp [parts]
 | b :: r=>by
  unfold parts
  split
  ·simp
  ·split <;> simp
theorem jJ {c b:UInt8} {r:aF} (h:b≠c):∃x t,parts c r=x :: t/\parts c (b :: r)=(b :: x) :: t:=by
 cases hp:parts c r with
 | nil=>exact absurd hp (uE c r)
 | cons x t=>
  refine ⟨x,t,rfl,?_⟩
  conv=>lhs;unfold parts
  rw [if_neg h,hp]
theorem lD {c:UInt8} {r:aF}:parts c (c :: r) = [] :: parts c r:=by
 conv=>lhs;unfold parts
 rw [if_pos rfl]
theorem jq {c:UInt8}:∀{x:aF},c∉x->parts c x = [x]
 | [],_=>rfl
 | b :: r,h=>by
  obtain ⟨x,t,h1,h2⟩:=jJ (c:=c) (b:=b) (r:=r) (fun e=>h (by simp [e]))
  rw [jq (x:=r) (fun e=>h (by simp [e]))] at h1
  cases h1
  exact h2
theorem eQ {c:UInt8}:∀{x:aF} {s:aF},c∉x->parts c (x++c :: s)=x :: parts c s
 | [],s,_=>lD
 | b :: r,s,h=>by
  obtain ⟨x,t,h1,h2⟩:=jJ (c:=c) (b:=b) (r:=r++c :: s) (fun e=>h (by simp [e]))
  rw [eQ (x:=r) (fun e=>h (by simp [e]))] at h1
  cases h1
  exact h2
theorem tK {c:UInt8}:∀{L:List aF},L≠[]->(∀y∈L,c∉y)->parts c (tc c L)=L
 | [],h,_=>absurd rfl h
 | [x],_,h=>jq (h x (by simp))
 | x :: y :: r,_,h=>by
  show parts c (x++c :: tc c (y :: r))=_
  rw [eQ (h x (by simp)),tK (by simp) fun z hz=>h z (List.mem_cons_of_mem _ hz)]
theorem sq (c:UInt8):∀(s:aF),(parts c s).length<=s.length + 1
 | []=>by simp [parts]
 | b :: r=>by
  by_cases h:b=c
  ·subst h;rw [lD];have:=sq b r;simp;omega
  ·obtain ⟨x,t,h1,h2⟩:=jJ (c:=c) (b:=b) (r:=r) h
   have:=sq c r
   rw [h1] at this
   rw [h2];simp at this ⊢;omega
theorem mS (c:UInt8):∀(s:aF),∀y∈parts c s,y.length<=s.length
 | [],y,h=>by simp [parts] at h;simp [h]
 | b :: r,y,h=>by
  by_cases hb:b=c
  ·subst hb;rw [lD] at h
   rcases List.mem_cons.1 h with rfl | h
   ·simp
   ·have:=mS b r y h;simp;omega
  ·obtain ⟨x,t,h1,h2⟩:=jJ (c:=c) (b:=b) (r:=r) hb
   rw [h2] at h
   rcases List.mem_cons.1 h with rfl | h
   ·have:=mS c r x (by rw [h1];simp);simp;omega
   ·have:=mS c r y (by rw [h1];simp [h]);simp;omega
theorem AN {b c:UInt8} {l:aF} (h:b≠c):Lib.index (b :: l) [c]=if Lib.index l [c] == -1 then -1 else Lib.index l [c] + 1:=by
 rw [Lib.index];simp [List.isPrefixOf,Ne.symm h]
theorem AO {c:UInt8} {l:aF}:Lib.index (c :: l) [c]=0:=by
 rw [Lib.index];simp [List.isPrefixOf]
theorem oF (c:UInt8):∀s:aF,Lib.splitK [c] 0 (s.count c) s=parts c s
 | []=>rfl
 | b :: l=>by
  by_cases h:b=c
  ·subst h
   rw [lD,List.count_cons_self,Lib.splitK,AO,if_neg (by decide),<-oF b l]
   simp
  ·obtain ⟨x,t,h1,h2⟩:=jJ (c:=c) (b:=b) (r:=l) h
   rw [h2,List.count_cons_of_ne h]
   rw [<-oF c l] at h1
   cases hk:l.count c with
   | zero=>
    rw [hk] at h1
    simp only [Lib.splitK] at h1 ⊢
    cases h1
    rfl
   | succ k=>
    rw [hk] at h1
    have hi:Lib.index l [c]≠-1:=by
     intro e
     have:=Lib.count_miss (s:=l) (sub:=[c]) e
     rw [Lib.count_one] at this
     omega
    have hge:=Lib.index_ge l [c]
    rw [Lib.splitK,if_neg (by simpa using hi)] at h1
    obtain ⟨i,e⟩:∃i:Nat,Lib.index l [c]=i:=⟨(Lib.index l [c]).toNat,by omega⟩
    have e2:Lib.index (b :: l) [c]=((i + 1:Nat):Int):=by rw [AN h,if_neg (by simpa using hi),e];rfl
    rw [Lib.splitK,e2,if_neg (by simp;omega)]
    rw [e] at h1
    simp only [Int.toNat_natCast,Nat.add_zero,List.length_singleton,List.take_succ_cons,List.drop_succ_cons,List.cons.injEq] at h1 ⊢
    exact ⟨⟨trivial,h1.1⟩,h1.2⟩
def nI (c:UInt8) (L:List aF):aF:=L.flatMap (· ++ [c])
theorem xP (c:UInt8) (x:aF) (L:List aF):nI c (x :: L)=x++c :: nI c L:=by simp [nI]
theorem xQ {c:UInt8}:∀{L:List aF},L≠[]->nI c L=tc c L++[c]
 | [],h=>absurd rfl h
 | [x],_=>by simp [nI,tc]
 | x :: y :: r,_=>by
  rw [xP,xQ (L:=y :: r) (by simp)];simp [tc]
theorem wY (x:aF) (c:UInt8):Lib.trimSuffix (x++[c]) [c]=x:=by
 have h:Lib.hasSuffix (x++[c]) [c]=true:=by unfold Lib.hasSuffix;simp [List.isSuffixOf_iff_suffix]
 unfold Lib.trimSuffix
 rw [if_pos h];simp
theorem Ep {c:UInt8} {L:List aF} (h:L≠[]) (hf:∀y∈L,c∉y):parts c (Lib.trimSuffix (nI c L) [c])=L:=by
 rw [xQ h,wY,tK h hf]
end Go.Mrl

namespace Go.Mrl
open Go.Vg
theorem sr {k:Nat} (h:k < 10):(UInt8.ofNat (48 + k)).toNat=48 + k:=by
 rw [UInt8.toNat_ofNat'];omega
theorem mn:∀(u:Nat),∀c∈Lib.decDigits u,48<=c.toNat/\c.toNat<=57:=by
 intro u
 induction u using Nat.strongRecOn with
 | _ u ih=>
  intro c hc
  by_cases h:u < 10
  ·rw [Lib.decDigits,dif_pos h] at hc
   simp only [List.mem_singleton] at hc
   rw [hc,sr h];omega
  ·rw [Lib.decDigits,dif_neg h] at hc
   rcases List.mem_append.1 hc with hc | hc
   ·exact ih _ (by omega) c hc
   ·simp only [List.mem_singleton] at hc
    rw [hc,sr (Nat.mod_lt _ (by decide))];omega
theorem ss (u:Nat):Lib.decDigits u≠[]:=by
 rw [Lib.decDigits];split <;> simp
theorem nJ:∀(k u:Nat),u < 10 ^ (k + 1)->(Lib.decDigits u).length<=k + 1
 | 0,u,h=>by rw [Lib.decDigits,dif_pos (by simpa using h)];simp
 | k + 1,u,h=>by
  rw [Lib.decDigits]
  split
  ·simp
  ·have:=nJ k (u / 10) (by rw [Nat.pow_succ] at h;omega)
   simp;exact this
theorem xR:∀(l:aF) (c:UInt8) (a v:Nat),Lib.parseUint10 a l = .ok v->Lib.parseUint10 a (l++[c])=Lib.parseUint10 v [c]
 | [],c,a,v,h=>by simp [Lib.parseUint10] at h;rw [h];rfl
 | b :: l,c,a,v,h=>by
  rw [List.cons_append,Lib.parseUint10]
  rw [Lib.parseUint10] at h
  split at h
  ·rename_i hb
   rw [if_pos hb]
   split at h
   ·cases h
   ·rename_i h1
    rw [if_neg h1]
    split at h
    ·cases h
    ·rename_i h2
     rw [if_neg h2]
     exact xR l c _ v h
  ·cases h
theorem AP {v d:Nat} (hd:d < 10) (h:10 * v + d < 18446744073709551616):Lib.parseUint10 v [UInt8.ofNat (48 + d)] = .ok (10 * v + d):=by
 unfold Lib.parseUint10
 rw [sr hd,if_pos (by omega),if_neg (by omega),if_neg (by omega)]
 unfold Lib.parseUint10
 congr 1;omega
theorem HY:∀u:Nat,u < 18446744073709551616->Lib.parseUint10 0 (Lib.decDigits u) = .ok u:=by
 intro u
 induction u using Nat.strongRecOn with
 | _ u ih=>
  intro hu
  by_cases h:u < 10
  ·rw [Lib.decDigits,dif_pos h]
   have:=AP (v:=0) (d:=u) h (by omega)
   simpa using this
  ·rw [Lib.decDigits,dif_neg h,xR _ _ _ _ (ih _ (by omega) (by omega)),AP (Nat.mod_lt _ (by decide)) (by omega)]
   congr 1;omega
theorem Dc {u:Nat} (hu:u < 18446744073709551616):Lib.parseMag (Lib.decDigits u) = .ok u:=by
 unfold Lib.parseMag
 rw [if_neg (ss u),HY u hu]
theorem Gb {n:Int} (h0 : -9223372036854775808<=n) (h1:n<=9223372036854775807):Lib.atoiAll (Lib.itoa n) = .ok n:=by
 by_cases hn:n < 0
 ·have hm:=Dc (u:=n.natAbs) (by omega)
  simp only [Lib.itoa,if_pos hn,Lib.atoiAll]
  rw [if_pos (Or.inr (by decide)),hm]
  simp only
  rw [if_neg (by simp),if_neg (by simp;omega)]
  simp;omega
 ·have hm:=Dc (u:=n.toNat) (by omega)
  simp only [Lib.itoa,if_neg hn,Lib.atoiAll]
  cases hd:Lib.decDigits n.toNat with
  | nil=>exact absurd hd (ss _)
  | cons c r=>
   have hc:=mn n.toNat c (by rw [hd];simp)
   rw [hd] at hm
   simp only
   rw [if_neg (by omega),hm]
   simp only
   rw [if_neg (by omega),if_neg (by omega),if_neg (by omega)]
   congr 1;omega
def dK (s:List UInt8):Int × aV:=match Lib.atoiAll s with
 | .ok n=>(n, .nil)
 | Lib.NumEnd.syntax=>(0, .other)
 | .range=>(Lib.atoiSat s, .other)
def eE (s:aF):Option Int:=match Lib.atoiAll s with
 | .ok n=>if Lib.itoa n=s then some n else none
 | _=>none
theorem Gc {n:Int} (h0 : -9223372036854775808<=n) (h1:n<=9223372036854775807):eE (Lib.itoa n)=some n:=by
 unfold eE;rw [Gb h0 h1];simp
theorem xS {s:aF}:(eE s).isNone=(!(dK s).2.isNil || !decide (Lib.itoa (dK s).1=s)):=by
 unfold eE dK
 cases Lib.atoiAll s with
 | ok v=>simp only [aV.isNil];by_cases h:Lib.itoa v=s <;> simp [h]
 | range=>rfl
 | _=>rfl
theorem xT {n:Int} {c:UInt8} (h:c.toNat<=44):c∉Lib.itoa n:=by
 intro hc
 have h45:(45:UInt8).toNat=45:=rfl
 unfold Lib.itoa at hc
 split at hc
 ·rcases List.mem_cons.1 hc with rfl | hc
  ·omega
  ·have:=mn _ c hc;omega
 ·have:=mn _ c hc;omega
theorem uF {n:Int} (h:0<=n) (h':n < 10):Lib.itoa n = [UInt8.ofNat (48 + n).toNat]:=by
 unfold Lib.itoa;rw [if_neg (by omega),Lib.decDigits,dif_pos (by omega)];congr 2;omega
end Go.Mrl

namespace Go.Mrl
open Go.Vg
theorem nE {f:Int} (h0:0<=f) (h:(aP f).isNil=false):f > 0:=by
 have:¬ f=0:=fun e=>by rw [aZ.2 e] at h;cases h
 omega
theorem mT {f:Int} (h:(aP f).isNil=true):f<=0:=by
 have:=aZ.1 h;omega
theorem xU {t:Ty} {l:List (D t)} {i j:Nat} (h:j < i):nth t (List.drop 0 (List.take i l)) j=nth t l j:=by
 rw [List.drop_zero,Av h]
theorem xV {α:Type} {l:List α} {i:Nat} (h:i<=l.length):(List.drop 0 (List.take i l)).length=i:=by
 rw [List.drop_zero,List.length_take];omega
def fD (b:Bool):List UInt8:=if b=true then [119,101,97,107,32] else []
def qT (s:aF):aF:=[110,101,101,100,32]++s++[10]
def pa (n:Int):aF:=[119,111,114,100,32]++Lib.itoa n++[10]
def uG (y:D aI):aF:=fD y.2.2.1++[115,121,109,98,111,108,32]++y.1++[32]++Lib.itoa y.2.1++[10]
def pG (t:D aR):aF:=
 if t.2.1=1 then [98,97,115,101,32]++Lib.itoa t.1++[32]++Lib.itoa t.2.2.1++[10]
 else if t.2.1=2 then fD t.2.2.2.2.1++[119,104,111,108,101,32]++Lib.itoa t.1++[32]++Lib.itoa t.2.2.1++[32]++t.2.2.2.1++[10]
 else fD t.2.2.2.2.1++[110,101,97,114,32]++Lib.itoa t.1++[32]++Lib.itoa t.2.2.1++[32]++t.2.2.2.1++[10]
def lO (o:D aA) (i:Nat):aF:=(o.1.take i).flatMap qT
def ko (o:D aA) (i:Nat):aF:=lO o o.1.length++(o.2.1.take i).flatMap pa
def kq (o:D aA) (i:Nat):aF:=ko o o.2.1.length++(o.2.2.1.take i).flatMap uG
def gw (o:D aA) (i:Nat):aF:=kq o o.2.2.1.length++(o.2.2.2.1.take i).flatMap pG
def fE (o:D aA):aF:=gw o o.2.2.2.1.length
def ir (o:D aA):aF × aV:=if cD o≠0 then ([],aP (cD o)) else if (fE o).length > 1200 then ([], .no 2) else (fE o, .nil)
theorem Gd {o:D aA} {i:Nat} (h:i < o.1.length):lO o (i + 1)=lO o i++qT (nth .str o.1 i):=by
 unfold lO;rw [km (t:=.str) h];simp
theorem Ge {o:D aA} {i:Nat} (h:i < o.2.1.length):ko o (i + 1)=ko o i++pa (nth (.int .i64) o.2.1 i):=by
 unfold ko;rw [km (t:=.int .i64) h];simp
theorem Gf {o:D aA} {i:Nat} (h:i < o.2.2.1.length):kq o (i + 1)=kq o i++uG (nth aI o.2.2.1 i):=by
 unfold kq;rw [km (t:=aI) h];simp
theorem su {o:D aA} {i:Nat} (h:i < o.2.2.2.1.length):gw o (i + 1)=gw o i++pG (nth aR o.2.2.2.1 i):=by
 unfold gw;rw [km (t:=aR) h];simp
theorem Gg (o:D aA):ko o 0=lO o o.1.length:=by unfold ko;simp
theorem Gh (o:D aA):kq o 0=ko o o.2.1.length:=by unfold kq;simp
theorem Gi (o:D aA):gw o 0=kq o o.2.2.1.length:=by unfold gw;simp
def Nm (s:aF):Prop:=s≠[]/\s.length<=8/\∀c∈s,c≠10/\c≠32
def mo (a b x:Int):Prop:=a<=x/\x<=b
structure vZ (t:D aR):Prop where
 a:mo 0 39 t.1
 w:mo (-2147483648) 2147483647 t.2.2.1
 k:t.2.1=1\/t.2.1=2\/t.2.1=3
 base:t.2.1=1->t.2.2.2.1 = []/\t.2.2.2.2.1=false
 nm:t.2.1≠1->Nm t.2.2.2.1
structure jb (o:D aA):Prop where
 n4:o.1.length<=4
 w1:1<=o.2.1.length
 Kk:o.2.1.length<=40
 s8:o.2.2.1.length<=8
 t6:o.2.2.2.1.length<=6
 yX:∀s∈o.1,Nm s
 words:∀n∈o.2.1,mo (-2147483648) 2147483647 n
 syms:∀y∈o.2.2.1,Nm y.1/\mo 0 39 y.2.1
 Er:∀t∈o.2.2.2.1,vZ t
end Go.Mrl

namespace Go.Mrl
open Go.Vg
theorem tL:∀(l p:List aF),gJ p l=0->∀s∈l,aK s=0
 | [],_,_,s,h=>absurd h (by simp)
 | x :: r,p,h,s,hs=>by
  have hx:=fY x
  unfold gJ at h
  split at h
  ·omega
  ·split at h
   ·cases h
   ·rcases List.mem_cons.1 hs with rfl | hs
    ·omega
    ·exact tL r _ h s hs
theorem tM:∀(l:List Int),iP l=0->∀n∈l,gP n=true
 | [],_,s,h=>absurd h (by simp)
 | x :: r,h,s,hs=>by
  unfold iP at h
  split at h
  ·rename_i hx
   rcases List.mem_cons.1 hs with rfl | hs
   ·exact hx
   ·exact tM r h s hs
  ·cases h
theorem v7 (n:Nat):∀(l p:List (D aI)),eY n p l=0->∀y∈l,aK y.1=0/\mo 0 (n - 1) y.2.1
 | [],_,_,s,h=>absurd h (by simp)
 | x :: r,p,h,s,hs=>by
  have hx:=fY x.1
  unfold eY at h
  split at h
  ·omega
  ·split at h
   ·cases h
   ·rename_i h2
    split at h
    ·cases h
    ·rcases List.mem_cons.1 hs with rfl | hs
     ·exact ⟨by omega,Int.not_lt.1 fun e=>h2 (.inl e),Int.le_sub_one_of_lt (Int.not_le.1 fun e=>h2 (.inr e))⟩
     ·exact v7 n r _ h s hs
theorem xW {n:Nat} {p:Option Int} {t:D aR} (h:kj n p t=0) :
  mo 0 (n - 1) t.1/\gP t.2.2.1=true/\mo 1 3 t.2.1/\(t.2.1=1->t.2.2.2.1 = []/\t.2.2.2.2.1=false)/\(t.2.1≠1->aK t.2.2.2.1=0):=by
 unfold kj at h
 split at h
 ·cases h
 ·rename_i h1
  split at h
  ·cases h
  ·rename_i h2
   refine ⟨⟨Int.not_lt.1 fun e=>h1 (.inl e),Int.le_sub_one_of_lt (Int.not_le.1 fun e=>h1 (.inr (.inl e)))⟩,?_,⟨Int.not_lt.1 fun e=>h2 (.inl e),Int.not_lt.1 fun e=>h2 (.inr (.inl e))⟩,?_,?_⟩
   ·cases hw:gP t.2.2.1 with
    | true=>rfl
    | false=>exact absurd (.inr (.inr hw)) h1
   ·intro e
    rw [if_pos e] at h
    split at h
    ·cases h
    ·rename_i h3
     refine ⟨Classical.byContradiction fun e=>h3 (.inl e),?_⟩
     cases hb:t.2.2.2.2.1 with
     | false=>rfl
     | true=>exact absurd (.inr hb) h3
   ·intro e
    rw [if_neg e] at h
    exact h
theorem qU (n:Nat):∀(l:List (D aR)) (p:Option Int),iR n p l=0->∀t∈l,∃p,kj n p t=0
 | [],_,_,s,h=>absurd h (by simp)
 | x :: r,p,h,s,hs=>by
  unfold iR at h
  split at h
  ·rename_i h0;exact absurd h h0
  ·rename_i h0
   rcases List.mem_cons.1 hs with rfl | hs
   ·exact ⟨p,Classical.byContradiction h0⟩
   ·exact qU n r _ h s hs
theorem Es {s:aF} (h:aK s=0):Nm s:=by
 unfold aK at h
 split at h
 ·cases h
 ·rename_i hl
  split at h
  ·cases h
  ·rename_i hb
   refine ⟨by rintro rfl;simp at hl,by omega,fun c hc => ?_⟩
   obtain ⟨i,hi,rfl⟩:=List.getElem_of_mem hc
   have hn:fU i (hE s i)=false:=by
    unfold p3 at hb
    rw [Bool.not_eq_true,List.any_eq_false] at hb
    have:=hb i (by simpa using hi)
    simpa using this
   have he:hE s i=s[i]:=by unfold hE;simp [hi]
   rw [he] at hn
   constructor
   ·intro e;rw [e] at hn;unfold fU small other at hn;simp at hn
   ·intro e;rw [e] at hn;unfold fU small other at hn;simp at hn
theorem three {x:Int} (h:1<=x) (h':x<=3):x=1\/x=2\/x=3:=by omega
theorem kr {o:D aA} (h:cD o=0):jb o:=by
 unfold cD at h
 split at h
 ·cases h
 ·rename_i hm
  split at h
  ·rename_i h1;exact absurd h h1
  ·rename_i h1
   split at h
   ·rename_i h2;exact absurd h h2
   ·rename_i h2
    split at h
    ·rename_i h3;exact absurd h h3
    ·rename_i h3
     have h1:=Classical.byContradiction h1
     have h2:=Classical.byContradiction h2
     have h3:=Classical.byContradiction h3
     unfold jC at hm
     have hw:o.2.1.length<=40:=Nat.not_lt.1 fun e=>hm (.inr (.inr (.inl e)))
     refine ⟨Nat.not_lt.1 fun e=>hm (.inl e),Nat.not_lt.1 fun e=>hm (.inr (.inl e)),hw,Nat.not_lt.1 fun e=>hm (.inr (.inr (.inr (.inl e)))),Nat.not_lt.1 fun e=>hm (.inr (.inr (.inr (.inr e)))),
      fun s hs=>Es (tL _ _ h1 s hs),fun n hn => ?_,fun y hy => ?_,fun t ht => ?_⟩
     ·have:=tM _ h2 n hn
      unfold gP at this
      simp only [Bool.and_eq_true,decide_eq_true_eq] at this
      exact this
     ·obtain ⟨a,b,c⟩:=v7 _ _ _ h3 y hy
      exact ⟨Es a,b,Int.le_trans c (by omega)⟩
     ·obtain ⟨p,hp⟩:=qU _ _ _ h t ht
      obtain ⟨⟨a,b⟩,c,⟨d,e⟩,f,g⟩:=xW hp
      unfold gP at c
      simp only [Bool.and_eq_true,decide_eq_true_eq] at c
      exact ⟨⟨a,Int.le_trans b (by omega)⟩,c,three d e,f,fun e=>Es (g e)⟩
theorem iT {a b n:Int} (h:mo a b n) (ha : -999999999999999999<=a) (hb:b<=999999999999999999):(Lib.itoa n).length<=19:=by
 obtain ⟨h0,h1⟩:=h
 unfold Lib.itoa
 split
 ·rw [List.length_cons]
  have:=nJ 17 n.natAbs (by omega)
  omega
 ·have:=nJ 17 n.toNat (by omega)
  omega
theorem pb (b:Bool):(fD b).length<=5:=by cases b <;> decide
theorem Gj {s:aF} (h:Nm s):(qT s).length<=64:=by have:=h.2.1;simp [qT];omega
theorem Gk {n:Int} (h:mo (-2147483648) 2147483647 n):(pa n).length<=64:=by have:=iT h (by decide) (by decide);simp [pa];omega
theorem HZ {y:D aI} (h:Nm y.1/\mo 0 39 y.2.1):(uG y).length<=64:=by
 have h1:=iT h.2 (by decide) (by decide)
 have h2:=pb y.2.2.1
 have h3:=h.1.2.1
 simp [uG];omega
theorem H0 {t:D aR} (h:vZ t):(pG t).length<=64:=by
 have h1:=iT h.a (by decide) (by decide)
 have h4:=iT h.w (by decide) (by decide)
 have h2:=pb t.2.2.2.2.1
 unfold pG
 split
 ·simp;omega
 ·rename_i hk
  have h3:=(h.nm hk).2.1
  split
  ·simp;omega
  ·simp;omega
theorem oG {α:Type} {f:α->aF}:∀{l:List α},(∀x∈l,(f x).length<=64)->(l.flatMap f).length<=64 * l.length
 | [],_=>by simp
 | x :: r,h=>by
  have h1:=h x (by simp)
  have h2:=oG (f:=f) (l:=r) fun y hy=>h y (List.mem_cons_of_mem _ hy)
  rw [List.flatMap_cons,List.length_append,List.length_cons];omega
theorem jb.Kl {o:D aA} (h:jb o) (i:Nat):(lO o i).length<=1000:=by
 have:=oG (f:=qT) (l:=o.1.take i) fun s hs=>Gj (h.yX s (List.mem_of_mem_take hs))
 have h2:=h.n4
 unfold lO;simp only [List.length_take] at this;omega
theorem jb.Km {o:D aA} (h:jb o) (i:Nat):(ko o i).length<=4000:=by
 have h0:=h.Kl o.1.length
 have:=oG (f:=pa) (l:=o.2.1.take i) fun s hs=>Gk (h.words s (List.mem_of_mem_take hs))
 have h2:=h.Kk
 unfold ko;rw [List.length_append];simp only [List.length_take] at this;omega
theorem jb.Kn {o:D aA} (h:jb o) (i:Nat):(kq o i).length<=5000:=by
 have h0:=h.Km o.2.1.length
 have:=oG (f:=uG) (l:=o.2.2.1.take i) fun s hs=>HZ (h.syms s (List.mem_of_mem_take hs))
 have h2:=h.s8
 unfold kq;rw [List.length_append];simp only [List.length_take] at this;omega
theorem jb.KV {o:D aA} (h:jb o) (i:Nat):(gw o i).length<=6000:=by
 have h0:=h.Kn o.2.2.1.length
 have:=oG (f:=pG) (l:=o.2.2.2.1.take i) fun s hs=>H0 (h.Er s (List.mem_of_mem_take hs))
 have h2:=h.t6
 unfold gw;rw [List.length_append];simp only [List.length_take] at this;omega
theorem jb.sw {o:D aA} (h:jb o) {i:Nat} (hi:i < o.1.length):Nm (nth .str o.1 i):=h.yX _ (fZ (t:=.str) hi)
theorem jb.word {o:D aA} (h:jb o) {i:Nat} (hi:i < o.2.1.length):mo (-2147483648) 2147483647 (nth (.int .i64) o.2.1 i):=h.words _ (fZ (t:=.int .i64) hi)
theorem jb.sym {o:D aA} (h:jb o) {i:Nat} (hi:i < o.2.2.1.length):Nm (nth aI o.2.2.1 i).1/\mo 0 39 (nth aI o.2.2.1 i).2.1:=h.syms _ (fZ (t:=aI) hi)
theorem jb.tie {o:D aA} (h:jb o) {i:Nat} (hi:i < o.2.2.2.1.length):vZ (nth aR o.2.2.2.1 i):=h.Er _ (fZ (t:=aR) hi)
theorem Cf (a b:aF):cG a++cG b=cG (a++b):=by simp [cG]
theorem xX {o:D aA} (h:jb o) {i:Nat} (hi:i < o.1.length):(nth .str o.1 i).length<=8/\(lO o i).length<=1000:=⟨(h.sw hi).2.1,h.Kl i⟩
theorem xY {o:D aA} (h:jb o) {i:Nat} (hi:i < o.2.1.length):(Lib.itoa (nth (.int .i64) o.2.1 i)).length<=19/\(ko o i).length<=4000:=
 ⟨iT (h.word hi) (by decide) (by decide),h.Km i⟩
theorem AQ {o:D aA} (h:jb o) {i:Nat} (hi:i < o.2.2.1.length) :
  (nth aI o.2.2.1 i).1.length<=8/\(Lib.itoa (nth aI o.2.2.1 i).2.1).length<=19/\(fD (nth aI o.2.2.1 i).2.2.1).length<=5/\(kq o i).length<=5000:=
 ⟨(h.sym hi).1.2.1,iT (h.sym hi).2 (by decide) (by decide),pb _,h.Kn i⟩
theorem AR {o:D aA} (h:jb o) {i:Nat} (hi:i < o.2.2.2.1.length) :
  (nth aR o.2.2.2.1 i).2.2.2.1.length<=8/\(Lib.itoa (nth aR o.2.2.2.1 i).1).length<=19/\(Lib.itoa (nth aR o.2.2.2.1 i).2.2.1).length<=19/\(fD (nth aR o.2.2.2.1 i).2.2.2.2.1).length<=5/\(gw o i).length<=6000:=by
 have ht:=h.tie hi
 refine ⟨?_,iT ht.a (by decide) (by decide),iT ht.w (by decide) (by decide),pb _,h.KV i⟩
 by_cases hk:(nth aR o.2.2.2.1 i).2.1=1
 ·rw [(ht.base hk).1];decide
 ·exact (ht.nm hk).2.1
theorem mU {p p' q:aF} {a b:Int} (h:p'=p++q):(((cG p++cG q,a,b,()):D iV))=((cG p',a,b,()):D iV):=by rw [h,Cf]
theorem uH {p p':aF} {a b:Int} (h:p=p'):((cG p,a,b,()):D iV)=((cG p',a,b,()):D iV):=by rw [h]
theorem Et {o:D aA} {i:Nat} (h:i < o.2.2.2.1.length) (hk:(nth aR o.2.2.2.1 i).2.1=1) :
  gw o (i + 1)=gw o i++([98,97,115,101,32]++Lib.itoa (nth aR o.2.2.2.1 i).1++[32]++Lib.itoa (nth aR o.2.2.2.1 i).2.2.1++[10]):=by
 rw [su h];unfold pG;rw [if_pos hk]
theorem Eu {o:D aA} {i:Nat} (h:i < o.2.2.2.1.length) (hk:¬ (nth aR o.2.2.2.1 i).2.1=1) (hk2:(nth aR o.2.2.2.1 i).2.1=2) :
  gw o (i + 1)=gw o i++(fD (nth aR o.2.2.2.1 i).2.2.2.2.1++[119,104,111,108,101,32]++Lib.itoa (nth aR o.2.2.2.1 i).1++[32]++Lib.itoa (nth aR o.2.2.2.1 i).2.2.1++[32]++(nth aR o.2.2.2.1 i).2.2.2.1++[10]):=by
 rw [su h];unfold pG;rw [if_neg hk,if_pos hk2]
theorem Ev {o:D aA} {i:Nat} (h:i < o.2.2.2.1.length) (hk:¬ (nth aR o.2.2.2.1 i).2.1=1) (hk2:¬ (nth aR o.2.2.2.1 i).2.1=2) :
  gw o (i + 1)=gw o i++(fD (nth aR o.2.2.2.1 i).2.2.2.2.1++[110,101,97,114,32]++Lib.itoa (nth aR o.2.2.2.1 i).1++[32]++Lib.itoa (nth aR o.2.2.2.1 i).2.2.1++[32]++(nth aR o.2.2.2.1 i).2.2.2.1++[10]):=by
 rw [su h];unfold pG;rw [if_neg hk,if_neg hk2]
theorem xZ {o:D aA} (h:cD o≠0):ir o=([],aP (cD o)):=by unfold ir;rw [if_pos h]
theorem v8 {o:D aA} (h:cD o=0) {i:Nat} (hi:i=o.2.2.2.1.length) (hl:(gw o i).length > 1200):ir o=([], .no 2):=by
 unfold ir;rw [if_neg (by rw [h];decide),if_pos (by unfold fE;rw [<-hi];exact hl)]
theorem qV {o:D aA} (h:cD o=0) {i:Nat} (hi:i=o.2.2.2.1.length) (hl:(gw o i).length<=1200):ir o=(gw o i, .nil):=by
 unfold ir;rw [if_neg (by rw [h];decide),if_neg (by unfold fE;rw [<-hi];omega)];unfold fE;rw [<-hi]
end Go.Mrl

namespace Go.Mrl
open Go.Vg
@[reducible] def cT:aF:=[119,101,97,107,32]
@[reducible] def iu:aF:=[110,101,101,100]
@[reducible] def hU:aF:=[119,111,114,100]
@[reducible] def gx:aF:=[115,121,109,98,111,108]
@[reducible] def jW:aF:=[98,97,115,101]
@[reducible] def jj:aF:=[119,104,111,108,101]
@[reducible] def jf:aF:=[110,101,97,114]
def mV (o:D aA) (s:aF):D aA:=(o.1++[s],o.2)
def mW (o:D aA) (n:Int):D aA:=(o.1,o.2.1++[n],o.2.2)
def qc (o:D aA) (y:D aI):D aA:=(o.1,o.2.1,o.2.2.1++[y],o.2.2.2)
def mq (o:D aA) (t:D aR):D aA:=(o.1,o.2.1,o.2.2.1,o.2.2.2.1++[t],())
def uI (x y:aF) (k:Int->Int->D aA):Option (D aA):=
 match eE x,eE y with
 | some m,some n=>some (k m n)
 | _,_=>none
def ku (o:D aA) (b:Bool):List aF->Option (D aA)
 | [a,x]=>if a=iu then some (mV o x) else if a=hU then (eE x).map (mW o) else none
 | [a,x,y]=>if a=gx then (eE y).map fun n=>qc o (x,n,b,()) else if a=jW then uI x y fun m n=>mq o (m,1,n,[],false,()) else none
 | [a,x,y,z]=>if a=jj\/a=jf then uI x y fun m n=>mq o (m,if a=jf then 3 else 2,n,z,b,()) else none
 | _=>none
def mr (o:D aA) (s:aF):Option (D aA):=ku o (Lib.hasPrefix s cT) (parts 32 (Lib.trimPrefix s cT))
def run (f:D aA->aF->Option (D aA)):D aA->List aF->Option (D aA)
 | o,[]=>some o
 | o,s :: r=>match f o s with
  | some p=>run f p r
  | none=>none
theorem AS {f:D aA->aF->Option (D aA)}:∀{l:List aF} {o:D aA} {s:aF},run f o (l++[s])=(run f o l).bind fun p=>f p s
 | [],o,s=>by simp only [List.nil_append,run,Option.bind_some];cases f o s <;> rfl
 | x :: r,o,s=>by
  simp only [List.cons_append,run]
  cases f o x with
  | none=>rfl
  | some p=>exact AS
theorem tf {f:D aA->aF->Option (D aA)}:∀{l m:List aF} {o p:D aA},run f o l=some p->run f o (l++m)=run f p m
 | [],m,o,p,h=>by simp only [run,Option.some.injEq] at h;rw [h];rfl
 | x :: r,m,o,p,h=>by
  simp only [run] at h
  simp only [List.cons_append,run]
  cases hx:f o x with
  | none=>rw [hx] at h;cases h
  | some q=>rw [hx] at h;exact tf h
def mu (s:aF):aF:=[110,101,101,100,32]++s
def mv (n:Int):aF:=[119,111,114,100,32]++Lib.itoa n
def uJ (y:D aI):aF:=fD y.2.2.1++([115,121,109,98,111,108,32]++(y.1++32 :: Lib.itoa y.2.1))
def sx (t:D aR):aF:=
 if t.2.1=1 then [98,97,115,101,32]++(Lib.itoa t.1++32 :: Lib.itoa t.2.2.1)
 else if t.2.1=2 then fD t.2.2.2.2.1++([119,104,111,108,101,32]++(Lib.itoa t.1++32 :: (Lib.itoa t.2.2.1++32 :: t.2.2.2.1)))
 else fD t.2.2.2.2.1++([110,101,97,114,32]++(Lib.itoa t.1++32 :: (Lib.itoa t.2.2.1++32 :: t.2.2.2.1)))
def nF (o:D aA):List aF:=o.1.map mu++(o.2.1.map mv++(o.2.2.1.map uJ++o.2.2.2.1.map sx))
theorem oH {α:Type} {f g:α->aF} (h:∀x,f x=g x++[10]):∀l:List α,l.flatMap f=nI 10 (l.map g)
 | []=>rfl
 | x :: r=>by rw [List.flatMap_cons,oH h r,List.map_cons,xP,h];simp
theorem uK (c:UInt8) (l m:List aF):nI c (l++m)=nI c l++nI c m:=by simp [nI]
theorem Cg (o:D aA):fE o=nI 10 (nF o):=by
 unfold fE gw kq ko lO nF
 rw [List.take_length,List.take_length,List.take_length,List.take_length,uK,uK,uK,
  oH (g:=mu) (fun s=>by simp [qT,mu]) o.1,oH (g:=mv) (fun s=>by simp [pa,mv]) o.2.1,
  oH (g:=uJ) (fun s=>by simp [uG,uJ]) o.2.2.1,
  oH (g:=sx) (fun s=>by unfold pG sx;split <;> (try split) <;> simp) o.2.2.2.1]
 simp
structure Reads (f:D aA->aF->Option (D aA)):Prop where
 sw:∀(o:D aA) (s:aF),Nm s->f o (mu s)=some (mV o s)
 word:∀(o:D aA) (n:Int),mo (-2147483648) 2147483647 n->f o (mv n)=some (mW o n)
 sym:∀(o:D aA) (y:D aI),Nm y.1->mo 0 39 y.2.1->f o (uJ y)=some (qc o y)
 tie:∀(o:D aA) (t:D aR),vZ t->f o (sx t)=some (mq o t)
section
variable {f:D aA->aF->Option (D aA)} (h:Reads f)
include h
theorem x3:∀(l:List aF) (o:D aA),(∀s∈l,Nm s)->run f o (l.map mu)=some (o.1++l,o.2)
 | [],o,_=>by simp [run]
 | s :: r,o,hl=>by
  rw [List.map_cons,run,h.sw o s (hl s (by simp))]
  show run f (mV o s) (r.map mu)=_
  rw [x3 r _ fun x hx=>hl x (List.mem_cons_of_mem _ hx)]
  simp [mV]
theorem x4:∀(l:List Int) (o:D aA),(∀n∈l,mo (-2147483648) 2147483647 n)->run f o (l.map mv)=some (o.1,o.2.1++l,o.2.2)
 | [],o,_=>by simp [run]
 | s :: r,o,hl=>by
  rw [List.map_cons,run,h.word o s (hl s (by simp))]
  show run f (mW o s) (r.map mv)=_
  rw [x4 r _ fun x hx=>hl x (List.mem_cons_of_mem _ hx)]
  simp [mW]
theorem AT:∀(l:List (D aI)) (o:D aA),(∀y∈l,Nm y.1/\mo 0 39 y.2.1)->run f o (l.map uJ)=some (o.1,o.2.1,o.2.2.1++l,o.2.2.2)
 | [],o,_=>by simp [run]
 | s :: r,o,hl=>by
  rw [List.map_cons,run,h.sym o s (hl s (by simp)).1 (hl s (by simp)).2]
  show run f (qc o s) (r.map uJ)=_
  rw [AT r _ fun x hx=>hl x (List.mem_cons_of_mem _ hx)]
  simp [qc]
theorem AU:∀(l:List (D aR)) (o:D aA),(∀t∈l,vZ t)->run f o (l.map sx)=some (o.1,o.2.1,o.2.2.1,o.2.2.2.1++l,())
 | [],o,_=>by simp [run]
 | s :: r,o,hl=>by
  rw [List.map_cons,run,h.tie o s (hl s (by simp))]
  show run f (mq o s) (r.map sx)=_
  rw [AU r _ fun x hx=>hl x (List.mem_cons_of_mem _ hx)]
  simp [mq]
theorem Gl {o:D aA} (ok:jb o):run f (cB aA) (nF o)=some o:=by
 unfold nF
 rw [tf (x3 h o.1 _ ok.yX),tf (x4 h o.2.1 _ ok.words),tf (AT h o.2.2.1 _ ok.syms),AU h o.2.2.2.1 _ ok.Er]
 rfl
end
theorem wa {a:UInt8} {s:aF} (h:a≠119):Lib.hasPrefix (a :: s) cT=false:=by
 unfold Lib.hasPrefix cT;simp [List.isPrefixOf];intro e;exact absurd e.symm h
theorem Ju {s:aF} (h:Lib.hasPrefix s cT=false):Lib.trimPrefix s cT=s:=by unfold Lib.trimPrefix;rw [if_neg (by rw [h];decide)]
theorem Dd (s:aF):Lib.hasPrefix (cT++s) cT=true:=by unfold Lib.hasPrefix cT;simp [List.isPrefixOf]
theorem H2 (s:aF):Lib.trimPrefix (cT++s) cT=s:=by unfold Lib.trimPrefix;rw [if_pos (Dd s)];rfl
theorem De {a b:UInt8} {s:aF} (h:b≠101):Lib.hasPrefix (a :: b :: s) cT=false:=by
 unfold Lib.hasPrefix cT;simp [List.isPrefixOf];intro _ e;exact absurd e.symm h
theorem kK (o:D aA) (b:Bool) (s:aF) (h:Lib.hasPrefix s cT=false):mr o (fD b++s)=ku o b (parts 32 s):=by
 unfold mr
 cases b with
 | false=>show ku o (Lib.hasPrefix s cT) (parts 32 (Lib.trimPrefix s cT))=_;rw [h,Ju h]
 | true=>show ku o (Lib.hasPrefix (cT++s) cT) (parts 32 (Lib.trimPrefix (cT++s) cT))=_;rw [Dd,H2]
theorem mX {s:aF} (h:Nm s):(32:UInt8)∉s/\(10:UInt8)∉s:=⟨fun hc=>(h.2.2 _ hc).2 rfl,fun hc=>(h.2.2 _ hc).1 rfl⟩
theorem kv (n:Int):(32:UInt8)∉Lib.itoa n:=xT (by decide)
theorem qW (n:Int):(10:UInt8)∉Lib.itoa n:=xT (by decide)
theorem Ew {s:aF} (h:Nm s):parts 32 (mu s) = [iu,s]:=by
 show parts 32 (iu++32 :: s)=_
 rw [eQ (by decide),jq (mX h).1]
theorem Ey (n:Int):parts 32 (mv n) = [hU,Lib.itoa n]:=by
 show parts 32 (hU++32 :: Lib.itoa n)=_
 rw [eQ (by decide),jq (kv n)]
theorem Gm {s:aF} {n:Int} (h:Nm s):parts 32 ([115,121,109,98,111,108,32]++(s++32 :: Lib.itoa n)) = [gx,s,Lib.itoa n]:=by
 show parts 32 (gx++32 :: (s++32 :: Lib.itoa n))=_
 rw [eQ (by decide),eQ (mX h).1,jq (kv n)]
theorem Ez (m n:Int):parts 32 ([98,97,115,101,32]++(Lib.itoa m++32 :: Lib.itoa n)) = [jW,Lib.itoa m,Lib.itoa n]:=by
 show parts 32 (jW++32 :: (Lib.itoa m++32 :: Lib.itoa n))=_
 rw [eQ (by decide),eQ (kv m),jq (kv n)]
theorem Ch {s:aF} (m n:Int) (h:Nm s):parts 32 ([119,104,111,108,101,32]++(Lib.itoa m++32 :: (Lib.itoa n++32 :: s))) = [jj,Lib.itoa m,Lib.itoa n,s]:=by
 show parts 32 (jj++32 :: (Lib.itoa m++32 :: (Lib.itoa n++32 :: s)))=_
 rw [eQ (by decide),eQ (kv m),eQ (kv n),jq (mX h).1]
theorem EA {s:aF} (m n:Int) (h:Nm s):parts 32 ([110,101,97,114,32]++(Lib.itoa m++32 :: (Lib.itoa n++32 :: s))) = [jf,Lib.itoa m,Lib.itoa n,s]:=by
 show parts 32 (jf++32 :: (Lib.itoa m++32 :: (Lib.itoa n++32 :: s)))=_
 rw [eQ (by decide),eQ (kv m),eQ (kv n),jq (mX h).1]
theorem tg {a b n:Int} (h:mo a b n) (ha : -9223372036854775808<=a) (hb:b<=9223372036854775807):eE (Lib.itoa n)=some n:=Gc (Int.le_trans ha h.1) (Int.le_trans h.2 hb)
theorem Ko:Reads mr where
 sw o s h:=by
  have:=kK o false (mu s) (wa (by decide))
  rw [show fD false++mu s=mu s from rfl,Ew h] at this
  exact this
 word o n h:=by
  have:=kK o false (mv n) (De (by decide))
  rw [show fD false++mv n=mv n from rfl,Ey] at this
  rw [this]
  show (if hU=iu then some (mV o (Lib.itoa n)) else if hU=hU then (eE (Lib.itoa n)).map (mW o) else none)=_
  rw [if_neg (by decide),if_pos rfl,tg h (by decide) (by decide)];rfl
 sym o y h h':=by
  have:=kK o y.2.2.1 ([115,121,109,98,111,108,32]++(y.1++32 :: Lib.itoa y.2.1)) (wa (by decide))
  rw [Gm h] at this
  refine Eq.trans this ?_
  dsimp only [ku]
  rw [if_pos rfl,tg h' (by decide) (by decide)];rfl
 tie o t h:=by
  obtain ⟨at',k,ad,nm,b,_⟩:=t
  have ha:=tg h.a (by decide) (by decide)
  have hw:=tg h.w (by decide) (by decide)
  simp only at ha hw
  unfold sx
  rcases h.k with e | e | e
  ·have hb:=h.base e
   simp only at e hb
   obtain ⟨rfl,rfl⟩:=hb
   subst e
   rw [if_pos rfl]
   have:=kK o false ([98,97,115,101,32]++(Lib.itoa at'++32 :: Lib.itoa ad)) (wa (by decide))
   rw [Ez] at this
   refine this.trans ?_
   dsimp only [ku]
   rw [if_neg (by decide),if_pos rfl];unfold uI;rw [ha,hw]
  ·have hn:=h.nm (by rw [show _=_ from e];decide)
   simp only at e hn
   subst e
   rw [if_neg (by simp),if_pos rfl]
   have:=kK o b ([119,104,111,108,101,32]++(Lib.itoa at'++32 :: (Lib.itoa ad++32 :: nm))) (De (by decide))
   rw [Ch _ _ hn] at this
   refine this.trans ?_
   dsimp only [ku]
   rw [if_pos (.inl rfl),if_neg (by decide)];unfold uI;rw [ha,hw]
  ·have hn:=h.nm (by rw [show _=_ from e];decide)
   simp only at e hn
   subst e
   rw [if_neg (by simp),if_neg (by simp)]
   have:=kK o b ([110,101,97,114,32]++(Lib.itoa at'++32 :: (Lib.itoa ad++32 :: nm))) (wa (by decide))
   rw [EA _ _ hn] at this
   refine this.trans ?_
   dsimp only [ku]
   rw [if_pos (.inr rfl),if_pos rfl];unfold uI;rw [ha,hw]
end Go.Mrl

namespace Go.Mrl
open Go.Vg
theorem EB {o:D aA} (h:jb o):∀l∈nF o,(10:UInt8)∉l:=by
 intro l hl
 unfold nF at hl
 simp only [List.mem_append,List.mem_map] at hl
 have hw:∀b,(10:UInt8)∉fD b:=by intro b;cases b <;> decide
 rcases hl with ⟨s,hs,rfl⟩ | ⟨n,hn,rfl⟩ | ⟨y,hy,rfl⟩ | ⟨t,ht,rfl⟩
 ·have:=(mX (h.yX s hs)).2
  unfold mu;simp [this]
 ·have:=qW n
  unfold mv;simp [this]
 ·have h1:=(mX (h.syms y hy).1).2
  have h2:=qW y.2.1
  have h3:=hw y.2.2.1
  unfold uJ;simp [h1,h2,h3]
 ·have h1:=qW t.1
  have h2:=qW t.2.2.1
  have h3:=hw t.2.2.2.2.1
  unfold sx
  split
  ·simp [h1,h2]
  ·rename_i hk
   have h4:=(mX ((h.Er t ht).nm hk)).2
   split <;> simp [h1,h2,h3,h4]
theorem H3 {o:D aA} (h:jb o):nF o≠[]:=by
 have h1:=h.w1
 unfold nF
 intro e
 simp only [List.append_eq_nil_iff,List.map_eq_nil_iff] at e
 rw [e.2.1] at h1
 simp at h1
def EC (s:aF):Option (D aA):=run mr (cB aA) (parts 10 (Lib.trimSuffix s [10]))
theorem pc {o:D aA} (h:cD o=0):EC (fE o)=some o:=by
 have ok:=kr h
 unfold EC
 rw [Cg,Ep (H3 ok) (EB ok),Gl Ko ok]
theorem Gn {o p:D aA} (h:cD o=0) (h':cD p=0) (e:fE o=fE p):o=p:=by
 have a:=pc h
 rw [e,pc h'] at a
 exact (Option.some.inj a).symm
open Classical in
noncomputable def bX (s:aF):D aA × Int:=
 if s.length > 1200 then (cB aA,2)
 else if h:∃o:D aA,cD o=0/\fE o=s then (Classical.choose h,0) else (cB aA,4)
theorem x5 {s:aF} (h:s.length > 1200):bX s=(cB aA,2):=by unfold bX;rw [if_pos h]
theorem th {s:aF} {o:D aA} (h:¬ s.length > 1200) (hf:cD o=0) (ht:fE o=s):bX s=(o,0):=by
 have hx:∃o:D aA,cD o=0/\fE o=s:=⟨o,hf,ht⟩
 have hc:=Classical.choose_spec hx
 unfold bX
 rw [if_neg h,dif_pos hx,Gn hc.1 hf (hc.2.trans ht.symm)]
theorem uL {s:aF} (h:¬ s.length > 1200) (hn:∀o:D aA,cD o=0->fE o≠s):bX s=(cB aA,4):=by
 unfold bX
 rw [if_neg h,dif_neg fun ⟨o,h1,h2⟩=>hn o h1 h2]
theorem ED {s:aF} (h:¬ s.length > 1200) (hr:EC s=none):bX s=(cB aA,4):=
 uL h fun o h1 h2=>by rw [<-h2,pc h1] at hr;cases hr
theorem wb {s:aF} {o:D aA} (h:¬ s.length > 1200) (hr:EC s=some o) (hb:cD o=0->fE o≠s):bX s=(cB aA,4):=
 uL h fun p h1 h2=>by
  have:p=o:=by rw [<-h2,pc h1] at hr;exact Option.some.inj hr
  rw [this] at h1 h2
  exact hb h1 h2
def eI (o:D aA) (b:Bool) (s:aF):D aA × Bool:=
 let w:=parts 32 (Lib.trimPrefix s cT)
 if nth .str w 0=iu/\w.length=2 then (mV o (nth .str w 1),b)
 else if nth .str w 0=hU/\w.length=2 then (mW o (dK (nth .str w 1)).1,b || (eE (nth .str w 1)).isNone)
 else if nth .str w 0=gx/\w.length=3 then (qc o (nth .str w 1,(dK (nth .str w 2)).1,Lib.hasPrefix s cT,()),b || (eE (nth .str w 2)).isNone)
 else if nth .str w 0=jW/\w.length=3 then (mq o ((dK (nth .str w 1)).1,1,(dK (nth .str w 2)).1,[],false,()),(b || (eE (nth .str w 1)).isNone) || (eE (nth .str w 2)).isNone)
 else if (nth .str w 0=jj\/nth .str w 0=jf)/\w.length=4 then
  (mq o ((dK (nth .str w 1)).1,if nth .str w 0=jf then 3 else 2,(dK (nth .str w 2)).1,nth .str w 3,Lib.hasPrefix s cT,()),(b || (eE (nth .str w 1)).isNone) || (eE (nth .str w 2)).isNone)
 else (o,true)
theorem lU {s:aF} {n:Int} (h:eE s=some n):(dK s).1=n:=by
 unfold eE at h
 unfold dK
 cases ha:Lib.atoiAll s with
 | ok v=>rw [ha] at h;simp only at h ⊢;split at h <;> simp_all
 | range=>rw [ha] at h;cases h
 | _=>rw [ha] at h;cases h
theorem EE (o:D aA) (b:Bool) (s:aF):(∃p,mr o s=some p/\eI o b s=(p,b))\/(mr o s=none/\(eI o b s).2=true):=by
 unfold mr eI
 generalize hw:parts 32 (Lib.trimPrefix s cT)=w
 generalize Lib.hasPrefix s cT=k
 have hne:=uE 32 (Lib.trimPrefix s cT)
 rw [hw] at hne
 match w,hne with
 | [],hne=>exact absurd rfl hne
 | [a],_=>exact .inr ⟨rfl,by simp⟩
 | [a,x],_=>
  dsimp only [ku]
  simp only [show nth .str [a,x] 0=a from rfl,show nth .str [a,x] 1=x from rfl]
  by_cases h1:a=iu
  ·rw [if_pos h1,if_pos (show (a=iu)/\[a,x].length=2 from ⟨h1,rfl⟩)];exact .inl ⟨_,rfl,rfl⟩
  ·rw [if_neg h1,if_neg (show ¬ ((a=iu)/\[a,x].length=2) from fun e=>h1 e.1)]
   by_cases h2:a=hU
   ·rw [if_pos h2,if_pos (show (a=hU)/\[a,x].length=2 from ⟨h2,rfl⟩)]
    cases hn:eE x with
    | none=>exact .inr ⟨rfl,by simp⟩
    | some n=>exact .inl ⟨_,rfl,by rw [lU hn];simp⟩
   ·rw [if_neg h2,if_neg (show ¬ ((a=hU)/\[a,x].length=2) from fun e=>h2 e.1),if_neg (show ¬ ((a=gx)/\[a,x].length=3) from fun e=>absurd e.2 (by simp)),if_neg (show ¬ ((a=jW)/\[a,x].length=3) from fun e=>absurd e.2 (by simp)),if_neg (show ¬ ((a=jj\/a=jf)/\[a,x].length=4) from fun e=>absurd e.2 (by simp))];exact .inr ⟨rfl,rfl⟩
 | [a,x,y],_=>
  dsimp only [ku]
  simp only [show nth .str [a,x,y] 0=a from rfl,show nth .str [a,x,y] 1=x from rfl,show nth .str [a,x,y] 2=y from rfl]
  rw [if_neg (show ¬ ((a=iu)/\[a,x,y].length=2) from fun e=>absurd e.2 (by simp)),if_neg (show ¬ ((a=hU)/\[a,x,y].length=2) from fun e=>absurd e.2 (by simp))]
  by_cases h1:a=gx
  ·rw [if_pos h1,if_pos (show (a=gx)/\[a,x,y].length=3 from ⟨h1,rfl⟩)]
   cases hn:eE y with
   | none=>exact .inr ⟨rfl,by simp⟩
   | some n=>exact .inl ⟨_,rfl,by rw [lU hn];simp⟩
  ·rw [if_neg h1,if_neg (show ¬ ((a=gx)/\[a,x,y].length=3) from fun e=>h1 e.1)]
   by_cases h2:a=jW
   ·rw [if_pos h2,if_pos (show (a=jW)/\[a,x,y].length=3 from ⟨h2,rfl⟩)]
    unfold uI
    cases hm:eE x with
    | none=>exact .inr ⟨rfl,by simp⟩
    | some m=>
     cases hn:eE y with
     | none=>exact .inr ⟨rfl,by simp⟩
     | some n=>exact .inl ⟨_,rfl,by rw [lU hn,lU hm];simp⟩
   ·rw [if_neg h2,if_neg (show ¬ ((a=jW)/\[a,x,y].length=3) from fun e=>h2 e.1),if_neg (show ¬ ((a=jj\/a=jf)/\[a,x,y].length=4) from fun e=>absurd e.2 (by simp))];exact .inr ⟨rfl,rfl⟩
 | [a,x,y,z],_=>
  dsimp only [ku]
  simp only [show nth .str [a,x,y,z] 0=a from rfl,show nth .str [a,x,y,z] 1=x from rfl,show nth .str [a,x,y,z] 2=y from rfl,show nth .str [a,x,y,z] 3=z from rfl]
  rw [if_neg (show ¬ ((a=iu)/\[a,x,y,z].length=2) from fun e=>absurd e.2 (by simp)),if_neg (show ¬ ((a=hU)/\[a,x,y,z].length=2) from fun e=>absurd e.2 (by simp)),if_neg (show ¬ ((a=gx)/\[a,x,y,z].length=3) from fun e=>absurd e.2 (by simp)),if_neg (show ¬ ((a=jW)/\[a,x,y,z].length=3) from fun e=>absurd e.2 (by simp))]
  by_cases h1:a=jj\/a=jf
  ·rw [if_pos h1,if_pos (show (a=jj\/a=jf)/\[a,x,y,z].length=4 from ⟨h1,rfl⟩)]
   unfold uI
   cases hm:eE x with
   | none=>exact .inr ⟨rfl,by simp⟩
   | some m=>
    cases hn:eE y with
    | none=>exact .inr ⟨rfl,by simp⟩
    | some n=>exact .inl ⟨_,rfl,by rw [lU hn,lU hm];simp⟩
  ·rw [if_neg h1,if_neg (show ¬ ((a=jj\/a=jf)/\[a,x,y,z].length=4) from fun e=>h1 e.1)];exact .inr ⟨rfl,rfl⟩
 | a :: x :: y :: z :: u :: r,_=>exact .inr ⟨rfl,by simp⟩
theorem Gp (o:D aA) (s:aF):(eI o true s).2=true:=by
 unfold eI;simp only [Bool.true_or]
 split
 ·rfl
 ·split
  ·rfl
  ·split
   ·rfl
   ·split
    ·rfl
    ·split <;> rfl
theorem Gq (o:D aA) (b:Bool) (s:aF) :
  (eI o b s).1.1.length<=o.1.length + 1/\(eI o b s).1.2.1.length<=o.2.1.length + 1/\(eI o b s).1.2.2.1.length<=o.2.2.1.length + 1/\(eI o b s).1.2.2.2.1.length<=o.2.2.2.1.length + 1:=by
 have e:∀{α:Type} (l:List α) (x:α),(l++[x]).length<=l.length + 1:=fun l x=>by simp
 have e0:∀n:Nat,n<=n + 1:=fun n=>Nat.le_succ n
 unfold eI
 simp only
 split
 ·exact ⟨e _ _,e0 _,e0 _,e0 _⟩
 ·split
  ·exact ⟨e0 _,e _ _,e0 _,e0 _⟩
  ·split
   ·exact ⟨e0 _,e0 _,e _ _,e0 _⟩
   ·split
    ·exact ⟨e0 _,e0 _,e0 _,e _ _⟩
    ·split
     ·exact ⟨e0 _,e0 _,e0 _,e _ _⟩
     ·exact ⟨e0 _,e0 _,e0 _,e0 _⟩
structure jk (L:List aF) (i:Nat) (o:D aA) (b:Bool):Prop where
 le:i<=L.length
 st:(run mr (cB aA) (L.take i)=some o/\b=false)\/(run mr (cB aA) (L.take i)=none/\b=true)
 l1:o.1.length<=i
 l2:o.2.1.length<=i
 l3:o.2.2.1.length<=i
 l4:o.2.2.2.1.length<=i
theorem jk.zero (L:List aF):jk L 0 (cB aA) false:=⟨Nat.zero_le _, .inl ⟨rfl,rfl⟩,Nat.le_refl _,Nat.le_refl _,Nat.le_refl _,Nat.le_refl _⟩
theorem jk.next {L:List aF} {i:Nat} {o:D aA} {b:Bool} (h:jk L i o b) (hi:i < L.length):jk L (i + 1) (eI o b (nth .str L i)).1 (eI o b (nth .str L i)).2:=by
 obtain ⟨a1,a2,a3,a4⟩:=Gq o b (nth .str L i)
 refine ⟨hi,?_,by have:=h.l1;omega,by have:=h.l2;omega,by have:=h.l3;omega,by have:=h.l4;omega⟩
 rw [km (t:=.str) hi,AS]
 rcases h.st with ⟨hr,hb⟩ | ⟨hr,hb⟩
 ·rw [hr,Option.bind_some]
  rcases EE o b (nth .str L i) with ⟨p,h1,h2⟩ | ⟨h1,h2⟩
  ·rw [h2];exact .inl ⟨h1,hb⟩
  ·exact .inr ⟨h1,h2⟩
 ·rw [hr,hb];exact .inr ⟨rfl,Gp o _⟩
end Go.Mrl

namespace Go.Mrl
open Go.Vg
abbrev IZ:=Unit × List (List UInt8) × List Int × List (D aI) × List (D aR) × (Bool × Unit) × Unit
def H4 (x:IZ):D aA:=(x.2.1,x.2.2.1,x.2.2.2.1,x.2.2.2.2.1,())
def Gr (p:D aA × Bool):IZ:=((),p.1.1,p.1.2.1,p.1.2.2.1,p.1.2.2.2.1,(p.2,()),())
theorem AV (s p:aF):(Lib.trimPrefix s p).length<=s.length:=by unfold Lib.trimPrefix;split <;> simp
theorem Df {s:aF} {w:List aF} (hw:w=parts 32 (Lib.trimPrefix s cT)) (i:Nat):(nth .str w i).length<=s.length:=by
 by_cases h:i < w.length
 ·have h1:=fZ (t:=.str) h
  rw [hw] at h1
  have:=mS _ _ _ h1
  rw [<-hw] at this
  exact Nat.le_trans this (AV _ _)
 ·unfold nth;rw [List.getD_eq_getElem?_getD,List.getElem?_eq_none (by omega)];exact Nat.zero_le _
theorem H5 {s:aF} {w:List aF} (hw:w=parts 32 (Lib.trimPrefix s cT)):0 < w.length:=by rw [hw];exact List.length_pos_iff.2 (uE _ _)
theorem jD {c:Bool} {P:Prop} (q:c=true ↔ P) (h:c=false):¬ P:=fun p=>by rw [q.2 p] at h;cases h
section
variable {o:D aA} {b:Bool} {s:aF} {w:List aF} (hw:w=parts 32 (Lib.trimPrefix s cT))
include hw
theorem EF (h:nth .str w 0=iu/\w.length=2):eI o b s=(mV o (nth .str w 1),b):=by
 unfold eI;simp only;rw [<-hw,if_pos h]
theorem EG (h0:¬ (nth .str w 0=iu/\w.length=2)) (h:nth .str w 0=hU/\w.length=2):eI o b s=(mW o (dK (nth .str w 1)).1,b || (eE (nth .str w 1)).isNone):=by
 unfold eI;simp only;rw [<-hw,if_neg h0,if_pos h]
theorem Gs (h0:¬ (nth .str w 0=iu/\w.length=2)) (h1:¬ (nth .str w 0=hU/\w.length=2)) (h:nth .str w 0=gx/\w.length=3) :
  eI o b s=(qc o (nth .str w 1,(dK (nth .str w 2)).1,Lib.hasPrefix s cT,()),b || (eE (nth .str w 2)).isNone):=by
 unfold eI;simp only;rw [<-hw,if_neg h0,if_neg h1,if_pos h]
theorem EH (h0:¬ (nth .str w 0=iu/\w.length=2)) (h1:¬ (nth .str w 0=hU/\w.length=2)) (h2:¬ (nth .str w 0=gx/\w.length=3)) (h:nth .str w 0=jW/\w.length=3) :
  eI o b s=(mq o ((dK (nth .str w 1)).1,1,(dK (nth .str w 2)).1,[],false,()),(b || (eE (nth .str w 1)).isNone) || (eE (nth .str w 2)).isNone):=by
 unfold eI;simp only;rw [<-hw,if_neg h0,if_neg h1,if_neg h2,if_pos h]
theorem x6 (h0:¬ (nth .str w 0=iu/\w.length=2)) (h1:¬ (nth .str w 0=hU/\w.length=2)) (h2:¬ (nth .str w 0=gx/\w.length=3)) (h3:¬ (nth .str w 0=jW/\w.length=3))
  (h:(nth .str w 0=jj\/nth .str w 0=jf)/\w.length=4) {k:Int} (hk:k=if nth .str w 0=jf then 3 else 2) :
  eI o b s=(mq o ((dK (nth .str w 1)).1,k,(dK (nth .str w 2)).1,nth .str w 3,Lib.hasPrefix s cT,()),(b || (eE (nth .str w 1)).isNone) || (eE (nth .str w 2)).isNone):=by
 unfold eI;simp only;rw [<-hw,if_neg h0,if_neg h1,if_neg h2,if_neg h3,if_pos h,hk]
theorem EI (h0:¬ (nth .str w 0=iu/\w.length=2)) (h1:¬ (nth .str w 0=hU/\w.length=2)) (h2:¬ (nth .str w 0=gx/\w.length=3)) (h3:¬ (nth .str w 0=jW/\w.length=3))
  (h:¬ ((nth .str w 0=jj\/nth .str w 0=jf)/\w.length=4)):eI o b s=(o,true):=by
 unfold eI;simp only;rw [<-hw,if_neg h0,if_neg h1,if_neg h2,if_neg h3,if_neg h]
end
end Go.Mrl

namespace Go.Mrl
open Go.Vg
end Go.Mrl

namespace Go.Mrl
open Go.Vg
noncomputable def kx (s:aF):D aA × aV:=((bX s).1,aP (bX s).2)
theorem EJ {s:aF} (h:s.length > 1200):(cB aA,aV.no 2)=kx s:=by unfold kx;rw [x5 h];rfl
theorem jk.run {L:List aF} {i:Nat} {o:D aA} {b:Bool} (h:jk L i o b) (hi:¬ i < L.length):(run mr (cB aA) L=some o/\b=false)\/(run mr (cB aA) L=none/\b=true):=by
 have:=h.st
 rwa [List.take_of_length_le (by omega)] at this
theorem sy {s:aF} {i:Nat} {o:D aA} {b:Bool} (h:jk (parts 10 (Lib.trimSuffix s [10])) i o b) (hi:¬ i < (parts 10 (Lib.trimSuffix s [10])).length) (hl:¬ s.length > 1200)
  (hb:b=true\/(ir o).2.isNil=false\/¬ (ir o).1=s):(cB aA,aV.no 4)=kx s:=by
 have:bX s=(cB aA,4):=by
  rcases h.run hi with ⟨hr,h0⟩ | ⟨hr,h0⟩
  ·rcases hb with hb | hb | hb
   ·rw [hb] at h0;cases h0
   ·refine wb hl hr fun hf ht => ?_
    rw [qV hf rfl (by show (fE o).length<=1200;rw [ht];omega)] at hb
    cases hb
   ·refine wb hl hr fun hf ht=>hb ?_
    rw [qV hf rfl (by show (fE o).length<=1200;rw [ht];omega)]
    exact ht
  ·exact ED hl hr
 unfold kx;rw [this];rfl
theorem H6 {s:aF} {o:D aA} (hl:¬ s.length > 1200)
  (hn:(ir o).2.isNil=true) (ht:(ir o).1=s):(o,aV.nil)=kx s:=by
 have hf:cD o=0:=by
  apply Classical.byContradiction;intro hf
  rw [xZ hf] at hn
  exact hf (aZ.1 hn)
 have hs:fE o=s:=by
  by_cases h:(fE o).length > 1200
  ·rw [v8 hf rfl h] at hn;cases hn
  ·rw [qV hf rfl (by show (fE o).length<=1200;omega)] at ht;exact ht
 unfold kx;rw [th hl hf hs];rfl
theorem Jv (s p:aF):(Lib.trimSuffix s p).length<=s.length:=by unfold Lib.trimSuffix;split <;> simp
theorem Gt (s:aF) (h:s.length<=1200):(parts 10 (Lib.trimSuffix s [10])).length<=1201:=by
 have h1:=sq 10 (Lib.trimSuffix s [10])
 have h2:(Lib.trimSuffix s [10]).length<=s.length:=by unfold Lib.trimSuffix;split <;> simp
 omega
theorem EK {s:aF} (h:s.length<=1200) (i:Nat):(nth .str (parts 10 (Lib.trimSuffix s [10])) i).length<=1200:=by
 by_cases hi:i < (parts 10 (Lib.trimSuffix s [10])).length
 ·have:=mS _ _ _ (fZ (t:=.str) hi)
  have h2:(Lib.trimSuffix s [10]).length<=s.length:=by unfold Lib.trimSuffix;split <;> simp
  omega
 ·unfold nth;rw [List.getD_eq_getElem?_getD,List.getElem?_eq_none (by omega)];exact Nat.zero_le _
end Go.Mrl

namespace Go.Mrl
open Go.Vg
abbrev Rd:=aF->aF × Int × Int
structure gy (rd:Rd):Prop where
 code:∀s,(rd s).2.2=0\/(rd s).2.2=5
 KZ:∃K:List aF,K.length<=6/\∀s,(rd s).2.2=0->s∈K
def dX (ns l:List aF):List aF:=l.foldl (fun ns s=>if ns.any (· == s)=true then ns else ns++[s]) ns
noncomputable def iv (rd:Rd) (s:aF):D aA:=(bX (rd s).1).1
noncomputable def dI (rd:Rd) (s:aF):Int:=if (rd s).2.2=0 then (bX (rd s).1).2 else (rd s).2.2
noncomputable def lj (rd:Rd):Nat->Nat->List aF->List (D aA)->List aF × List (D aA) × Int
 | 0,_,ns,os=>(ns,os,0)
 | k + 1,i,ns,os=>
  if i < ns.length then
   if dI rd (nth .str ns i)=0 then lj rd k (i + 1) (dX ns (iv rd (nth .str ns i)).1) (os++[iv rd (nth .str ns i)])
   else ([],[],dI rd (nth .str ns i))
  else (ns,os,0)
noncomputable def bA (rd:Rd) (root:aF):List aF × List (D aA) × Int:=lj rd 7 0 [root] []
theorem wc (s:aF):((bX s).2=0/\cD (bX s).1=0/\fE (bX s).1=s)\/bX s=(cB aA,2)\/bX s=(cB aA,4):=by
 by_cases h:s.length > 1200
 ·exact .inr (.inl (x5 h))
 ·by_cases h2:∃o:D aA,cD o=0/\fE o=s
  ·obtain ⟨o,h3,h4⟩:=h2
   rw [th h h3 h4];exact .inl ⟨rfl,h3,h4⟩
  ·exact .inr (.inr (uL h fun o h3 h4=>h2 ⟨o,h3,h4⟩))
theorem Ci (s:aF):0<=(bX s).2:=by
 rcases wc s with ⟨h,_⟩ | h | h <;> rw [h] <;> decide
theorem qX {s:aF} (h:(bX s).2=0):cD (bX s).1=0:=by
 rcases wc s with ⟨_,h,_⟩ | h' | h'
 ·exact h
 ·rw [h'] at h;cases h
 ·rw [h'] at h;cases h
theorem wZ {rd:Rd} (h:gy rd) (s:aF):0<=dI rd s:=by
 unfold dI
 split
 ·exact Ci _
 ·rcases h.code s with e | e <;> rw [e] <;> decide
theorem gK {rd:Rd} (h:gy rd) {s:aF} (e:dI rd s=0):(rd s).2.2=0/\(bX (rd s).1).2=0:=by
 unfold dI at e
 rcases h.code s with c | c
 ·rw [if_pos c] at e;exact ⟨c,e⟩
 ·rw [if_neg (by rw [c];decide),c] at e;cases e
theorem sz {rd:Rd} {s:aF} (e:¬ (rd s).2.2=0):dI rd s=(rd s).2.2:=by unfold dI;rw [if_neg e]
theorem pH {rd:Rd} {s:aF} (e:(rd s).2.2=0):dI rd s=(bX (rd s).1).2:=by unfold dI;rw [if_pos e]
theorem H7 (ns:List aF):dX ns []=ns:=rfl
theorem sA (ns l:List aF) (s:aF):dX ns (s :: l)=dX (if ns.any (· == s)=true then ns else ns++[s]) l:=rfl
theorem Gu (ns l:List aF) (s:aF):dX ns (l++[s])=if (dX ns l).any (· == s)=true then dX ns l else dX ns l++[s]:=by
 unfold dX;rw [List.foldl_append];rfl
theorem Dg {ns:List aF} {s:aF}:ns.any (· == s)=true ↔ s∈ns:=by
 rw [List.any_eq_true]
 constructor
 ·rintro ⟨x,hx,e⟩;rw [<-(by simpa using e:x=s)];exact hx
 ·intro h;exact ⟨s,h,by simp⟩
theorem mY:∀(l ns:List aF),∃r,dX ns l=ns++r/\r.length<=l.length/\∀s∈r,s∈l
 | [],ns=>⟨[],by simp [H7],by simp,by simp⟩
 | x :: l,ns=>by
  rw [sA]
  split
  ·obtain ⟨r,h1,h2,h3⟩:=mY l ns
   exact ⟨r,h1,by simp;omega,fun s hs=>by simp [h3 s hs]⟩
  ·obtain ⟨r,h1,h2,h3⟩:=mY l (ns++[x])
   refine ⟨x :: r,by rw [h1];simp,by simp;omega,fun s hs => ?_⟩
   rcases List.mem_cons.1 hs with rfl | hs
   ·simp
   ·simp [h3 s hs]
theorem qY:∀(l ns:List aF),ns.Nodup->(dX ns l).Nodup
 | [],ns,h=>h
 | x :: l,ns,h=>by
  rw [sA]
  split
  ·exact qY l ns h
  ·rename_i hx
   refine qY l _ ?_
   rw [List.nodup_append]
   refine ⟨h,by simp,fun a ha b hb e=>hx (Dg.2 ?_)⟩
   simp at hb;subst hb;exact e▸ha
theorem AW:∀(l ns:List aF),∀s∈l,s∈dX ns l
 | [],_,s,h=>by simp at h
 | x :: l,ns,s,h=>by
  rw [sA]
  rcases List.mem_cons.1 h with rfl | h
  ·split
   ·rename_i hx
    obtain ⟨r,h1,_⟩:=mY l ns
    rw [h1];exact List.mem_append_left _ (Dg.1 hx)
   ·obtain ⟨r,h1,_⟩:=mY l (ns++[s])
    rw [h1];simp
  ·exact AW l _ s h
theorem x7 {ns l:List aF} {i:Nat} (h:i < l.length):dX ns (l.take (i + 1))=if (dX ns (l.take i)).any (· == nth .str l i)=true then dX ns (l.take i) else dX ns (l.take i)++[nth .str l i]:=by
 rw [km (t:=.str) h,Gu]
theorem x8 {t:Ty} {a b:List (D t)} {i:Nat} (h:i < a.length):nth t (a++b) i=nth t a i:=by rw [qP,if_pos h]
structure jc (rd:Rd) (root:aF) (i:Nat) (ns:List aF) (os:List (D aA)):Prop where
 eq:lj rd (7 - i) i ns os=bA rd root
 le:i<=6
 lo:i<=ns.length
 pos:0 < ns.length
 len:os.length=i
 hi:ns.length<=1 + 4 * i
 head:nth .str ns 0=root
 nd:ns.Nodup
 sC:∀j,j < i->dI rd (nth .str ns j)=0/\nth aA os j=iv rd (nth .str ns j)
 want:∀j,j < ns.length->j≠0->∃k,k < i/\k < j/\nth .str ns j∈(nth aA os k).1
 sw:∀j,j < i->∀s∈(nth aA os j).1,s∈ns
theorem jc.zero (rd:Rd) (root:aF):jc rd root 0 [root] []:=
 ⟨rfl,by omega,by simp,by simp,rfl,by simp,rfl,by simp,fun j h=>by omega,fun j h h'=>by simp at h;omega,fun j h=>by omega⟩
theorem jc.room {rd:Rd} {root:aF} {i:Nat} {ns:List aF} {os:List (D aA)} (ok:gy rd) (h:jc rd root i ns os) (hi:i < ns.length) (hf:dI rd (nth .str ns i)=0):i + 1<=6:=by
 obtain ⟨K,hK,hm⟩:=ok.KZ
 have hsub:∀y∈ns.take (i + 1),y∈K:=by
  intro y hy
  obtain ⟨j,hj,rfl⟩:=kH (t:=.str) hy
  rw [List.length_take] at hj
  rw [Av (t:=.str) (by omega)]
  refine hm _ (gK ok ?_).1
  rcases Nat.lt_or_ge j i with hl | hl
  ·exact (h.sC j hl).1
  ·rw [show j=i by omega];exact hf
 have:=xK (h.nd.sublist (List.take_sublist (i + 1) ns)) hsub
 rw [List.length_take] at this
 omega
theorem jc.fuel {rd:Rd} {root:aF} {i:Nat} {ns:List aF} {os:List (D aA)} (h:jc rd root i ns os):lj rd (6 - i + 1) i ns os=bA rd root:=by
 rw [<-h.eq];congr 1;have:=h.le;omega
theorem jc.bad {rd:Rd} {root:aF} {i:Nat} {ns:List aF} {os:List (D aA)} (h:jc rd root i ns os) (hi:i < ns.length) (hf:¬ dI rd (nth .str ns i)=0) :
  bA rd root=([],[],dI rd (nth .str ns i)):=by
 rw [<-h.fuel,lj,if_pos hi,if_neg hf]
theorem jc.done {rd:Rd} {root:aF} {i:Nat} {ns:List aF} {os:List (D aA)} (h:jc rd root i ns os) (hi:¬ i < ns.length):bA rd root=(ns,os,0):=by
 rw [<-h.fuel,lj,if_neg hi]
theorem uM {rd:Rd} (ok:gy rd) {s:aF} (hf:dI rd s=0):jb (iv rd s):=kr (qX (gK ok hf).2)
theorem jc.next {rd:Rd} {root:aF} {i:Nat} {ns:List aF} {os:List (D aA)} (ok:gy rd) (h:jc rd root i ns os) (hi:i < ns.length) (hf:dI rd (nth .str ns i)=0) :
  jc rd root (i + 1) (dX ns (iv rd (nth .str ns i)).1) (os++[iv rd (nth .str ns i)]):=by
 have hr:=h.room ok hi hf
 have ho:=uM ok hf
 obtain ⟨r,h1,h2,h3⟩:=mY (iv rd (nth .str ns i)).1 ns
 have hn4:=ho.n4
 have hlen:=h.len
 have hhi:=h.hi
 have hpos:=h.pos
 have hos:nth aA (os++[iv rd (nth .str ns i)]) i=iv rd (nth .str ns i):=by rw [qP,if_neg (by omega),h.len,Nat.sub_self];rfl
 have hns:∀j,j < ns.length->nth .str (dX ns (iv rd (nth .str ns i)).1) j=nth .str ns j:=fun j hj=>by rw [h1,x8 (t:=.str) hj]
 have hoj:∀j,j < i->nth aA (os++[iv rd (nth .str ns i)]) j=nth aA os j:=fun j hj=>x8 (t:=aA) (by omega)
 refine ⟨?_,hr,by rw [h1,List.length_append];omega,by rw [h1,List.length_append];omega,by rw [List.length_append,h.len];rfl,by rw [h1,List.length_append];omega,
  by rw [hns 0 hpos];exact h.head,qY _ _ h.nd,fun j hj => ?_,fun j hj h0 => ?_,fun j hj s hs => ?_⟩
 ·rw [<-h.fuel,lj,if_pos hi,if_pos hf];congr 1;omega
 ·rcases Nat.lt_or_ge j i with hl | hl
  ·rw [hns j (by omega),hoj j hl];exact h.sC j hl
  ·rw [show j=i by omega,hns i hi,hos];exact ⟨hf,rfl⟩
 ·rcases Nat.lt_or_ge j ns.length with hl | hl
  ·obtain ⟨k,k1,k2,k3⟩:=h.want j hl h0
   exact ⟨k,by omega,k2,by rw [hns j hl,hoj k k1];exact k3⟩
  ·refine ⟨i,by omega,by omega,?_⟩
   rw [hos,h1,qP,if_neg (by omega)]
   refine h3 _ (fZ (t:=.str) ?_)
   rw [h1,List.length_append] at hj;omega
 ·rcases Nat.lt_or_ge j i with hl | hl
  ·rw [hoj j hl] at hs
   rw [h1];exact List.mem_append_left _ (h.sw j hl s hs)
  ·rw [show j=i by omega,hos] at hs
   exact AW _ _ s hs
structure Scope (rd:Rd) (root:aF) (ns:List aF) (os:List (D aA)):Prop where
 le:ns.length<=6
 pos:0 < ns.length
 len:os.length=ns.length
 head:nth .str ns 0=root
 nd:ns.Nodup
 sC:∀j,j < ns.length->dI rd (nth .str ns j)=0/\nth aA os j=iv rd (nth .str ns j)
 want:∀j,j < ns.length->j≠0->∃k,k < j/\nth .str ns j∈(nth aA os k).1
 sw:∀j,j < ns.length->∀s∈(nth aA os j).1,s∈ns
theorem we {rd:Rd} {root:aF} (ok:gy rd):∀(m i:Nat) (ns:List aF) (os:List (D aA)),m=7 - i->jc rd root i ns os->
  (∃f,0 < f/\bA rd root=([],[],f))\/(∃ns os,bA rd root=(ns,os,0)/\Scope rd root ns os)
 | 0,i,ns,os,hm,h=>by have:=h.le;omega
 | m + 1,i,ns,os,hm,h=>by
  by_cases hi:i < ns.length
  ·by_cases hf:dI rd (nth .str ns i)=0
   ·exact we ok m (i + 1) _ _ (by omega) (h.next ok hi hf)
   ·have:=wZ ok (nth .str ns i)
    exact .inl ⟨_,by omega,h.bad hi hf⟩
  ·have h1:=h.lo
   have h2:=h.le
   have e:i=ns.length:=by omega
   subst e
   exact .inr ⟨ns,os,h.done hi,h2,h.pos,h.len,h.head,h.nd,h.sC,fun j hj h0=>let ⟨k,_,k2,k3⟩:=h.want j hj h0;⟨k,k2,k3⟩,h.sw⟩
theorem tN {rd:Rd} (ok:gy rd) (root:aF):(∃f,0 < f/\bA rd root=([],[],f))\/(∃ns os,bA rd root=(ns,os,0)/\Scope rd root ns os):=
 we ok 7 0 _ _ rfl (jc.zero rd root)
theorem uN {rd:Rd} (ok:gy rd) {root:aF} (h:(bA rd root).2.2=0):Scope rd root (bA rd root).1 (bA rd root).2.1:=by
 rcases tN ok root with ⟨f,hf,e⟩ | ⟨ns,os,e,h'⟩
 ·rw [e] at h;simp only at h;omega
 ·rw [e];exact h'
theorem gL {x:bM} (h:x.2.1.1.length<=6):gy (aH x):=by
 refine ⟨fun s => ?_,x.2.1.1.map oC,by rw [List.length_map];exact h,fun s hs => ?_⟩
 ·unfold aH;split
  ·exact .inl rfl
  ·exact .inr rfl
 ·by_cases c:cI cH x.2.1.1 s=true
  ·obtain ⟨y,hy,e⟩:=kn.1 c
   rw [<-e];exact List.mem_map_of_mem hy
  ·rw [ki (by simpa using c)] at hs;cases hs
end Go.Mrl

namespace Go.Mrl
open Go.Vg
section
variable {rd:Rd} {root:aF} {i:Nat} {ns:List aF} {os:List (D aA)}
theorem jc.H8 (ok:gy rd) (h:jc rd root i ns os) (hi:i < ns.length) (he:¬ (rd (nth .str ns i)).2.2=0) :
  bA rd root=([],[],(rd (nth .str ns i)).2.2):=by
 rw [h.bad hi (by rw [sz he];exact he),sz he]
theorem jc.Jw (h:jc rd root i ns os) (hi:i < ns.length) (he:(rd (nth .str ns i)).2.2=0) (ho:¬ (bX (rd (nth .str ns i)).1).2=0) :
  bA rd root=([],[],(bX (rd (nth .str ns i)).1).2):=by
 rw [h.bad hi (by rw [pH he];exact ho),pH he]
theorem w4 {s:aF} (he:(rd s).2.2=0) (ho:(bX (rd s).1).2=0):dI rd s=0:=by rw [pH he];exact ho
theorem jc.KW (h:jc rd root i ns os):os.length + 1<=1000000000:=by have:=h.len;have:=h.le;omega
theorem jc.Kp (h:jc rd root i ns os) (ok:gy rd) {s:aF} (hf:dI rd s=0) (k:Nat):(dX ns (List.take k (iv rd s).1)).length + 1<=1000000000:=by
 obtain ⟨r,h1,h2,_⟩:=mY (List.take k (iv rd s).1) ns
 have:=(uM ok hf).n4
 have:=h.hi
 have:=h.le
 rw [h1,List.length_append]
 rw [List.length_take] at h2
 omega
theorem Dh {l:List aF} {k:Nat} (h:k < l.length) (hn:(dX ns (l.take k)).any (fun x=>x == nth .str l k)=false):dX ns (l.take k)++[nth .str l k]=dX ns (l.take (k + 1)):=by
 rw [x7 h,if_neg (by rw [hn];exact Bool.false_ne_true)]
theorem Di {l:List aF} {k:Nat} (h:k < l.length) (hn:(dX ns (l.take k)).any (fun x=>x == nth .str l k)=true):dX ns (l.take k)=dX ns (l.take (k + 1)):=by
 rw [x7 h,if_pos hn]
theorem Dj {l:List aF} {k:Nat} (h:¬ k < l.length):dX ns (l.take k)=dX ns l:=by rw [List.take_of_length_le (by omega)]
end
end Go.Mrl

namespace Go.Mrl
open Go.Vg
end Go.Mrl
namespace Go.Mrl
open Go.Vg
end Go.Mrl

namespace Go.Mrl
open Go.Vg
end Go.Mrl

namespace Go.Mrl
open Go.Vg
def cL (l:List (D aA)):List Int:=l.map fun o=>(o.2.1.length:Int)
def cQ (l:List (D aA)):Ws:=l.map fun o=>o.2.1
theorem EL (l:List (D aA)):(cL l).length=l.length:=by simp [cL]
theorem mw (l:List (D aA)):(cQ l).length=l.length:=by simp [cQ]
theorem Dl {t u:Ty} {f:D u->D t} {l:List (D u)} {i:Nat} (h:i < l.length):nth t (l.map f) i=f (nth u l i):=by
 unfold nth;rw [List.getD_eq_getElem?_getD,List.getD_eq_getElem?_getD,List.getElem?_map,List.getElem?_eq_getElem h];rfl
theorem wg {l:List (D aA)} {i:Nat} (h:i < l.length):nth gu (cQ l) i=(nth aA l i).2.1:=Dl (u:=aA) (t:=gu) h
theorem tO {l:List (D aA)} {i:Nat} (h:i < l.length):cL (l.take (i + 1))=cL (l.take i)++[((nth aA l i).2.1.length:Int)]:=by
 unfold cL;rw [iO (t:=aA) h];simp
theorem tP {l:List (D aA)} {i:Nat} (h:i < l.length):cQ (l.take (i + 1))=cQ (l.take i)++[(nth aA l i).2.1]:=by
 unfold cQ;rw [iO (t:=aA) h];simp
noncomputable def EM (l:List (D aA)) (b:List Int) (i:Nat) (ts:List (D aR)):List Pt:=ts.map fun t=>((i:Int),t.1,(fI l b i t).1,())
noncomputable def sE (l:List (D aA)) (b:List Int):List (D aA)->Nat->List Pt
 | [],_=>[]
 | o :: r,i=>EM l b i o.2.2.2.1++sE l b r (i + 1)
theorem Dm {l:List (D aA)} {b:List Int} {i:Nat}:∀{ts:List (D aR)} {out:List Pt},(lf l b i ts out).2.isNil=true->lf l b i ts out=(out++EM l b i ts, .nil)/\∀t∈ts,(fI l b i t).2.isNil=true
 | [],out,_=>⟨by simp [lf,EM],by simp⟩
 | t :: r,out,h=>by
  rw [lf] at h ⊢
  by_cases c:(fI l b i t).2.isNil=true
  ·rw [if_pos c] at h ⊢
   obtain ⟨h1,h2⟩:=Dm h
   refine ⟨by rw [h1];simp [EM],fun u hu => ?_⟩
   rcases List.mem_cons.1 hu with rfl | hu
   ·exact c
   ·exact h2 u hu
  ·rw [if_neg c] at h;exact absurd h c
theorem Dn {l:List (D aA)} {b:List Int}:∀{os:List (D aA)} {i:Nat} {out:List Pt},(kO l b os i out).2.isNil=true->kO l b os i out=(out++sE l b os i, .nil)/\
  ∀k,k < os.length->∀t∈(nth aA os k).2.2.2.1,(fI l b ((i + k:Nat):Int) t).2.isNil=true
 | [],i,out,_=>⟨by simp [kO,sE],fun k hk=>by simp at hk⟩
 | o :: r,i,out,h=>by
  rw [kO] at h ⊢
  unfold lB at h ⊢
  by_cases c:(lf l b i o.2.2.2.1 out).2.isNil=true
  ·rw [if_pos c] at h ⊢
   obtain ⟨h1,h2⟩:=Dm c
   obtain ⟨h3,h4⟩:=Dn h
   refine ⟨by rw [h3,h1];simp [sE],fun k hk => ?_⟩
   rcases k with _ | k
   ·exact h2
   ·have:=h4 k (by simpa using hk)
    rw [show i + 1 + k=i + (k + 1) by omega] at this
    exact this
  ·rw [if_neg c] at h;exact absurd h c
theorem H9 {l:List (D aA)} {b:List Int} (h:(fP (l,b)).2.isNil=true):b.length=l.length/\mB b/\(fP (l,b)).1=sE l b l 0/\∀k,k < l.length->∀t∈(nth aA l k).2.2.2.1,(fI l b (k:Int) t).2.isNil=true:=by
 have h':=h
 unfold fP at h ⊢
 split at h
 ·cases h
 ·rename_i hl
  split at h
  ·rename_i hb
   obtain ⟨h1,h2⟩:=Dn h
   refine ⟨Classical.byContradiction hl,hb,?_,fun k hk t ht=>by have:=h2 k hk t ht;rwa [Nat.zero_add] at this⟩
   rw [if_neg hl,if_pos hb,h1];rfl
  ·cases h
theorem AX {l:List (D aA)} {b:List Int}:∀{os:List (D aA)} {i:Nat} {p:Pt},p∈sE l b os i->∃k t,k < os.length/\t∈(nth aA os k).2.2.2.1/\p=(((i + k:Nat):Int),t.1,(fI l b ((i + k:Nat):Int) t).1,())
 | [],i,p,h=>by simp [sE] at h
 | o :: r,i,p,h=>by
  rcases List.mem_append.1 h with h | h
  ·obtain ⟨t,ht,rfl⟩:=List.mem_map.1 h
   exact ⟨0,t,by simp,ht,rfl⟩
  ·obtain ⟨k,t,hk,ht,rfl⟩:=AX h
   exact ⟨k + 1,t,by simp;omega,ht,by rw [show i + 1 + k=i + (k + 1) by omega]⟩
theorem wh (x:List Int × List (D aU)):Told (cP x).2:=by
 unfold cP
 split
 ·rfl
 ·split
  ·rfl
  ·split <;> rfl
theorem Ia (x:Ws × List Pt):Told (gv x).2:=by
 unfold gv;split <;> rfl
theorem nW {e:aV} (h:Told e):aP (eS e)=e:=by
 cases e with
 | nil=>rfl
 | no m=>
  have h':0 < m:=by have:=h;simpa [Told,s6,eS] using this
  have h2:¬ m=0:=by omega
  show aP m=_
  unfold aP
  rw [if_neg h2]
 | other=>unfold Told at h;simp [s6] at h
theorem AY {e:aV} (h:Told e) (hn:e.isNil=false):0 < eS e:=by
 cases e with
 | nil=>cases hn
 | no m=>
  have h':0 < m:=by have:=h;simpa [Told,s6,eS] using this
  exact h'
 | other=>unfold Told at h;simp [s6] at h
abbrev Rk:=List aF × List (D aA) × List Int × List Pt × Int
noncomputable def aT (rd:Rd) (root:aF):Rk:=
 if ¬ (bA rd root).2.2=0 then ([],[],[],[],(bA rd root).2.2)
 else if (cP (cL (bA rd root).2.1,[])).2.isNil=false then ([],[],[],[],eS (cP (cL (bA rd root).2.1,[])).2)
 else if (fP ((bA rd root).2.1,(cP (cL (bA rd root).2.1,[])).1)).2.isNil=false then ([],[],[],[],eS (fP ((bA rd root).2.1,(cP (cL (bA rd root).2.1,[])).1)).2)
 else ((bA rd root).1,(bA rd root).2.1,(cP (cL (bA rd root).2.1,[])).1,(fP ((bA rd root).2.1,(cP (cL (bA rd root).2.1,[])).1)).1,0)
theorem sF {rd:Rd} {root:aF} (h:¬ (bA rd root).2.2=0):aT rd root=([],[],[],[],(bA rd root).2.2):=by unfold aT;rw [if_pos h]
theorem sG {rd:Rd} {root:aF} (h:(bA rd root).2.2=0) (h1:(cP (cL (bA rd root).2.1,[])).2.isNil=false):aT rd root=([],[],[],[],eS (cP (cL (bA rd root).2.1,[])).2):=by
 unfold aT;rw [if_neg (not_not_intro h),if_pos h1]
theorem wi {rd:Rd} {root:aF} (h:(bA rd root).2.2=0) (h1:(cP (cL (bA rd root).2.1,[])).2.isNil=true) (h2:(fP ((bA rd root).2.1,(cP (cL (bA rd root).2.1,[])).1)).2.isNil=false) :
  aT rd root=([],[],[],[],eS (fP ((bA rd root).2.1,(cP (cL (bA rd root).2.1,[])).1)).2):=by
 unfold aT;rw [if_neg (not_not_intro h),if_neg (by rw [h1];decide),if_pos h2]
theorem tQ {rd:Rd} {root:aF} (h:(bA rd root).2.2=0) (h1:(cP (cL (bA rd root).2.1,[])).2.isNil=true) (h2:(fP ((bA rd root).2.1,(cP (cL (bA rd root).2.1,[])).1)).2.isNil=true) :
  aT rd root=((bA rd root).1,(bA rd root).2.1,(cP (cL (bA rd root).2.1,[])).1,(fP ((bA rd root).2.1,(cP (cL (bA rd root).2.1,[])).1)).1,0):=by
 unfold aT;rw [if_neg (not_not_intro h),if_neg (by rw [h1];decide),if_neg (by rw [h2];decide)]
structure w5 (rd:Rd) (root:aF) (ns:List aF) (os:List (D aA)) (bs:List Int) (ps:List Pt):Prop where
 e:bA rd root=(ns,os,0)
 sc:Scope rd root ns os
 eb:cP (cL os,[])=(bs, .nil)
 ea:fP (os,bs)=(ps, .nil)
 bl:bs.length=os.length
 bi:mB bs
 pt:ps=sE os bs os 0
 one:∀k,k < os.length->∀t∈(nth aA os k).2.2.2.1,(fI os bs (k:Int) t).2.isNil=true
 K8:∀i,i < ps.length->p6 (cQ os) (nth bO ps i)
theorem x9 {e:aV} (h:e.isNil=true):e = .nil:=by cases e <;> first | rfl | cases h
theorem Scope.obj {rd:Rd} {root:aF} {ns:List aF} {os:List (D aA)} (ok:gy rd) (h:Scope rd root ns os) {i:Nat} (hi:i < os.length):jb (nth aA os i):=by
 have:=h.sC i (by rw [<-h.len];exact hi)
 rw [this.2];exact uM ok this.1
theorem jb.Ib {o:D aA} (h:jb o):IX o:=by
 refine ⟨by have:=h.t6;omega,fun i hi => ?_,fun i hi => ?_⟩
 ·have:=(h.sym hi).2;unfold mo at this;unfold Small;omega
 ·have:=h.tie hi
  have a:=this.a
  have w:=this.w
  unfold mo at a w
  unfold Small Word
  omega
theorem Scope.Ib {rd:Rd} {root:aF} {ns:List aF} {os:List (D aA)} (ok:gy rd) (h:Scope rd root ns os):gX os:=⟨by have:=h.le;have:=h.len;omega,fun _ hi=>(h.obj ok hi).Ib⟩
theorem Gv {a n:Int} (h:a<=n - 1):a < n:=by omega
theorem Cj {o:D aA} (h:cD o=0):eY o.2.1.length [] o.2.2.1=0/\iR o.2.1.length none o.2.2.2.1=0:=by
 unfold cD at h
 split at h
 ·cases h
 ·split at h
  ·rename_i h1;exact absurd h h1
  ·split at h
   ·rename_i h2;exact absurd h h2
   ·split at h
    ·rename_i h3;exact absurd h h3
    ·rename_i h3;exact ⟨Classical.byContradiction h3,h⟩
theorem EN {o:D aA} (h:cD o=0) {t:D aR} (ht:t∈o.2.2.2.1):0<=t.1/\t.1 < (o.2.1.length:Int):=by
 obtain ⟨p,hp⟩:=qU _ _ _ (Cj h).2 t ht
 obtain ⟨⟨a,b⟩,_⟩:=xW hp
 exact ⟨a,Gv b⟩
theorem Scope.fault {rd:Rd} {root:aF} {ns:List aF} {os:List (D aA)} (ok:gy rd) (h:Scope rd root ns os) {i:Nat} (hi:i < os.length):cD (nth aA os i)=0:=by
 have:=h.sC i (by rw [<-h.len];exact hi)
 rw [this.2];exact qX (gK ok this.1).2
theorem oI {rd:Rd} (ok:gy rd) (root:aF):(∃f,0 < f/\aT rd root=([],[],[],[],f))\/(∃ns os bs ps,aT rd root=(ns,os,bs,ps,0)/\w5 rd root ns os bs ps):=by
 rcases tN ok root with ⟨f,hf,e⟩ | ⟨ns,os,e,sc⟩
 ·exact .inl ⟨f,hf,by rw [sF (by rw [e];simp only;omega),e]⟩
 ·have e0:(bA rd root).2.2=0:=by rw [e]
  have e1:(bA rd root).2.1=os:=by rw [e]
  have e2:(bA rd root).1=ns:=by rw [e]
  cases hb:(cP (cL os,[])).2.isNil with
  | false=>exact .inl ⟨_,AY (wh _) hb,by rw [sG e0 (by rw [e1];exact hb),e1]⟩
  | true=>
   cases ha:(fP (os,(cP (cL os,[])).1)).2.isNil with
   | false=>exact .inl ⟨_,AY (AA _) ha,by rw [wi e0 (by rw [e1];exact hb) (by rw [e1];exact ha),e1]⟩
   | true=>
    obtain ⟨a1,a2,a3,a4⟩:=H9 ha
    refine .inr ⟨ns,os,_,_,by rw [tQ e0 (by rw [e1];exact hb) (by rw [e1];exact ha),e1,e2],e,sc,Prod.ext rfl (x9 hb),Prod.ext rfl (x9 ha),a1,a2,a3,a4,fun i hi => ?_⟩
    obtain ⟨k,t,hk,ht,hp⟩:=AX (by rw [<-a3];exact fZ (t:=bO) hi)
    rw [hp]
    have:=EN (sc.fault ok hk) ht
    refine ⟨by simp only;omega,by simp only;rw [mw];omega,this.1,?_⟩
    simp only [Nat.zero_add]
    rw [show ((k:Int)).toNat=k from rfl,wg hk]
    exact this.2
def im (ns:List aF) (bs:List Int) (w:Ws) (n:Nat):List (D hP):=(List.range n).map fun i=>(nth .str ns i,nth (.int .i64) bs i,nth gu w i,())
theorem EO (ns:List aF) (bs:List Int) (w:Ws) (n:Nat):(im ns bs w n).length=n:=by simp [im]
theorem tR (ns:List aF) (bs:List Int) (w:Ws) (n:Nat):im ns bs w (n + 1)=im ns bs w n++[(nth .str ns n,nth (.int .i64) bs n,nth gu w n,())]:=by simp [im,List.range_succ]
noncomputable def gV (ns:List aF) (bs:List Int) (os:List (D aA)) (ps:List Pt):List (D hP) × aV:=
 if ¬ ns.length=os.length\/¬ bs.length=os.length then ([], .no 3)
 else if (gv (cQ os,ps)).2.isNil=false then ([],(gv (cQ os,ps)).2)
 else (im ns bs (gv (cQ os,ps)).1 os.length, .nil)
theorem wj {ns:List aF} {bs:List Int} {os:List (D aA)} {ps:List Pt} (h:¬ ns.length=os.length\/¬ bs.length=os.length):gV ns bs os ps=([], .no 3):=by unfold gV;rw [if_pos h]
theorem Ic {ns:List aF} {bs:List Int} {os:List (D aA)} {ps:List Pt} (h:ns.length=os.length) (h':bs.length=os.length) (hp:(gv (cQ os,ps)).2.isNil=false):gV ns bs os ps=([],(gv (cQ os,ps)).2):=by
 unfold gV;rw [if_neg (by rintro (e | e);exact e h;exact e h'),if_pos hp]
theorem Dp {ns:List aF} {bs:List Int} {os:List (D aA)} {ps:List Pt} (h:ns.length=os.length) (h':bs.length=os.length) (hp:(gv (cQ os,ps)).2.isNil=true):gV ns bs os ps=(im ns bs (gv (cQ os,ps)).1 os.length, .nil):=by
 unfold gV;rw [if_neg (by rintro (e | e);exact e h;exact e h'),if_neg (by rw [hp];decide)]
theorem AZ (ns:List aF) (bs:List Int) (os:List (D aA)) (ps:List Pt):Told (gV ns bs os ps).2:=by
 unfold gV;split
 ·rfl
 ·split
  ·exact Ia _
  ·rfl
noncomputable def jg (rd:Rd) (root:aF):List (D hP) × Int:=
 if ¬ (aT rd root).2.2.2.2=0 then ([],(aT rd root).2.2.2.2)
 else ((gV (aT rd root).1 (aT rd root).2.2.1 (aT rd root).2.1 (aT rd root).2.2.2.1).1,eS (gV (aT rd root).1 (aT rd root).2.2.1 (aT rd root).2.1 (aT rd root).2.2.2.1).2)
theorem Ie {rd:Rd} {root:aF} (h:¬ (aT rd root).2.2.2.2=0):jg rd root=([],(aT rd root).2.2.2.2):=by unfold jg;rw [if_pos h]
end Go.Mrl

namespace Go.Mrl
open Go.Vg
def K0 (p:D hP) (a:Int):Prop:=(p.2.1:Int)<=a/\a < (p.2.1:Int) + (p.2.2.1.length:Int)
instance (p:D hP) (a:Int):Decidable (K0 p a):=inferInstanceAs (Decidable (_/\_))
theorem Gw {rd:Rd} (ok:gy rd) {root:aF} (h:(bA rd root).2.2=0):(bA rd root).2.1.length<=6:=by
 have:=(uN ok h).le;have:=(uN ok h).len;omega
theorem EP {rd:Rd} (ok:gy rd) {root:aF} (h:(bA rd root).2.2=0):gX (bA rd root).2.1:=(uN ok h).Ib ok
theorem Jx {l:List (D aA)} (h:l.length<=1000/\∀i,i < l.length->(nth aA l i).2.1.length<=1000) :
  (cQ l).length<=100000/\∀i,i < (cQ l).length->(nth gu (cQ l) i).length<=100000000:=by
 refine ⟨by rw [mw];omega,fun i hi => ?_⟩
 rw [mw] at hi
 rw [wg hi];have:=h.2 i hi;omega
theorem ER {rd:Rd} (ok:gy rd) {root:aF} {ns:List aF} {os:List (D aA)} (h:Scope rd root ns os):os.length<=1000/\∀i,i < os.length->(nth aA os i).2.1.length<=1000:=by
 refine ⟨by have:=h.le;have:=h.len;omega,fun i hi => ?_⟩
 exact Nat.le_trans (h.obj ok hi).Kk (by decide)
theorem A0 {rd:Rd} (ok:gy rd) {root:aF} (h:(aT rd root).2.2.2.2=0) :
  (aT rd root).2.1.length<=1000/\∀i,i < (aT rd root).2.1.length->(nth aA (aT rd root).2.1 i).2.1.length<=1000:=by
 rcases oI ok root with ⟨f,hf,e⟩ | ⟨ns,os,bs,ps,e,hr⟩
 ·rw [e] at h;simp at h;omega
 ·rw [e];exact ER ok hr.sc
theorem Ig {rd:Rd} {root:aF} (h:(aT rd root).2.2.2.2=0) :
  ((gV (aT rd root).1 (aT rd root).2.2.1 (aT rd root).2.1 (aT rd root).2.2.2.1).1,(gV (aT rd root).1 (aT rd root).2.2.1 (aT rd root).2.1 (aT rd root).2.2.2.1).2,()) =
   ((jg rd root).1,aP (jg rd root).2,()):=by
 unfold jg;rw [if_neg (not_not_intro h)]
 simp only [nW (AZ _ _ _ _)]
theorem iU {f:Int} (h:(aP f).isNil=false):¬ f=0:=fun e=>by rw [aZ.2 e] at h;cases h
theorem Ih (x:List (D aA) × List Int):aP (eS (fP x).2)=(fP x).2:=nW (AA x)
theorem uO {α:Type} {l:List α} {i:Nat} (h:¬ i < l.length):l.take i=l:=List.take_of_length_le (by omega)
end Go.Mrl

namespace Go.Mrl
open Go.Vg
section
variable {o:D aA} {b:Bool} {w:List aF} {k:Nat}
end
theorem eT {k n:Nat} (h:(k:Int) < (n:Int)):(decide ((k:Int) < 3))=true ↔ ((k:Int) < (n:Int)/\(k:Int) < 3):=by
 rw [decide_eq_true_eq];omega
end Go.Mrl

namespace Go.Mrl
open Go.Vg
def bU (rd:Rd) (ns:List aF) (bs:List Int) (n:Nat):List (D aJ):=(List.range n).map fun i=>(nth .str ns i,(rd (nth .str ns i)).2.1,nth (.int .i64) bs i,())
theorem fJ (rd:Rd) (ns:List aF) (bs:List Int) (n:Nat):(bU rd ns bs n).length=n:=by simp [bU]
theorem sH (rd:Rd) (ns:List aF) (bs:List Int) (n:Nat):bU rd ns bs (n + 1)=bU rd ns bs n++[(nth .str ns n,(rd (nth .str ns n)).2.1,nth (.int .i64) bs n,())]:=by simp [bU,List.range_succ]
theorem iZ {rd:Rd} {ns:List aF} {bs:List Int} {n i:Nat} (h:i < n):nth aJ (bU rd ns bs n) i=(nth .str ns i,(rd (nth .str ns i)).2.1,nth (.int .i64) bs i,()):=by
 apply gF;simp [bU,h]
noncomputable def dV (rd:Rd) (root:aF):D bK × Int:=
 if ¬ (aT rd root).2.2.2.2=0 then (cB bK,(aT rd root).2.2.2.2)
 else ((root,bU rd (aT rd root).1 (aT rd root).2.2.1 (aT rd root).1.length,(aT rd root).2.2.2.1,()),0)
theorem A4 {rd:Rd} {root:aF} (h:¬ (aT rd root).2.2.2.2=0):dV rd root=(cB bK,(aT rd root).2.2.2.2):=by unfold dV;rw [if_pos h]
theorem Dq {rd:Rd} {root:aF} (h:(aT rd root).2.2.2.2=0):dV rd root=((root,bU rd (aT rd root).1 (aT rd root).2.2.1 (aT rd root).1.length,(aT rd root).2.2.2.1,()),0):=by
 unfold dV;rw [if_neg (not_not_intro h)]
theorem ES {rd:Rd} (ok:gy rd) (root:aF):(∃f,0 < f/\aT rd root=([],[],[],[],f)/\dV rd root=(cB bK,f))\/
  (∃ns os bs ps,aT rd root=(ns,os,bs,ps,0)/\w5 rd root ns os bs ps/\dV rd root=((root,bU rd ns bs ns.length,ps,()),0)):=by
 rcases oI ok root with ⟨f,hf,e⟩ | ⟨ns,os,bs,ps,e,h⟩
 ·exact .inl ⟨f,hf,e,by rw [A4 (by rw [e];simp only;omega),e]⟩
 ·exact .inr ⟨ns,os,bs,ps,e,h,by rw [Dq (by rw [e]),e]⟩
def fC (rd:Rd) (p:D aJ):Bool:=decide ((rd p.1).2.2=0) && decide ((rd p.1).2.1=p.2.1)
def dP (rd:Rd) (e:D bK):Bool:=e.2.1.all (fC rd) && decide (0 < e.2.1.length)
theorem uP {rd:Rd} {e:D bK} {i:Nat} (h:i < e.2.1.length) (hf:fC rd (nth aJ e.2.1 i)=false):dP rd e=false:=by
 unfold dP
 have:e.2.1.all (fC rd)=false:=List.all_eq_false.2 ⟨_,fZ (t:=aJ) h,by rw [hf];decide⟩
 rw [this];rfl
theorem ya {rd:Rd} {e:D bK} (h:∀i,i < e.2.1.length->fC rd (nth aJ e.2.1 i)=true):dP rd e=decide (0 < e.2.1.length):=by
 unfold dP
 have:e.2.1.all (fC rd)=true:=List.all_eq_true.2 fun x hx=>by
  obtain ⟨i,hi,rfl⟩:=kH (t:=aJ) hx
  exact h i hi
 rw [this];rfl
theorem Gx {rd:Rd} {e:D bK} (h:dP rd e=true):0 < e.2.1.length/\∀i,i < e.2.1.length->(rd (nth aJ e.2.1 i).1).2.2=0/\(rd (nth aJ e.2.1 i).1).2.1=(nth aJ e.2.1 i).2.1:=by
 unfold dP at h
 rw [Bool.and_eq_true,List.all_eq_true,decide_eq_true_eq] at h
 refine ⟨h.2,fun i hi => ?_⟩
 have:=h.1 _ (fZ (t:=aJ) hi)
 unfold fC at this
 rw [Bool.and_eq_true,decide_eq_true_eq,decide_eq_true_eq] at this
 exact this
noncomputable def my (rd:Rd):List (D aJ)->Int
 | []=>0
 | p :: r=>if (bX (rd p.1).1).2=0 then my rd r else (bX (rd p.1).1).2
noncomputable def eO (rd:Rd) (l:List (D aJ)):List (D aA):=l.map fun p=>(bX (rd p.1).1).1
def eV (l:List (D aJ)):List aF:=l.map fun p=>p.1
def eW (l:List (D aJ)):List Int:=l.map fun p=>p.2.2.1
theorem A5 {rd:Rd}:∀{l:List (D aJ)} {i:Nat},(∀j,j < i->(bX (rd (nth aJ l j).1).1).2=0)->i < l.length->¬ (bX (rd (nth aJ l i).1).1).2=0->my rd l=(bX (rd (nth aJ l i).1).1).2
 | [],i,_,h,_=>by simp at h
 | p :: r,0,_,_,h=>by unfold my;rw [if_neg (show ¬ (bX (rd p.1).1).2=0 from h)];rfl
 | p :: r,i + 1,h,h1,h2=>by
  unfold my
  rw [if_pos (show (bX (rd p.1).1).2=0 from h 0 (by omega))]
  exact A5 (l:=r) (i:=i) (fun j hj=>h (j + 1) (by omega)) (by simpa using h1) h2
theorem wk {rd:Rd}:∀{l:List (D aJ)},(∀j,j < l.length->(bX (rd (nth aJ l j).1).1).2=0)->my rd l=0
 | [],_=>rfl
 | p :: r,h=>by
  unfold my
  rw [if_pos (show (bX (rd p.1).1).2=0 from h 0 (by simp))]
  exact wk (l:=r) fun j hj=>h (j + 1) (by simpa using hj)
noncomputable def mz (rd:Rd) (e:D bK):List (D hP) × Int:=
 if dP rd e=false then ([],10)
 else if ¬ my rd e.2.1=0 then ([],my rd e.2.1)
 else ((gV (eV e.2.1) (eW e.2.1) (eO rd e.2.1) e.2.2.1).1,eS (gV (eV e.2.1) (eW e.2.1) (eO rd e.2.1) e.2.2.1).2)
theorem sJ {rd:Rd} {e:D bK} (h:dP rd e=false):mz rd e=([],10):=by unfold mz;rw [if_pos h]
theorem Jy {rd:Rd} {e:D bK} (h:dP rd e=true) {f:Int} (hb:my rd e.2.1=f) (h0:¬ f=0):mz rd e=([],f):=by
 unfold mz;rw [if_neg (by rw [h];decide),if_pos (by rw [hb];exact h0),hb]
theorem Kq {rd:Rd} {e:D bK} (h:dP rd e=true) (hb:my rd e.2.1=0) :
  mz rd e=((gV (eV e.2.1) (eW e.2.1) (eO rd e.2.1) e.2.2.1).1,eS (gV (eV e.2.1) (eW e.2.1) (eO rd e.2.1) e.2.2.1).2):=by
 unfold mz;rw [if_neg (by rw [h];decide),if_neg (not_not_intro hb)]
theorem w5.fresh {rd:Rd} (ok:gy rd) {root:aF} {ns:List aF} {os:List (D aA)} {bs:List Int} {ps:List Pt} (h:w5 rd root ns os bs ps):dP rd (root,bU rd ns bs ns.length,ps,())=true:=by
 rw [ya]
 ·exact decide_eq_true (by show 0 < (bU rd ns bs ns.length).length;rw [fJ];exact h.sc.pos)
 ·intro i hi
  have hi:i < ns.length:=by have:i < (bU rd ns bs ns.length).length:=hi;rwa [fJ] at this
  show fC rd (nth aJ (bU rd ns bs ns.length) i)=true
  rw [iZ hi]
  unfold fC
  rw [decide_eq_true (gK ok (h.sc.sC i hi).1).1,decide_eq_true rfl];rfl
def I0 (e:D bK):Prop:=e.2.1.length < 1\/e.2.1.length > 6\/e.2.2.1.length > 36
instance (e:D bK):Decidable (I0 e):=by unfold I0;infer_instance
end Go.Mrl

namespace Go.Mrl
open Go.Vg
end Go.Mrl

namespace Go.Mrl
open Go.Vg
end Go.Mrl

namespace Go.Mrl
open Go.Vg
theorem Gy {rd:Rd} {root:aF} {ns:List aF} {os:List (D aA)} {bs:List Int} {ps:List Pt} {w:Ws} (h:bA rd root=(ns,os,0)) (hb:cP (cL os,[])=(bs, .nil)) (ha:fP (os,bs)=(ps, .nil))
  (hn:ns.length=os.length) (hl:bs.length=os.length) (hp:∀i,i < ps.length->p6 (cQ os) (nth bO ps i)) (hw:kQ (cQ os) ps=w):jg rd root=(im ns bs w os.length,0):=by
 have e:aT rd root=(ns,os,bs,ps,0):=by
  unfold aT
  rw [h]
  simp only [hb,ha,aV.isNil]
  rfl
 unfold jg
 rw [e,if_neg (by simp)]
 have hq:gv (cQ os,ps)=(w, .nil):=by rw [wV hp,hw]
 simp only
 rw [Dp hn hl (by rw [hq];rfl),hq]
 rfl
def uQ:aF:=[110,101,101,100,32,98,10,119,111,114,100,32,48,10,119,104,111,108,101,32,48,32,48,32,120,10]
def w6:aF:=[119,111,114,100,32,55,10,115,121,109,98,111,108,32,120,32,48,10]
abbrev kL:D aA:=([[98]],[0],[],[(0,2,0,[120],false,())],())
abbrev mZ:D aA:=([],[7],[([120],0,false,())],[],())
theorem I1:bX uQ=(kL,0):=by
 have i0:Lib.itoa 0 = [48]:=by rw [uF (by decide) (by decide)];rfl
 refine th (by decide) (by decide) ?_
 simp only [fE,gw,kq,ko,lO,qT,pa,pG,fD,List.length_singleton,List.length_nil,List.take_succ_cons,List.take_zero,List.flatMap_cons,List.flatMap_nil,i0]
 decide
theorem I2:bX w6=(mZ,0):=by
 have i7:Lib.itoa 7 = [55]:=by rw [uF (by decide) (by decide)];rfl
 have i0:Lib.itoa 0 = [48]:=by rw [uF (by decide) (by decide)];rfl
 refine th (by decide) (by decide) ?_
 simp only [fE,gw,kq,ko,lO,pa,uG,fD,List.length_singleton,List.length_nil,List.take_succ_cons,List.take_zero,List.flatMap_cons,List.flatMap_nil,i7,i0]
 decide
def K2:bM:=(bF nU [97] uQ).1
def wm:bM:=(bF K2 [98] w6).1
theorem Kr:aH wm [97]=(uQ,1,0):=by decide
theorem Ks:aH wm [98]=(w6,2,0):=by decide
theorem KM:bA (aH wm) [97]=([[97],[98]],[kL,mZ],0):=by
 have fa:dI (aH wm) [97]=0:=by unfold dI;rw [Kr];show (if (0:Int)=0 then (bX uQ).2 else 0)=0;rw [I1];rfl
 have fb:dI (aH wm) [98]=0:=by unfold dI;rw [Ks];show (if (0:Int)=0 then (bX w6).2 else 0)=0;rw [I2];rfl
 have oa:iv (aH wm) [97]=kL:=by unfold iv;rw [Kr];show (bX uQ).1=kL;rw [I1]
 have ob:iv (aH wm) [98]=mZ:=by unfold iv;rw [Ks];show (bX w6).1=mZ;rw [I2]
 have n0:nth .str [[97]] 0 = [97]:=rfl
 have n1:nth .str [[97],[98]] 1 = [98]:=rfl
 have a0:dX [[97]] kL.1 = [[97],[98]]:=by decide
 have a1:dX [[97],[98]] mZ.1 = [[97],[98]]:=by decide
 unfold bA
 rw [lj,if_pos (by decide),n0,if_pos fa,oa,a0,lj,if_pos (by decide),n1,if_pos fb,ob,a1,lj,if_neg (by decide)]
 rfl
theorem Jz:cM ([kL,mZ],[120])=(1,0):=by
 refine oA (i:=1) (k:=0) ⟨⟨by decide,by decide,rfl,rfl⟩,?_⟩
 rintro i k (h | ⟨_,h⟩) ⟨_,h1,_,h2⟩
 ·obtain rfl:i=0:=by omega
  exact absurd (show k < 0 from h1) (Nat.not_lt_zero _)
 ·omega
theorem JA:jg (aH wm) [97]=([([97],0,[16],()),([98],16,[7],())],0):=by
 refine Gy KM (bs:=[0,16]) (ps:=[(0,0,16,())]) (w:=[[16],[7]]) rfl ?_ rfl rfl ?_ rfl
 ·rw [wW rfl (by
   intro i hi
   have:i=0\/i=1:=by simp at hi;omega
   rcases this with rfl | rfl <;> simp [nth])]
  have h1:fI [kL,mZ] [0,16] 0 (0,2,0,[120],false,())=(16, .nil):=by
   have ht:dH [kL,mZ] [0,16] (0,2,0,[120],false,())=(16, .nil):=by
    unfold dH
    show (if 0<=(cM ([kL,mZ],[120])).1 then (mi [0,16] (cM ([kL,mZ],[120])).1.toNat + (nth aI (nth aA [kL,mZ] (cM ([kL,mZ],[120])).1.toNat).2.2.1 (cM ([kL,mZ],[120])).2.toNat).2.1,aV.nil) else _)=_
    rw [Jz];rfl
   rw [p7 (by decide) (by rw [ht];rfl),ht]
   exact wX (by decide) rfl (by decide)
  simp [kO,lf,lB,h1,aV.isNil]
 ·intro i hi
  obtain rfl:i=0:=by simp at hi;omega
  unfold p6;decide
def Gz:bM:=((0 + 1 + 1,()),(dA cH (dA cH [] [97] (uQ,0 + 1,()) 0) [98] (w6,0 + 1 + 1,()) (jy cH [] [97] 0),jy cH (dA cH [] [97] (uQ,0 + 1,()) 0) [98] (jy cH [] [97] 0),()),())
theorem KN:wm=Gz:=rfl
theorem uR:jg (aH Gz) [97]=([([97],0,[16],()),([98],16,[7],())],0):=by rw [<-KN];exact JA
end Go.Mrl

namespace Go.Mrl
open Go.Vg
theorem cE.ok {x:bM} (h:cE x):gy (aH x):=gL h.pre.1
end Go.Mrl

namespace Go.Mrl
open Go.Vg
theorem yb {rd:Rd} (ok:gy rd) {s:aF} (h:(aT rd s).2.2.2.2=0):w5 rd s (aT rd s).1 (aT rd s).2.1 (aT rd s).2.2.1 (aT rd s).2.2.2.1:=by
 rcases oI ok s with ⟨f,hf,e⟩ | ⟨ns,os,bs,ps,e,hr⟩
 ·rw [e] at h;exact absurd (show f=0 from h) (by omega)
 ·rw [e];exact hr
theorem GA {rd:Rd} (ok:gy rd) {s:aF} (h:(aT rd s).2.2.2.2=0) {i:Nat} (hi:i < (aT rd s).1.length):(rd (nth .str (aT rd s).1 i)).2.2=0:=
 (gK ok ((yb ok h).sc.sC i hi).1).1
theorem yc {rd:Rd} (ok:gy rd) {s:aF} (h:(aT rd s).2.2.2.2=0):(aT rd s).2.2.1.length=(aT rd s).1.length/\(aT rd s).1.length<=6:=by
 have hr:=yb ok h
 exact ⟨by rw [hr.bl,hr.sc.len],hr.sc.le⟩
theorem tS {l:List (D aJ)} {i:Nat} (h:i < l.length):eV (l.take i)++[(nth aJ l i).1]=eV (l.take (i + 1)):=by rw [iO (t:=aJ) h];simp [eV]
theorem tT {l:List (D aJ)} {i:Nat} (h:i < l.length):eW (l.take i)++[(nth aJ l i).2.2.1]=eW (l.take (i + 1)):=by rw [iO (t:=aJ) h];simp [eW]
theorem wo {rd:Rd} {l:List (D aJ)} {i:Nat} (h:i < l.length):eO rd (l.take i)++[(bX (rd (nth aJ l i).1).1).1]=eO rd (l.take (i + 1)):=by rw [iO (t:=aJ) h];simp [eO]
theorem GB {rd:Rd} {l:List (D aJ)} (hl:l.length<=1000) (h:∀j,j < l.length->(bX (rd (nth aJ l j).1).1).2=0) :
  (eO rd l).length<=1000/\∀i,i < (eO rd l).length->(nth aA (eO rd l) i).2.1.length<=1000:=by
 have e:(eO rd l).length=l.length:=by simp [eO]
 refine ⟨by omega,fun i hi => ?_⟩
 have hi':i < l.length:=by omega
 rw [show nth aA (eO rd l) i=(bX (rd (nth aJ l i).1).1).1 from Dl (t:=aA) (u:=aJ) hi']
 exact Nat.le_trans (kr (qX (h i hi'))).Kk (by decide)
theorem GC {rd:Rd} {p:D aJ} (h:(aP (rd p.1).2.2).isNil=false):fC rd p=false:=by
 unfold fC;rw [decide_eq_false (iU h)];rfl
theorem wq {rd:Rd} {p:D aJ} (h:¬ (rd p.1).2.1=p.2.1):fC rd p=false:=by
 unfold fC;rw [decide_eq_false h,Bool.and_false]
theorem ET {rd:Rd} {p:D aJ} (h:(aP (rd p.1).2.2).isNil=true) (h2:(rd p.1).2.1=p.2.1):fC rd p=true:=by
 unfold fC;rw [decide_eq_true (aZ.1 h),decide_eq_true h2];rfl
theorem Ii {rd:Rd} {e:D bK} (h:dP rd e=true) (hb:my rd e.2.1=0) :
  ((gV (eV e.2.1) (eW e.2.1) (eO rd e.2.1) e.2.2.1).1,(gV (eV e.2.1) (eW e.2.1) (eO rd e.2.1) e.2.2.1).2,())=((mz rd e).1,aP (mz rd e).2,()):=by
 rw [Kq h hb];simp only [nW (AZ _ _ _ _)]
end Go.Mrl

namespace Go.Vg
open Go
theorem Ck {H:Type} {enc:TypeId × Value->H} {a:Assume} {C:Checked} {os:Os} {f:FuncId} {fn:Func} {s:ChangeSpec} {conds:List PathCond} {apart fresh handsOn again:Bool} {X:World->Array Value->Prop}
  (hX:∀(w w':World) (args:Array Value),w.heap=w'.heap->X w args->X w' args)
  (own:ownKnob C.prog.godebug=none) (started:os.Started) (noInit:C.prog.inits.idxOf? f=none) (hfn:C.prog.funcs[f]?=some fn)
  (witness:∃(w:World) (tape:Tape) (i:Input),w.os=os/\(w.forCall tape i).Shaped C.prog/\i.vars = []/\Input.okWide C.prog (w.forCall tape i) .any w.heap.size f i/\
   ((s.pre enc C.prog fn conds apart (w.forCall tape i).memory i.args/\X (w.forCall tape i).memory i.args)/\sizedMet enc C.prog fn (OpenSpec.ofChange s) apart (w.forCall tape i).memory i.args)/\a.holds C.prog (lone (Frame.enter C.prog f i.args .normal) [] (w.forCall tape i)))
  (contract:∀(W:World) (base:Nat) (args:Array Value) (ds gs:List (DataW H)) (before:List MemPlace),
   (∀(j:Nat) t v,fn.params[j]?=some t->args[j]?=some v->Value.okWide C.prog W .any base t v)->
   DataW.Whole enc C.prog fn.params.toList s.vars apart W args.toList ds gs before->
   X W args->W.ShapedOpen C.prog->
   Calls C.prog f args W fun e W'=>∃v,e = .returned v/\s.post enc C.prog fn apart fresh handsOn again W args v W') :
  ReturnsInHanded a C os f .any (fun w args=>(s.pre enc C.prog fn conds apart w args/\X w args)/\sizedMet enc C.prog fn (OpenSpec.ofChange s) apart w args) (s.post enc C.prog fn apart fresh handsOn again):=by
 refine returnsInHanded_of_calls own started noInit witness ?_
 intro w tape i _ hsh _ hok hpre hholds
 obtain ⟨_,_,_,fn',hfn',_,_,_,_,hval⟩:=hok
 have e:fn'=fn:=Option.some.inj (hfn'.symm.trans hfn)
 subst e
 obtain ⟨⟨⟨ds,gs,before,hw,hc⟩,hx⟩,hz⟩:=hpre
 have hw':=DataW.Whole.of_heap (w':=w.forCall tape i) (by rfl) hw
 refine (contract (w.forCall tape i) w.heap.size i.args ds gs before hval hw' (hX _ _ _ (by rfl) hx) hsh).mono fun e W' ⟨v,he,hp⟩ => ?_
 subst he
 exact ChangeSpec.post_blind hp
theorem A6 {P:Program} {w:World} {g:Nat} {t:TypeId} {zero:Array Value} (h:w.ShapedOpen P) (hg:g < P.globals.size)
  (h0:((begin P (fun _ _=>0) default).world.heap[g]?).bind Obj.row?=some (zero,t)) (hz:zero.size=1)
  (hb:P.buildable t=true) (hc:P.cellTypes P.depth t=some [t]) (hu:P.underlying t=some (.int .i64)):∃m,w.cell? ⟨g,0,none⟩=some (.int .i64 m):=by
 obtain ⟨cs,hh,hs,hr⟩:=h.1 g zero t hg h0
 obtain ⟨ts,hts,_,hall⟩:=hr hb
 rw [hc] at hts
 cases hts
 have h1:0 < cs.size:=by omega
 obtain ⟨u,hu',hok⟩:=hall 0 cs[0] (by simp [h1])
 have:u=t:=by simpa using hu'.symm
 subst this
 have hcell:w.cell? ⟨g,0,none⟩=some cs[0]:=by simp [World.cell?,hh,h1]
 rw [hcell]
 unfold Cell.ok at hok
 rw [hu] at hok
 cases hv:cs[0] <;> rw [hv] at hok <;> first | exact hok.elim | (obtain ⟨rfl,_⟩:=hok;exact ⟨_,rfl⟩) | simp at hok
def I3:Option TypeDesc->Bool
 | some (.interface _)=>true
 | _=>false
theorem qd {P:Program} {W:World} {name nm:String} {d:DataW Unit} {g:Nat} {t:TypeId}
  (hg:P.globalNamed name=some g) (hty:(P.globals[g]?).map (·.type)=some t) (hi:I3 (P.underlying t)=true)
  (h:Lib.VarReads P W name (.iface nm d)):∃ev,W.cell? ⟨g,0,none⟩=some ev/\(ev = .nilIface\/∃te pe,ev = .iface te pe):=by
 obtain ⟨g',t',cs,fuel,p,hg',ht',hvar,hd⟩:=h
 obtain rfl:=Option.some.inj (hg.symm.trans hg')
 obtain rfl:=Option.some.inj (hty.symm.trans ht')
 have hc:=World.var?_cell hg hvar 0
 obtain ⟨ms,hu⟩:∃ms,P.underlying t=some (.interface ms):=by
  unfold I3 at hi
  split at hi
  ·rename_i ms hm;exact ⟨ms,hm⟩
  ·cases hi
 cases fuel with
 | zero=>simp [DataW.trod] at hd
 | succ n=>
  cases hl:cs.toList with
  | nil=>rw [hl] at hd;simp [DataW.trod,hu] at hd
  | cons v r=>
   have h0:cs[0]?=some v:=by rw [<-Array.getElem?_toList,hl];rfl
   rw [h0] at hc
   refine ⟨v,hc,?_⟩
   rw [hl] at hd
   cases v <;> first | exact .inl rfl | exact .inr ⟨_,_,rfl⟩ | (simp [DataW.trod,hu] at hd)
theorem A7 {P:Program} {W:World} {name:String} {k:IntKind} {zs:List Int} {g:Nat} {t e:TypeId} {n:Nat}
  (hg:P.globalNamed name=some g) (hty:(P.globals[g]?).map (·.type)=some t) (ht:P.underlying t=some (.array n e)) (he:P.underlying e=some (.int k)) (hce:P.cellsOf e=1) (hct:P.cellsOf t=n)
  (h:Lib.VarReads P W name (Lib.tabData k zs)):Lib.TabIs P W name k zs:=by
 obtain ⟨g',t',cs,fuel,p,hg',ht',hvar,hd⟩:=h
 obtain rfl:=Option.some.inj (hg.symm.trans hg')
 obtain rfl:=Option.some.inj (hty.symm.trans ht')
 unfold Lib.TabIs
 rw [hvar,<-Lib.cells_of_tab ht he hce hct hd]
end Go.Vg

namespace Go.Mrl
open Go.Vg
structure aG (x:bM):Prop where
 st:cE x
 GD:∀y∈x.2.1.1,aK y.1=0/\y.2.1.1.length<=1200/\1<=y.2.1.2.1
theorem aG.new:aG nU:=⟨.new,fun y hy=>by simp [nU] at hy⟩
theorem A8 {s:aF} {v:aF × Int × Unit} {c:Int}:∀{es:List FE} {y:FE},y∈dA cH es s v c->(y.1=s/\y.2.1=v)\/y∈es
 | [],y,h=>by simp [dA] at h;subst h;exact .inl ⟨rfl,rfl⟩
 | z :: r,y,h=>by
  unfold dA at h
  split at h
  ·rcases List.mem_cons.1 h with rfl | h
   ·exact .inl ⟨rfl,rfl⟩
   ·exact .inr (by simp [h])
  ·rcases List.mem_cons.1 h with rfl | h
   ·exact .inr (by simp)
   ·rcases A8 h with h | h
    ·exact .inl h
    ·exact .inr (by simp [h])
theorem A9 {x:bM} {s t:aF} (h:(bF x s t).2=0):aK s=0/\t.length<=1200/\¬ x.1.1=1000000:=by
 unfold bF at h
 split at h
 ·rename_i h1;exact absurd h h1
 ·rename_i h1
  split at h
  ·simp at h
  ·rename_i h2
   split at h
   ·simp at h
   ·rename_i h3
    exact ⟨by simpa using h1,by omega,fun e=>h3 (.inr e)⟩
theorem cE.pos {x:bM} (h:cE x):0<=x.1.1:=h.pre.2.1
theorem aG.write {x:bM} (h:aG x) (s t:aF):aG (bF x s t).1:=by
 refine ⟨(h.st.write s t).1,?_⟩
 rcases gU x s t with ⟨e,_⟩ | ⟨e,e2⟩
 ·rw [e];exact h.GD
 ·rw [e]
  intro y hy
  obtain ⟨k1,k2,_⟩:=A9 e2
  rcases A8 hy with ⟨h1,h2⟩ | hy
  ·rw [h1,h2];exact ⟨k1,k2,by have:=h.st.pos;show (1:Int)<=x.1.1 + 1;omega⟩
  ·exact h.GD y hy
theorem aG.remove {x:bM} (h:aG x) (s:aF):aG (dG x s).1:=by
 refine ⟨(h.st.remove s).1,?_⟩
 cases c:cI cH x.2.1.1 s with
 | false=>rw [lg c];exact h.GD
 | true=>rw [ik c];exact fun y hy=>h.GD y (mR.subset hy)
theorem aG.gQ {x:bM} (h:aG x) (a:D cJ):aG (gQ x a):=by
 unfold Mrl.gQ
 split
 ·exact h.write _ _
 ·split
  ·exact h.remove _
  ·exact h
theorem aG.done:∀(l:List (D cJ)) {x:bM},aG x->aG (bC x l)
 | [],_,h=>h
 | a :: l,_,h=>aG.done l (h.gQ a)
theorem aG.ok {x:bM} (h:aG x):gy (aH x):=h.st.ok
theorem aG.read {x:bM} (h:aG x) {s:aF} (hn:(aH x s).2.2=0):aK s=0/\(aH x s).1.length<=1200/\1<=(aH x s).2.1/\(aH x s).2.1<=x.1.1:=by
 refine ⟨?_,?_,?_,En h.st (aZ.2 hn)⟩
 all_goals
  cases c:cI cH x.2.1.1 s with
  | false=>rw [ki c] at hn;simp at hn
  | true=>
   obtain ⟨r,hr⟩:=h.st.AL
   obtain ⟨y,hy,e⟩:=kn.1 c
   have hy':=h.GD y hy
   first
    | (rw [mm c,qR hr.names y hy e];first | exact hy'.2.1 | exact hy'.2.2)
    | (rw [<-e];exact hy'.1)
theorem oJ:∀(l:List (D cJ)) (x:bM),(bC x l).1.1<=x.1.1 + l.length
 | [],x=>by simp [bC]
 | a :: l,x=>by
  have h:=oJ l (gQ x a)
  have hs:(gQ x a).1.1<=x.1.1 + 1:=by
   unfold gQ
   split
   ·rcases gU x a.2.1 a.2.2.1 with ⟨e,_⟩ | ⟨e,_⟩
    ·rw [e];omega
    ·rw [e];simp
   ·split
    ·cases c:cI cH x.2.1.1 a.2.1 with
     | false=>rw [lg c];simp only;omega
     | true=>rw [ik c];simp only;omega
    ·omega
  show (bC (gQ x a) l).1.1<=_
  simp only [List.length_cons];omega
theorem lV (x:bM) (s t:aF):(bF x s t).1.1.1<=x.1.1 + 1:=by
 rcases gU x s t with ⟨e,_⟩ | ⟨e,_⟩
 ·rw [e];omega
 ·rw [e];simp
theorem pf {rd:Rd} (ok:gy rd) {root:aF} (h:(aP (dV rd root).2).isNil=true) :
  ∃ns os bs ps,aT rd root=(ns,os,bs,ps,0)/\w5 rd root ns os bs ps/\dV rd root=((root,bU rd ns bs ns.length,ps,()),0):=by
 rcases ES ok root with ⟨f,hf,_,e⟩ | h'
 ·rw [e] at h;exact absurd (aZ.1 h) (by show ¬ f=0;omega)
 ·exact h'
theorem Cm {rd:Rd} {ns:List aF} {bs:List Int} {s:aF} (h:∀j,j < (bU rd ns bs ns.length).length->¬ (nth aJ (bU rd ns bs ns.length) j).1=s):∀k∈ns,¬ k=s:=by
 intro k hk e
 obtain ⟨j,hj,e'⟩:=kH (t:=.str) hk
 have:=h j (by rw [fJ];exact hj)
 rw [iZ hj] at this
 exact this (e'.trans e)
end Go.Mrl

namespace Go.Mrl
open Go.Vg
def jl (l:List (D aJ)) (s:aF):Bool:=l.any fun p=>p.1 == s
theorem yd {l:List (D aJ)} {i:Nat} {s:aF} (h:i < l.length):jl (l.take (i + 1)) s=(jl (l.take i) s || ((nth aJ l i).1 == s)):=by
 unfold jl;rw [iO (t:=aJ) h];simp
theorem GF {l:List (D aJ)} {i:Nat} {s:aF} (h:i < l.length) (e:jl (l.take i) s=true):true=jl (l.take (i + 1)) s:=by rw [yd h,e];rfl
theorem GG {l:List (D aJ)} {i:Nat} {s:aF} (h:i < l.length) (e:jl (l.take i) s=false):((nth aJ l i).1 == s)=jl (l.take (i + 1)) s:=by rw [yd h,e];rfl
theorem JB {rd:Rd} {ns:List aF} {bs:List Int} {s:aF} (h:jl (bU rd ns bs ns.length) s=false):∀k∈ns,¬ k=s:=by
 refine Cm (rd:=rd) (bs:=bs) fun j hj e => ?_
 have:jl (bU rd ns bs ns.length) s=true:=List.any_eq_true.2 ⟨_,fZ (t:=aJ) hj,beq_iff_eq.2 e⟩
 rw [this] at h;cases h
theorem Ij {rd:Rd} {ns:List aF} {bs:List Int} {s:aF} (h:jl (bU rd ns bs ns.length) s=true):∃j,j < ns.length/\nth .str ns j=s:=by
 obtain ⟨p,hp,e⟩:=List.any_eq_true.1 h
 obtain ⟨j,hj,e'⟩:=kH (t:=aJ) hp
 rw [fJ] at hj
 rw [iZ hj] at e'
 exact ⟨j,hj,by rw [<-beq_iff_eq.1 e,<-e']⟩
theorem ye {rd rd':Rd} {root:aF} {ns:List aF} {bs:List Int} {ps:List Pt} {j:Nat} (hj:j < ns.length) (h:¬ (rd' (nth .str ns j)).2.1=(rd (nth .str ns j)).2.1) :
  dP rd' (root,bU rd ns bs ns.length,ps,())=false:=by
 refine uP (i:=j) (by show j < (bU rd ns bs ns.length).length;rw [fJ];exact hj) (wq ?_)
 show ¬ (rd' (nth aJ (bU rd ns bs ns.length) j).1).2.1=(nth aJ (bU rd ns bs ns.length) j).2.1
 rw [iZ hj]
 exact h
theorem EU {rd rd':Rd} {e:D bK} (h:∀j,j < e.2.1.length->rd' (nth aJ e.2.1 j).1=rd (nth aJ e.2.1 j).1):dP rd' e=dP rd e:=by
 unfold dP
 congr 1
 rw [Bool.eq_iff_iff,List.all_eq_true,List.all_eq_true]
 constructor
 ·intro k p hp
  obtain ⟨j,hj,rfl⟩:=kH (t:=aJ) hp
  have:=k _ hp
  unfold fC at this ⊢
  rw [h j hj] at this;exact this
 ·intro k p hp
  obtain ⟨j,hj,rfl⟩:=kH (t:=aJ) hp
  have:=k _ hp
  unfold fC at this ⊢
  rw [h j hj];exact this
theorem Cn {x:bM} (g:aG x) {root s t:aF} (h:(aP (dV (aH x) root).2).isNil=true) :
  dP (aH (bF x s t).1) (dV (aH x) root).1=(!(aP (bF x s t).2).isNil || !jl (dV (aH x) root).1.2.1 s):=by
 obtain ⟨ns,os,bs,ps,e,hr,em⟩:=pf g.ok h
 rw [em]
 cases hw:(aP (bF x s t).2).isNil with
 | false=>
  rw [Ga hw]
  exact hr.fresh g.ok
 | true=>
  cases ho:jl (bU (aH x) ns bs ns.length) s with
  | false=>
   have hk:=JB ho
   rw [EU (rd:=aH x),hr.fresh g.ok]
   ·rfl
   ·intro j hj
    have hj:j < ns.length:=by rw [<-fJ (aH x) ns bs ns.length];exact hj
    show aH (bF x s t).1 (nth aJ (bU (aH x) ns bs ns.length) j).1=_
    rw [iZ hj]
    exact Eo (hk _ (fZ (t:=.str) hj))
  | true=>
   obtain ⟨j,hj,e'⟩:=Ij ho
   refine ye hj ?_
   rw [e',xO hw]
   have hrd:=(gK g.ok (hr.sc.sC j hj).1).1
   rw [e'] at hrd
   have:=(g.read hrd).2.2.2
   show ¬ x.1.1 + 1=_
   omega
theorem Ba {x:bM} {s t:aF} (h1:aK s=0) (h2:t.length<=1200) (h3:cI cH x.2.1.1 s=true\/x.2.1.1.length < 6) (h4:x.1.1 < 1000000):(aP (bF x s t).2).isNil=true:=by
 rw [qQ h1 (by omega) (by rintro (⟨e,e'⟩ | e) <;> (rcases h3 with h3 | h3 <;> first | omega | (rw [h3] at e;cases e)))];rfl
theorem wu {x:bM} {s:aF} (h:(aH x s).2.2=0):cI cH x.2.1.1 s=true:=by
 cases c:cI cH x.2.1.1 s with
 | true=>rfl
 | false=>rw [ki c] at h;simp at h
theorem Bb {s:aF}:∀{es:List FE},cI cH es s=true->(fH cH es s).length + 1=es.length
 | [],h=>by cases h
 | y :: es,h=>by
  by_cases e:y.1=s
  ·have hd:fH cH (y :: es) s=es:=if_pos e
   rw [hd];rfl
  ·have hd:fH cH (y :: es) s=y :: fH cH es s:=if_neg e
   have hh:cI cH es s=true:=by simpa [cI,e] using h
   have:=Bb hh
   rw [hd];simp only [List.length_cons];omega
theorem pI {x:bM} (g:aG x) (hn:x.1.1 < 1000000) {s:aF} (h:(aH x s).2.2=0):(aP (bF x s (aH x s).1).2).isNil=true:=by
 have hr:=g.read h
 exact Ba hr.1 hr.2.1 (.inl (wu h)) hn
theorem pg {x:bM} {s:aF} (h:(aH x s).2.2=0):(aP (dG x s).2).isNil=true/\(dG x s).1.1.1=x.1.1:=by
 rw [ik (wu h)];exact ⟨rfl,rfl⟩
theorem qZ {x:bM} (g:aG x) (hn:x.1.1 < 1000000) {s:aF} (h:(aH x s).2.2=0):(aP (bF (dG x s).1 s (aH x s).1).2).isNil=true:=by
 have hr:=g.read h
 refine Ba hr.1 hr.2.1 (.inr ?_) (by rw [(pg h).2];exact hn)
 rw [ik (wu h)]
 have:=Bb (wu h)
 have:=g.st.pre.1
 show (fH cH x.2.1.1 s).length < 6
 omega
theorem nq {x y:bM} (g:aG x) {root s t:aF} (h:(aP (dV (aH x) root).2).isNil=true) {j:Nat} (hj:j < (dV (aH x) root).1.2.1.length)
  (hs:(nth aJ (dV (aH x) root).1.2.1 j).1=s) (hy:y.1.1=x.1.1) (hw:(aP (bF y s t).2).isNil=true):dP (aH (bF y s t).1) (dV (aH x) root).1=false:=by
 obtain ⟨ns,os,bs,ps,e,hr,em⟩:=pf g.ok h
 rw [em] at hj hs ⊢
 have hj':j < ns.length:=by rw [<-fJ (aH x) ns bs ns.length];exact hj
 simp only at hs
 rw [iZ hj'] at hs
 refine ye hj' ?_
 have hs':nth .str ns j=s:=hs
 rw [hs',xO hw]
 have hrd:=(gK g.ok (hr.sc.sC j hj').1).1
 rw [hs'] at hrd
 have:=(g.read hrd).2.2.2
 show ¬ y.1.1 + 1=_
 omega
theorem hY {x:bM} (g:aG x) {root:aF} (h:(aP (dV (aH x) root).2).isNil=true) {j:Nat} (hj:j < (dV (aH x) root).1.2.1.length):(aH x (nth aJ (dV (aH x) root).1.2.1 j).1).2.2=0:=by
 obtain ⟨ns,os,bs,ps,e,hr,em⟩:=pf g.ok h
 rw [em] at hj ⊢
 have hj':j < ns.length:=by rw [<-fJ (aH x) ns bs ns.length];exact hj
 show (aH x (nth aJ (bU (aH x) ns bs ns.length) j).1).2.2=0
 rw [iZ hj']
 exact (gK g.ok (hr.sc.sC j hj').1).1
theorem dW {x:bM} (g:aG x) {root:aF} (h:(aP (dV (aH x) root).2).isNil=true):0 < (dV (aH x) root).1.2.1.length/\(dV (aH x) root).1.2.1.length<=6:=by
 obtain ⟨ns,os,bs,ps,e,hr,em⟩:=pf g.ok h
 rw [em]
 show 0 < (bU (aH x) ns bs ns.length).length/\(bU (aH x) ns bs ns.length).length<=6
 rw [fJ];exact ⟨hr.sc.pos,hr.sc.le⟩
theorem gY {w a b:Int} {n:Nat} (h2:a=IntKind.i64.wrap ((BitVec.ofInt IntKind.i64.bits w &&& BitVec.ofInt IntKind.i64.bits 1023).toNat:Int)) (hn:0 < n) (h3:b=Int.tmod a (n:Int)):0<=b/\b < (n:Int)/\b.toNat < n:=by
 have h:=F2 h2
 have h4:=Jo (x:=a) (m:=(n:Int)) (by omega) (by omega)
 rw [<-h3] at h4;omega
end Go.Mrl

