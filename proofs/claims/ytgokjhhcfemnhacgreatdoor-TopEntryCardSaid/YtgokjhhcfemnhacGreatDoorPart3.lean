/- A part of the proof that the law TopEntryCard holds of the given program: facts that are used there. -/
import Derived.Test.YtgokjhhcfemnhacGreatDoorPart2
import Derived.Lib.SplitLaws
import Derived.Lib.ItoaNum
import Derived.Lib.AtoiAll
import Derived.Handed
import Derived.Clock
import Derived.Lib.LaidTab
import Derived.Lib.LaidU8
import Derived.Lay
set_option linter.unusedSimpArgs false
set_option linter.unusedVariables false
namespace Go.Mrl
open Go.Vg
def _root_.Go.Vg.Js:List UInt8->UInt8
 | c :: _=>c
 | []=>0
def tA (c:UInt8):List aG->aG
 | []=>[]
 | [x]=>x
 | x :: y :: r=>x++c :: tA c (y :: r)
def parts (c:UInt8):aG->List aG
 | []=>[[]]
 | b :: r=>if b=c then [] :: parts c r else match parts c r with
  | h :: t=>(b :: h) :: t
  | []=>[[b]]
theorem u3 (c:UInt8):∀s:aG,parts c s≠[]
 | []=>by simp [parts]
 | b :: r=>by
  unfold parts
  split
  ·simp
  ·split <;> simp
theorem jN {c b:UInt8} {r:aG} (h:b≠c):∃x t,parts c r=x :: t/\parts c (b :: r)=(b :: x) :: t:=by
 cases hp:parts c r with
 | nil=>exact absurd hp (u3 c r)
 | cons x t=>
  refine ⟨x,t,rfl,?_⟩
  conv=>lhs;unfold parts
  rw [if_neg h,hp]
theorem lI {c:UInt8} {r:aG}:parts c (c :: r) = [] :: parts c r:=by
 conv=>lhs;unfold parts
 rw [if_pos rfl]
theorem jv {c:UInt8}:∀{x:aG},c∉x->parts c x = [x]
 | [],_=>rfl
 | b :: r,h=>by
  obtain ⟨x,t,h1,h2⟩:=jN (c:=c) (b:=b) (r:=r) (fun e=>h (by simp [e]))
  rw [jv (x:=r) (fun e=>h (by simp [e]))] at h1
  cases h1
  exact h2
theorem eZ {c:UInt8}:∀{x:aG} {s:aG},c∉x->parts c (x++c :: s)=x :: parts c s
 | [],s,_=>lI
 | b :: r,s,h=>by
  obtain ⟨x,t,h1,h2⟩:=jN (c:=c) (b:=b) (r:=r++c :: s) (fun e=>h (by simp [e]))
  rw [eZ (x:=r) (fun e=>h (by simp [e]))] at h1
  cases h1
  exact h2
theorem ud {c:UInt8}:∀{L:List aG},L≠[]->(∀y∈L,c∉y)->parts c (tA c L)=L
 | [],h,_=>absurd rfl h
 | [x],_,h=>jv (h x (by simp))
 | x :: y :: r,_,h=>by
  show parts c (x++c :: tA c (y :: r))=_
  rw [eZ (h x (by simp)),ud (by simp) fun z hz=>h z (List.mem_cons_of_mem _ hz)]
theorem sN (c:UInt8):∀(s:aG),(parts c s).length<=s.length + 1
 | []=>by simp [parts]
 | b :: r=>by
  by_cases h:b=c
  ·subst h;rw [lI];have:=sN b r;simp;omega
  ·obtain ⟨x,t,h1,h2⟩:=jN (c:=c) (b:=b) (r:=r) h
   have:=sN c r
   rw [h1] at this
   rw [h2];simp at this ⊢;omega
theorem mY (c:UInt8):∀(s:aG),∀y∈parts c s,y.length<=s.length
 | [],y,h=>by simp [parts] at h;simp [h]
 | b :: r,y,h=>by
  by_cases hb:b=c
  ·subst hb;rw [lI] at h
   rcases List.mem_cons.1 h with rfl | h
   ·simp
   ·have:=mY b r y h;simp;omega
  ·obtain ⟨x,t,h1,h2⟩:=jN (c:=c) (b:=b) (r:=r) hb
   rw [h2] at h
   rcases List.mem_cons.1 h with rfl | h
   ·have:=mY c r x (by rw [h1];simp);simp;omega
   ·have:=mY c r y (by rw [h1];simp [h]);simp;omega
theorem Bb {b c:UInt8} {l:aG} (h:b≠c):Lib.index (b :: l) [c]=if Lib.index l [c] == -1 then -1 else Lib.index l [c] + 1:=by
 rw [Lib.index];simp [List.isPrefixOf,Ne.symm h]
theorem Bc {c:UInt8} {l:aG}:Lib.index (c :: l) [c]=0:=by
 rw [Lib.index];simp [List.isPrefixOf]
theorem oN (c:UInt8):∀s:aG,Lib.splitK [c] 0 (s.count c) s=parts c s
 | []=>rfl
 | b :: l=>by
  by_cases h:b=c
  ·subst h
   rw [lI,List.count_cons_self,Lib.splitK,Bc,if_neg (by decide),<-oN b l]
   simp
  ·obtain ⟨x,t,h1,h2⟩:=jN (c:=c) (b:=b) (r:=l) h
   rw [h2,List.count_cons_of_ne h]
   rw [<-oN c l] at h1
   cases hk:l.count c with
   | zero=>
    rw [hk] at h1
    simp only [Lib.splitK] at h1 ⊢
    cases h1
    rfl
   | succ k=>
    rw [hk] at h1
    have hi:Lib.index l [c]≠-1:=by
     intro e
     have:=Lib.count_miss (s:=l) (sub:=[c]) e
     rw [Lib.count_one] at this
     omega
    have hge:=Lib.index_ge l [c]
    rw [Lib.splitK,if_neg (by simpa using hi)] at h1
    obtain ⟨i,e⟩:∃i:Nat,Lib.index l [c]=i:=⟨(Lib.index l [c]).toNat,by omega⟩
    have e2:Lib.index (b :: l) [c]=((i + 1:Nat):Int):=by rw [Bb h,if_neg (by simpa using hi),e];rfl
    rw [Lib.splitK,e2,if_neg (by simp;omega)]
    rw [e] at h1
    simp only [Int.toNat_natCast,Nat.add_zero,List.length_singleton,List.take_succ_cons,List.drop_succ_cons,List.cons.injEq] at h1 ⊢
    exact ⟨⟨trivial,h1.1⟩,h1.2⟩
def nM (c:UInt8) (L:List aG):aG:=L.flatMap (· ++ [c])
theorem yc (c:UInt8) (x:aG) (L:List aG):nM c (x :: L)=x++c :: nM c L:=by simp [nM]
theorem yd {c:UInt8}:∀{L:List aG},L≠[]->nM c L=tA c L++[c]
 | [],h=>absurd rfl h
 | [x],_=>by simp [nM,tA]
 | x :: y :: r,_=>by
  rw [yc,yd (L:=y :: r) (by simp)];simp [tA]
theorem xq (x:aG) (c:UInt8):Lib.trimSuffix (x++[c]) [c]=x:=by
 have h:Lib.hasSuffix (x++[c]) [c]=true:=by unfold Lib.hasSuffix;simp [List.isSuffixOf_iff_suffix]
 unfold Lib.trimSuffix
 rw [if_pos h];simp
theorem ES {c:UInt8} {L:List aG} (h:L≠[]) (hf:∀y∈L,c∉y):parts c (Lib.trimSuffix (nM c L) [c])=L:=by
 rw [yd h,xq,ud h hf]
end Go.Mrl

namespace Go.Mrl
open Go.Vg
theorem sO {k:Nat} (h:k < 10):(UInt8.ofNat (48 + k)).toNat=48 + k:=by
 rw [UInt8.toNat_ofNat'];omega
theorem mA:∀(u:Nat),∀c∈Lib.decDigits u,48<=c.toNat/\c.toNat<=57:=by
 intro u
 induction u using Nat.strongRecOn with
 | _ u ih=>
  intro c hc
  by_cases h:u < 10
  ·rw [Lib.decDigits,dif_pos h] at hc
   simp only [List.mem_singleton] at hc
   rw [hc,sO h];omega
  ·rw [Lib.decDigits,dif_neg h] at hc
   rcases List.mem_append.1 hc with hc | hc
   ·exact ih _ (by omega) c hc
   ·simp only [List.mem_singleton] at hc
    rw [hc,sO (Nat.mod_lt _ (by decide))];omega
theorem sP (u:Nat):Lib.decDigits u≠[]:=by
 rw [Lib.decDigits];split <;> simp
theorem nN:∀(k u:Nat),u < 10 ^ (k + 1)->(Lib.decDigits u).length<=k + 1
 | 0,u,h=>by rw [Lib.decDigits,dif_pos (by simpa using h)];simp
 | k + 1,u,h=>by
  rw [Lib.decDigits]
  split
  ·simp
  ·have:=nN k (u / 10) (by rw [Nat.pow_succ] at h;omega)
   simp;exact this
theorem ye:∀(l:aG) (c:UInt8) (a v:Nat),Lib.parseUint10 a l = .ok v->Lib.parseUint10 a (l++[c])=Lib.parseUint10 v [c]
 | [],c,a,v,h=>by simp [Lib.parseUint10] at h;rw [h];rfl
 | b :: l,c,a,v,h=>by
  rw [List.cons_append,Lib.parseUint10]
  rw [Lib.parseUint10] at h
  split at h
  ·rename_i hb
   rw [if_pos hb]
   split at h
   ·cases h
   ·rename_i h1
    rw [if_neg h1]
    split at h
    ·cases h
    ·rename_i h2
     rw [if_neg h2]
     exact ye l c _ v h
  ·cases h
theorem Bd {v d:Nat} (hd:d < 10) (h:10 * v + d < 18446744073709551616):Lib.parseUint10 v [UInt8.ofNat (48 + d)] = .ok (10 * v + d):=by
 unfold Lib.parseUint10
 rw [sO hd,if_pos (by omega),if_neg (by omega),if_neg (by omega)]
 unfold Lib.parseUint10
 congr 1;omega
theorem Iv:∀u:Nat,u < 18446744073709551616->Lib.parseUint10 0 (Lib.decDigits u) = .ok u:=by
 intro u
 induction u using Nat.strongRecOn with
 | _ u ih=>
  intro hu
  by_cases h:u < 10
  ·rw [Lib.decDigits,dif_pos h]
   have:=Bd (v:=0) (d:=u) h (by omega)
   simpa using this
  ·rw [Lib.decDigits,dif_neg h,ye _ _ _ _ (ih _ (by omega) (by omega)),Bd (Nat.mod_lt _ (by decide)) (by omega)]
   congr 1;omega
theorem DF {u:Nat} (hu:u < 18446744073709551616):Lib.parseMag (Lib.decDigits u) = .ok u:=by
 unfold Lib.parseMag
 rw [if_neg (sP u),Iv u hu]
theorem GB {n:Int} (h0 : -9223372036854775808<=n) (h1:n<=9223372036854775807):Lib.atoiAll (Lib.itoa n) = .ok n:=by
 by_cases hn:n < 0
 ·have hm:=DF (u:=n.natAbs) (by omega)
  simp only [Lib.itoa,if_pos hn,Lib.atoiAll]
  rw [if_pos (Or.inr (by decide)),hm]
  simp only
  rw [if_neg (by simp),if_neg (by simp;omega)]
  simp;omega
 ·have hm:=DF (u:=n.toNat) (by omega)
  simp only [Lib.itoa,if_neg hn,Lib.atoiAll]
  cases hd:Lib.decDigits n.toNat with
  | nil=>exact absurd hd (sP _)
  | cons c r=>
   have hc:=mA n.toNat c (by rw [hd];simp)
   rw [hd] at hm
   simp only
   rw [if_neg (by omega),hm]
   simp only
   rw [if_neg (by omega),if_neg (by omega),if_neg (by omega)]
   congr 1;omega
def dK (s:List UInt8):Int × aU:=match Lib.atoiAll s with
 | .ok n=>(n, .nil)
 | Lib.NumEnd.syntax=>(0, .other)
 | .range=>(Lib.atoiSat s, .other)
def eL (s:aG):Option Int:=match Lib.atoiAll s with
 | .ok n=>if Lib.itoa n=s then some n else none
 | _=>none
theorem GC {n:Int} (h0 : -9223372036854775808<=n) (h1:n<=9223372036854775807):eL (Lib.itoa n)=some n:=by
 unfold eL;rw [GB h0 h1];simp
theorem yf {s:aG}:(eL s).isNone=(!(dK s).2.isNil || !decide (Lib.itoa (dK s).1=s)):=by
 unfold eL dK
 cases Lib.atoiAll s with
 | ok v=>simp only [aU.isNil];by_cases h:Lib.itoa v=s <;> simp [h]
 | range=>rfl
 | _=>rfl
theorem yg {n:Int} {c:UInt8} (h:c.toNat<=44):c∉Lib.itoa n:=by
 intro hc
 have h45:(45:UInt8).toNat=45:=rfl
 unfold Lib.itoa at hc
 split at hc
 ·rcases List.mem_cons.1 hc with rfl | hc
  ·omega
  ·have:=mA _ c hc;omega
 ·have:=mA _ c hc;omega
theorem u4 {n:Int} (h:0<=n) (h':n < 10):Lib.itoa n = [UInt8.ofNat (48 + n).toNat]:=by
 unfold Lib.itoa;rw [if_neg (by omega),Lib.decDigits,dif_pos (by omega)];congr 2;omega
end Go.Mrl

namespace Go.Mrl
open Go.Vg
theorem kx {f:Int} (h0:0<=f) (h:(aN f).isNil=false):f > 0:=by
 have:¬ f=0:=fun e=>by rw [bB.2 e] at h;cases h
 omega
theorem cJ {f:Int} (h:(aN f).isNil=true):f<=0:=by
 have:=bB.1 h;omega
theorem yh {t:Ty} {l:List (D t)} {i j:Nat} (h:j < i):nth t (List.drop 0 (List.take i l)) j=nth t l j:=by
 rw [List.drop_zero,AR h]
theorem yi {α:Type} {l:List α} {i:Nat} (h:i<=l.length):(List.drop 0 (List.take i l)).length=i:=by
 rw [List.drop_zero,List.length_take];omega
def fM (b:Bool):List UInt8:=if b=true then [119,101,97,107,32] else []
def q9 (s:aG):aG:=[110,101,101,100,32]++s++[10]
def pq (n:Int):aG:=[119,111,114,100,32]++Lib.itoa n++[10]
def u5 (y:D aI):aG:=fM y.2.2.1++[115,121,109,98,111,108,32]++y.1++[32]++Lib.itoa y.2.1++[10]
def pO (t:D aS):aG:=
 if t.2.1=1 then [98,97,115,101,32]++Lib.itoa t.1++[32]++Lib.itoa t.2.2.1++[10]
 else if t.2.1=2 then fM t.2.2.2.2.1++[119,104,111,108,101,32]++Lib.itoa t.1++[32]++Lib.itoa t.2.2.1++[32]++t.2.2.2.1++[10]
 else fM t.2.2.2.2.1++[110,101,97,114,32]++Lib.itoa t.1++[32]++Lib.itoa t.2.2.1++[32]++t.2.2.2.1++[10]
def lU (o:D aA) (i:Nat):aG:=(o.1.take i).flatMap q9
def ky (o:D aA) (i:Nat):aG:=lU o o.1.length++(o.2.1.take i).flatMap pq
def kz (o:D aA) (i:Nat):aG:=ky o o.2.1.length++(o.2.2.1.take i).flatMap u5
def gK (o:D aA) (i:Nat):aG:=kz o o.2.2.1.length++(o.2.2.2.1.take i).flatMap pO
def fN (o:D aA):aG:=gK o o.2.2.2.1.length
def iC (o:D aA):aG × aU:=if cD o≠0 then ([],aN (cD o)) else if (fN o).length > 1200 then ([], .no 2) else (fN o, .nil)
theorem GD {o:D aA} {i:Nat} (h:i < o.1.length):lU o (i + 1)=lU o i++q9 (nth .str o.1 i):=by
 unfold lU;rw [ku (t:=.str) h];simp
theorem GF {o:D aA} {i:Nat} (h:i < o.2.1.length):ky o (i + 1)=ky o i++pq (nth (.int .i64) o.2.1 i):=by
 unfold ky;rw [ku (t:=.int .i64) h];simp
theorem GG {o:D aA} {i:Nat} (h:i < o.2.2.1.length):kz o (i + 1)=kz o i++u5 (nth aI o.2.2.1 i):=by
 unfold kz;rw [ku (t:=aI) h];simp
theorem sQ {o:D aA} {i:Nat} (h:i < o.2.2.2.1.length):gK o (i + 1)=gK o i++pO (nth aS o.2.2.2.1 i):=by
 unfold gK;rw [ku (t:=aS) h];simp
theorem GH (o:D aA):ky o 0=lU o o.1.length:=by unfold ky;simp
theorem GI (o:D aA):kz o 0=ky o o.2.1.length:=by unfold kz;simp
theorem GJ (o:D aA):gK o 0=kz o o.2.2.1.length:=by unfold gK;simp
def Nm (s:aG):Prop:=s≠[]/\s.length<=8/\∀c∈s,c≠10/\c≠32
def mB (a b x:Int):Prop:=a<=x/\x<=b
structure wD (t:D aS):Prop where
 a:mB 0 39 t.1
 w:mB (-2147483648) 2147483647 t.2.2.1
 k:t.2.1=1\/t.2.1=2\/t.2.1=3
 base:t.2.1=1->t.2.2.2.1 = []/\t.2.2.2.2.1=false
 nm:t.2.1≠1->Nm t.2.2.2.1
structure jc (o:D aA):Prop where
 n4:o.1.length<=4
 w1:1<=o.2.1.length
 Jt:o.2.1.length<=40
 s8:o.2.2.1.length<=8
 t6:o.2.2.2.1.length<=6
 zS:∀s∈o.1,Nm s
 words:∀n∈o.2.1,mB (-2147483648) 2147483647 n
 syms:∀y∈o.2.2.1,Nm y.1/\mB 0 39 y.2.1
 ET:∀t∈o.2.2.2.1,wD t
end Go.Mrl

namespace Go.Mrl
open Go.Vg
theorem ue:∀(l p:List aG),gT p l=0->∀s∈l,aF s=0
 | [],_,_,s,h=>absurd h (by simp)
 | x :: r,p,h,s,hs=>by
  have hx:=eP x
  unfold gT at h
  split at h
  ·omega
  ·split at h
   ·cases h
   ·rcases List.mem_cons.1 hs with rfl | hs
    ·omega
    ·exact ue r _ h s hs
theorem uf:∀(l:List Int),iV l=0->∀n∈l,fL n=true
 | [],_,s,h=>absurd h (by simp)
 | x :: r,h,s,hs=>by
  unfold iV at h
  split at h
  ·rename_i hx
   rcases List.mem_cons.1 hs with rfl | hs
   ·exact hx
   ·exact uf r h s hs
  ·cases h
theorem wE (n:Nat):∀(l p:List (D aI)),fE n p l=0->∀y∈l,aF y.1=0/\mB 0 (n - 1) y.2.1
 | [],_,_,s,h=>absurd h (by simp)
 | x :: r,p,h,s,hs=>by
  have hx:=eP x.1
  unfold fE at h
  split at h
  ·omega
  ·split at h
   ·cases h
   ·rename_i h2
    split at h
    ·cases h
    ·rcases List.mem_cons.1 hs with rfl | hs
     ·exact ⟨by omega,Int.not_lt.1 fun e=>h2 (.inl e),Int.le_sub_one_of_lt (Int.not_le.1 fun e=>h2 (.inr e))⟩
     ·exact wE n r _ h s hs
theorem yj {n:Nat} {p:Option Int} {t:D aS} (h:kr n p t=0) :
  mB 0 (n - 1) t.1/\fL t.2.2.1=true/\mB 1 3 t.2.1/\(t.2.1=1->t.2.2.2.1 = []/\t.2.2.2.2.1=false)/\(t.2.1≠1->aF t.2.2.2.1=0):=by
 unfold kr at h
 split at h
 ·cases h
 ·rename_i h1
  split at h
  ·cases h
  ·rename_i h2
   refine ⟨⟨Int.not_lt.1 fun e=>h1 (.inl e),Int.le_sub_one_of_lt (Int.not_le.1 fun e=>h1 (.inr (.inl e)))⟩,?_,⟨Int.not_lt.1 fun e=>h2 (.inl e),Int.not_lt.1 fun e=>h2 (.inr (.inl e))⟩,?_,?_⟩
   ·cases hw:fL t.2.2.1 with
    | true=>rfl
    | false=>exact absurd (.inr (.inr hw)) h1
   ·intro e
    rw [if_pos e] at h
    split at h
    ·cases h
    ·rename_i h3
     refine ⟨Classical.byContradiction fun e=>h3 (.inl e),?_⟩
     cases hb:t.2.2.2.2.1 with
     | false=>rfl
     | true=>exact absurd (.inr hb) h3
   ·intro e
    rw [if_neg e] at h
    exact h
theorem ra (n:Nat):∀(l:List (D aS)) (p:Option Int),iW n p l=0->∀t∈l,∃p,kr n p t=0
 | [],_,_,s,h=>absurd h (by simp)
 | x :: r,p,h,s,hs=>by
  unfold iW at h
  split at h
  ·rename_i h0;exact absurd h h0
  ·rename_i h0
   rcases List.mem_cons.1 hs with rfl | hs
   ·exact ⟨p,Classical.byContradiction h0⟩
   ·exact ra n r _ h s hs
theorem EU {s:aG} (h:aF s=0):Nm s:=by
 unfold aF at h
 split at h
 ·cases h
 ·rename_i hl
  split at h
  ·cases h
  ·rename_i hb
   refine ⟨by rintro rfl;simp at hl,by omega,fun c hc => ?_⟩
   obtain ⟨i,hi,rfl⟩:=List.getElem_of_mem hc
   have hn:gy i (hZ s i)=false:=by
    unfold qc at hb
    rw [Bool.not_eq_true,List.any_eq_false] at hb
    have:=hb i (by simpa using hi)
    simpa using this
   have he:hZ s i=s[i]:=by unfold hZ;simp [hi]
   rw [he] at hn
   constructor
   ·intro e;rw [e] at hn;unfold gy small other at hn;simp at hn
   ·intro e;rw [e] at hn;unfold gy small other at hn;simp at hn
theorem three {x:Int} (h:1<=x) (h':x<=3):x=1\/x=2\/x=3:=by omega
theorem kA {o:D aA} (h:cD o=0):jc o:=by
 unfold cD at h
 split at h
 ·cases h
 ·rename_i hm
  split at h
  ·rename_i h1;exact absurd h h1
  ·rename_i h1
   split at h
   ·rename_i h2;exact absurd h h2
   ·rename_i h2
    split at h
    ·rename_i h3;exact absurd h h3
    ·rename_i h3
     have h1:=Classical.byContradiction h1
     have h2:=Classical.byContradiction h2
     have h3:=Classical.byContradiction h3
     unfold jH at hm
     have hw:o.2.1.length<=40:=Nat.not_lt.1 fun e=>hm (.inr (.inr (.inl e)))
     refine ⟨Nat.not_lt.1 fun e=>hm (.inl e),Nat.not_lt.1 fun e=>hm (.inr (.inl e)),hw,Nat.not_lt.1 fun e=>hm (.inr (.inr (.inr (.inl e)))),Nat.not_lt.1 fun e=>hm (.inr (.inr (.inr (.inr e)))),
      fun s hs=>EU (ue _ _ h1 s hs),fun n hn => ?_,fun y hy => ?_,fun t ht => ?_⟩
     ·have:=uf _ h2 n hn
      unfold fL at this
      simp only [Bool.and_eq_true,decide_eq_true_eq] at this
      exact this
     ·obtain ⟨a,b,c⟩:=wE _ _ _ h3 y hy
      exact ⟨EU a,b,Int.le_trans c (by omega)⟩
     ·obtain ⟨p,hp⟩:=ra _ _ _ h t ht
      obtain ⟨⟨a,b⟩,c,⟨d,e⟩,f,g⟩:=yj hp
      unfold fL at c
      simp only [Bool.and_eq_true,decide_eq_true_eq] at c
      exact ⟨⟨a,Int.le_trans b (by omega)⟩,c,three d e,f,fun e=>EU (g e)⟩
theorem iY {a b n:Int} (h:mB a b n) (ha : -999999999999999999<=a) (hb:b<=999999999999999999):(Lib.itoa n).length<=19:=by
 obtain ⟨h0,h1⟩:=h
 unfold Lib.itoa
 split
 ·rw [List.length_cons]
  have:=nN 17 n.natAbs (by omega)
  omega
 ·have:=nN 17 n.toNat (by omega)
  omega
theorem pr (b:Bool):(fM b).length<=5:=by cases b <;> decide
theorem GK {s:aG} (h:Nm s):(q9 s).length<=64:=by have:=h.2.1;simp [q9];omega
theorem GL {n:Int} (h:mB (-2147483648) 2147483647 n):(pq n).length<=64:=by have:=iY h (by decide) (by decide);simp [pq];omega
theorem Iw {y:D aI} (h:Nm y.1/\mB 0 39 y.2.1):(u5 y).length<=64:=by
 have h1:=iY h.2 (by decide) (by decide)
 have h2:=pr y.2.2.1
 have h3:=h.1.2.1
 simp [u5];omega
theorem Ix {t:D aS} (h:wD t):(pO t).length<=64:=by
 have h1:=iY h.a (by decide) (by decide)
 have h4:=iY h.w (by decide) (by decide)
 have h2:=pr t.2.2.2.2.1
 unfold pO
 split
 ·simp;omega
 ·rename_i hk
  have h3:=(h.nm hk).2.1
  split
  ·simp;omega
  ·simp;omega
theorem oO {α:Type} {f:α->aG}:∀{l:List α},(∀x∈l,(f x).length<=64)->(l.flatMap f).length<=64 * l.length
 | [],_=>by simp
 | x :: r,h=>by
  have h1:=h x (by simp)
  have h2:=oO (f:=f) (l:=r) fun y hy=>h y (List.mem_cons_of_mem _ hy)
  rw [List.flatMap_cons,List.length_append,List.length_cons];omega
theorem jc.KP {o:D aA} (h:jc o) (i:Nat):(lU o i).length<=1000:=by
 have:=oO (f:=q9) (l:=o.1.take i) fun s hs=>GK (h.zS s (List.mem_of_mem_take hs))
 have h2:=h.n4
 unfold lU;simp only [List.length_take] at this;omega
theorem jc.KQ {o:D aA} (h:jc o) (i:Nat):(ky o i).length<=4000:=by
 have h0:=h.KP o.1.length
 have:=oO (f:=pq) (l:=o.2.1.take i) fun s hs=>GL (h.words s (List.mem_of_mem_take hs))
 have h2:=h.Jt
 unfold ky;rw [List.length_append];simp only [List.length_take] at this;omega
theorem jc.KR {o:D aA} (h:jc o) (i:Nat):(kz o i).length<=5000:=by
 have h0:=h.KQ o.2.1.length
 have:=oO (f:=u5) (l:=o.2.2.1.take i) fun s hs=>Iw (h.syms s (List.mem_of_mem_take hs))
 have h2:=h.s8
 unfold kz;rw [List.length_append];simp only [List.length_take] at this;omega
theorem jc.Lo {o:D aA} (h:jc o) (i:Nat):(gK o i).length<=6000:=by
 have h0:=h.KR o.2.2.1.length
 have:=oO (f:=pO) (l:=o.2.2.2.1.take i) fun s hs=>Ix (h.ET s (List.mem_of_mem_take hs))
 have h2:=h.t6
 unfold gK;rw [List.length_append];simp only [List.length_take] at this;omega
theorem jc.sR {o:D aA} (h:jc o) {i:Nat} (hi:i < o.1.length):Nm (nth .str o.1 i):=h.zS _ (fJ (t:=.str) hi)
theorem jc.word {o:D aA} (h:jc o) {i:Nat} (hi:i < o.2.1.length):mB (-2147483648) 2147483647 (nth (.int .i64) o.2.1 i):=h.words _ (fJ (t:=.int .i64) hi)
theorem jc.sym {o:D aA} (h:jc o) {i:Nat} (hi:i < o.2.2.1.length):Nm (nth aI o.2.2.1 i).1/\mB 0 39 (nth aI o.2.2.1 i).2.1:=h.syms _ (fJ (t:=aI) hi)
theorem jc.tie {o:D aA} (h:jc o) {i:Nat} (hi:i < o.2.2.2.1.length):wD (nth aS o.2.2.2.1 i):=h.ET _ (fJ (t:=aS) hi)
theorem CI (a b:aG):cH a++cH b=cH (a++b):=by simp [cH]
theorem yk {o:D aA} (h:jc o) {i:Nat} (hi:i < o.1.length):(nth .str o.1 i).length<=8/\(lU o i).length<=1000:=⟨(h.sR hi).2.1,h.KP i⟩
theorem yl {o:D aA} (h:jc o) {i:Nat} (hi:i < o.2.1.length):(Lib.itoa (nth (.int .i64) o.2.1 i)).length<=19/\(ky o i).length<=4000:=
 ⟨iY (h.word hi) (by decide) (by decide),h.KQ i⟩
theorem Be {o:D aA} (h:jc o) {i:Nat} (hi:i < o.2.2.1.length) :
  (nth aI o.2.2.1 i).1.length<=8/\(Lib.itoa (nth aI o.2.2.1 i).2.1).length<=19/\(fM (nth aI o.2.2.1 i).2.2.1).length<=5/\(kz o i).length<=5000:=
 ⟨(h.sym hi).1.2.1,iY (h.sym hi).2 (by decide) (by decide),pr _,h.KR i⟩
theorem Bf {o:D aA} (h:jc o) {i:Nat} (hi:i < o.2.2.2.1.length) :
  (nth aS o.2.2.2.1 i).2.2.2.1.length<=8/\(Lib.itoa (nth aS o.2.2.2.1 i).1).length<=19/\(Lib.itoa (nth aS o.2.2.2.1 i).2.2.1).length<=19/\(fM (nth aS o.2.2.2.1 i).2.2.2.2.1).length<=5/\(gK o i).length<=6000:=by
 have ht:=h.tie hi
 refine ⟨?_,iY ht.a (by decide) (by decide),iY ht.w (by decide) (by decide),pr _,h.Lo i⟩
 by_cases hk:(nth aS o.2.2.2.1 i).2.1=1
 ·rw [(ht.base hk).1];decide
 ·exact (ht.nm hk).2.1
theorem mZ {p p' q:aG} {a b:Int} (h:p'=p++q):(((cH p++cH q,a,b,()):D iZ))=((cH p',a,b,()):D iZ):=by rw [h,CI]
theorem u6 {p p':aG} {a b:Int} (h:p=p'):((cH p,a,b,()):D iZ)=((cH p',a,b,()):D iZ):=by rw [h]
theorem EV {o:D aA} {i:Nat} (h:i < o.2.2.2.1.length) (hk:(nth aS o.2.2.2.1 i).2.1=1) :
  gK o (i + 1)=gK o i++([98,97,115,101,32]++Lib.itoa (nth aS o.2.2.2.1 i).1++[32]++Lib.itoa (nth aS o.2.2.2.1 i).2.2.1++[10]):=by
 rw [sQ h];unfold pO;rw [if_pos hk]
theorem EW {o:D aA} {i:Nat} (h:i < o.2.2.2.1.length) (hk:¬ (nth aS o.2.2.2.1 i).2.1=1) (hk2:(nth aS o.2.2.2.1 i).2.1=2) :
  gK o (i + 1)=gK o i++(fM (nth aS o.2.2.2.1 i).2.2.2.2.1++[119,104,111,108,101,32]++Lib.itoa (nth aS o.2.2.2.1 i).1++[32]++Lib.itoa (nth aS o.2.2.2.1 i).2.2.1++[32]++(nth aS o.2.2.2.1 i).2.2.2.1++[10]):=by
 rw [sQ h];unfold pO;rw [if_neg hk,if_pos hk2]
theorem EX {o:D aA} {i:Nat} (h:i < o.2.2.2.1.length) (hk:¬ (nth aS o.2.2.2.1 i).2.1=1) (hk2:¬ (nth aS o.2.2.2.1 i).2.1=2) :
  gK o (i + 1)=gK o i++(fM (nth aS o.2.2.2.1 i).2.2.2.2.1++[110,101,97,114,32]++Lib.itoa (nth aS o.2.2.2.1 i).1++[32]++Lib.itoa (nth aS o.2.2.2.1 i).2.2.1++[32]++(nth aS o.2.2.2.1 i).2.2.2.1++[10]):=by
 rw [sQ h];unfold pO;rw [if_neg hk,if_neg hk2]
theorem ym {o:D aA} (h:cD o≠0):iC o=([],aN (cD o)):=by unfold iC;rw [if_pos h]
theorem wF {o:D aA} (h:cD o=0) {i:Nat} (hi:i=o.2.2.2.1.length) (hl:(gK o i).length > 1200):iC o=([], .no 2):=by
 unfold iC;rw [if_neg (by rw [h];decide),if_pos (by unfold fN;rw [<-hi];exact hl)]
theorem rb {o:D aA} (h:cD o=0) {i:Nat} (hi:i=o.2.2.2.1.length) (hl:(gK o i).length<=1200):iC o=(gK o i, .nil):=by
 unfold iC;rw [if_neg (by rw [h];decide),if_neg (by unfold fN;rw [<-hi];omega)];unfold fN;rw [<-hi]
end Go.Mrl

namespace Go.Mrl
open Go.Vg
@[reducible] def cS:aG:=[119,101,97,107,32]
@[reducible] def iF:aG:=[110,101,101,100]
@[reducible] def ie:aG:=[119,111,114,100]
@[reducible] def gL:aG:=[115,121,109,98,111,108]
@[reducible] def j9:aG:=[98,97,115,101]
@[reducible] def jm:aG:=[119,104,111,108,101]
@[reducible] def jh:aG:=[110,101,97,114]
def na (o:D aA) (s:aG):D aA:=(o.1++[s],o.2)
def nb (o:D aA) (n:Int):D aA:=(o.1,o.2.1++[n],o.2.2)
def ql (o:D aA) (y:D aI):D aA:=(o.1,o.2.1,o.2.2.1++[y],o.2.2.2)
def mC (o:D aA) (t:D aS):D aA:=(o.1,o.2.1,o.2.2.1,o.2.2.2.1++[t],())
def u7 (x y:aG) (k:Int->Int->D aA):Option (D aA):=
 match eL x,eL y with
 | some m,some n=>some (k m n)
 | _,_=>none
def kB (o:D aA) (b:Bool):List aG->Option (D aA)
 | [a,x]=>if a=iF then some (na o x) else if a=ie then (eL x).map (nb o) else none
 | [a,x,y]=>if a=gL then (eL y).map fun n=>ql o (x,n,b,()) else if a=j9 then u7 x y fun m n=>mC o (m,1,n,[],false,()) else none
 | [a,x,y,z]=>if a=jm\/a=jh then u7 x y fun m n=>mC o (m,if a=jh then 3 else 2,n,z,b,()) else none
 | _=>none
def mE (o:D aA) (s:aG):Option (D aA):=kB o (Lib.hasPrefix s cS) (parts 32 (Lib.trimPrefix s cS))
def run (f:D aA->aG->Option (D aA)):D aA->List aG->Option (D aA)
 | o,[]=>some o
 | o,s :: r=>match f o s with
  | some p=>run f p r
  | none=>none
theorem Bg {f:D aA->aG->Option (D aA)}:∀{l:List aG} {o:D aA} {s:aG},run f o (l++[s])=(run f o l).bind fun p=>f p s
 | [],o,s=>by simp only [List.nil_append,run,Option.bind_some];cases f o s <;> rfl
 | x :: r,o,s=>by
  simp only [List.cons_append,run]
  cases f o x with
  | none=>rfl
  | some p=>exact Bg
theorem tB {f:D aA->aG->Option (D aA)}:∀{l m:List aG} {o p:D aA},run f o l=some p->run f o (l++m)=run f p m
 | [],m,o,p,h=>by simp only [run,Option.some.injEq] at h;rw [h];rfl
 | x :: r,m,o,p,h=>by
  simp only [run] at h
  simp only [List.cons_append,run]
  cases hx:f o x with
  | none=>rw [hx] at h;cases h
  | some q=>rw [hx] at h;exact tB h
def mF (s:aG):aG:=[110,101,101,100,32]++s
def mG (n:Int):aG:=[119,111,114,100,32]++Lib.itoa n
def u9 (y:D aI):aG:=fM y.2.2.1++([115,121,109,98,111,108,32]++(y.1++32 :: Lib.itoa y.2.1))
def sU (t:D aS):aG:=
 if t.2.1=1 then [98,97,115,101,32]++(Lib.itoa t.1++32 :: Lib.itoa t.2.2.1)
 else if t.2.1=2 then fM t.2.2.2.2.1++([119,104,111,108,101,32]++(Lib.itoa t.1++32 :: (Lib.itoa t.2.2.1++32 :: t.2.2.2.1)))
 else fM t.2.2.2.2.1++([110,101,97,114,32]++(Lib.itoa t.1++32 :: (Lib.itoa t.2.2.1++32 :: t.2.2.2.1)))
def nI (o:D aA):List aG:=o.1.map mF++(o.2.1.map mG++(o.2.2.1.map u9++o.2.2.2.1.map sU))
theorem oP {α:Type} {f g:α->aG} (h:∀x,f x=g x++[10]):∀l:List α,l.flatMap f=nM 10 (l.map g)
 | []=>rfl
 | x :: r=>by rw [List.flatMap_cons,oP h r,List.map_cons,yc,h];simp
theorem vb (c:UInt8) (l m:List aG):nM c (l++m)=nM c l++nM c m:=by simp [nM]
theorem CJ (o:D aA):fN o=nM 10 (nI o):=by
 unfold fN gK kz ky lU nI
 rw [List.take_length,List.take_length,List.take_length,List.take_length,vb,vb,vb,
  oP (g:=mF) (fun s=>by simp [q9,mF]) o.1,oP (g:=mG) (fun s=>by simp [pq,mG]) o.2.1,
  oP (g:=u9) (fun s=>by simp [u5,u9]) o.2.2.1,
  oP (g:=sU) (fun s=>by unfold pO sU;split <;> (try split) <;> simp) o.2.2.2.1]
 simp
structure Reads (f:D aA->aG->Option (D aA)):Prop where
 sR:∀(o:D aA) (s:aG),Nm s->f o (mF s)=some (na o s)
 word:∀(o:D aA) (n:Int),mB (-2147483648) 2147483647 n->f o (mG n)=some (nb o n)
 sym:∀(o:D aA) (y:D aI),Nm y.1->mB 0 39 y.2.1->f o (u9 y)=some (ql o y)
 tie:∀(o:D aA) (t:D aS),wD t->f o (sU t)=some (mC o t)
section
variable {f:D aA->aG->Option (D aA)} (h:Reads f)
include h
theorem yn:∀(l:List aG) (o:D aA),(∀s∈l,Nm s)->run f o (l.map mF)=some (o.1++l,o.2)
 | [],o,_=>by simp [run]
 | s :: r,o,hl=>by
  rw [List.map_cons,run,h.sR o s (hl s (by simp))]
  show run f (na o s) (r.map mF)=_
  rw [yn r _ fun x hx=>hl x (List.mem_cons_of_mem _ hx)]
  simp [na]
theorem yp:∀(l:List Int) (o:D aA),(∀n∈l,mB (-2147483648) 2147483647 n)->run f o (l.map mG)=some (o.1,o.2.1++l,o.2.2)
 | [],o,_=>by simp [run]
 | s :: r,o,hl=>by
  rw [List.map_cons,run,h.word o s (hl s (by simp))]
  show run f (nb o s) (r.map mG)=_
  rw [yp r _ fun x hx=>hl x (List.mem_cons_of_mem _ hx)]
  simp [nb]
theorem Bh:∀(l:List (D aI)) (o:D aA),(∀y∈l,Nm y.1/\mB 0 39 y.2.1)->run f o (l.map u9)=some (o.1,o.2.1,o.2.2.1++l,o.2.2.2)
 | [],o,_=>by simp [run]
 | s :: r,o,hl=>by
  rw [List.map_cons,run,h.sym o s (hl s (by simp)).1 (hl s (by simp)).2]
  show run f (ql o s) (r.map u9)=_
  rw [Bh r _ fun x hx=>hl x (List.mem_cons_of_mem _ hx)]
  simp [ql]
theorem Bi:∀(l:List (D aS)) (o:D aA),(∀t∈l,wD t)->run f o (l.map sU)=some (o.1,o.2.1,o.2.2.1,o.2.2.2.1++l,())
 | [],o,_=>by simp [run]
 | s :: r,o,hl=>by
  rw [List.map_cons,run,h.tie o s (hl s (by simp))]
  show run f (mC o s) (r.map sU)=_
  rw [Bi r _ fun x hx=>hl x (List.mem_cons_of_mem _ hx)]
  simp [mC]
theorem GM {o:D aA} (ok:jc o):run f (cA aA) (nI o)=some o:=by
 unfold nI
 rw [tB (yn h o.1 _ ok.zS),tB (yp h o.2.1 _ ok.words),tB (Bh h o.2.2.1 _ ok.syms),Bi h o.2.2.2.1 _ ok.ET]
 rfl
end
theorem wG {a:UInt8} {s:aG} (h:a≠119):Lib.hasPrefix (a :: s) cS=false:=by
 unfold Lib.hasPrefix cS;simp [List.isPrefixOf];intro e;exact absurd e.symm h
theorem JX {s:aG} (h:Lib.hasPrefix s cS=false):Lib.trimPrefix s cS=s:=by unfold Lib.trimPrefix;rw [if_neg (by rw [h];decide)]
theorem DG (s:aG):Lib.hasPrefix (cS++s) cS=true:=by unfold Lib.hasPrefix cS;simp [List.isPrefixOf]
theorem Iy (s:aG):Lib.trimPrefix (cS++s) cS=s:=by unfold Lib.trimPrefix;rw [if_pos (DG s)];rfl
theorem DH {a b:UInt8} {s:aG} (h:b≠101):Lib.hasPrefix (a :: b :: s) cS=false:=by
 unfold Lib.hasPrefix cS;simp [List.isPrefixOf];intro _ e;exact absurd e.symm h
theorem kQ (o:D aA) (b:Bool) (s:aG) (h:Lib.hasPrefix s cS=false):mE o (fM b++s)=kB o b (parts 32 s):=by
 unfold mE
 cases b with
 | false=>show kB o (Lib.hasPrefix s cS) (parts 32 (Lib.trimPrefix s cS))=_;rw [h,JX h]
 | true=>show kB o (Lib.hasPrefix (cS++s) cS) (parts 32 (Lib.trimPrefix (cS++s) cS))=_;rw [DG,Iy]
theorem nc {s:aG} (h:Nm s):(32:UInt8)∉s/\(10:UInt8)∉s:=⟨fun hc=>(h.2.2 _ hc).2 rfl,fun hc=>(h.2.2 _ hc).1 rfl⟩
theorem kC (n:Int):(32:UInt8)∉Lib.itoa n:=yg (by decide)
theorem re (n:Int):(10:UInt8)∉Lib.itoa n:=yg (by decide)
theorem EY {s:aG} (h:Nm s):parts 32 (mF s) = [iF,s]:=by
 show parts 32 (iF++32 :: s)=_
 rw [eZ (by decide),jv (nc h).1]
theorem EZ (n:Int):parts 32 (mG n) = [ie,Lib.itoa n]:=by
 show parts 32 (ie++32 :: Lib.itoa n)=_
 rw [eZ (by decide),jv (kC n)]
theorem GN {s:aG} {n:Int} (h:Nm s):parts 32 ([115,121,109,98,111,108,32]++(s++32 :: Lib.itoa n)) = [gL,s,Lib.itoa n]:=by
 show parts 32 (gL++32 :: (s++32 :: Lib.itoa n))=_
 rw [eZ (by decide),eZ (nc h).1,jv (kC n)]
theorem E0 (m n:Int):parts 32 ([98,97,115,101,32]++(Lib.itoa m++32 :: Lib.itoa n)) = [j9,Lib.itoa m,Lib.itoa n]:=by
 show parts 32 (j9++32 :: (Lib.itoa m++32 :: Lib.itoa n))=_
 rw [eZ (by decide),eZ (kC m),jv (kC n)]
theorem CK {s:aG} (m n:Int) (h:Nm s):parts 32 ([119,104,111,108,101,32]++(Lib.itoa m++32 :: (Lib.itoa n++32 :: s))) = [jm,Lib.itoa m,Lib.itoa n,s]:=by
 show parts 32 (jm++32 :: (Lib.itoa m++32 :: (Lib.itoa n++32 :: s)))=_
 rw [eZ (by decide),eZ (kC m),eZ (kC n),jv (nc h).1]
theorem E1 {s:aG} (m n:Int) (h:Nm s):parts 32 ([110,101,97,114,32]++(Lib.itoa m++32 :: (Lib.itoa n++32 :: s))) = [jh,Lib.itoa m,Lib.itoa n,s]:=by
 show parts 32 (jh++32 :: (Lib.itoa m++32 :: (Lib.itoa n++32 :: s)))=_
 rw [eZ (by decide),eZ (kC m),eZ (kC n),jv (nc h).1]
theorem tC {a b n:Int} (h:mB a b n) (ha : -9223372036854775808<=a) (hb:b<=9223372036854775807):eL (Lib.itoa n)=some n:=GC (Int.le_trans ha h.1) (Int.le_trans h.2 hb)
theorem KS:Reads mE where
 sR o s h:=by
  have:=kQ o false (mF s) (wG (by decide))
  rw [show fM false++mF s=mF s from rfl,EY h] at this
  exact this
 word o n h:=by
  have:=kQ o false (mG n) (DH (by decide))
  rw [show fM false++mG n=mG n from rfl,EZ] at this
  rw [this]
  show (if ie=iF then some (na o (Lib.itoa n)) else if ie=ie then (eL (Lib.itoa n)).map (nb o) else none)=_
  rw [if_neg (by decide),if_pos rfl,tC h (by decide) (by decide)];rfl
 sym o y h h':=by
  have:=kQ o y.2.2.1 ([115,121,109,98,111,108,32]++(y.1++32 :: Lib.itoa y.2.1)) (wG (by decide))
  rw [GN h] at this
  refine Eq.trans this ?_
  dsimp only [kB]
  rw [if_pos rfl,tC h' (by decide) (by decide)];rfl
 tie o t h:=by
  obtain ⟨at',k,ad,nm,b,_⟩:=t
  have ha:=tC h.a (by decide) (by decide)
  have hw:=tC h.w (by decide) (by decide)
  simp only at ha hw
  unfold sU
  rcases h.k with e | e | e
  ·have hb:=h.base e
   simp only at e hb
   obtain ⟨rfl,rfl⟩:=hb
   subst e
   rw [if_pos rfl]
   have:=kQ o false ([98,97,115,101,32]++(Lib.itoa at'++32 :: Lib.itoa ad)) (wG (by decide))
   rw [E0] at this
   refine this.trans ?_
   dsimp only [kB]
   rw [if_neg (by decide),if_pos rfl];unfold u7;rw [ha,hw]
  ·have hn:=h.nm (by rw [show _=_ from e];decide)
   simp only at e hn
   subst e
   rw [if_neg (by simp),if_pos rfl]
   have:=kQ o b ([119,104,111,108,101,32]++(Lib.itoa at'++32 :: (Lib.itoa ad++32 :: nm))) (DH (by decide))
   rw [CK _ _ hn] at this
   refine this.trans ?_
   dsimp only [kB]
   rw [if_pos (.inl rfl),if_neg (by decide)];unfold u7;rw [ha,hw]
  ·have hn:=h.nm (by rw [show _=_ from e];decide)
   simp only at e hn
   subst e
   rw [if_neg (by simp),if_neg (by simp)]
   have:=kQ o b ([110,101,97,114,32]++(Lib.itoa at'++32 :: (Lib.itoa ad++32 :: nm))) (wG (by decide))
   rw [E1 _ _ hn] at this
   refine this.trans ?_
   dsimp only [kB]
   rw [if_pos (.inr rfl),if_pos rfl];unfold u7;rw [ha,hw]
end Go.Mrl

namespace Go.Mrl
open Go.Vg
theorem E2 {o:D aA} (h:jc o):∀l∈nI o,(10:UInt8)∉l:=by
 intro l hl
 unfold nI at hl
 simp only [List.mem_append,List.mem_map] at hl
 have hw:∀b,(10:UInt8)∉fM b:=by intro b;cases b <;> decide
 rcases hl with ⟨s,hs,rfl⟩ | ⟨n,hn,rfl⟩ | ⟨y,hy,rfl⟩ | ⟨t,ht,rfl⟩
 ·have:=(nc (h.zS s hs)).2
  unfold mF;simp [this]
 ·have:=re n
  unfold mG;simp [this]
 ·have h1:=(nc (h.syms y hy).1).2
  have h2:=re y.2.1
  have h3:=hw y.2.2.1
  unfold u9;simp [h1,h2,h3]
 ·have h1:=re t.1
  have h2:=re t.2.2.1
  have h3:=hw t.2.2.2.2.1
  unfold sU
  split
  ·simp [h1,h2]
  ·rename_i hk
   have h4:=(nc ((h.ET t ht).nm hk)).2
   split <;> simp [h1,h2,h3,h4]
theorem Iz {o:D aA} (h:jc o):nI o≠[]:=by
 have h1:=h.w1
 unfold nI
 intro e
 simp only [List.append_eq_nil_iff,List.map_eq_nil_iff] at e
 rw [e.2.1] at h1
 simp at h1
def E3 (s:aG):Option (D aA):=run mE (cA aA) (parts 10 (Lib.trimSuffix s [10]))
theorem pw {o:D aA} (h:cD o=0):E3 (fN o)=some o:=by
 have ok:=kA h
 unfold E3
 rw [CJ,ES (Iz ok) (E2 ok),GM KS ok]
theorem GO {o p:D aA} (h:cD o=0) (h':cD p=0) (e:fN o=fN p):o=p:=by
 have a:=pw h
 rw [e,pw h'] at a
 exact (Option.some.inj a).symm
open Classical in
noncomputable def bY (s:aG):D aA × Int:=
 if s.length > 1200 then (cA aA,2)
 else if h:∃o:D aA,cD o=0/\fN o=s then (Classical.choose h,0) else (cA aA,4)
theorem yq {s:aG} (h:s.length > 1200):bY s=(cA aA,2):=by unfold bY;rw [if_pos h]
theorem tD {s:aG} {o:D aA} (h:¬ s.length > 1200) (hf:cD o=0) (ht:fN o=s):bY s=(o,0):=by
 have hx:∃o:D aA,cD o=0/\fN o=s:=⟨o,hf,ht⟩
 have hc:=Classical.choose_spec hx
 unfold bY
 rw [if_neg h,dif_pos hx,GO hc.1 hf (hc.2.trans ht.symm)]
theorem ve {s:aG} (h:¬ s.length > 1200) (hn:∀o:D aA,cD o=0->fN o≠s):bY s=(cA aA,4):=by
 unfold bY
 rw [if_neg h,dif_neg fun ⟨o,h1,h2⟩=>hn o h1 h2]
theorem E4 {s:aG} (h:¬ s.length > 1200) (hr:E3 s=none):bY s=(cA aA,4):=
 ve h fun o h1 h2=>by rw [<-h2,pw h1] at hr;cases hr
theorem wH {s:aG} {o:D aA} (h:¬ s.length > 1200) (hr:E3 s=some o) (hb:cD o=0->fN o≠s):bY s=(cA aA,4):=
 ve h fun p h1 h2=>by
  have:p=o:=by rw [<-h2,pw h1] at hr;exact Option.some.inj hr
  rw [this] at h1 h2
  exact hb h1 h2
def eO (o:D aA) (b:Bool) (s:aG):D aA × Bool:=
 let w:=parts 32 (Lib.trimPrefix s cS)
 if nth .str w 0=iF/\w.length=2 then (na o (nth .str w 1),b)
 else if nth .str w 0=ie/\w.length=2 then (nb o (dK (nth .str w 1)).1,b || (eL (nth .str w 1)).isNone)
 else if nth .str w 0=gL/\w.length=3 then (ql o (nth .str w 1,(dK (nth .str w 2)).1,Lib.hasPrefix s cS,()),b || (eL (nth .str w 2)).isNone)
 else if nth .str w 0=j9/\w.length=3 then (mC o ((dK (nth .str w 1)).1,1,(dK (nth .str w 2)).1,[],false,()),(b || (eL (nth .str w 1)).isNone) || (eL (nth .str w 2)).isNone)
 else if (nth .str w 0=jm\/nth .str w 0=jh)/\w.length=4 then
  (mC o ((dK (nth .str w 1)).1,if nth .str w 0=jh then 3 else 2,(dK (nth .str w 2)).1,nth .str w 3,Lib.hasPrefix s cS,()),(b || (eL (nth .str w 1)).isNone) || (eL (nth .str w 2)).isNone)
 else (o,true)
theorem l6 {s:aG} {n:Int} (h:eL s=some n):(dK s).1=n:=by
 unfold eL at h
 unfold dK
 cases ha:Lib.atoiAll s with
 | ok v=>rw [ha] at h;simp only at h ⊢;split at h <;> simp_all
 | range=>rw [ha] at h;cases h
 | _=>rw [ha] at h;cases h
theorem E5 (o:D aA) (b:Bool) (s:aG):(∃p,mE o s=some p/\eO o b s=(p,b))\/(mE o s=none/\(eO o b s).2=true):=by
 unfold mE eO
 generalize hw:parts 32 (Lib.trimPrefix s cS)=w
 generalize Lib.hasPrefix s cS=k
 have hne:=u3 32 (Lib.trimPrefix s cS)
 rw [hw] at hne
 match w,hne with
 | [],hne=>exact absurd rfl hne
 | [a],_=>exact .inr ⟨rfl,by simp⟩
 | [a,x],_=>
  dsimp only [kB]
  simp only [show nth .str [a,x] 0=a from rfl,show nth .str [a,x] 1=x from rfl]
  by_cases h1:a=iF
  ·rw [if_pos h1,if_pos (show (a=iF)/\[a,x].length=2 from ⟨h1,rfl⟩)];exact .inl ⟨_,rfl,rfl⟩
  ·rw [if_neg h1,if_neg (show ¬ ((a=iF)/\[a,x].length=2) from fun e=>h1 e.1)]
   by_cases h2:a=ie
   ·rw [if_pos h2,if_pos (show (a=ie)/\[a,x].length=2 from ⟨h2,rfl⟩)]
    cases hn:eL x with
    | none=>exact .inr ⟨rfl,by simp⟩
    | some n=>exact .inl ⟨_,rfl,by rw [l6 hn];simp⟩
   ·rw [if_neg h2,if_neg (show ¬ ((a=ie)/\[a,x].length=2) from fun e=>h2 e.1),if_neg (show ¬ ((a=gL)/\[a,x].length=3) from fun e=>absurd e.2 (by simp)),if_neg (show ¬ ((a=j9)/\[a,x].length=3) from fun e=>absurd e.2 (by simp)),if_neg (show ¬ ((a=jm\/a=jh)/\[a,x].length=4) from fun e=>absurd e.2 (by simp))];exact .inr ⟨rfl,rfl⟩
 | [a,x,y],_=>
  dsimp only [kB]
  simp only [show nth .str [a,x,y] 0=a from rfl,show nth .str [a,x,y] 1=x from rfl,show nth .str [a,x,y] 2=y from rfl]
  rw [if_neg (show ¬ ((a=iF)/\[a,x,y].length=2) from fun e=>absurd e.2 (by simp)),if_neg (show ¬ ((a=ie)/\[a,x,y].length=2) from fun e=>absurd e.2 (by simp))]
  by_cases h1:a=gL
  ·rw [if_pos h1,if_pos (show (a=gL)/\[a,x,y].length=3 from ⟨h1,rfl⟩)]
   cases hn:eL y with
   | none=>exact .inr ⟨rfl,by simp⟩
   | some n=>exact .inl ⟨_,rfl,by rw [l6 hn];simp⟩
  ·rw [if_neg h1,if_neg (show ¬ ((a=gL)/\[a,x,y].length=3) from fun e=>h1 e.1)]
   by_cases h2:a=j9
   ·rw [if_pos h2,if_pos (show (a=j9)/\[a,x,y].length=3 from ⟨h2,rfl⟩)]
    unfold u7
    cases hm:eL x with
    | none=>exact .inr ⟨rfl,by simp⟩
    | some m=>
     cases hn:eL y with
     | none=>exact .inr ⟨rfl,by simp⟩
     | some n=>exact .inl ⟨_,rfl,by rw [l6 hn,l6 hm];simp⟩
   ·rw [if_neg h2,if_neg (show ¬ ((a=j9)/\[a,x,y].length=3) from fun e=>h2 e.1),if_neg (show ¬ ((a=jm\/a=jh)/\[a,x,y].length=4) from fun e=>absurd e.2 (by simp))];exact .inr ⟨rfl,rfl⟩
 | [a,x,y,z],_=>
  dsimp only [kB]
  simp only [show nth .str [a,x,y,z] 0=a from rfl,show nth .str [a,x,y,z] 1=x from rfl,show nth .str [a,x,y,z] 2=y from rfl,show nth .str [a,x,y,z] 3=z from rfl]
  rw [if_neg (show ¬ ((a=iF)/\[a,x,y,z].length=2) from fun e=>absurd e.2 (by simp)),if_neg (show ¬ ((a=ie)/\[a,x,y,z].length=2) from fun e=>absurd e.2 (by simp)),if_neg (show ¬ ((a=gL)/\[a,x,y,z].length=3) from fun e=>absurd e.2 (by simp)),if_neg (show ¬ ((a=j9)/\[a,x,y,z].length=3) from fun e=>absurd e.2 (by simp))]
  by_cases h1:a=jm\/a=jh
  ·rw [if_pos h1,if_pos (show (a=jm\/a=jh)/\[a,x,y,z].length=4 from ⟨h1,rfl⟩)]
   unfold u7
   cases hm:eL x with
   | none=>exact .inr ⟨rfl,by simp⟩
   | some m=>
    cases hn:eL y with
    | none=>exact .inr ⟨rfl,by simp⟩
    | some n=>exact .inl ⟨_,rfl,by rw [l6 hn,l6 hm];simp⟩
  ·rw [if_neg h1,if_neg (show ¬ ((a=jm\/a=jh)/\[a,x,y,z].length=4) from fun e=>h1 e.1)];exact .inr ⟨rfl,rfl⟩
 | a :: x :: y :: z :: u :: r,_=>exact .inr ⟨rfl,by simp⟩
theorem GP (o:D aA) (s:aG):(eO o true s).2=true:=by
 unfold eO;simp only [Bool.true_or]
 split
 ·rfl
 ·split
  ·rfl
  ·split
   ·rfl
   ·split
    ·rfl
    ·split <;> rfl
theorem GQ (o:D aA) (b:Bool) (s:aG) :
  (eO o b s).1.1.length<=o.1.length + 1/\(eO o b s).1.2.1.length<=o.2.1.length + 1/\(eO o b s).1.2.2.1.length<=o.2.2.1.length + 1/\(eO o b s).1.2.2.2.1.length<=o.2.2.2.1.length + 1:=by
 have e:∀{α:Type} (l:List α) (x:α),(l++[x]).length<=l.length + 1:=fun l x=>by simp
 have e0:∀n:Nat,n<=n + 1:=fun n=>Nat.le_succ n
 unfold eO
 simp only
 split
 ·exact ⟨e _ _,e0 _,e0 _,e0 _⟩
 ·split
  ·exact ⟨e0 _,e _ _,e0 _,e0 _⟩
  ·split
   ·exact ⟨e0 _,e0 _,e _ _,e0 _⟩
   ·split
    ·exact ⟨e0 _,e0 _,e0 _,e _ _⟩
    ·split
     ·exact ⟨e0 _,e0 _,e0 _,e _ _⟩
     ·exact ⟨e0 _,e0 _,e0 _,e0 _⟩
structure jn (L:List aG) (i:Nat) (o:D aA) (b:Bool):Prop where
 le:i<=L.length
 st:(run mE (cA aA) (L.take i)=some o/\b=false)\/(run mE (cA aA) (L.take i)=none/\b=true)
 l1:o.1.length<=i
 l2:o.2.1.length<=i
 l3:o.2.2.1.length<=i
 l4:o.2.2.2.1.length<=i
theorem jn.zero (L:List aG):jn L 0 (cA aA) false:=⟨Nat.zero_le _, .inl ⟨rfl,rfl⟩,Nat.le_refl _,Nat.le_refl _,Nat.le_refl _,Nat.le_refl _⟩
theorem jn.next {L:List aG} {i:Nat} {o:D aA} {b:Bool} (h:jn L i o b) (hi:i < L.length):jn L (i + 1) (eO o b (nth .str L i)).1 (eO o b (nth .str L i)).2:=by
 obtain ⟨a1,a2,a3,a4⟩:=GQ o b (nth .str L i)
 refine ⟨hi,?_,by have:=h.l1;omega,by have:=h.l2;omega,by have:=h.l3;omega,by have:=h.l4;omega⟩
 rw [ku (t:=.str) hi,Bg]
 rcases h.st with ⟨hr,hb⟩ | ⟨hr,hb⟩
 ·rw [hr,Option.bind_some]
  rcases E5 o b (nth .str L i) with ⟨p,h1,h2⟩ | ⟨h1,h2⟩
  ·rw [h2];exact .inl ⟨h1,hb⟩
  ·exact .inr ⟨h1,h2⟩
 ·rw [hr,hb];exact .inr ⟨rfl,GP o _⟩
end Go.Mrl

namespace Go.Mrl
open Go.Vg
abbrev Ju:=Unit × List (List UInt8) × List Int × List (D aI) × List (D aS) × (Bool × Unit) × Unit
def IA (x:Ju):D aA:=(x.2.1,x.2.2.1,x.2.2.2.1,x.2.2.2.2.1,())
def GR (p:D aA × Bool):Ju:=((),p.1.1,p.1.2.1,p.1.2.2.1,p.1.2.2.2.1,(p.2,()),())
theorem Bj (s p:aG):(Lib.trimPrefix s p).length<=s.length:=by unfold Lib.trimPrefix;split <;> simp
theorem DI {s:aG} {w:List aG} (hw:w=parts 32 (Lib.trimPrefix s cS)) (i:Nat):(nth .str w i).length<=s.length:=by
 by_cases h:i < w.length
 ·have h1:=fJ (t:=.str) h
  rw [hw] at h1
  have:=mY _ _ _ h1
  rw [<-hw] at this
  exact Nat.le_trans this (Bj _ _)
 ·unfold nth;rw [List.getD_eq_getElem?_getD,List.getElem?_eq_none (by omega)];exact Nat.zero_le _
theorem IB {s:aG} {w:List aG} (hw:w=parts 32 (Lib.trimPrefix s cS)):0 < w.length:=by rw [hw];exact List.length_pos_iff.2 (u3 _ _)
theorem jI {c:Bool} {P:Prop} (q:c=true ↔ P) (h:c=false):¬ P:=fun p=>by rw [q.2 p] at h;cases h
section
variable {o:D aA} {b:Bool} {s:aG} {w:List aG} (hw:w=parts 32 (Lib.trimPrefix s cS))
include hw
theorem E6 (h:nth .str w 0=iF/\w.length=2):eO o b s=(na o (nth .str w 1),b):=by
 unfold eO;simp only;rw [<-hw,if_pos h]
theorem E7 (h0:¬ (nth .str w 0=iF/\w.length=2)) (h:nth .str w 0=ie/\w.length=2):eO o b s=(nb o (dK (nth .str w 1)).1,b || (eL (nth .str w 1)).isNone):=by
 unfold eO;simp only;rw [<-hw,if_neg h0,if_pos h]
theorem GS (h0:¬ (nth .str w 0=iF/\w.length=2)) (h1:¬ (nth .str w 0=ie/\w.length=2)) (h:nth .str w 0=gL/\w.length=3) :
  eO o b s=(ql o (nth .str w 1,(dK (nth .str w 2)).1,Lib.hasPrefix s cS,()),b || (eL (nth .str w 2)).isNone):=by
 unfold eO;simp only;rw [<-hw,if_neg h0,if_neg h1,if_pos h]
theorem E8 (h0:¬ (nth .str w 0=iF/\w.length=2)) (h1:¬ (nth .str w 0=ie/\w.length=2)) (h2:¬ (nth .str w 0=gL/\w.length=3)) (h:nth .str w 0=j9/\w.length=3) :
  eO o b s=(mC o ((dK (nth .str w 1)).1,1,(dK (nth .str w 2)).1,[],false,()),(b || (eL (nth .str w 1)).isNone) || (eL (nth .str w 2)).isNone):=by
 unfold eO;simp only;rw [<-hw,if_neg h0,if_neg h1,if_neg h2,if_pos h]
theorem yr (h0:¬ (nth .str w 0=iF/\w.length=2)) (h1:¬ (nth .str w 0=ie/\w.length=2)) (h2:¬ (nth .str w 0=gL/\w.length=3)) (h3:¬ (nth .str w 0=j9/\w.length=3))
  (h:(nth .str w 0=jm\/nth .str w 0=jh)/\w.length=4) {k:Int} (hk:k=if nth .str w 0=jh then 3 else 2) :
  eO o b s=(mC o ((dK (nth .str w 1)).1,k,(dK (nth .str w 2)).1,nth .str w 3,Lib.hasPrefix s cS,()),(b || (eL (nth .str w 1)).isNone) || (eL (nth .str w 2)).isNone):=by
 unfold eO;simp only;rw [<-hw,if_neg h0,if_neg h1,if_neg h2,if_neg h3,if_pos h,hk]
theorem E9 (h0:¬ (nth .str w 0=iF/\w.length=2)) (h1:¬ (nth .str w 0=ie/\w.length=2)) (h2:¬ (nth .str w 0=gL/\w.length=3)) (h3:¬ (nth .str w 0=j9/\w.length=3))
  (h:¬ ((nth .str w 0=jm\/nth .str w 0=jh)/\w.length=4)):eO o b s=(o,true):=by
 unfold eO;simp only;rw [<-hw,if_neg h0,if_neg h1,if_neg h2,if_neg h3,if_neg h]
end
end Go.Mrl

namespace Go.Mrl
open Go.Vg
end Go.Mrl

namespace Go.Mrl
open Go.Vg
noncomputable def kD (s:aG):D aA × aU:=((bY s).1,aN (bY s).2)
theorem Fa {s:aG} (h:s.length > 1200):(cA aA,aU.no 2)=kD s:=by unfold kD;rw [yq h];rfl
theorem jn.run {L:List aG} {i:Nat} {o:D aA} {b:Bool} (h:jn L i o b) (hi:¬ i < L.length):(run mE (cA aA) L=some o/\b=false)\/(run mE (cA aA) L=none/\b=true):=by
 have:=h.st
 rwa [List.take_of_length_le (by omega)] at this
theorem sV {s:aG} {i:Nat} {o:D aA} {b:Bool} (h:jn (parts 10 (Lib.trimSuffix s [10])) i o b) (hi:¬ i < (parts 10 (Lib.trimSuffix s [10])).length) (hl:¬ s.length > 1200)
  (hb:b=true\/(iC o).2.isNil=false\/¬ (iC o).1=s):(cA aA,aU.no 4)=kD s:=by
 have:bY s=(cA aA,4):=by
  rcases h.run hi with ⟨hr,h0⟩ | ⟨hr,h0⟩
  ·rcases hb with hb | hb | hb
   ·rw [hb] at h0;cases h0
   ·refine wH hl hr fun hf ht => ?_
    rw [rb hf rfl (by show (fN o).length<=1200;rw [ht];omega)] at hb
    cases hb
   ·refine wH hl hr fun hf ht=>hb ?_
    rw [rb hf rfl (by show (fN o).length<=1200;rw [ht];omega)]
    exact ht
  ·exact E4 hl hr
 unfold kD;rw [this];rfl
theorem IC {s:aG} {o:D aA} (hl:¬ s.length > 1200)
  (hn:(iC o).2.isNil=true) (ht:(iC o).1=s):(o,aU.nil)=kD s:=by
 have hf:cD o=0:=by
  apply Classical.byContradiction;intro hf
  rw [ym hf] at hn
  exact hf (bB.1 hn)
 have hs:fN o=s:=by
  by_cases h:(fN o).length > 1200
  ·rw [wF hf rfl h] at hn;cases hn
  ·rw [rb hf rfl (by show (fN o).length<=1200;omega)] at ht;exact ht
 unfold kD;rw [tD hl hf hs];rfl
theorem JY (s p:aG):(Lib.trimSuffix s p).length<=s.length:=by unfold Lib.trimSuffix;split <;> simp
theorem GU (s:aG) (h:s.length<=1200):(parts 10 (Lib.trimSuffix s [10])).length<=1201:=by
 have h1:=sN 10 (Lib.trimSuffix s [10])
 have h2:(Lib.trimSuffix s [10]).length<=s.length:=by unfold Lib.trimSuffix;split <;> simp
 omega
theorem Fb {s:aG} (h:s.length<=1200) (i:Nat):(nth .str (parts 10 (Lib.trimSuffix s [10])) i).length<=1200:=by
 by_cases hi:i < (parts 10 (Lib.trimSuffix s [10])).length
 ·have:=mY _ _ _ (fJ (t:=.str) hi)
  have h2:(Lib.trimSuffix s [10]).length<=s.length:=by unfold Lib.trimSuffix;split <;> simp
  omega
 ·unfold nth;rw [List.getD_eq_getElem?_getD,List.getElem?_eq_none (by omega)];exact Nat.zero_le _
end Go.Mrl

namespace Go.Mrl
open Go.Vg
abbrev Rd:=aG->aG × Int × Int
structure fR (rd:Rd):Prop where
 code:∀s,(rd s).2.2=0\/(rd s).2.2=5
 Ls:∃K:List aG,K.length<=6/\∀s,(rd s).2.2=0->s∈K
def dX (ns l:List aG):List aG:=l.foldl (fun ns s=>if ns.any (· == s)=true then ns else ns++[s]) ns
noncomputable def ig (rd:Rd) (s:aG):D aA:=(bY (rd s).1).1
noncomputable def dH (rd:Rd) (s:aG):Int:=if (rd s).2.2=0 then (bY (rd s).1).2 else (rd s).2.2
noncomputable def lr (rd:Rd):Nat->Nat->List aG->List (D aA)->List aG × List (D aA) × Int
 | 0,_,ns,os=>(ns,os,0)
 | k + 1,i,ns,os=>
  if i < ns.length then
   if dH rd (nth .str ns i)=0 then lr rd k (i + 1) (dX ns (ig rd (nth .str ns i)).1) (os++[ig rd (nth .str ns i)])
   else ([],[],dH rd (nth .str ns i))
  else (ns,os,0)
noncomputable def aZ (rd:Rd) (root:aG):List aG × List (D aA) × Int:=lr rd 7 0 [root] []
theorem wI (s:aG):((bY s).2=0/\cD (bY s).1=0/\fN (bY s).1=s)\/bY s=(cA aA,2)\/bY s=(cA aA,4):=by
 by_cases h:s.length > 1200
 ·exact .inr (.inl (yq h))
 ·by_cases h2:∃o:D aA,cD o=0/\fN o=s
  ·obtain ⟨o,h3,h4⟩:=h2
   rw [tD h h3 h4];exact .inl ⟨rfl,h3,h4⟩
  ·exact .inr (.inr (ve h fun o h3 h4=>h2 ⟨o,h3,h4⟩))
theorem CL (s:aG):0<=(bY s).2:=by
 rcases wI s with ⟨h,_⟩ | h | h <;> rw [h] <;> decide
theorem rf {s:aG} (h:(bY s).2=0):cD (bY s).1=0:=by
 rcases wI s with ⟨_,h,_⟩ | h' | h'
 ·exact h
 ·rw [h'] at h;cases h
 ·rw [h'] at h;cases h
theorem xr {rd:Rd} (h:fR rd) (s:aG):0<=dH rd s:=by
 unfold dH
 split
 ·exact CL _
 ·rcases h.code s with e | e <;> rw [e] <;> decide
theorem iw {rd:Rd} (h:fR rd) {s:aG} (e:dH rd s=0):(rd s).2.2=0/\(bY (rd s).1).2=0:=by
 unfold dH at e
 rcases h.code s with c | c
 ·rw [if_pos c] at e;exact ⟨c,e⟩
 ·rw [if_neg (by rw [c];decide),c] at e;cases e
theorem sW {rd:Rd} {s:aG} (e:¬ (rd s).2.2=0):dH rd s=(rd s).2.2:=by unfold dH;rw [if_neg e]
theorem pP {rd:Rd} {s:aG} (e:(rd s).2.2=0):dH rd s=(bY (rd s).1).2:=by unfold dH;rw [if_pos e]
theorem ID (ns:List aG):dX ns []=ns:=rfl
theorem sX (ns l:List aG) (s:aG):dX ns (s :: l)=dX (if ns.any (· == s)=true then ns else ns++[s]) l:=rfl
theorem GV (ns l:List aG) (s:aG):dX ns (l++[s])=if (dX ns l).any (· == s)=true then dX ns l else dX ns l++[s]:=by
 unfold dX;rw [List.foldl_append];rfl
theorem DJ {ns:List aG} {s:aG}:ns.any (· == s)=true ↔ s∈ns:=by
 rw [List.any_eq_true]
 constructor
 ·rintro ⟨x,hx,e⟩;rw [<-(by simpa using e:x=s)];exact hx
 ·intro h;exact ⟨s,h,by simp⟩
theorem nf:∀(l ns:List aG),∃r,dX ns l=ns++r/\r.length<=l.length/\∀s∈r,s∈l
 | [],ns=>⟨[],by simp [ID],by simp,by simp⟩
 | x :: l,ns=>by
  rw [sX]
  split
  ·obtain ⟨r,h1,h2,h3⟩:=nf l ns
   exact ⟨r,h1,by simp;omega,fun s hs=>by simp [h3 s hs]⟩
  ·obtain ⟨r,h1,h2,h3⟩:=nf l (ns++[x])
   refine ⟨x :: r,by rw [h1];simp,by simp;omega,fun s hs => ?_⟩
   rcases List.mem_cons.1 hs with rfl | hs
   ·simp
   ·simp [h3 s hs]
theorem rh:∀(l ns:List aG),ns.Nodup->(dX ns l).Nodup
 | [],ns,h=>h
 | x :: l,ns,h=>by
  rw [sX]
  split
  ·exact rh l ns h
  ·rename_i hx
   refine rh l _ ?_
   rw [List.nodup_append]
   refine ⟨h,by simp,fun a ha b hb e=>hx (DJ.2 ?_)⟩
   simp at hb;subst hb;exact e▸ha
theorem Bk:∀(l ns:List aG),∀s∈l,s∈dX ns l
 | [],_,s,h=>by simp at h
 | x :: l,ns,s,h=>by
  rw [sX]
  rcases List.mem_cons.1 h with rfl | h
  ·split
   ·rename_i hx
    obtain ⟨r,h1,_⟩:=nf l ns
    rw [h1];exact List.mem_append_left _ (DJ.1 hx)
   ·obtain ⟨r,h1,_⟩:=nf l (ns++[s])
    rw [h1];simp
  ·exact Bk l _ s h
theorem yt {ns l:List aG} {i:Nat} (h:i < l.length):dX ns (l.take (i + 1))=if (dX ns (l.take i)).any (· == nth .str l i)=true then dX ns (l.take i) else dX ns (l.take i)++[nth .str l i]:=by
 rw [ku (t:=.str) h,GV]
theorem yu {t:Ty} {a b:List (D t)} {i:Nat} (h:i < a.length):nth t (a++b) i=nth t a i:=by rw [q0,if_pos h]
structure jd (rd:Rd) (root:aG) (i:Nat) (ns:List aG) (os:List (D aA)):Prop where
 eq:lr rd (7 - i) i ns os=aZ rd root
 le:i<=6
 lo:i<=ns.length
 pos:0 < ns.length
 len:os.length=i
 hi:ns.length<=1 + 4 * i
 head:nth .str ns 0=root
 nd:ns.Nodup
 sY:∀j,j < i->dH rd (nth .str ns j)=0/\nth aA os j=ig rd (nth .str ns j)
 want:∀j,j < ns.length->j≠0->∃k,k < i/\k < j/\nth .str ns j∈(nth aA os k).1
 sR:∀j,j < i->∀s∈(nth aA os j).1,s∈ns
theorem jd.zero (rd:Rd) (root:aG):jd rd root 0 [root] []:=
 ⟨rfl,by omega,by simp,by simp,rfl,by simp,rfl,by simp,fun j h=>by omega,fun j h h'=>by simp at h;omega,fun j h=>by omega⟩
theorem jd.room {rd:Rd} {root:aG} {i:Nat} {ns:List aG} {os:List (D aA)} (ok:fR rd) (h:jd rd root i ns os) (hi:i < ns.length) (hf:dH rd (nth .str ns i)=0):i + 1<=6:=by
 obtain ⟨K,hK,hm⟩:=ok.Ls
 have hsub:∀y∈ns.take (i + 1),y∈K:=by
  intro y hy
  obtain ⟨j,hj,rfl⟩:=mU (t:=.str) hy
  rw [List.length_take] at hj
  rw [AR (t:=.str) (by omega)]
  refine hm _ (iw ok ?_).1
  rcases Nat.lt_or_ge j i with hl | hl
  ·exact (h.sY j hl).1
  ·rw [show j=i by omega];exact hf
 have:=x8 (h.nd.sublist (List.take_sublist (i + 1) ns)) hsub
 rw [List.length_take] at this
 omega
theorem jd.fuel {rd:Rd} {root:aG} {i:Nat} {ns:List aG} {os:List (D aA)} (h:jd rd root i ns os):lr rd (6 - i + 1) i ns os=aZ rd root:=by
 rw [<-h.eq];congr 1;have:=h.le;omega
theorem jd.bad {rd:Rd} {root:aG} {i:Nat} {ns:List aG} {os:List (D aA)} (h:jd rd root i ns os) (hi:i < ns.length) (hf:¬ dH rd (nth .str ns i)=0) :
  aZ rd root=([],[],dH rd (nth .str ns i)):=by
 rw [<-h.fuel,lr,if_pos hi,if_neg hf]
theorem jd.done {rd:Rd} {root:aG} {i:Nat} {ns:List aG} {os:List (D aA)} (h:jd rd root i ns os) (hi:¬ i < ns.length):aZ rd root=(ns,os,0):=by
 rw [<-h.fuel,lr,if_neg hi]
theorem vf {rd:Rd} (ok:fR rd) {s:aG} (hf:dH rd s=0):jc (ig rd s):=kA (rf (iw ok hf).2)
theorem jd.next {rd:Rd} {root:aG} {i:Nat} {ns:List aG} {os:List (D aA)} (ok:fR rd) (h:jd rd root i ns os) (hi:i < ns.length) (hf:dH rd (nth .str ns i)=0) :
  jd rd root (i + 1) (dX ns (ig rd (nth .str ns i)).1) (os++[ig rd (nth .str ns i)]):=by
 have hr:=h.room ok hi hf
 have ho:=vf ok hf
 obtain ⟨r,h1,h2,h3⟩:=nf (ig rd (nth .str ns i)).1 ns
 have hn4:=ho.n4
 have hlen:=h.len
 have hhi:=h.hi
 have hpos:=h.pos
 have hos:nth aA (os++[ig rd (nth .str ns i)]) i=ig rd (nth .str ns i):=by rw [q0,if_neg (by omega),h.len,Nat.sub_self];rfl
 have hns:∀j,j < ns.length->nth .str (dX ns (ig rd (nth .str ns i)).1) j=nth .str ns j:=fun j hj=>by rw [h1,yu (t:=.str) hj]
 have hoj:∀j,j < i->nth aA (os++[ig rd (nth .str ns i)]) j=nth aA os j:=fun j hj=>yu (t:=aA) (by omega)
 refine ⟨?_,hr,by rw [h1,List.length_append];omega,by rw [h1,List.length_append];omega,by rw [List.length_append,h.len];rfl,by rw [h1,List.length_append];omega,
  by rw [hns 0 hpos];exact h.head,rh _ _ h.nd,fun j hj => ?_,fun j hj h0 => ?_,fun j hj s hs => ?_⟩
 ·rw [<-h.fuel,lr,if_pos hi,if_pos hf];congr 1;omega
 ·rcases Nat.lt_or_ge j i with hl | hl
  ·rw [hns j (by omega),hoj j hl];exact h.sY j hl
  ·rw [show j=i by omega,hns i hi,hos];exact ⟨hf,rfl⟩
 ·rcases Nat.lt_or_ge j ns.length with hl | hl
  ·obtain ⟨k,k1,k2,k3⟩:=h.want j hl h0
   exact ⟨k,by omega,k2,by rw [hns j hl,hoj k k1];exact k3⟩
  ·refine ⟨i,by omega,by omega,?_⟩
   rw [hos,h1,q0,if_neg (by omega)]
   refine h3 _ (fJ (t:=.str) ?_)
   rw [h1,List.length_append] at hj;omega
 ·rcases Nat.lt_or_ge j i with hl | hl
  ·rw [hoj j hl] at hs
   rw [h1];exact List.mem_append_left _ (h.sR j hl s hs)
  ·rw [show j=i by omega,hos] at hs
   exact Bk _ _ s hs
structure Scope (rd:Rd) (root:aG) (ns:List aG) (os:List (D aA)):Prop where
 le:ns.length<=6
 pos:0 < ns.length
 len:os.length=ns.length
 head:nth .str ns 0=root
 nd:ns.Nodup
 sY:∀j,j < ns.length->dH rd (nth .str ns j)=0/\nth aA os j=ig rd (nth .str ns j)
 want:∀j,j < ns.length->j≠0->∃k,k < j/\nth .str ns j∈(nth aA os k).1
 sR:∀j,j < ns.length->∀s∈(nth aA os j).1,s∈ns
theorem wJ {rd:Rd} {root:aG} (ok:fR rd):∀(m i:Nat) (ns:List aG) (os:List (D aA)),m=7 - i->jd rd root i ns os->
  (∃f,0 < f/\aZ rd root=([],[],f))\/(∃ns os,aZ rd root=(ns,os,0)/\Scope rd root ns os)
 | 0,i,ns,os,hm,h=>by have:=h.le;omega
 | m + 1,i,ns,os,hm,h=>by
  by_cases hi:i < ns.length
  ·by_cases hf:dH rd (nth .str ns i)=0
   ·exact wJ ok m (i + 1) _ _ (by omega) (h.next ok hi hf)
   ·have:=xr ok (nth .str ns i)
    exact .inl ⟨_,by omega,h.bad hi hf⟩
  ·have h1:=h.lo
   have h2:=h.le
   have e:i=ns.length:=by omega
   subst e
   exact .inr ⟨ns,os,h.done hi,h2,h.pos,h.len,h.head,h.nd,h.sY,fun j hj h0=>let ⟨k,_,k2,k3⟩:=h.want j hj h0;⟨k,k2,k3⟩,h.sR⟩
theorem ug {rd:Rd} (ok:fR rd) (root:aG):(∃f,0 < f/\aZ rd root=([],[],f))\/(∃ns os,aZ rd root=(ns,os,0)/\Scope rd root ns os):=
 wJ ok 7 0 _ _ rfl (jd.zero rd root)
theorem vg {rd:Rd} (ok:fR rd) {root:aG} (h:(aZ rd root).2.2=0):Scope rd root (aZ rd root).1 (aZ rd root).2.1:=by
 rcases ug ok root with ⟨f,hf,e⟩ | ⟨ns,os,e,h'⟩
 ·rw [e] at h;simp only at h;omega
 ·rw [e];exact h'
theorem gU {x:dR} (h:x.2.1.1.length<=6):fR (aO x):=by
 refine ⟨fun s => ?_,x.2.1.1.map oL,by rw [List.length_map];exact h,fun s hs => ?_⟩
 ·unfold aO;split
  ·exact .inl rfl
  ·exact .inr rfl
 ·by_cases c:dJ cX x.2.1.1 s=true
  ·obtain ⟨y,hy,e⟩:=kv.1 c
   rw [<-e];exact List.mem_map_of_mem hy
  ·rw [l5 (by simpa using c)] at hs;cases hs
end Go.Mrl

namespace Go.Mrl
open Go.Vg
section
variable {rd:Rd} {root:aG} {i:Nat} {ns:List aG} {os:List (D aA)}
theorem jd.IE (ok:fR rd) (h:jd rd root i ns os) (hi:i < ns.length) (he:¬ (rd (nth .str ns i)).2.2=0) :
  aZ rd root=([],[],(rd (nth .str ns i)).2.2):=by
 rw [h.bad hi (by rw [sW he];exact he),sW he]
theorem jd.JZ (h:jd rd root i ns os) (hi:i < ns.length) (he:(rd (nth .str ns i)).2.2=0) (ho:¬ (bY (rd (nth .str ns i)).1).2=0) :
  aZ rd root=([],[],(bY (rd (nth .str ns i)).1).2):=by
 rw [h.bad hi (by rw [pP he];exact ho),pP he]
theorem xu {s:aG} (he:(rd s).2.2=0) (ho:(bY (rd s).1).2=0):dH rd s=0:=by rw [pP he];exact ho
theorem jd.Lp (h:jd rd root i ns os):os.length + 1<=1000000000:=by have:=h.len;have:=h.le;omega
theorem jd.KT (h:jd rd root i ns os) (ok:fR rd) {s:aG} (hf:dH rd s=0) (k:Nat):(dX ns (List.take k (ig rd s).1)).length + 1<=1000000000:=by
 obtain ⟨r,h1,h2,_⟩:=nf (List.take k (ig rd s).1) ns
 have:=(vf ok hf).n4
 have:=h.hi
 have:=h.le
 rw [h1,List.length_append]
 rw [List.length_take] at h2
 omega
theorem DK {l:List aG} {k:Nat} (h:k < l.length) (hn:(dX ns (l.take k)).any (fun x=>x == nth .str l k)=false):dX ns (l.take k)++[nth .str l k]=dX ns (l.take (k + 1)):=by
 rw [yt h,if_neg (by rw [hn];exact Bool.false_ne_true)]
theorem DL {l:List aG} {k:Nat} (h:k < l.length) (hn:(dX ns (l.take k)).any (fun x=>x == nth .str l k)=true):dX ns (l.take k)=dX ns (l.take (k + 1)):=by
 rw [yt h,if_pos hn]
theorem DM {l:List aG} {k:Nat} (h:¬ k < l.length):dX ns (l.take k)=dX ns l:=by rw [List.take_of_length_le (by omega)]
end
end Go.Mrl

namespace Go.Mrl
open Go.Vg
theorem qm:∀{s:List Int} {l:List (D aQ)} {out o:List Int},eW l s out=some o->∃ext,o=out++ext/\ext.length=s.length:=by
 intro s
 induction s with
 | nil=>intro l out o h;simp only [eW,Option.some.injEq] at h;exact ⟨[],by simp [h],rfl⟩
 | cons n r ih=>
  intro l out o h
  simp only [eW] at h
  split at h
  ·cases h
  ·obtain ⟨ext,h1,h2⟩:=ih h
   exact ⟨_ :: ext,by rw [h1,List.append_assoc];rfl,by simp [h2]⟩
theorem Bl {l:List (D aQ)} {s o:List Int} {k:Nat} (hk:k < s.length) (h:eW l (s.drop k) (o.take k)=some o) (hl:o.length=s.length) :
  (nth (.int .i64) o k:Int)=eI l (bU (nth (.int .i64) s k)) 40 0/\eI l (bU (nth (.int .i64) s k)) 40 0 + bU (nth (.int .i64) s k)<=256/\
  eW (l++[(eI l (bU (nth (.int .i64) s k)) 40 0,bU (nth (.int .i64) s k),())]) (s.drop (k + 1)) (o.take (k + 1))=some o:=by
 rw [oK hk] at h
 split at h
 ·cases h
 ·rename_i hle
  obtain ⟨ext,h1,h2⟩:=qm h
  have hlen:(o.take k).length=k:=by rw [List.length_take];omega
  have hget:o[k]?=some (eI l (bU (nth (.int .i64) s k)) 40 0):=by
   rw [h1,List.append_assoc,List.getElem?_append_right (by omega),hlen,Nat.sub_self];rfl
  refine ⟨gB (t:=.int .i64) hget,by omega,?_⟩
  have:o.take (k + 1)=o.take k++[eI l (bU (nth (.int .i64) s k)) 40 0]:=by
   rw [List.take_add_one,hget];rfl
  rw [this];exact h
theorem Fc {s:List Int} {l:List (D aQ)} (h:(bV (s,l)).2.isNil=true) :
  s.length<=6/\l.length<=20/\(∀j,j < s.length->1<=(nth (.int .i64) s j:Int)/\(nth (.int .i64) s j:Int)<=40)/\(∀y∈l,kV y)/\eW l s []=some (bV (s,l)).1/\(bV (s,l)).1.length=s.length:=by
 by_cases h1:6 < s.length\/20 < l.length
 ·rw [tY h1] at h;cases h
 ·by_cases h2:uY s=true\/uZ l=true
  ·unfold bV at h;rw [if_neg h1,if_pos h2] at h;cases h
  ·have hs:∀j,j < s.length->1<=(nth (.int .i64) s j:Int)/\(nth (.int .i64) s j:Int)<=40:=by
    intro j hj
    apply Classical.byContradiction
    intro hn
    rw [tZ h1 hj hn] at h;cases h
   have ht:∀j,j < l.length->kV (nth aQ l j):=by
    intro j hj
    apply Classical.byContradiction
    intro hn
    rw [ss h1 hj hn] at h;cases h
   rw [su h1 hs ht] at h ⊢
   refine ⟨by omega,by omega,hs,fun y hy => ?_,?_⟩
   ·obtain ⟨i,hi,e⟩:=mU (t:=aQ) hy;rw [<-e];exact ht i hi
   ·split at h
    ·rename_i o ho
     obtain ⟨ext,k1,k2⟩:=qm ho
     simp only [ho]
     exact ⟨trivial,by rw [k1];simpa using k2⟩
    ·cases h
end Go.Mrl
namespace Go.Mrl
open Go.Vg
theorem CM {n:Int}:n<=bU n/\bU n < n + 16:=by unfold bU;omega
end Go.Mrl

namespace Go.Mrl
open Go.Vg
def gA (s:List Int):Nat->Int
 | 0=>0
 | k + 1=>gA s k + bU (nth (.int .i64) s k)
def ri (l:List (Int × Int × Unit)) (S:Int):Prop:=0<=S/\(∃m:Nat,S=16 * (m:Int))/\(∀y∈l,y.1 + y.2.1<=S)/\∀p:Int,0<=p->p < S->∃y∈l,y.1<=p/\p < y.1 + y.2.1
theorem ri.nil:ri [] 0:=⟨Int.le_refl _,⟨0,rfl⟩,fun y hy=>by simp at hy,fun p h1 h2=>by omega⟩
theorem ri.snoc {l:List (Int × Int × Unit)} {S m:Int} (h:ri l S) (hm:0 < m) (h16:∃k:Nat,m=16 * (k:Int)):ri (l++[(S,m,())]) (S + m):=by
 obtain ⟨h1,⟨a,h2⟩,h3,h4⟩:=h
 obtain ⟨k,h5⟩:=h16
 refine ⟨by omega,⟨a + k,by omega⟩,fun y hy => ?_,fun p h6 h7 => ?_⟩
 ·rcases List.mem_append.1 hy with hy | hy
  ·have:=h3 y hy;omega
  ·simp only [List.mem_singleton] at hy;subst hy;simp only;omega
 ·by_cases c:p < S
  ·obtain ⟨y,hy,h8⟩:=h4 p h6 c
   exact ⟨y,by simp [hy],h8⟩
  ·exact ⟨(S,m,()),by simp,by simp only;omega⟩
theorem ri.base {l:List (Int × Int × Unit)} {S many:Int} (h:ri l S) (hm:0 < many):∀(n:Nat) (k:Nat),16 * (k:Int)<=S->S - 16 * (k:Int) < 16 * (n:Int)->eI l many n (16 * (k:Int))=S:=by
 obtain ⟨h1,⟨a,h2⟩,h3,h4⟩:=h
 intro n
 induction n with
 | zero=>intro k hk hn;omega
 | succ n ih=>
  intro k hk hn
  by_cases c:16 * (k:Int)=S
  ·rw [c]
   apply nt
   refine wz fun j hj => ?_
   have:=h3 _ (fJ (t:=aQ) hj)
   rw [Cz];simp only;omega
  ·obtain ⟨y,hy,h8,h9⟩:=h4 (16 * (k:Int)) (by omega) (by omega)
   have hf:gz (16 * (k:Int),many,()) l=false:=by
    obtain ⟨j,hj,e⟩:=mU (t:=aQ) hy
    refine tX hj ?_
    rw [e,sr];simp only;omega
   rw [x5 hf,show 16 * (k:Int) + 16=16 * ((k + 1:Nat):Int) by omega]
   exact ih (k + 1) (by omega) (by omega)
theorem J0 {n:Int} (h:1<=n):∃k:Nat,bU n=16 * (k:Int):=⟨((n + 15) / 16).toNat,by unfold bU;omega⟩
theorem Fe {s:List Int} (hs:∀j,j < s.length->1<=(nth (.int .i64) s j:Int)/\(nth (.int .i64) s j:Int)<=40):∀d k,k + d<=s.length->gA s k<=gA s (k + d):=by
 intro d
 induction d with
 | zero=>intro k _;exact Int.le_refl _
 | succ d ih=>
  intro k hk
  have h1:=ih k (by omega)
  have h2:=hs (k + d) (by omega)
  have h3:=jj h2.1 h2.2
  have e:gA s (k + (d + 1))=gA s (k + d) + bU (nth (.int .i64) s (k + d)):=rfl
  rw [e]
  omega
end Go.Mrl

namespace Go.Mrl
open Go.Vg
theorem IF {s:List Int} (hs:∀j,j < s.length->1<=(nth (.int .i64) s j:Int)/\(nth (.int .i64) s j:Int)<=40):∀(d k:Nat) {l:List (Int × Int × Unit)} {o:List Int},k + d=s.length->ri l (gA s k)->gA s k<=256->
  o.length=s.length->eW l (s.drop k) (o.take k)=some o->gA s s.length<=256/\∀i,k<=i->i < s.length->(nth (.int .i64) o i:Int)=gA s i:=by
 intro d
 induction d with
 | zero=>
  intro k l o hk hc hle hl h
  have e:k=s.length:=by omega
  subst e
  exact ⟨hle,fun i h1 h2=>by omega⟩
 | succ d ih=>
  intro k l o hk hc hle hl h
  have h2:=hs k (by omega)
  have h3:=jj h2.1 h2.2
  have hb:=hc.base (many:=bU (nth (.int .i64) s k)) (by omega) 40 0 (by have:=hc.1;omega) (by omega)
  simp only [Int.natCast_zero,Int.mul_zero] at hb
  obtain ⟨n1,n2,n3⟩:=Bl (k:=k) (by omega) h hl
  rw [hb] at n1 n2 n3
  have e:gA s (k + 1)=gA s k + bU (nth (.int .i64) s k):=rfl
  obtain ⟨r1,r2⟩:=ih (k + 1) (by omega) (l:=l++[(gA s k,bU (nth (.int .i64) s k),())]) (by rw [e];exact hc.snoc (by omega) (J0 h2.1)) (by omega) hl n3
  refine ⟨r1,fun i h4 h5 => ?_⟩
  rcases Nat.lt_or_ge k i with c | c
  ·exact r2 i (by omega) h5
  ·rw [show i=k by omega];exact n1
theorem GW {s:List Int} (h:(bV (s,[])).2.isNil=true):(bV (s,[])).1.length=s.length/\(∀j,j < s.length->1<=(nth (.int .i64) s j:Int)/\(nth (.int .i64) s j:Int)<=40)/\
  gA s s.length<=256/\∀i,i < s.length->(nth (.int .i64) (bV (s,[])).1 i:Int)=gA s i:=by
 obtain ⟨_,_,h3,_,h5,h6⟩:=Fc h
 obtain ⟨r1,r2⟩:=IF h3 s.length 0 (l:=[]) (o:=(bV (s,[])).1) (by omega) ri.nil (by simp [gA]) h6 (by rw [List.drop_zero,List.take_zero];exact h5)
 exact ⟨h6,h3,r1,fun i hi=>r2 i (Nat.zero_le _) hi⟩
def bK (l:List (D aA)):List Int:=l.map fun o=>(o.2.1.length:Int)
def cF (l:List (D aA)):Ws:=l.map fun o=>o.2.1
theorem mH (l:List (D aA)):(bK l).length=l.length:=by simp [bK]
theorem kR (l:List (D aA)):(cF l).length=l.length:=by simp [cF]
theorem om {t u:Ty} {f:D u->D t} {l:List (D u)} {i:Nat} (h:i < l.length):nth t (l.map f) i=f (nth u l i):=by
 unfold nth;rw [List.getD_eq_getElem?_getD,List.getD_eq_getElem?_getD,List.getElem?_map,List.getElem?_eq_getElem h];rfl
theorem wK {l:List (D aA)} {i:Nat} (h:i < l.length):(nth (.int .i64) (bK l) i:Int)=((nth aA l i).2.1.length:Int):=om (u:=aA) (t:=.int .i64) h
theorem rj {l:List (D aA)} {i:Nat} (h:i < l.length):nth gJ (cF l) i=(nth aA l i).2.1:=om (u:=aA) (t:=gJ) h
theorem uh {l:List (D aA)} {i:Nat} (h:i < l.length):bK (l.take (i + 1))=bK (l.take i)++[((nth aA l i).2.1.length:Int)]:=by
 unfold bK;rw [jt (t:=aA) h];simp
theorem ui {l:List (D aA)} {i:Nat} (h:i < l.length):cF (l.take (i + 1))=cF (l.take i)++[(nth aA l i).2.1]:=by
 unfold cF;rw [jt (t:=aA) h];simp
noncomputable def vh (l:List (D aA)) (b:List Int) (i:Nat) (ts:List (D aS)):List Pt:=ts.map fun t=>((i:Int),t.1,(eX l b i t).1,())
noncomputable def nO (l:List (D aA)) (b:List Int):List (D aA)->Nat->List Pt
 | [],_=>[]
 | o :: r,i=>vh l b i o.2.2.2.1++nO l b r (i + 1)
theorem DN {l:List (D aA)} {b:List Int} {i:Nat}:∀{ts:List (D aS)} {out:List Pt},(lp l b i ts out).2.isNil=true->lp l b i ts out=(out++vh l b i ts, .nil)/\∀t∈ts,(eX l b i t).2.isNil=true
 | [],out,_=>⟨by simp [lp,vh],by simp⟩
 | t :: r,out,h=>by
  rw [lp] at h ⊢
  by_cases c:(eX l b i t).2.isNil=true
  ·rw [if_pos c] at h ⊢
   obtain ⟨h1,h2⟩:=DN h
   refine ⟨by rw [h1];simp [vh],fun u hu => ?_⟩
   rcases List.mem_cons.1 hu with rfl | hu
   ·exact c
   ·exact h2 u hu
  ·rw [if_neg c] at h;exact absurd h c
theorem DO {l:List (D aA)} {b:List Int}:∀{os:List (D aA)} {i:Nat} {out:List Pt},(kW l b os i out).2.isNil=true->kW l b os i out=(out++nO l b os i, .nil)/\
  ∀k,k < os.length->∀t∈(nth aA os k).2.2.2.1,(eX l b ((i + k:Nat):Int) t).2.isNil=true
 | [],i,out,_=>⟨by simp [kW,nO],fun k hk=>by simp at hk⟩
 | o :: r,i,out,h=>by
  rw [kW] at h ⊢
  unfold lG at h ⊢
  by_cases c:(lp l b i o.2.2.2.1 out).2.isNil=true
  ·rw [if_pos c] at h ⊢
   obtain ⟨h1,h2⟩:=DN c
   obtain ⟨h3,h4⟩:=DO h
   refine ⟨by rw [h3,h1];simp [nO],fun k hk => ?_⟩
   rcases k with _ | k
   ·exact h2
   ·have:=h4 k (by simpa using hk)
    rw [show i + 1 + k=i + (k + 1) by omega] at this
    exact this
  ·rw [if_neg c] at h;exact absurd h c
theorem IG {l:List (D aA)} {b:List Int} (h:(fW (l,b)).2.isNil=true):b.length=l.length/\mI b/\(fW (l,b)).1=nO l b l 0/\∀k,k < l.length->∀t∈(nth aA l k).2.2.2.1,(eX l b (k:Int) t).2.isNil=true:=by
 have h':=h
 unfold fW at h ⊢
 split at h
 ·cases h
 ·rename_i hl
  split at h
  ·rename_i hb
   obtain ⟨h1,h2⟩:=DO h
   refine ⟨Classical.byContradiction hl,hb,?_,fun k hk t ht=>by have:=h2 k hk t ht;rwa [Nat.zero_add] at this⟩
   rw [if_neg hl,if_pos hb,h1];rfl
  ·cases h
theorem vj {l:List (D aA)} {b:List Int}:∀{os:List (D aA)} {i:Nat} {p:Pt},p∈nO l b os i->∃k t,k < os.length/\t∈(nth aA os k).2.2.2.1/\p=(((i + k:Nat):Int),t.1,(eX l b ((i + k:Nat):Int) t).1,())
 | [],i,p,h=>by simp [nO] at h
 | o :: r,i,p,h=>by
  rcases List.mem_append.1 h with h | h
  ·obtain ⟨t,ht,rfl⟩:=List.mem_map.1 h
   exact ⟨0,t,by simp,ht,rfl⟩
  ·obtain ⟨k,t,hk,ht,rfl⟩:=vj h
   exact ⟨k + 1,t,by simp;omega,ht,by rw [show i + 1 + k=i + (k + 1) by omega]⟩
theorem wL (x:List Int × List (D aQ)):Told (bV x).2:=by
 unfold bV
 split
 ·rfl
 ·split
  ·rfl
  ·split <;> rfl
theorem IH (x:Ws × List Pt):Told (gw x).2:=by
 unfold gw;split <;> rfl
theorem n7 {e:aU} (h:Told e):aN (eK e)=e:=by
 cases e with
 | nil=>rfl
 | no m=>
  have h':0 < m:=by have:=h;simpa [Told,tt,eK] using this
  have h2:¬ m=0:=by omega
  show aN m=_
  unfold aN
  rw [if_neg h2]
 | other=>unfold Told at h;simp [tt] at h
theorem Bm {e:aU} (h:Told e) (hn:e.isNil=false):0 < eK e:=by
 cases e with
 | nil=>cases hn
 | no m=>
  have h':0 < m:=by have:=h;simpa [Told,tt,eK] using this
  exact h'
 | other=>unfold Told at h;simp [tt] at h
abbrev Rk:=List aG × List (D aA) × List Int × List Pt × Int
noncomputable def aT (rd:Rd) (root:aG):Rk:=
 if ¬ (aZ rd root).2.2=0 then ([],[],[],[],(aZ rd root).2.2)
 else if (bV (bK (aZ rd root).2.1,[])).2.isNil=false then ([],[],[],[],eK (bV (bK (aZ rd root).2.1,[])).2)
 else if (fW ((aZ rd root).2.1,(bV (bK (aZ rd root).2.1,[])).1)).2.isNil=false then ([],[],[],[],eK (fW ((aZ rd root).2.1,(bV (bK (aZ rd root).2.1,[])).1)).2)
 else ((aZ rd root).1,(aZ rd root).2.1,(bV (bK (aZ rd root).2.1,[])).1,(fW ((aZ rd root).2.1,(bV (bK (aZ rd root).2.1,[])).1)).1,0)
theorem sZ {rd:Rd} {root:aG} (h:¬ (aZ rd root).2.2=0):aT rd root=([],[],[],[],(aZ rd root).2.2):=by unfold aT;rw [if_pos h]
theorem s0 {rd:Rd} {root:aG} (h:(aZ rd root).2.2=0) (h1:(bV (bK (aZ rd root).2.1,[])).2.isNil=false):aT rd root=([],[],[],[],eK (bV (bK (aZ rd root).2.1,[])).2):=by
 unfold aT;rw [if_neg (not_not_intro h),if_pos h1]
theorem wM {rd:Rd} {root:aG} (h:(aZ rd root).2.2=0) (h1:(bV (bK (aZ rd root).2.1,[])).2.isNil=true) (h2:(fW ((aZ rd root).2.1,(bV (bK (aZ rd root).2.1,[])).1)).2.isNil=false) :
  aT rd root=([],[],[],[],eK (fW ((aZ rd root).2.1,(bV (bK (aZ rd root).2.1,[])).1)).2):=by
 unfold aT;rw [if_neg (not_not_intro h),if_neg (by rw [h1];decide),if_pos h2]
theorem uj {rd:Rd} {root:aG} (h:(aZ rd root).2.2=0) (h1:(bV (bK (aZ rd root).2.1,[])).2.isNil=true) (h2:(fW ((aZ rd root).2.1,(bV (bK (aZ rd root).2.1,[])).1)).2.isNil=true) :
  aT rd root=((aZ rd root).1,(aZ rd root).2.1,(bV (bK (aZ rd root).2.1,[])).1,(fW ((aZ rd root).2.1,(bV (bK (aZ rd root).2.1,[])).1)).1,0):=by
 unfold aT;rw [if_neg (not_not_intro h),if_neg (by rw [h1];decide),if_neg (by rw [h2];decide)]
structure iH (rd:Rd) (root:aG) (ns:List aG) (os:List (D aA)) (bs:List Int) (ps:List Pt):Prop where
 e:aZ rd root=(ns,os,0)
 sc:Scope rd root ns os
 eb:bV (bK os,[])=(bs, .nil)
 ea:fW (os,bs)=(ps, .nil)
 bl:bs.length=os.length
 bi:mI bs
 pt:ps=nO os bs os 0
 one:∀k,k < os.length->∀t∈(nth aA os k).2.2.2.1,(eX os bs (k:Int) t).2.isNil=true
 Lj:∀i,i < ps.length->qf (cF os) (nth aX ps i)
theorem yv {e:aU} (h:e.isNil=true):e = .nil:=by cases e <;> first | rfl | cases h
theorem Scope.obj {rd:Rd} {root:aG} {ns:List aG} {os:List (D aA)} (ok:fR rd) (h:Scope rd root ns os) {i:Nat} (hi:i < os.length):jc (nth aA os i):=by
 have:=h.sY i (by rw [<-h.len];exact hi)
 rw [this.2];exact vf ok this.1
theorem jc.II {o:D aA} (h:jc o):Jr o:=by
 refine ⟨by have:=h.t6;omega,fun i hi => ?_,fun i hi => ?_⟩
 ·have:=(h.sym hi).2;unfold mB at this;unfold Small;omega
 ·have:=h.tie hi
  have a:=this.a
  have w:=this.w
  unfold mB at a w
  unfold Small Word
  omega
theorem Scope.II {rd:Rd} {root:aG} {ns:List aG} {os:List (D aA)} (ok:fR rd) (h:Scope rd root ns os):hU os:=⟨by have:=h.le;have:=h.len;omega,fun _ hi=>(h.obj ok hi).II⟩
theorem GX {a n:Int} (h:a<=n - 1):a < n:=by omega
theorem CN {o:D aA} (h:cD o=0):fE o.2.1.length [] o.2.2.1=0/\iW o.2.1.length none o.2.2.2.1=0:=by
 unfold cD at h
 split at h
 ·cases h
 ·split at h
  ·rename_i h1;exact absurd h h1
  ·split at h
   ·rename_i h2;exact absurd h h2
   ·split at h
    ·rename_i h3;exact absurd h h3
    ·rename_i h3;exact ⟨Classical.byContradiction h3,h⟩
theorem Ff {o:D aA} (h:cD o=0) {t:D aS} (ht:t∈o.2.2.2.1):0<=t.1/\t.1 < (o.2.1.length:Int):=by
 obtain ⟨p,hp⟩:=ra _ _ _ (CN h).2 t ht
 obtain ⟨⟨a,b⟩,_⟩:=yj hp
 exact ⟨a,GX b⟩
theorem Scope.fault {rd:Rd} {root:aG} {ns:List aG} {os:List (D aA)} (ok:fR rd) (h:Scope rd root ns os) {i:Nat} (hi:i < os.length):cD (nth aA os i)=0:=by
 have:=h.sY i (by rw [<-h.len];exact hi)
 rw [this.2];exact rf (iw ok this.1).2
theorem oQ {rd:Rd} (ok:fR rd) (root:aG):(∃f,0 < f/\aT rd root=([],[],[],[],f))\/(∃ns os bs ps,aT rd root=(ns,os,bs,ps,0)/\iH rd root ns os bs ps):=by
 rcases ug ok root with ⟨f,hf,e⟩ | ⟨ns,os,e,sc⟩
 ·exact .inl ⟨f,hf,by rw [sZ (by rw [e];simp only;omega),e]⟩
 ·have e0:(aZ rd root).2.2=0:=by rw [e]
  have e1:(aZ rd root).2.1=os:=by rw [e]
  have e2:(aZ rd root).1=ns:=by rw [e]
  cases hb:(bV (bK os,[])).2.isNil with
  | false=>exact .inl ⟨_,Bm (wL _) hb,by rw [s0 e0 (by rw [e1];exact hb),e1]⟩
  | true=>
   cases ha:(fW (os,(bV (bK os,[])).1)).2.isNil with
   | false=>exact .inl ⟨_,Bm (AW _) ha,by rw [wM e0 (by rw [e1];exact hb) (by rw [e1];exact ha),e1]⟩
   | true=>
    obtain ⟨a1,a2,a3,a4⟩:=IG ha
    refine .inr ⟨ns,os,_,_,by rw [uj e0 (by rw [e1];exact hb) (by rw [e1];exact ha),e1,e2],e,sc,Prod.ext rfl (yv hb),Prod.ext rfl (yv ha),a1,a2,a3,a4,fun i hi => ?_⟩
    obtain ⟨k,t,hk,ht,hp⟩:=vj (by rw [<-a3];exact fJ (t:=aX) hi)
    rw [hp]
    have:=Ff (sc.fault ok hk) ht
    refine ⟨by simp only;omega,by simp only;rw [kR];omega,this.1,?_⟩
    simp only [Nat.zero_add]
    rw [show ((k:Int)).toNat=k from rfl,rj hk]
    exact this.2
def gD (ns:List aG) (bs:List Int) (w:Ws) (n:Nat):List (D cL):=(List.range n).map fun i=>(nth .str ns i,nth (.int .i64) bs i,nth gJ w i,())
theorem Fg (ns:List aG) (bs:List Int) (w:Ws) (n:Nat):(gD ns bs w n).length=n:=by simp [gD]
theorem uk (ns:List aG) (bs:List Int) (w:Ws) (n:Nat):gD ns bs w (n + 1)=gD ns bs w n++[(nth .str ns n,nth (.int .i64) bs n,nth gJ w n,())]:=by simp [gD,List.range_succ]
noncomputable def gV (ns:List aG) (bs:List Int) (os:List (D aA)) (ps:List Pt):List (D cL) × aU:=
 if ¬ ns.length=os.length\/¬ bs.length=os.length then ([], .no 3)
 else if (gw (cF os,ps)).2.isNil=false then ([],(gw (cF os,ps)).2)
 else (gD ns bs (gw (cF os,ps)).1 os.length, .nil)
theorem wN {ns:List aG} {bs:List Int} {os:List (D aA)} {ps:List Pt} (h:¬ ns.length=os.length\/¬ bs.length=os.length):gV ns bs os ps=([], .no 3):=by unfold gV;rw [if_pos h]
theorem IJ {ns:List aG} {bs:List Int} {os:List (D aA)} {ps:List Pt} (h:ns.length=os.length) (h':bs.length=os.length) (hp:(gw (cF os,ps)).2.isNil=false):gV ns bs os ps=([],(gw (cF os,ps)).2):=by
 unfold gV;rw [if_neg (by rintro (e | e);exact e h;exact e h'),if_pos hp]
theorem xv {ns:List aG} {bs:List Int} {os:List (D aA)} {ps:List Pt} (h:ns.length=os.length) (h':bs.length=os.length) (hp:(gw (cF os,ps)).2.isNil=true):gV ns bs os ps=(gD ns bs (gw (cF os,ps)).1 os.length, .nil):=by
 unfold gV;rw [if_neg (by rintro (e | e);exact e h;exact e h'),if_neg (by rw [hp];decide)]
theorem Bn (ns:List aG) (bs:List Int) (os:List (D aA)) (ps:List Pt):Told (gV ns bs os ps).2:=by
 unfold gV;split
 ·rfl
 ·split
  ·exact IH _
  ·rfl
noncomputable def fY (rd:Rd) (root:aG):List (D cL) × Int:=
 if ¬ (aT rd root).2.2.2.2=0 then ([],(aT rd root).2.2.2.2)
 else ((gV (aT rd root).1 (aT rd root).2.2.1 (aT rd root).2.1 (aT rd root).2.2.2.1).1,eK (gV (aT rd root).1 (aT rd root).2.2.1 (aT rd root).2.1 (aT rd root).2.2.2.1).2)
theorem iH.put {rd:Rd} {root:aG} {ns:List aG} {os:List (D aA)} {bs:List Int} {ps:List Pt} (h:iH rd root ns os bs ps):gw (cF os,ps)=(jk (cF os) ps, .nil):=tw h.Lj
theorem iH.lay {rd:Rd} {root:aG} {ns:List aG} {os:List (D aA)} {bs:List Int} {ps:List Pt} (h:iH rd root ns os bs ps):gV ns bs os ps=(gD ns bs (jk (cF os) ps) os.length, .nil):=by
 rw [xv h.sc.len.symm h.bl (by rw [h.put];rfl),h.put]
theorem Bo {rd:Rd} {root:aG} (h:¬ (aT rd root).2.2.2.2=0):fY rd root=([],(aT rd root).2.2.2.2):=by unfold fY;rw [if_pos h]
theorem J1 {rd:Rd} {root:aG} {ns:List aG} {os:List (D aA)} {bs:List Int} {ps:List Pt} (e:aT rd root=(ns,os,bs,ps,0)) (h:iH rd root ns os bs ps):fY rd root=(gD ns bs (jk (cF os) ps) os.length,0):=by
 unfold fY;rw [e,if_neg (by simp),h.lay];rfl
theorem iH.sum {rd:Rd} {root:aG} {ns:List aG} {os:List (D aA)} {bs:List Int} {ps:List Pt} (h:iH rd root ns os bs ps) :
  (∀j,j < os.length->1<=(nth aA os j).2.1.length/\(nth aA os j).2.1.length<=40)/\gA (bK os) os.length<=256/\∀i,i < os.length->(nth (.int .i64) bs i:Int)=gA (bK os) i:=by
 have hb:(bV (bK os,[])).2.isNil=true:=by rw [h.eb];rfl
 have hn:(bV (bK os,[])).1=bs:=by rw [h.eb]
 obtain ⟨_,h2,h3,h4⟩:=GW hb
 rw [hn] at h4
 have hl:=mH os
 refine ⟨fun j hj => ?_,by rw [hl] at h3;exact h3,fun i hi=>h4 i (by omega)⟩
 have:=h2 j (by omega)
 rw [wK hj] at this
 exact ⟨Int.ofNat_le.1 this.1,Int.ofNat_le.1 this.2⟩
end Go.Mrl

namespace Go.Mrl
open Go.Vg
def Lt (p:D cL) (a:Int):Prop:=(p.2.1:Int)<=a/\a < (p.2.1:Int) + (p.2.2.1.length:Int)
instance (p:D cL) (a:Int):Decidable (Lt p a):=inferInstanceAs (Decidable (_/\_))
theorem GY {rd:Rd} (ok:fR rd) {root:aG} (h:(aZ rd root).2.2=0):(aZ rd root).2.1.length<=6:=by
 have:=(vg ok h).le;have:=(vg ok h).len;omega
theorem Fh {rd:Rd} (ok:fR rd) {root:aG} (h:(aZ rd root).2.2=0):hU (aZ rd root).2.1:=(vg ok h).II ok
theorem J2 {l:List (D aA)} (h:l.length<=1000/\∀i,i < l.length->(nth aA l i).2.1.length<=1000) :
  (cF l).length<=100000/\∀i,i < (cF l).length->(nth gJ (cF l) i).length<=100000000:=by
 refine ⟨by rw [kR];omega,fun i hi => ?_⟩
 rw [kR] at hi
 rw [rj hi];have:=h.2 i hi;omega
theorem Fi {rd:Rd} (ok:fR rd) {root:aG} {ns:List aG} {os:List (D aA)} (h:Scope rd root ns os):os.length<=1000/\∀i,i < os.length->(nth aA os i).2.1.length<=1000:=by
 refine ⟨by have:=h.le;have:=h.len;omega,fun i hi => ?_⟩
 exact Nat.le_trans (h.obj ok hi).Jt (by decide)
theorem Bp {rd:Rd} (ok:fR rd) {root:aG} (h:(aT rd root).2.2.2.2=0) :
  (aT rd root).2.1.length<=1000/\∀i,i < (aT rd root).2.1.length->(nth aA (aT rd root).2.1 i).2.1.length<=1000:=by
 rcases oQ ok root with ⟨f,hf,e⟩ | ⟨ns,os,bs,ps,e,hr⟩
 ·rw [e] at h;simp at h;omega
 ·rw [e];exact Fi ok hr.sc
theorem IK {rd:Rd} {root:aG} (h:(aT rd root).2.2.2.2=0) :
  ((gV (aT rd root).1 (aT rd root).2.2.1 (aT rd root).2.1 (aT rd root).2.2.2.1).1,(gV (aT rd root).1 (aT rd root).2.2.1 (aT rd root).2.1 (aT rd root).2.2.2.1).2,()) =
   ((fY rd root).1,aN (fY rd root).2,()):=by
 unfold fY;rw [if_neg (not_not_intro h)]
 simp only [n7 (Bn _ _ _ _)]
theorem gW {f:Int} (h:(aN f).isNil=false):¬ f=0:=fun e=>by rw [bB.2 e] at h;cases h
theorem IL (x:List (D aA) × List Int):aN (eK (fW x).2)=(fW x).2:=n7 (AW x)
theorem Bq {α:Type} {l:List α} {i:Nat} (h:¬ i < l.length):l.take i=l:=List.take_of_length_le (by omega)
end Go.Mrl

namespace Go.Mrl
open Go.Vg
section
variable {o:D aA} {b:Bool} {w:List aG} {k:Nat}
end
theorem eT {k n:Nat} (h:(k:Int) < (n:Int)):(decide ((k:Int) < 3))=true ↔ ((k:Int) < (n:Int)/\(k:Int) < 3):=by
 rw [decide_eq_true_eq];omega
end Go.Mrl

namespace Go.Mrl
open Go.Vg
def bM (rd:Rd) (ns:List aG) (bs:List Int) (n:Nat):List (D aH):=(List.range n).map fun i=>(nth .str ns i,(rd (nth .str ns i)).2.1,nth (.int .i64) bs i,())
theorem eR (rd:Rd) (ns:List aG) (bs:List Int) (n:Nat):(bM rd ns bs n).length=n:=by simp [bM]
theorem s3 (rd:Rd) (ns:List aG) (bs:List Int) (n:Nat):bM rd ns bs (n + 1)=bM rd ns bs n++[(nth .str ns n,(rd (nth .str ns n)).2.1,nth (.int .i64) bs n,())]:=by simp [bM,List.range_succ]
theorem jU {rd:Rd} {ns:List aG} {bs:List Int} {n i:Nat} (h:i < n):nth aH (bM rd ns bs n) i=(nth .str ns i,(rd (nth .str ns i)).2.1,nth (.int .i64) bs i,()):=by
 apply gB;simp [bM,h]
noncomputable def fO (rd:Rd) (root:aG):D bD × Int:=
 if ¬ (aT rd root).2.2.2.2=0 then (cA bD,(aT rd root).2.2.2.2)
 else ((root,bM rd (aT rd root).1 (aT rd root).2.2.1 (aT rd root).1.length,(aT rd root).2.2.2.1,()),0)
theorem Br {rd:Rd} {root:aG} (h:¬ (aT rd root).2.2.2.2=0):fO rd root=(cA bD,(aT rd root).2.2.2.2):=by unfold fO;rw [if_pos h]
theorem DP {rd:Rd} {root:aG} (h:(aT rd root).2.2.2.2=0):fO rd root=((root,bM rd (aT rd root).1 (aT rd root).2.2.1 (aT rd root).1.length,(aT rd root).2.2.2.1,()),0):=by
 unfold fO;rw [if_neg (not_not_intro h)]
theorem wO {rd:Rd} (ok:fR rd) (root:aG):(∃f,0 < f/\aT rd root=([],[],[],[],f)/\fO rd root=(cA bD,f))\/
  (∃ns os bs ps,aT rd root=(ns,os,bs,ps,0)/\iH rd root ns os bs ps/\fO rd root=((root,bM rd ns bs ns.length,ps,()),0)):=by
 rcases oQ ok root with ⟨f,hf,e⟩ | ⟨ns,os,bs,ps,e,h⟩
 ·exact .inl ⟨f,hf,e,by rw [Br (by rw [e];simp only;omega),e]⟩
 ·exact .inr ⟨ns,os,bs,ps,e,h,by rw [DP (by rw [e]),e]⟩
def gF (rd:Rd) (p:D aH):Bool:=decide ((rd p.1).2.2=0) && decide ((rd p.1).2.1=p.2.1)
def fK (rd:Rd) (e:D bD):Bool:=e.2.1.all (gF rd) && decide (0 < e.2.1.length)
theorem Bs {rd:Rd} {e:D bD} {i:Nat} (h:i < e.2.1.length) (hf:gF rd (nth aH e.2.1 i)=false):fK rd e=false:=by
 unfold fK
 have:e.2.1.all (gF rd)=false:=List.all_eq_false.2 ⟨_,fJ (t:=aH) h,by rw [hf];decide⟩
 rw [this];rfl
theorem yw {rd:Rd} {e:D bD} (h:∀i,i < e.2.1.length->gF rd (nth aH e.2.1 i)=true):fK rd e=decide (0 < e.2.1.length):=by
 unfold fK
 have:e.2.1.all (gF rd)=true:=List.all_eq_true.2 fun x hx=>by
  obtain ⟨i,hi,rfl⟩:=mU (t:=aH) hx
  exact h i hi
 rw [this];rfl
theorem GZ {rd:Rd} {e:D bD} (h:fK rd e=true):0 < e.2.1.length/\∀i,i < e.2.1.length->(rd (nth aH e.2.1 i).1).2.2=0/\(rd (nth aH e.2.1 i).1).2.1=(nth aH e.2.1 i).2.1:=by
 unfold fK at h
 rw [Bool.and_eq_true,List.all_eq_true,decide_eq_true_eq] at h
 refine ⟨h.2,fun i hi => ?_⟩
 have:=h.1 _ (fJ (t:=aH) hi)
 unfold gF at this
 rw [Bool.and_eq_true,decide_eq_true_eq,decide_eq_true_eq] at this
 exact this
noncomputable def lJ (rd:Rd):List (D aH)->Int
 | []=>0
 | p :: r=>if (bY (rd p.1).1).2=0 then lJ rd r else (bY (rd p.1).1).2
noncomputable def dW (rd:Rd) (l:List (D aH)):List (D aA):=l.map fun p=>(bY (rd p.1).1).1
def dY (l:List (D aH)):List aG:=l.map fun p=>p.1
def dZ (l:List (D aH)):List Int:=l.map fun p=>p.2.2.1
theorem Bt {rd:Rd}:∀{l:List (D aH)} {i:Nat},(∀j,j < i->(bY (rd (nth aH l j).1).1).2=0)->i < l.length->¬ (bY (rd (nth aH l i).1).1).2=0->lJ rd l=(bY (rd (nth aH l i).1).1).2
 | [],i,_,h,_=>by simp at h
 | p :: r,0,_,_,h=>by unfold lJ;rw [if_neg (show ¬ (bY (rd p.1).1).2=0 from h)];rfl
 | p :: r,i + 1,h,h1,h2=>by
  unfold lJ
  rw [if_pos (show (bY (rd p.1).1).2=0 from h 0 (by omega))]
  exact Bt (l:=r) (i:=i) (fun j hj=>h (j + 1) (by omega)) (by simpa using h1) h2
theorem rk {rd:Rd}:∀{l:List (D aH)},(∀j,j < l.length->(bY (rd (nth aH l j).1).1).2=0)->lJ rd l=0
 | [],_=>rfl
 | p :: r,h=>by
  unfold lJ
  rw [if_pos (show (bY (rd p.1).1).2=0 from h 0 (by simp))]
  exact rk (l:=r) fun j hj=>h (j + 1) (by simpa using hj)
noncomputable def kE (rd:Rd) (e:D bD):List (D cL) × Int:=
 if fK rd e=false then ([],10)
 else if ¬ lJ rd e.2.1=0 then ([],lJ rd e.2.1)
 else ((gV (dY e.2.1) (dZ e.2.1) (dW rd e.2.1) e.2.2.1).1,eK (gV (dY e.2.1) (dZ e.2.1) (dW rd e.2.1) e.2.2.1).2)
theorem G0 {rd:Rd} {e:D bD} (h:fK rd e=false):kE rd e=([],10):=by unfold kE;rw [if_pos h]
theorem J3 {rd:Rd} {e:D bD} (h:fK rd e=true) {f:Int} (hb:lJ rd e.2.1=f) (h0:¬ f=0):kE rd e=([],f):=by
 unfold kE;rw [if_neg (by rw [h];decide),if_pos (by rw [hb];exact h0),hb]
theorem G1 {rd:Rd} {e:D bD} (h:fK rd e=true) (hb:lJ rd e.2.1=0) :
  kE rd e=((gV (dY e.2.1) (dZ e.2.1) (dW rd e.2.1) e.2.2.1).1,eK (gV (dY e.2.1) (dZ e.2.1) (dW rd e.2.1) e.2.2.1).2):=by
 unfold kE;rw [if_neg (by rw [h];decide),if_neg (not_not_intro hb)]
theorem oR {t:Ty} {a b:List (D t)} (hl:a.length=b.length) (h:∀i,i < a.length->nth t a i=nth t b i):a=b:=ua (t:=t) hl h
theorem Bu {rd:Rd} {ns:List aG} {bs:List Int}:dY (bM rd ns bs ns.length)=ns:=by
 refine oR (t:=.str) (by simp [dY,bM]) fun i hi => ?_
 have hi':i < ns.length:=by simpa [dY,bM] using hi
 unfold dY
 rw [om (u:=aH) (t:=.str) (by rw [eR];exact hi'),jU hi']
theorem Bv {rd:Rd} {ns:List aG} {bs:List Int} (h:bs.length=ns.length):dZ (bM rd ns bs ns.length)=bs:=by
 refine oR (t:=.int .i64) (by simp [dZ,bM,h]) fun i hi => ?_
 have hi':i < ns.length:=by simpa [dZ,bM] using hi
 unfold dZ
 rw [om (u:=aH) (t:=.int .i64) (by rw [eR];exact hi'),jU hi']
theorem iH.fresh {rd:Rd} (ok:fR rd) {root:aG} {ns:List aG} {os:List (D aA)} {bs:List Int} {ps:List Pt} (h:iH rd root ns os bs ps):fK rd (root,bM rd ns bs ns.length,ps,())=true:=by
 rw [yw]
 ·exact decide_eq_true (by show 0 < (bM rd ns bs ns.length).length;rw [eR];exact h.sc.pos)
 ·intro i hi
  have hi:i < ns.length:=by have:i < (bM rd ns bs ns.length).length:=hi;rwa [eR] at this
  show gF rd (nth aH (bM rd ns bs ns.length) i)=true
  rw [jU hi]
  unfold gF
  rw [decide_eq_true (iw ok (h.sc.sY i hi).1).1,decide_eq_true rfl];rfl
theorem iH.aC {rd:Rd} {root:aG} {ns:List aG} {os:List (D aA)} {bs:List Int} {ps:List Pt} (h:iH rd root ns os bs ps) {rd':Rd} (hs:∀s∈ns,(rd' s).1=(rd s).1):dW rd' (bM rd ns bs ns.length)=os:=by
 refine oR (t:=aA) (by simp [dW,bM,h.sc.len]) fun i hi => ?_
 have hi':i < ns.length:=by simpa [dW,bM] using hi
 unfold dW
 rw [om (u:=aH) (t:=aA) (by rw [eR];exact hi'),jU hi',(h.sc.sY i hi').2]
 unfold ig
 rw [hs _ (fJ (t:=.str) hi')]
theorem iH.bad {rd:Rd} (ok:fR rd) {root:aG} {ns:List aG} {os:List (D aA)} {bs:List Int} {ps:List Pt} (h:iH rd root ns os bs ps) {rd':Rd} (hs:∀s∈ns,(rd' s).1=(rd s).1):lJ rd' (bM rd ns bs ns.length)=0:=by
 refine rk fun j hj => ?_
 rw [eR] at hj
 rw [jU hj]
 simp only
 rw [hs _ (fJ (t:=.str) hj)]
 exact (iw ok (h.sc.sY j hj).1).2
theorem iH.use {rd:Rd} (ok:fR rd) {root:aG} {ns:List aG} {os:List (D aA)} {bs:List Int} {ps:List Pt} (h:iH rd root ns os bs ps) {rd':Rd} (hs:∀s∈ns,(rd' s).1=(rd s).1)
  (hf:fK rd' (root,bM rd ns bs ns.length,ps,())=true):kE rd' (root,bM rd ns bs ns.length,ps,())=(gD ns bs (jk (cF os) ps) os.length,0):=by
 rw [G1 hf (h.bad ok hs)]
 simp only
 rw [Bu,Bv (by rw [h.bl,h.sc.len]),h.aC hs,h.lay];rfl
def eJ (p:D aH):Int:=if aF p.1 > 0 then aF p.1 else if p.2.1 < 1\/p.2.1 > 1000000\/p.2.2.1 < 0\/p.2.2.1 > 255\/p.2.2.1 % 16 > 0 then 1 else 0
def l7:List (D aH)->Int
 | []=>0
 | p :: r=>if eJ p=0 then l7 r else eJ p
def fD (n:Nat) (p:Pt):Int:=if p.1 < 0\/p.1>=(n:Int)\/p.2.1 < 0\/p.2.1 > 39\/fL p.2.2.1=false then 1 else 0
def lV (n:Nat):List Pt->Int
 | []=>0
 | p :: r=>if fD n p=0 then lV n r else fD n p
def px (e:D bD):Prop:=e.2.1.length < 1\/e.2.1.length > 6\/e.2.2.1.length > 36
instance (e:D bD):Decidable (px e):=by unfold px;infer_instance
def gG (e:D bD):Int:=
 if aF e.1 > 0 then aF e.1 else if px e then 2 else if ¬ l7 e.2.1=0 then l7 e.2.1 else lV e.2.1.length e.2.2.1
theorem wP:∀{l:List (D aH)} {i:Nat},(∀j,j < i->eJ (nth aH l j)=0)->i < l.length->¬ eJ (nth aH l i)=0->l7 l=eJ (nth aH l i)
 | [],i,_,h,_=>by simp at h
 | p :: r,0,_,_,h=>by unfold l7;rw [if_neg (show ¬ eJ p=0 from h)];rfl
 | p :: r,i + 1,h,h1,h2=>by
  unfold l7
  rw [if_pos (show eJ p=0 from h 0 (by omega))]
  exact wP (l:=r) (i:=i) (fun j hj=>h (j + 1) (by omega)) (by simpa using h1) h2
theorem oS:∀{l:List (D aH)},(∀j,j < l.length->eJ (nth aH l j)=0)->l7 l=0
 | [],_=>rfl
 | p :: r,h=>by
  unfold l7
  rw [if_pos (show eJ p=0 from h 0 (by simp))]
  exact oS (l:=r) fun j hj=>h (j + 1) (by simpa using hj)
theorem um {n:Nat}:∀{l:List Pt} {i:Nat},(∀j,j < i->fD n (nth aX l j)=0)->i < l.length->¬ fD n (nth aX l i)=0->lV n l=fD n (nth aX l i)
 | [],i,_,h,_=>by simp at h
 | p :: r,0,_,_,h=>by unfold lV;rw [if_neg (show ¬ fD n p=0 from h)];rfl
 | p :: r,i + 1,h,h1,h2=>by
  unfold lV
  rw [if_pos (show fD n p=0 from h 0 (by omega))]
  exact um (l:=r) (i:=i) (fun j hj=>h (j + 1) (by omega)) (by simpa using h1) h2
theorem rD {n:Nat}:∀{l:List Pt},(∀j,j < l.length->fD n (nth aX l j)=0)->lV n l=0
 | [],_=>rfl
 | p :: r,h=>by
  unfold lV
  rw [if_pos (show fD n p=0 from h 0 (by simp))]
  exact rD (l:=r) fun j hj=>h (j + 1) (by simpa using hj)
theorem CO {e:D bD} (h:aF e.1 > 0):gG e=aF e.1:=by unfold gG;rw [if_pos h]
theorem pQ {e:D bD} (h:aF e.1<=0) (h1:px e):gG e=2:=by unfold gG;rw [if_neg (by omega),if_pos h1]
theorem jo {e:D bD} (h:aF e.1<=0) (h1:¬ px e) {i:Nat} (hs:∀j,j < i->eJ (nth aH e.2.1 j)=0) (hi:i < e.2.1.length) {f:Int} (hf:eJ (nth aH e.2.1 i)=f) (h0:f≠0):gG e=f:=by
 have:=wP hs hi (by rw [hf];exact h0)
 unfold gG;rw [if_neg (by omega),if_neg h1,if_pos (by rw [this,hf];exact h0),this,hf]
theorem jq {e:D bD} (h:aF e.1<=0) (h1:¬ px e) (h2:∀j,j < e.2.1.length->eJ (nth aH e.2.1 j)=0) {i:Nat} (hs:∀j,j < i->fD e.2.1.length (nth aX e.2.2.1 j)=0) (hi:i < e.2.2.1.length)
  (hf:fD e.2.1.length (nth aX e.2.2.1 i)=1):gG e=1:=by
 unfold gG;rw [if_neg (by omega),if_neg h1,if_neg (not_not_intro (oS h2)),um hs hi (by rw [hf];decide),hf]
theorem yx {e:D bD} (h:aF e.1<=0) (h1:¬ px e) (h2:∀j,j < e.2.1.length->eJ (nth aH e.2.1 j)=0) (h3:∀j,j < e.2.2.1.length->fD e.2.1.length (nth aX e.2.2.1 j)=0):gG e=0:=by
 unfold gG;rw [if_neg (by omega),if_neg h1,if_neg (not_not_intro (oS h2)),rD h3]
end Go.Mrl

namespace Go.Mrl
open Go.Vg
end Go.Mrl

namespace Go.Mrl
open Go.Vg
end Go.Mrl

namespace Go.Mrl
open Go.Vg
theorem G2 {rd:Rd} {root:aG} {ns:List aG} {os:List (D aA)} {bs:List Int} {ps:List Pt} {w:Ws} (h:aZ rd root=(ns,os,0)) (hb:bV (bK os,[])=(bs, .nil)) (ha:fW (os,bs)=(ps, .nil))
  (hn:ns.length=os.length) (hl:bs.length=os.length) (hp:∀i,i < ps.length->qf (cF os) (nth aX ps i)) (hw:jk (cF os) ps=w):fY rd root=(gD ns bs w os.length,0):=by
 have e:aT rd root=(ns,os,bs,ps,0):=by
  unfold aT
  rw [h]
  simp only [hb,ha,aU.isNil]
  rfl
 unfold fY
 rw [e,if_neg (by simp)]
 have hq:gw (cF os,ps)=(w, .nil):=by rw [tw hp,hw]
 simp only
 rw [xv hn hl (by rw [hq];rfl),hq]
 rfl
def vk:aG:=[110,101,101,100,32,98,10,119,111,114,100,32,48,10,119,104,111,108,101,32,48,32,48,32,120,10]
def xw:aG:=[119,111,114,100,32,55,10,115,121,109,98,111,108,32,120,32,48,10]
abbrev kS:D aA:=([[98]],[0],[],[(0,2,0,[120],false,())],())
abbrev ng:D aA:=([],[7],[([120],0,false,())],[],())
theorem Jv:bY vk=(kS,0):=by
 have i0:Lib.itoa 0 = [48]:=by rw [u4 (by decide) (by decide)];rfl
 refine tD (by decide) (by decide) ?_
 simp only [fN,gK,kz,ky,lU,q9,pq,pO,fM,List.length_singleton,List.length_nil,List.take_succ_cons,List.take_zero,List.flatMap_cons,List.flatMap_nil,i0]
 decide
theorem Jw:bY xw=(ng,0):=by
 have i7:Lib.itoa 7 = [55]:=by rw [u4 (by decide) (by decide)];rfl
 have i0:Lib.itoa 0 = [48]:=by rw [u4 (by decide) (by decide)];rfl
 refine tD (by decide) (by decide) ?_
 simp only [fN,gK,kz,ky,lU,pq,u5,fM,List.length_singleton,List.length_nil,List.take_succ_cons,List.take_zero,List.flatMap_cons,List.flatMap_nil,i7,i0]
 decide
def Lu:dR:=(cT nZ [97] vk).1
def wQ:dR:=(cT Lu [98] xw).1
theorem KU:aO wQ [97]=(vk,1,0):=by decide
theorem KV:aO wQ [98]=(xw,2,0):=by decide
theorem Le:aZ (aO wQ) [97]=([[97],[98]],[kS,ng],0):=by
 have fa:dH (aO wQ) [97]=0:=by unfold dH;rw [KU];show (if (0:Int)=0 then (bY vk).2 else 0)=0;rw [Jv];rfl
 have fb:dH (aO wQ) [98]=0:=by unfold dH;rw [KV];show (if (0:Int)=0 then (bY xw).2 else 0)=0;rw [Jw];rfl
 have oa:ig (aO wQ) [97]=kS:=by unfold ig;rw [KU];show (bY vk).1=kS;rw [Jv]
 have ob:ig (aO wQ) [98]=ng:=by unfold ig;rw [KV];show (bY xw).1=ng;rw [Jw]
 have n0:nth .str [[97]] 0 = [97]:=rfl
 have n1:nth .str [[97],[98]] 1 = [98]:=rfl
 have a0:dX [[97]] kS.1 = [[97],[98]]:=by decide
 have a1:dX [[97],[98]] ng.1 = [[97],[98]]:=by decide
 unfold aZ
 rw [lr,if_pos (by decide),n0,if_pos fa,oa,a0,lr,if_pos (by decide),n1,if_pos fb,ob,a1,lr,if_neg (by decide)]
 rfl
theorem J4:cM ([kS,ng],[120])=(1,0):=by
 refine oI (i:=1) (k:=0) ⟨⟨by decide,by decide,rfl,rfl⟩,?_⟩
 rintro i k (h | ⟨_,h⟩) ⟨_,h1,_,h2⟩
 ·obtain rfl:i=0:=by omega
  exact absurd (show k < 0 from h1) (Nat.not_lt_zero _)
 ·omega
theorem J5:fY (aO wQ) [97]=([([97],0,[16],()),([98],16,[7],())],0):=by
 refine G2 Le (bs:=[0,16]) (ps:=[(0,0,16,())]) (w:=[[16],[7]]) rfl ?_ rfl rfl ?_ rfl
 ·rw [xn rfl (by
   intro i hi
   have:i=0\/i=1:=by simp at hi;omega
   rcases this with rfl | rfl <;> simp [nth])]
  have h1:eX [kS,ng] [0,16] 0 (0,2,0,[120],false,())=(16, .nil):=by
   have ht:dG [kS,ng] [0,16] (0,2,0,[120],false,())=(16, .nil):=by
    unfold dG
    show (if 0<=(cM ([kS,ng],[120])).1 then (kq [0,16] (cM ([kS,ng],[120])).1.toNat + (nth aI (nth aA [kS,ng] (cM ([kS,ng],[120])).1.toNat).2.2.1 (cM ([kS,ng],[120])).2.toNat).2.1,aU.nil) else _)=_
    rw [J4];rfl
   rw [qg (by decide) (by rw [ht];rfl),ht]
   exact xp (by decide) rfl (by decide)
  simp [kW,lp,lG,h1,aU.isNil]
 ·intro i hi
  obtain rfl:i=0:=by simp at hi;omega
  unfold qf;decide
def G3:dR:=((0 + 1 + 1,()),(dU cX (dU cX [] [97] (vk,0 + 1,()) 0) [98] (xw,0 + 1 + 1,()) (jC cX [] [97] 0),jC cX (dU cX [] [97] (vk,0 + 1,()) 0) [98] (jC cX [] [97] 0),()),())
theorem Lf:wQ=G3:=rfl
theorem vm:fY (aO G3) [97]=([([97],0,[16],()),([98],16,[7],())],0):=by rw [<-Lf];exact J5
end Go.Mrl

namespace Go.Mrl
open Go.Vg
theorem cE.ok {x:dR} (h:cE x):fR (aO x):=gU h.pre.1
end Go.Mrl

namespace Go.Mrl
open Go.Vg
theorem yy {rd:Rd} (ok:fR rd) {s:aG} (h:(aT rd s).2.2.2.2=0):iH rd s (aT rd s).1 (aT rd s).2.1 (aT rd s).2.2.1 (aT rd s).2.2.2.1:=by
 rcases oQ ok s with ⟨f,hf,e⟩ | ⟨ns,os,bs,ps,e,hr⟩
 ·rw [e] at h;exact absurd (show f=0 from h) (by omega)
 ·rw [e];exact hr
theorem G4 {rd:Rd} (ok:fR rd) {s:aG} (h:(aT rd s).2.2.2.2=0) {i:Nat} (hi:i < (aT rd s).1.length):(rd (nth .str (aT rd s).1 i)).2.2=0:=
 (iw ok ((yy ok h).sc.sY i hi).1).1
theorem yz {rd:Rd} (ok:fR rd) {s:aG} (h:(aT rd s).2.2.2.2=0):(aT rd s).2.2.1.length=(aT rd s).1.length/\(aT rd s).1.length<=6:=by
 have hr:=yy ok h
 exact ⟨by rw [hr.bl,hr.sc.len],hr.sc.le⟩
theorem uo {l:List (D aH)} {i:Nat} (h:i < l.length):dY (l.take i)++[(nth aH l i).1]=dY (l.take (i + 1)):=by rw [jt (t:=aH) h];simp [dY]
theorem uq {l:List (D aH)} {i:Nat} (h:i < l.length):dZ (l.take i)++[(nth aH l i).2.2.1]=dZ (l.take (i + 1)):=by rw [jt (t:=aH) h];simp [dZ]
theorem wR {rd:Rd} {l:List (D aH)} {i:Nat} (h:i < l.length):dW rd (l.take i)++[(bY (rd (nth aH l i).1).1).1]=dW rd (l.take (i + 1)):=by rw [jt (t:=aH) h];simp [dW]
theorem G5 {rd:Rd} {l:List (D aH)} (hl:l.length<=1000) (h:∀j,j < l.length->(bY (rd (nth aH l j).1).1).2=0) :
  (dW rd l).length<=1000/\∀i,i < (dW rd l).length->(nth aA (dW rd l) i).2.1.length<=1000:=by
 have e:(dW rd l).length=l.length:=by simp [dW]
 refine ⟨by omega,fun i hi => ?_⟩
 have hi':i < l.length:=by omega
 rw [show nth aA (dW rd l) i=(bY (rd (nth aH l i).1).1).1 from om (t:=aA) (u:=aH) hi']
 exact Nat.le_trans (kA (rf (h i hi'))).Jt (by decide)
theorem G6 {rd:Rd} {p:D aH} (h:(aN (rd p.1).2.2).isNil=false):gF rd p=false:=by
 unfold gF;rw [decide_eq_false (gW h)];rfl
theorem Fj {rd:Rd} {p:D aH} (h:¬ (rd p.1).2.1=p.2.1):gF rd p=false:=by
 unfold gF;rw [decide_eq_false h,Bool.and_false]
theorem Fk {rd:Rd} {p:D aH} (h:(aN (rd p.1).2.2).isNil=true) (h2:(rd p.1).2.1=p.2.1):gF rd p=true:=by
 unfold gF;rw [decide_eq_true (bB.1 h),decide_eq_true h2];rfl
theorem IM {rd:Rd} {e:D bD} (h:fK rd e=true) (hb:lJ rd e.2.1=0) :
  ((gV (dY e.2.1) (dZ e.2.1) (dW rd e.2.1) e.2.2.1).1,(gV (dY e.2.1) (dZ e.2.1) (dW rd e.2.1) e.2.2.1).2,())=((kE rd e).1,aN (kE rd e).2,()):=by
 rw [G1 h hb];simp only [n7 (Bn _ _ _ _)]
end Go.Mrl

namespace Go.Mrl
open Go.Vg
structure bP (x:dR):Prop where
 st:cE x
 G7:∀y∈x.2.1.1,aF y.1=0/\y.2.1.1.length<=1200/\1<=y.2.1.2.1
theorem bP.new:bP nZ:=⟨.new,fun y hy=>by simp [nZ] at hy⟩
theorem Bw {s:aG} {v:aG × Int × Unit} {c:Int}:∀{es:List FE} {y:FE},y∈dU cX es s v c->(y.1=s/\y.2.1=v)\/y∈es
 | [],y,h=>by simp [dU] at h;subst h;exact .inl ⟨rfl,rfl⟩
 | z :: r,y,h=>by
  unfold dU at h
  split at h
  ·rcases List.mem_cons.1 h with rfl | h
   ·exact .inl ⟨rfl,rfl⟩
   ·exact .inr (by simp [h])
  ·rcases List.mem_cons.1 h with rfl | h
   ·exact .inr (by simp)
   ·rcases Bw h with h | h
    ·exact .inl h
    ·exact .inr (by simp [h])
theorem Bx {x:dR} {s t:aG} (h:(cT x s t).2=0):aF s=0/\t.length<=1200/\¬ x.1.1=1000000:=by
 unfold cT at h
 split at h
 ·rename_i h1;exact absurd h h1
 ·rename_i h1
  split at h
  ·simp at h
  ·rename_i h2
   split at h
   ·simp at h
   ·rename_i h3
    exact ⟨by simpa using h1,by omega,fun e=>h3 (.inr e)⟩
theorem cE.pos {x:dR} (h:cE x):0<=x.1.1:=h.pre.2.1
theorem bP.write {x:dR} (h:bP x) (s t:aG):bP (cT x s t).1:=by
 refine ⟨(h.st.write s t).1,?_⟩
 rcases rC x s t with ⟨e,_⟩ | ⟨e,e2⟩
 ·rw [e];exact h.G7
 ·rw [e]
  intro y hy
  obtain ⟨k1,k2,_⟩:=Bx e2
  rcases Bw hy with ⟨h1,h2⟩ | hy
  ·rw [h1,h2];exact ⟨k1,k2,by have:=h.st.pos;show (1:Int)<=x.1.1 + 1;omega⟩
  ·exact h.G7 y hy
theorem bP.remove {x:dR} (h:bP x) (s:aG):bP (fF x s).1:=by
 refine ⟨(h.st.remove s).1,?_⟩
 cases c:dJ cX x.2.1.1 s with
 | false=>rw [nw c];exact h.G7
 | true=>rw [mz c];exact fun y hy=>h.G7 y (mX.subset hy)
theorem bP.jg {x:dR} (h:bP x) (a:D cK):bP (jg x a):=by
 unfold Mrl.jg
 split
 ·exact h.write _ _
 ·split
  ·exact h.remove _
  ·exact h
theorem bP.done:∀(l:List (D cK)) {x:dR},bP x->bP (dV x l)
 | [],_,h=>h
 | a :: l,_,h=>bP.done l (h.jg a)
theorem bP.ok {x:dR} (h:bP x):fR (aO x):=h.st.ok
theorem bP.read {x:dR} (h:bP x) {s:aG} (hn:(aO x s).2.2=0):aF s=0/\(aO x s).1.length<=1200/\1<=(aO x s).2.1/\(aO x s).2.1<=x.1.1:=by
 refine ⟨?_,?_,?_,ER h.st (bB.2 hn)⟩
 all_goals
  cases c:dJ cX x.2.1.1 s with
  | false=>rw [l5 c] at hn;simp at hn
  | true=>
   obtain ⟨r,hr⟩:=h.st.A9
   obtain ⟨y,hy,e⟩:=kv.1 c
   have hy':=h.G7 y hy
   first
    | (rw [my c,q7 hr.names y hy e];first | exact hy'.2.1 | exact hy'.2.2)
    | (rw [<-e];exact hy'.1)
theorem yA {rd:Rd} (ok:fR rd) {root:aG} (h:(aN (fO rd root).2).isNil=true) :
  ∃ns os bs ps,aT rd root=(ns,os,bs,ps,0)/\iH rd root ns os bs ps/\fO rd root=((root,bM rd ns bs ns.length,ps,()),0):=by
 rcases wO ok root with ⟨f,hf,_,e⟩ | h'
 ·rw [e] at h;exact absurd (bB.1 h) (by show ¬ f=0;omega)
 ·exact h'
end Go.Mrl

namespace Go.Mrl
open Go.Vg
theorem IN {x:dR} (g:bP x) {root:aG} (h:(aN (fO (aO x) root).2).isNil=true):0 < (fO (aO x) root).1.2.1.length/\(fO (aO x) root).1.2.1.length<=6:=by
 obtain ⟨ns,os,bs,ps,e,hr,em⟩:=yA g.ok h
 rw [em]
 show 0 < (bM (aO x) ns bs ns.length).length/\(bM (aO x) ns bs ns.length).length<=6
 rw [eR];exact ⟨hr.sc.pos,hr.sc.le⟩
end Go.Mrl

namespace Go.Mrl
open Go.Vg
theorem Fl {p:D aH} (h:aF p.1 > 0):eJ p=aF p.1:=by unfold eJ;rw [if_pos h]
theorem nJ {p:D aH} (h:aF p.1<=0) (h2:p.2.1 < (1:Int)\/p.2.1 > (1000000:Int)\/p.2.2.1 < (0:Int)\/p.2.2.1 > (255:Int)\/p.2.2.1 % (16:Int) > 0):eJ p=1:=by
 unfold eJ;rw [if_neg (by omega),if_pos h2]
theorem By {p:D aH} (h:aF p.1<=0) (h1:(1:Int)<=p.2.1) (h2:p.2.1<=(1000000:Int)) (h3:(0:Int)<=p.2.2.1) (h4:p.2.2.1<=(255:Int)) (h5:p.2.2.1 % (16:Int)=0):eJ p=0:=by
 unfold eJ;rw [if_neg (by omega),if_neg]
 rintro (e | e | e | e | e)
 ·exact absurd e (Int.not_lt.2 h1)
 ·exact absurd e (Int.not_lt.2 h2)
 ·exact absurd e (Int.not_lt.2 h3)
 ·exact absurd e (Int.not_lt.2 h4)
 ·exact absurd (show (0:Int) < 0 from h5▸e) (by decide)
theorem Bz {b x:Int} (h:0<=b) (e:x=Int.tmod b 16):x=b % 16:=by rw [e,Int.tmod_eq_emod_of_nonneg h]
theorem l8 {n:Nat} {p:Pt} (h:p.1 < (0:Int)\/p.1>=(n:Int)\/p.2.1 < (0:Int)\/p.2.1 > (39:Int)\/p.2.2.1 < (-2147483648:Int)\/p.2.2.1 > (2147483647:Int)):fD n p=1:=by
 unfold fD;rw [if_pos]
 rcases h with h | h | h | h | h | h
 ·exact .inl h
 ·exact .inr (.inl h)
 ·exact .inr (.inr (.inl h))
 ·exact .inr (.inr (.inr (.inl h)))
 ·refine .inr (.inr (.inr (.inr ?_)));unfold fL;rw [decide_eq_false (Int.not_le.2 h)];rfl
 ·refine .inr (.inr (.inr (.inr ?_)));unfold fL;rw [decide_eq_false (Int.not_le.2 h),Bool.and_false]
theorem wS {n:Nat} {p:Pt} (h1:(0:Int)<=p.1) (h2:p.1 < (n:Int)) (h3:(0:Int)<=p.2.1) (h4:p.2.1<=(39:Int)) (h5:(-2147483648:Int)<=p.2.2.1) (h6:p.2.2.1<=(2147483647:Int)):fD n p=0:=by
 unfold fD;rw [if_neg]
 rintro (e | e | e | e | e)
 ·exact absurd e (Int.not_lt.2 h1)
 ·exact absurd h2 (Int.not_lt.2 e)
 ·exact absurd e (Int.not_lt.2 h3)
 ·exact absurd e (Int.not_lt.2 h4)
 ·unfold fL at e;rw [decide_eq_true h5,decide_eq_true h6] at e;cases e
theorem fZ {e:D bD} (h1:(1:Int)<=(e.2.1.length:Int)) (h2:(e.2.1.length:Int)<=6) (h3:(e.2.2.1.length:Int)<=36):¬ px e:=by
 rintro (k | k | k)
 ·have k:e.2.1.length < 1:=k;omega
 ·have k:e.2.1.length > 6:=k;omega
 ·have k:e.2.2.1.length > 36:=k;omega
end Go.Mrl

namespace Go.Vg
open Go
theorem CP {H:Type} {enc:TypeId × Value->H} {a:Assume} {C:Checked} {os:Os} {f:FuncId} {fn:Func} {s:ChangeSpec} {conds:List PathCond} {apart fresh handsOn again:Bool} {X:World->Array Value->Prop}
  (hX:∀(w w':World) (args:Array Value),w.heap=w'.heap->X w args->X w' args)
  (own:ownKnob C.prog.godebug=none) (started:os.Started) (noInit:C.prog.inits.idxOf? f=none) (hfn:C.prog.funcs[f]?=some fn)
  (witness:∃(w:World) (tape:Tape) (i:Input),w.os=os/\(w.forCall tape i).Shaped C.prog/\i.vars = []/\Input.okWide C.prog (w.forCall tape i) .any w.heap.size f i/\
   ((s.pre enc C.prog fn conds apart (w.forCall tape i).memory i.args/\X (w.forCall tape i).memory i.args)/\sizedMet enc C.prog fn (OpenSpec.ofChange s) apart (w.forCall tape i).memory i.args)/\a.holds C.prog (lone (Frame.enter C.prog f i.args .normal) [] (w.forCall tape i)))
  (contract:∀(W:World) (base:Nat) (args:Array Value) (ds gs:List (DataW H)) (before:List MemPlace),
   (∀(j:Nat) t v,fn.params[j]?=some t->args[j]?=some v->Value.okWide C.prog W .any base t v)->
   DataW.Whole enc C.prog fn.params.toList s.vars apart W args.toList ds gs before->
   X W args->W.ShapedOpen C.prog->
   Calls C.prog f args W fun e W'=>∃v,e = .returned v/\s.post enc C.prog fn apart fresh handsOn again W args v W') :
  ReturnsInHanded a C os f .any (fun w args=>(s.pre enc C.prog fn conds apart w args/\X w args)/\sizedMet enc C.prog fn (OpenSpec.ofChange s) apart w args) (s.post enc C.prog fn apart fresh handsOn again):=by
 refine returnsInHanded_of_calls own started noInit witness ?_
 intro w tape i _ hsh _ hok hpre hholds
 obtain ⟨_,_,_,fn',hfn',_,_,_,_,hval⟩:=hok
 have e:fn'=fn:=Option.some.inj (hfn'.symm.trans hfn)
 subst e
 obtain ⟨⟨⟨ds,gs,before,hw,hc⟩,hx⟩,hz⟩:=hpre
 have hw':=DataW.Whole.of_heap (w':=w.forCall tape i) (by rfl) hw
 refine (contract (w.forCall tape i) w.heap.size i.args ds gs before hval hw' (hX _ _ _ (by rfl) hx) hsh).mono fun e W' ⟨v,he,hp⟩ => ?_
 subst he
 exact ChangeSpec.post_blind hp
theorem BA {P:Program} {w:World} {g:Nat} {t:TypeId} {zero:Array Value} (h:w.ShapedOpen P) (hg:g < P.globals.size)
  (h0:((begin P (fun _ _=>0) default).world.heap[g]?).bind Obj.row?=some (zero,t)) (hz:zero.size=1)
  (hb:P.buildable t=true) (hc:P.cellTypes P.depth t=some [t]) (hu:P.underlying t=some (.int .i64)):∃m,w.cell? ⟨g,0,none⟩=some (.int .i64 m):=by
 obtain ⟨cs,hh,hs,hr⟩:=h.1 g zero t hg h0
 obtain ⟨ts,hts,_,hall⟩:=hr hb
 rw [hc] at hts
 cases hts
 have h1:0 < cs.size:=by omega
 obtain ⟨u,hu',hok⟩:=hall 0 cs[0] (by simp [h1])
 have:u=t:=by simpa using hu'.symm
 subst this
 have hcell:w.cell? ⟨g,0,none⟩=some cs[0]:=by simp [World.cell?,hh,h1]
 rw [hcell]
 unfold Cell.ok at hok
 rw [hu] at hok
 cases hv:cs[0] <;> rw [hv] at hok <;> first | exact hok.elim | (obtain ⟨rfl,_⟩:=hok;exact ⟨_,rfl⟩) | simp at hok
def Jx:Option TypeDesc->Bool
 | some (.interface _)=>true
 | _=>false
theorem qn {P:Program} {W:World} {name nm:String} {d:DataW Unit} {g:Nat} {t:TypeId}
  (hg:P.globalNamed name=some g) (hty:(P.globals[g]?).map (·.type)=some t) (hi:Jx (P.underlying t)=true)
  (h:Lib.VarReads P W name (.iface nm d)):∃ev,W.cell? ⟨g,0,none⟩=some ev/\(ev = .nilIface\/∃te pe,ev = .iface te pe):=by
 obtain ⟨g',t',cs,fuel,p,hg',ht',hvar,hd⟩:=h
 obtain rfl:=Option.some.inj (hg.symm.trans hg')
 obtain rfl:=Option.some.inj (hty.symm.trans ht')
 have hc:=World.var?_cell hg hvar 0
 obtain ⟨ms,hu⟩:∃ms,P.underlying t=some (.interface ms):=by
  unfold Jx at hi
  split at hi
  ·rename_i ms hm;exact ⟨ms,hm⟩
  ·cases hi
 cases fuel with
 | zero=>simp [DataW.trod] at hd
 | succ n=>
  cases hl:cs.toList with
  | nil=>rw [hl] at hd;simp [DataW.trod,hu] at hd
  | cons v r=>
   have h0:cs[0]?=some v:=by rw [<-Array.getElem?_toList,hl];rfl
   rw [h0] at hc
   refine ⟨v,hc,?_⟩
   rw [hl] at hd
   cases v <;> first | exact .inl rfl | exact .inr ⟨_,_,rfl⟩ | (simp [DataW.trod,hu] at hd)
theorem BB {P:Program} {W:World} {name:String} {k:IntKind} {zs:List Int} {g:Nat} {t e:TypeId} {n:Nat}
  (hg:P.globalNamed name=some g) (hty:(P.globals[g]?).map (·.type)=some t) (ht:P.underlying t=some (.array n e)) (he:P.underlying e=some (.int k)) (hce:P.cellsOf e=1) (hct:P.cellsOf t=n)
  (h:Lib.VarReads P W name (Lib.tabData k zs)):Lib.TabIs P W name k zs:=by
 obtain ⟨g',t',cs,fuel,p,hg',ht',hvar,hd⟩:=h
 obtain rfl:=Option.some.inj (hg.symm.trans hg')
 obtain rfl:=Option.some.inj (hty.symm.trans ht')
 unfold Lib.TabIs
 rw [hvar,<-Lib.cells_of_tab ht he hce hct hd]
end Go.Vg

namespace Go.Mrl
open Go.Vg
theorem yB {b:List Int} {i n:Int} {t:D aS} (h:(iz b i t n).2.isNil=true):(-2147483648:Int)<=(iz b i t n).1/\(iz b i t n).1<=(2147483647:Int):=by
 unfold iz at h ⊢
 split
 ·rename_i hk
  rw [if_pos hk] at h
  split
  ·exact ⟨by decide,by decide⟩
  ·rename_i h1
   exact ⟨by show (-2147483648:Int)<=n - (kq b i.toNat + t.1);omega,by show n - (kq b i.toNat + t.1)<=(2147483647:Int);omega⟩
 ·split
  ·exact ⟨by decide,by decide⟩
  ·rename_i h1
   exact ⟨by show (-2147483648:Int)<=n;omega,by show n<=(2147483647:Int);omega⟩
theorem IP {l:List (D aA)} {b:List Int} {i:Int} {t:D aS} (h:(eX l b i t).2.isNil=true):(-2147483648:Int)<=(eX l b i t).1/\(eX l b i t).1<=(2147483647:Int):=by
 unfold eX at h ⊢
 split
 ·rename_i hk;rw [if_pos hk] at h;exact yB h
 ·rename_i hk
  rw [if_neg hk] at h
  split
  ·rename_i h1;rw [if_pos h1] at h;exact yB h
  ·exact ⟨show (-2147483648:Int)<=0 by decide,show (0:Int)<=2147483647 by decide⟩
theorem BC {l:List (D aA)} {b:List Int}:∀{os:List (D aA)} {i:Nat},(∀k,k < os.length->(nth aA os k).2.2.2.1.length<=6)->(nO l b os i).length<=6 * os.length
 | [],i,_=>by simp [nO]
 | o :: r,i,h=>by
  have h0:o.2.2.2.1.length<=6:=h 0 (by simp)
  have hr:=BC (l:=l) (b:=b) (os:=r) (i:=i + 1) fun k hk=>h (k + 1) (by simp;omega)
  have hl:(vh l b i o.2.2.2.1).length=o.2.2.2.1.length:=by simp [vh]
  show (vh l b i o.2.2.2.1++nO l b r (i + 1)).length<=6 * (r.length + 1)
  rw [List.length_append];omega
theorem yC (s:List Int):∀k,gA s k % 16=0
 | 0=>rfl
 | k + 1=>by
  have h:=yC s k
  show (gA s k + bU (nth (.int .i64) s k)) % 16=0
  unfold bU
  omega
theorem iH.base {rd:Rd} {root:aG} {ns:List aG} {os:List (D aA)} {bs:List Int} {ps:List Pt} (h:iH rd root ns os bs ps) {i:Nat} (hi:i < os.length) :
  (0:Int)<=nth (.int .i64) bs i/\nth (.int .i64) bs i<=(255:Int)/\nth (.int .i64) bs i % (16:Int)=0:=by
 obtain ⟨h1,h2,h3⟩:=h.sum
 have hs:∀j,j < (bK os).length->1<=(nth (.int .i64) (bK os) j:Int)/\(nth (.int .i64) (bK os) j:Int)<=40:=by
  intro k hk
  rw [mH] at hk
  rw [wK hk]
  have:=h1 k hk
  exact ⟨Int.ofNat_le.2 this.1,Int.ofNat_le.2 this.2⟩
 have hm:=Fe hs (os.length - (i + 1)) (i + 1) (by rw [mH];omega)
 rw [show i + 1 + (os.length - (i + 1))=os.length by omega] at hm
 have e:gA (bK os) (i + 1)=gA (bK os) i + bU (nth (.int .i64) (bK os) i):=rfl
 have hr:=(CM (n:=nth (.int .i64) (bK os) i)).1
 have hp:=(hs i (by rw [mH];exact hi)).1
 have hb:=h.bi i (by rw [h.bl];exact hi)
 refine ⟨hb.1,?_,by rw [h3 i hi];exact yC _ _⟩
 rw [h3 i hi]
 have h2:gA (bK os) os.length<=256:=h2
 have hr:(nth (.int .i64) (bK os) i:Int)<=bU (nth (.int .i64) (bK os) i):=hr
 have hp:(1:Int)<=nth (.int .i64) (bK os) i:=hp
 have key:∀b c d s:Int,b=c + d->s<=d->1<=s->b<=256->c<=255:=by intros;omega
 exact key _ _ _ _ e hr hp (Int.le_trans hm h2)
theorem Fm {x:dR} (g:bP x) {root:aG} {ns:List aG} {os:List (D aA)} {bs:List Int} {ps:List Pt} (h:iH (aO x) root ns os bs ps):gG (root,bM (aO x) ns bs ns.length,ps,())=0:=by
 have hrd:∀j,j < ns.length->(aO x (nth .str ns j)).2.2=0:=fun j hj=>(iw g.ok (h.sc.sY j hj).1).1
 have hl:=h.sc.len
 have hle:=h.sc.le
 have hpos:=h.sc.pos
 have hroot:aF root=0:=by
  have:=(g.read (hrd 0 hpos)).1
  rw [h.sc.head] at this;exact this
 have hps:ps.length<=36:=by
  rw [h.pt]
  have:=BC (l:=os) (b:=bs) (os:=os) (i:=0) fun k hk=>(h.sc.obj g.ok hk).t6
  omega
 refine yx (Int.le_of_eq hroot) (fZ ?_ ?_ ?_) (fun j hj => ?_) (fun j hj => ?_)
 ·show (1:Int)<=((bM (aO x) ns bs ns.length).length:Int);rw [eR];omega
 ·show ((bM (aO x) ns bs ns.length).length:Int)<=6;rw [eR];omega
 ·show (ps.length:Int)<=36;omega
 ·have hj:j < ns.length:=by rw [<-eR (aO x) ns bs ns.length];exact hj
  show eJ (nth aH (bM (aO x) ns bs ns.length) j)=0
  rw [jU hj]
  obtain ⟨r1,_,r3,r4⟩:=g.read (hrd j hj)
  obtain ⟨b1,b2,b3⟩:=h.base (i:=j) (by omega)
  have hm:=g.st.pre.2.2
  exact By (Int.le_of_eq r1) r3 (Int.le_trans r4 hm) b1 b2 b3
 ·have hj:j < ps.length:=hj
  show fD (bM (aO x) ns bs ns.length).length (nth aX ps j)=0
  rw [eR]
  have hp:=h.Lj j hj
  have hmem:nth aX ps j∈nO os bs os 0:=by rw [<-h.pt];exact fJ (t:=aX) hj
  obtain ⟨k,t,hk,ht,e⟩:=vj hmem
  rw [Nat.zero_add] at e
  have hw:=IP (h.one k hk t ht)
  have h40:=(h.sc.obj g.ok hk).Jt
  have h2:=hp.2.2.2
  have h1:=hp.2.1
  rw [kR] at h1
  have ek:(nth aX ps j).1=(k:Int):=by rw [e]
  rw [ek,Int.toNat_natCast,rj hk] at h2
  refine wS hp.1 (by rw [ek];omega) hp.2.2.1 (Int.le_of_lt_add_one (show _ < (39:Int) + 1 from Int.lt_of_lt_of_le h2 (Int.ofNat_le.2 h40))) ?_ ?_
  ·rw [e];exact hw.1
  ·rw [e];exact hw.2
theorem l9 {x:dR} (g:bP x) {root:aG} (h1:(aN (fO (aO x) root).2).isNil=true) :
  (fY (aO x) root).2=0/\kE (aO x) (fO (aO x) root).1=fY (aO x) root/\fK (aO x) (fO (aO x) root).1=true/\gG (fO (aO x) root).1=0:=by
 obtain ⟨ns,os,bs,ps,e,hr,em⟩:=yA g.ok h1
 have hf:=hr.fresh g.ok
 have hu:=hr.use g.ok (rd':=aO x) (fun _ _=>rfl) hf
 have hl:=J1 e hr
 rw [em]
 exact ⟨by rw [hl],hu.trans hl.symm,hf,Fm g hr⟩
theorem BD {rd:Rd} (ok:fR rd) {root:aG} (h:(aN (fO rd root).2).isNil=false):(fO rd root).2=(fY rd root).2/\(fO rd root).1=cA bD:=by
 rcases wO ok root with ⟨f,hf,e,em⟩ | ⟨ns,os,bs,ps,e,hr,em⟩
 ·rw [em,Bo (by rw [e];show ¬ f=0;omega),e];exact ⟨rfl,rfl⟩
 ·rw [em] at h;cases h
end Go.Mrl

