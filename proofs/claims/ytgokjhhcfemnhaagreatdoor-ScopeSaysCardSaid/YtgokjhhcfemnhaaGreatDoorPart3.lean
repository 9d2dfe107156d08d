/- A part of the proof that the law ScopeSaysCard holds of the given program: facts that are used there. -/
import Derived.Test.YtgokjhhcfemnhaaGreatDoorPart2
import Derived.Lib.SplitLaws
import Derived.Lib.ItoaNum
import Derived.Lib.AtoiAll
import Derived.Handed
import Derived.Clock
import Derived.Lib.LaidTab
import Derived.Lib.LaidU8
import Derived.Lay
set_option linter.unusedSimpArgs false
set_option linter.unusedVariables false
namespace Go.Mrl
open Go.Vg
def _root_.Go.Vg.HE:List UInt8->UInt8
 | c :: _=>c
 | []=>0
def rn (c:UInt8):List aC->aC
 | []=>[]
 | [x]=>x
 | x :: y :: r=>x++c :: rn c (y :: r)
def parts (c:UInt8):aC->List aC
 | []=>[[]]
 | b :: r=>if b=c then [] :: parts c r else match parts c r with
  | h :: t=>(b :: h) :: t
  | []=>[[b]]
theorem mf (c:UInt8):∀s:aC,parts c s≠[]
 | []=>by simp [parts]
 | b :: r=>by
  unfold parts
  split
  ·simp
  ·split <;> simp
theorem gA {c b:UInt8} {r:aC} (h:b≠c):∃x t,parts c r=x :: t/\parts c (b :: r)=(b :: x) :: t:=by
 cases hp:parts c r with
 | nil=>exact absurd hp (mf c r)
 | cons x t=>
  refine ⟨x,t,rfl,?_⟩
  conv=>lhs;unfold parts
  rw [if_neg h,hp]
theorem jf {c:UInt8} {r:aC}:parts c (c :: r) = [] :: parts c r:=by
 conv=>lhs;unfold parts
 rw [if_pos rfl]
theorem fJ {c:UInt8}:∀{x:aC},c∉x->parts c x = [x]
 | [],_=>rfl
 | b :: r,h=>by
  obtain ⟨x,t,h1,h2⟩:=gA (c:=c) (b:=b) (r:=r) (fun e=>h (by simp [e]))
  rw [fJ (x:=r) (fun e=>h (by simp [e]))] at h1
  cases h1
  exact h2
theorem df {c:UInt8}:∀{x:aC} {s:aC},c∉x->parts c (x++c :: s)=x :: parts c s
 | [],s,_=>jf
 | b :: r,s,h=>by
  obtain ⟨x,t,h1,h2⟩:=gA (c:=c) (b:=b) (r:=r++c :: s) (fun e=>h (by simp [e]))
  rw [df (x:=r) (fun e=>h (by simp [e]))] at h1
  cases h1
  exact h2
theorem r4 {c:UInt8}:∀{L:List aC},L≠[]->(∀y∈L,c∉y)->parts c (rn c L)=L
 | [],h,_=>absurd rfl h
 | [x],_,h=>fJ (h x (by simp))
 | x :: y :: r,_,h=>by
  show parts c (x++c :: rn c (y :: r))=_
  rw [df (h x (by simp)),r4 (by simp) fun z hz=>h z (List.mem_cons_of_mem _ hz)]
theorem mU (c:UInt8):∀(s:aC),(parts c s).length<=s.length + 1
 | []=>by simp [parts]
 | b :: r=>by
  by_cases h:b=c
  ·subst h;rw [jf];have:=mU b r;simp;omega
  ·obtain ⟨x,t,h1,h2⟩:=gA (c:=c) (b:=b) (r:=r) h
   have:=mU c r
   rw [h1] at this
   rw [h2];simp at this ⊢;omega
theorem jr (c:UInt8):∀(s:aC),∀y∈parts c s,y.length<=s.length
 | [],y,h=>by simp [parts] at h;simp [h]
 | b :: r,y,h=>by
  by_cases hb:b=c
  ·subst hb;rw [jf] at h
   rcases List.mem_cons.1 h with rfl | h
   ·simp
   ·have:=jr b r y h;simp;omega
  ·obtain ⟨x,t,h1,h2⟩:=gA (c:=c) (b:=b) (r:=r) hb
   rw [h2] at h
   rcases List.mem_cons.1 h with rfl | h
   ·have:=jr c r x (by rw [h1];simp);simp;omega
   ·have:=jr c r y (by rw [h1];simp [h]);simp;omega
theorem zC {b c:UInt8} {l:aC} (h:b≠c):Lib.index (b :: l) [c]=if Lib.index l [c] == -1 then -1 else Lib.index l [c] + 1:=by
 rw [Lib.index];simp [List.isPrefixOf,Ne.symm h]
theorem zD {c:UInt8} {l:aC}:Lib.index (c :: l) [c]=0:=by
 rw [Lib.index];simp [List.isPrefixOf]
theorem mg (c:UInt8):∀s:aC,Lib.splitK [c] 0 (s.count c) s=parts c s
 | []=>rfl
 | b :: l=>by
  by_cases h:b=c
  ·subst h
   rw [jf,List.count_cons_self,Lib.splitK,zD,if_neg (by decide),<-mg b l]
   simp
  ·obtain ⟨x,t,h1,h2⟩:=gA (c:=c) (b:=b) (r:=l) h
   rw [h2,List.count_cons_of_ne h]
   rw [<-mg c l] at h1
   cases hk:l.count c with
   | zero=>
    rw [hk] at h1
    simp only [Lib.splitK] at h1 ⊢
    cases h1
    rfl
   | succ k=>
    rw [hk] at h1
    have hi:Lib.index l [c]≠-1:=by
     intro e
     have:=Lib.count_miss (s:=l) (sub:=[c]) e
     rw [Lib.count_one] at this
     omega
    have hge:=Lib.index_ge l [c]
    rw [Lib.splitK,if_neg (by simpa using hi)] at h1
    obtain ⟨i,e⟩:∃i:Nat,Lib.index l [c]=i:=⟨(Lib.index l [c]).toNat,by omega⟩
    have e2:Lib.index (b :: l) [c]=((i + 1:Nat):Int):=by rw [zC h,if_neg (by simpa using hi),e];rfl
    rw [Lib.splitK,e2,if_neg (by simp;omega)]
    rw [e] at h1
    simp only [Int.toNat_natCast,Nat.add_zero,List.length_singleton,List.take_succ_cons,List.drop_succ_cons,List.cons.injEq] at h1 ⊢
    exact ⟨⟨trivial,h1.1⟩,h1.2⟩
def ga (c:UInt8) (L:List aC):aC:=L.flatMap (· ++ [c])
theorem qF (c:UInt8) (x:aC) (L:List aC):ga c (x :: L)=x++c :: ga c L:=by simp [ga]
theorem wm (c:UInt8) (L:List aC) (x:aC):ga c (L++[x])=ga c L++x++[c]:=by simp [ga]
theorem wo {c:UInt8}:∀{L:List aC},L≠[]->ga c L=rn c L++[c]
 | [],h=>absurd rfl h
 | [x],_=>by simp [ga,rn]
 | x :: y :: r,_=>by
  rw [qF,wo (L:=y :: r) (by simp)];simp [rn]
theorem o1 {c:UInt8}:∀{L:List aC} {x:aC},(∀y∈L,c∉y)->c∉x->parts c (ga c L++x)=L++[x]
 | [],x,_,h=>by simp [ga,fJ h]
 | y :: r,x,h,hx=>by
  rw [qF,List.append_assoc,List.cons_append,df (h y (by simp)),o1 (fun z hz=>h z (List.mem_cons_of_mem _ hz)) hx];simp
theorem vm (x:aC) (c:UInt8):Lib.trimSuffix (x++[c]) [c]=x:=by
 have h:Lib.hasSuffix (x++[c]) [c]=true:=by unfold Lib.hasSuffix;simp [List.isSuffixOf_iff_suffix]
 unfold Lib.trimSuffix
 rw [if_pos h];simp
theorem Di {c:UInt8} {L:List aC} (h:L≠[]) (hf:∀y∈L,c∉y):parts c (Lib.trimSuffix (ga c L) [c])=L:=by
 rw [wo h,vm,r4 h hf]
end Go.Mrl

namespace Go.Mrl
open Go.Vg
def eN (c:UInt8):Bool:=decide (48<=c.toNat/\c.toNat<=57)
theorem jy {k:Nat} (h:k < 10):(UInt8.ofNat (48 + k)).toNat=48 + k:=by
 rw [UInt8.toNat_ofNat'];omega
theorem fK:∀(u:Nat),∀c∈Lib.decDigits u,48<=c.toNat/\c.toNat<=57:=by
 intro u
 induction u using Nat.strongRecOn with
 | _ u ih=>
  intro c hc
  by_cases h:u < 10
  ·rw [Lib.decDigits,dif_pos h] at hc
   simp only [List.mem_singleton] at hc
   rw [hc,jy h];omega
  ·rw [Lib.decDigits,dif_neg h] at hc
   rcases List.mem_append.1 hc with hc | hc
   ·exact ih _ (by omega) c hc
   ·simp only [List.mem_singleton] at hc
    rw [hc,jy (Nat.mod_lt _ (by decide))];omega
theorem hZ (u:Nat):Lib.decDigits u≠[]:=by
 rw [Lib.decDigits];split <;> simp
theorem eX:∀(k u:Nat),u < 10 ^ (k + 1)->(Lib.decDigits u).length<=k + 1
 | 0,u,h=>by rw [Lib.decDigits,dif_pos (by simpa using h)];simp
 | k + 1,u,h=>by
  rw [Lib.decDigits]
  split
  ·simp
  ·have:=eX k (u / 10) (by rw [Nat.pow_succ] at h;omega)
   simp;exact this
def fA (l:aC):Nat:=l.foldl (fun n c=>10 * n + (c.toNat - 48)) 0
theorem qG (l:aC) (c:UInt8):fA (l++[c])=10 * fA l + (c.toNat - 48):=by simp [fA]
theorem zE:∀u:Nat,fA (Lib.decDigits u)=u:=by
 intro u
 induction u using Nat.strongRecOn with
 | _ u ih=>
  by_cases h:u < 10
  ·rw [Lib.decDigits,dif_pos h]
   show 10 * 0 + ((UInt8.ofNat (48 + u)).toNat - 48)=u
   rw [jy h];omega
  ·rw [Lib.decDigits,dif_neg h,qG,ih _ (by omega),jy (Nat.mod_lt _ (by decide))];omega
theorem B5:∀(k:Nat) (l:aC),l.length=k->(∀c∈l,48<=c.toNat/\c.toNat<=57)->fA l < 10 ^ k
 | 0,l,hk,_=>by rw [List.eq_nil_of_length_eq_zero hk];decide
 | k + 1,l,hk,h=>by
  have hne:l≠[]:=by rintro rfl;simp at hk
  have e:=List.dropLast_concat_getLast hne
  rw [<-e] at h ⊢
  have h1:=B5 k l.dropLast (by simp;omega) fun x hx=>h x (by simp [hx])
  have h2:=h (l.getLast hne) (by simp)
  rw [qG,Nat.pow_succ];omega
theorem wq:∀(l:aC) (c:UInt8) (a v:Nat),Lib.parseUint10 a l = .ok v->Lib.parseUint10 a (l++[c])=Lib.parseUint10 v [c]
 | [],c,a,v,h=>by simp [Lib.parseUint10] at h;rw [h];rfl
 | b :: l,c,a,v,h=>by
  rw [List.cons_append,Lib.parseUint10]
  rw [Lib.parseUint10] at h
  split at h
  ·rename_i hb
   rw [if_pos hb]
   split at h
   ·cases h
   ·rename_i h1
    rw [if_neg h1]
    split at h
    ·cases h
    ·rename_i h2
     rw [if_neg h2]
     exact wq l c _ v h
  ·cases h
theorem zF {v d:Nat} (hd:d < 10) (h:10 * v + d < 18446744073709551616):Lib.parseUint10 v [UInt8.ofNat (48 + d)] = .ok (10 * v + d):=by
 unfold Lib.parseUint10
 rw [jy hd,if_pos (by omega),if_neg (by omega),if_neg (by omega)]
 unfold Lib.parseUint10
 congr 1;omega
theorem Gz:∀u:Nat,u < 18446744073709551616->Lib.parseUint10 0 (Lib.decDigits u) = .ok u:=by
 intro u
 induction u using Nat.strongRecOn with
 | _ u ih=>
  intro hu
  by_cases h:u < 10
  ·rw [Lib.decDigits,dif_pos h]
   have:=zF (v:=0) (d:=u) h (by omega)
   simpa using this
  ·rw [Lib.decDigits,dif_neg h,wq _ _ _ _ (ih _ (by omega) (by omega)),zF (Nat.mod_lt _ (by decide)) (by omega)]
   congr 1;omega
theorem B6 {u:Nat} (hu:u < 18446744073709551616):Lib.parseMag (Lib.decDigits u) = .ok u:=by
 unfold Lib.parseMag
 rw [if_neg (hZ u),Gz u hu]
theorem EV {n:Int} (h0 : -9223372036854775808<=n) (h1:n<=9223372036854775807):Lib.atoiAll (Lib.itoa n) = .ok n:=by
 by_cases hn:n < 0
 ·have hm:=B6 (u:=n.natAbs) (by omega)
  simp only [Lib.itoa,if_pos hn,Lib.atoiAll]
  rw [if_pos (Or.inr (by decide)),hm]
  simp only
  rw [if_neg (by simp),if_neg (by simp;omega)]
  simp;omega
 ·have hm:=B6 (u:=n.toNat) (by omega)
  simp only [Lib.itoa,if_neg hn,Lib.atoiAll]
  cases hd:Lib.decDigits n.toNat with
  | nil=>exact absurd hd (hZ _)
  | cons c r=>
   have hc:=fK n.toNat c (by rw [hd];simp)
   rw [hd] at hm
   simp only
   rw [if_neg (by omega),hm]
   simp only
   rw [if_neg (by omega),if_neg (by omega),if_neg (by omega)]
   congr 1;omega
def cO (s:List UInt8):Int × cg:=match Lib.atoiAll s with
 | .ok n=>(n, .nil)
 | Lib.NumEnd.syntax=>(0, .other)
 | .range=>(Lib.atoiSat s, .other)
def dq (s:aC):Option Int:=match Lib.atoiAll s with
 | .ok n=>if Lib.itoa n=s then some n else none
 | _=>none
theorem EW {n:Int} (h0 : -9223372036854775808<=n) (h1:n<=9223372036854775807):dq (Lib.itoa n)=some n:=by
 unfold dq;rw [EV h0 h1];simp
theorem wu {s:aC}:(dq s).isNone=(!(cO s).2.isNil || !decide (Lib.itoa (cO s).1=s)):=by
 unfold dq cO
 cases Lib.atoiAll s with
 | ok v=>simp only [cg.isNil];by_cases h:Lib.itoa v=s <;> simp [h]
 | range=>rfl
 | _=>rfl
def cj (s:aC):aC:=match s with
 | 45 :: r=>r
 | _=>s
def gK (s:aC):Option Int:=
 if (cj s).length < 1\/(cj s).length > 18\/((cj s).head?=some 48/\s.length > 1) then none
 else if (cj s).all eN=true then some (if (cj s).length < s.length then -(fA (cj s):Int) else (fA (cj s):Int)) else none
theorem zG {u:Nat} (h:(Lib.decDigits u).head?=some 48):u=0:=by
 revert h
 induction u using Nat.strongRecOn with
 | _ u ih=>
  intro h
  by_cases hu:u < 10
  ·rw [Lib.decDigits,dif_pos hu] at h
   simp only [List.head?_cons,Option.some.injEq] at h
   have:=congrArg UInt8.toNat h
   rw [jy hu] at this
   have h48:(48:UInt8).toNat=48:=rfl
   omega
  ·rw [Lib.decDigits,dif_neg hu] at h
   have hne:=hZ (u / 10)
   cases hd:Lib.decDigits (u / 10) with
   | nil=>exact absurd hd hne
   | cons c r=>
    rw [hd] at h
    simp only [List.cons_append,List.head?_cons] at h
    have:=ih (u / 10) (by omega) (by rw [hd];exact h)
    omega
theorem H8 {s:aC} (h:∀c∈s,48<=c.toNat/\c.toNat<=57):cj s=s:=by
 unfold cj
 split
 ·rename_i r
  have:=h 45 (by simp)
  have h45:(45:UInt8).toNat=45:=rfl
  omega
 ·rfl
theorem EX {n:Int} (h0 : -999999999999999999<=n) (h1:n<=999999999999999999):gK (Lib.itoa n)=some n:=by
 have hall:∀u,(Lib.decDigits u).all eN=true:=fun u=>by
  rw [List.all_eq_true]
  intro c hc
  have:=fK u c hc
  unfold eN;simp [this]
 by_cases hn:n < 0
 ·have hm:cj (Lib.itoa n)=Lib.decDigits n.natAbs:=by unfold Lib.itoa;rw [if_pos hn];rfl
  have hl:(Lib.itoa n).length=(Lib.decDigits n.natAbs).length + 1:=by unfold Lib.itoa;rw [if_pos hn];rfl
  have h3:=eX 17 n.natAbs (by omega)
  have h4:=List.length_pos_iff.2 (hZ n.natAbs)
  unfold gK
  rw [hm,if_neg (by
   rintro (h | h | ⟨h,_⟩)
   ·omega
   ·omega
   ·have:=zG h;omega),if_pos (hall _),if_pos (by omega),zE]
  congr 1;omega
 ·have hi:Lib.itoa n=Lib.decDigits n.toNat:=by unfold Lib.itoa;rw [if_neg hn]
  have hm:cj (Lib.itoa n)=Lib.decDigits n.toNat:=by rw [hi];exact H8 (fK _)
  have h3:=eX 17 n.toNat (by omega)
  have h4:=List.length_pos_iff.2 (hZ n.toNat)
  unfold gK
  rw [hm,hi,if_neg (by
   rintro (h | h | ⟨h,h'⟩)
   ·omega
   ·omega
   ·have h0:=zG h
    rw [h0] at h'
    simp [Lib.decDigits] at h'),if_pos (hall _),if_neg (by omega),zE]
  congr 1;omega
theorem wv {n:Int} {c:UInt8} (h:c.toNat<=44):c∉Lib.itoa n:=by
 intro hc
 have h45:(45:UInt8).toNat=45:=rfl
 unfold Lib.itoa at hc
 split at hc
 ·rcases List.mem_cons.1 hc with rfl | hc
  ·omega
  ·have:=fK _ c hc;omega
 ·have:=fK _ c hc;omega
def mD (n:Int):Nat:=2 * n.natAbs + (if n < 0 then 1 else 0)
theorem I2 {n:Int} (h:n < 0):mD (-n) < mD n:=by unfold mD;rw [if_neg (by omega),if_pos h];omega
theorem I3 {n:Int} (h:10<=n):mD (n / 10) < mD n:=by unfold mD;rw [if_neg (by omega),if_neg (by omega)];omega
theorem wx {n:Int} (h:n < 0):Lib.itoa n = [45]++Lib.itoa (-n):=by
 unfold Lib.itoa;rw [if_pos h,if_neg (by omega)];congr 2;omega
theorem mh {n:Int} (h:0<=n) (h':n < 10):Lib.itoa n = [UInt8.ofNat (48 + n).toNat]:=by
 unfold Lib.itoa;rw [if_neg (by omega),Lib.decDigits,dif_pos (by omega)];congr 2;omega
theorem wy {n:Int} (h:10<=n):Lib.itoa n=Lib.itoa (n / 10)++[UInt8.ofNat (48 + n % 10).toNat]:=by
 unfold Lib.itoa;rw [if_neg (by omega),if_neg (by omega)]
 conv=>lhs;rw [Lib.decDigits,dif_neg (by omega)]
 rw [show n.toNat / 10=(n / 10).toNat by omega,show 48 + n.toNat % 10=(48 + n % 10).toNat by omega]
theorem GA:Lib.itoa (-9223372036854775808) = [45,57,50,50,51,51,55,50,48,51,54,56,53,52,55,55,53,56,48,56]:=by
 rw [wx (by decide)]
 repeat rw [wy (by decide)]
 rw [mh (by decide) (by decide)]
 decide
theorem B7 {n:Int} (h0 : -9223372036854775808<=n) (h1:n<=9223372036854775807):(Lib.itoa n).length<=21:=by
 unfold Lib.itoa
 split
 ·rw [List.length_cons]
  have:=eX 19 n.natAbs (by omega)
  omega
 ·have:=eX 19 n.toNat (by omega)
  omega
theorem vo {n:Int} (h0:0<=n) (h1:n<=255):bytesOf [IntKind.wrap IntKind.u8 n] = [UInt8.ofNat n.toNat]:=by
 have:IntKind.wrap IntKind.u8 n=n:=by simp [IntKind.wrap,IntKind.signed,IntKind.bits];omega
 rw [this];rfl
end Go.Mrl

namespace Go.Mrl
open Go.Vg
theorem lh {f:Int} (h0:0<=f) (h:(aX f).isNil=false):f > 0:=by
 have:¬ f=0:=fun e=>by rw [bN.2 e] at h;cases h
 omega
theorem kx {f:Int} (h:(aX f).isNil=true):f<=0:=by
 have:=bN.1 h;omega
theorem wz {t:Ty} {l:List (D t)} {i j:Nat} (h:j < i):nth t (List.drop 0 (List.take i l)) j=nth t l j:=by
 rw [List.drop_zero,yR h]
theorem wA {α:Type} {l:List α} {i:Nat} (h:i<=l.length):(List.drop 0 (List.take i l)).length=i:=by
 rw [List.drop_zero,List.length_take];omega
def cP (b:Bool):List UInt8:=if b=true then [119,101,97,107,32] else []
def mV (s:aC):aC:=[110,101,101,100,32]++s++[10]
def lI (n:Int):aC:=[119,111,114,100,32]++Lib.itoa n++[10]
def o3 (y:D aD):aC:=cP y.2.2.1++[115,121,109,98,111,108,32]++y.1++[32]++Lib.itoa y.2.1++[10]
def o4 (t:D aL):aC:=
 if t.2.1=1 then [98,97,115,101,32]++Lib.itoa t.1++[32]++Lib.itoa t.2.2.1++[10]
 else if t.2.1=2 then cP t.2.2.2.2.1++[119,104,111,108,101,32]++Lib.itoa t.1++[32]++Lib.itoa t.2.2.1++[32]++t.2.2.2.1++[10]
 else cP t.2.2.2.2.1++[110,101,97,114,32]++Lib.itoa t.1++[32]++Lib.itoa t.2.2.1++[32]++t.2.2.2.1++[10]
def fh (o:D aA) (i:Nat):aC:=(o.1.take i).flatMap mV
def eO (o:D aA) (i:Nat):aC:=fh o o.1.length++(o.2.1.take i).flatMap lI
def dI (o:D aA) (i:Nat):aC:=eO o o.2.1.length++(o.2.2.1.take i).flatMap o3
def cz (o:D aA) (i:Nat):aC:=dI o o.2.2.1.length++(o.2.2.2.1.take i).flatMap o4
def cE (o:D aA):aC:=cz o o.2.2.2.1.length
def ft (o:D aA):aC × cg:=if bA o≠0 then ([],aX (bA o)) else if (cE o).length > 1200 then ([], .no 2) else (cE o, .nil)
theorem wB {o:D aA} {i:Nat} (h:i < o.1.length):fh o (i + 1)=fh o i++mV (nth .str o.1 i):=by
 unfold fh;rw [fS (t:=.str) h];simp
theorem wC {o:D aA} {i:Nat} (h:i < o.2.1.length):eO o (i + 1)=eO o i++lI (nth (.int .i64) o.2.1 i):=by
 unfold eO;rw [fS (t:=.int .i64) h];simp
theorem qH {o:D aA} {i:Nat} (h:i < o.2.2.1.length):dI o (i + 1)=dI o i++o3 (nth aD o.2.2.1 i):=by
 unfold dI;rw [fS (t:=aD) h];simp
theorem qI {o:D aA} {i:Nat} (h:i < o.2.2.2.1.length):cz o (i + 1)=cz o i++o4 (nth aL o.2.2.2.1 i):=by
 unfold cz;rw [fS (t:=aL) h];simp
theorem wD (o:D aA):eO o 0=fh o o.1.length:=by unfold eO;simp
theorem wE (o:D aA):dI o 0=eO o o.2.1.length:=by unfold dI;simp
theorem wF (o:D aA):cz o 0=dI o o.2.2.1.length:=by unfold cz;simp
def Nm (s:aC):Prop:=s≠[]/\s.length<=8/\∀c∈s,c≠10/\c≠32
def jz (a b x:Int):Prop:=a<=x/\x<=b
structure uq (t:D aL):Prop where
 a:jz 0 39 t.1
 w:jz (-2147483648) 2147483647 t.2.2.1
 k:t.2.1=1\/t.2.1=2\/t.2.1=3
 base:t.2.1=1->t.2.2.2.1 = []/\t.2.2.2.2.1=false
 nm:t.2.1≠1->Nm t.2.2.2.1
structure fL (o:D aA):Prop where
 n4:o.1.length<=4
 w1:1<=o.2.1.length
 JO:o.2.1.length<=40
 s8:o.2.2.1.length<=8
 t6:o.2.2.2.1.length<=6
 xT:∀s∈o.1,Nm s
 words:∀n∈o.2.1,jz (-2147483648) 2147483647 n
 syms:∀y∈o.2.2.1,Nm y.1/\jz 0 39 y.2.1
 Dj:∀t∈o.2.2.2.1,uq t
end Go.Mrl

namespace Go.Mrl
open Go.Vg
theorem r5:∀(l p:List aC),ei p l=0->∀s∈l,aI s=0
 | [],_,_,s,h=>absurd h (by simp)
 | x :: r,p,h,s,hs=>by
  have hx:=bK x
  unfold ei at h
  split at h
  ·omega
  ·split at h
   ·cases h
   ·rcases List.mem_cons.1 hs with rfl | hs
    ·omega
    ·exact r5 r _ h s hs
theorem r6:∀(l:List Int),eY l=0->∀n∈l,c6 n=true
 | [],_,s,h=>absurd h (by simp)
 | x :: r,h,s,hs=>by
  unfold eY at h
  split at h
  ·rename_i hx
   rcases List.mem_cons.1 hs with rfl | hs
   ·exact hx
   ·exact r6 r h s hs
  ·cases h
theorem ur (n:Nat):∀(l p:List (D aD)),dV n p l=0->∀y∈l,aI y.1=0/\jz 0 (n - 1) y.2.1
 | [],_,_,s,h=>absurd h (by simp)
 | x :: r,p,h,s,hs=>by
  have hx:=bK x.1
  unfold dV at h
  split at h
  ·omega
  ·split at h
   ·cases h
   ·rename_i h2
    split at h
    ·cases h
    ·rcases List.mem_cons.1 hs with rfl | hs
     ·exact ⟨by omega,Int.not_lt.1 fun e=>h2 (.inl e),Int.le_sub_one_of_lt (Int.not_le.1 fun e=>h2 (.inr e))⟩
     ·exact ur n r _ h s hs
theorem EY {n:Nat} {p:Option Int} {t:D aL} (h:dL n p t=0) :
  jz 0 (n - 1) t.1/\c6 t.2.2.1=true/\jz 1 3 t.2.1/\(t.2.1=1->t.2.2.2.1 = []/\t.2.2.2.2.1=false)/\(t.2.1≠1->aI t.2.2.2.1=0):=by
 unfold dL at h
 split at h
 ·cases h
 ·rename_i h1
  split at h
  ·cases h
  ·rename_i h2
   refine ⟨⟨Int.not_lt.1 fun e=>h1 (.inl e),Int.le_sub_one_of_lt (Int.not_le.1 fun e=>h1 (.inr (.inl e)))⟩,?_,⟨Int.not_lt.1 fun e=>h2 (.inl e),Int.not_lt.1 fun e=>h2 (.inr (.inl e))⟩,?_,?_⟩
   ·cases hw:c6 t.2.2.1 with
    | true=>rfl
    | false=>exact absurd (.inr (.inr hw)) h1
   ·intro e
    rw [if_pos e] at h
    split at h
    ·cases h
    ·rename_i h3
     refine ⟨Classical.byContradiction fun e=>h3 (.inl e),?_⟩
     cases hb:t.2.2.2.2.1 with
     | false=>rfl
     | true=>exact absurd (.inr hb) h3
   ·intro e
    rw [if_neg e] at h
    exact h
theorem uu (n:Nat):∀(l:List (D aL)) (p:Option Int),fr n p l=0->∀t∈l,∃p,dL n p t=0
 | [],_,_,s,h=>absurd h (by simp)
 | x :: r,p,h,s,hs=>by
  unfold fr at h
  split at h
  ·rename_i h0;exact absurd h h0
  ·rename_i h0
   rcases List.mem_cons.1 hs with rfl | hs
   ·exact ⟨p,Classical.byContradiction h0⟩
   ·exact uu n r _ h s hs
theorem Dl {s:aC} (h:aI s=0):Nm s:=by
 unfold aI at h
 split at h
 ·cases h
 ·rename_i hl
  split at h
  ·cases h
  ·rename_i hb
   refine ⟨by rintro rfl;simp at hl,by omega,fun c hc => ?_⟩
   obtain ⟨i,hi,rfl⟩:=List.getElem_of_mem hc
   have hn:ew i (bC s i)=false:=by
    unfold nW at hb
    rw [Bool.not_eq_true,List.any_eq_false] at hb
    have:=hb i (by simpa using hi)
    simpa using this
   have he:bC s i=s[i]:=by unfold bC;simp [hi]
   rw [he] at hn
   constructor
   ·intro e;rw [e] at hn;unfold ew small other at hn;simp at hn
   ·intro e;rw [e] at hn;unfold ew small other at hn;simp at hn
theorem three {x:Int} (h:1<=x) (h':x<=3):x=1\/x=2\/x=3:=by omega
theorem dC {o:D aA} (h:bA o=0):fL o:=by
 unfold bA at h
 split at h
 ·cases h
 ·rename_i hm
  split at h
  ·rename_i h1;exact absurd h h1
  ·rename_i h1
   split at h
   ·rename_i h2;exact absurd h h2
   ·rename_i h2
    split at h
    ·rename_i h3;exact absurd h h3
    ·rename_i h3
     have h1:=Classical.byContradiction h1
     have h2:=Classical.byContradiction h2
     have h3:=Classical.byContradiction h3
     unfold cW at hm
     have hw:o.2.1.length<=40:=Nat.not_lt.1 fun e=>hm (.inr (.inr (.inl e)))
     refine ⟨Nat.not_lt.1 fun e=>hm (.inl e),Nat.not_lt.1 fun e=>hm (.inr (.inl e)),hw,Nat.not_lt.1 fun e=>hm (.inr (.inr (.inr (.inl e)))),Nat.not_lt.1 fun e=>hm (.inr (.inr (.inr (.inr e)))),
      fun s hs=>Dl (r5 _ _ h1 s hs),fun n hn => ?_,fun y hy => ?_,fun t ht => ?_⟩
     ·have:=r6 _ h2 n hn
      unfold c6 at this
      simp only [Bool.and_eq_true,decide_eq_true_eq] at this
      exact this
     ·obtain ⟨a,b,c⟩:=ur _ _ _ h3 y hy
      exact ⟨Dl a,b,Int.le_trans c (by omega)⟩
     ·obtain ⟨p,hp⟩:=uu _ _ _ h t ht
      obtain ⟨⟨a,b⟩,c,⟨d,e⟩,f,g⟩:=EY hp
      unfold c6 at c
      simp only [Bool.and_eq_true,decide_eq_true_eq] at c
      exact ⟨⟨a,Int.le_trans b (by omega)⟩,c,three d e,f,fun e=>Dl (g e)⟩
theorem fM {a b n:Int} (h:jz a b n) (ha : -999999999999999999<=a) (hb:b<=999999999999999999):(Lib.itoa n).length<=19:=by
 obtain ⟨h0,h1⟩:=h
 unfold Lib.itoa
 split
 ·rw [List.length_cons]
  have:=eX 17 n.natAbs (by omega)
  omega
 ·have:=eX 17 n.toNat (by omega)
  omega
theorem mW (b:Bool):(cP b).length<=5:=by cases b <;> decide
theorem EZ {s:aC} (h:Nm s):(mV s).length<=64:=by have:=h.2.1;simp [mV];omega
theorem E0 {n:Int} (h:jz (-2147483648) 2147483647 n):(lI n).length<=64:=by have:=fM h (by decide) (by decide);simp [lI];omega
theorem GB {y:D aD} (h:Nm y.1/\jz 0 39 y.2.1):(o3 y).length<=64:=by
 have h1:=fM h.2 (by decide) (by decide)
 have h2:=mW y.2.2.1
 have h3:=h.1.2.1
 simp [o3];omega
theorem GC {t:D aL} (h:uq t):(o4 t).length<=64:=by
 have h1:=fM h.a (by decide) (by decide)
 have h4:=fM h.w (by decide) (by decide)
 have h2:=mW t.2.2.2.2.1
 unfold o4
 split
 ·simp;omega
 ·rename_i hk
  have h3:=(h.nm hk).2.1
  split
  ·simp;omega
  ·simp;omega
theorem mi {α:Type} {f:α->aC}:∀{l:List α},(∀x∈l,(f x).length<=64)->(l.flatMap f).length<=64 * l.length
 | [],_=>by simp
 | x :: r,h=>by
  have h1:=h x (by simp)
  have h2:=mi (f:=f) (l:=r) fun y hy=>h y (List.mem_cons_of_mem _ hy)
  rw [List.flatMap_cons,List.length_append,List.length_cons];omega
theorem fL.I4 {o:D aA} (h:fL o) (i:Nat):(fh o i).length<=1000:=by
 have:=mi (f:=mV) (l:=o.1.take i) fun s hs=>EZ (h.xT s (List.mem_of_mem_take hs))
 have h2:=h.n4
 unfold fh;simp only [List.length_take] at this;omega
theorem fL.I5 {o:D aA} (h:fL o) (i:Nat):(eO o i).length<=4000:=by
 have h0:=h.I4 o.1.length
 have:=mi (f:=lI) (l:=o.2.1.take i) fun s hs=>E0 (h.words s (List.mem_of_mem_take hs))
 have h2:=h.JO
 unfold eO;rw [List.length_append];simp only [List.length_take] at this;omega
theorem fL.I6 {o:D aA} (h:fL o) (i:Nat):(dI o i).length<=5000:=by
 have h0:=h.I5 o.2.1.length
 have:=mi (f:=o3) (l:=o.2.2.1.take i) fun s hs=>GB (h.syms s (List.mem_of_mem_take hs))
 have h2:=h.s8
 unfold dI;rw [List.length_append];simp only [List.length_take] at this;omega
theorem fL.JL {o:D aA} (h:fL o) (i:Nat):(cz o i).length<=6000:=by
 have h0:=h.I6 o.2.2.1.length
 have:=mi (f:=o4) (l:=o.2.2.2.1.take i) fun s hs=>GC (h.Dj s (List.mem_of_mem_take hs))
 have h2:=h.t6
 unfold cz;rw [List.length_append];simp only [List.length_take] at this;omega
theorem fL.mj {o:D aA} (h:fL o) {i:Nat} (hi:i < o.1.length):Nm (nth .str o.1 i):=h.xT _ (jx (t:=.str) hi)
theorem fL.word {o:D aA} (h:fL o) {i:Nat} (hi:i < o.2.1.length):jz (-2147483648) 2147483647 (nth (.int .i64) o.2.1 i):=h.words _ (jx (t:=.int .i64) hi)
theorem fL.sym {o:D aA} (h:fL o) {i:Nat} (hi:i < o.2.2.1.length):Nm (nth aD o.2.2.1 i).1/\jz 0 39 (nth aD o.2.2.1 i).2.1:=h.syms _ (jx (t:=aD) hi)
theorem fL.tie {o:D aA} (h:fL o) {i:Nat} (hi:i < o.2.2.2.1.length):uq (nth aL o.2.2.2.1 i):=h.Dj _ (jx (t:=aL) hi)
theorem A9 (a b:aC):cf a++cf b=cf (a++b):=by simp [cf]
theorem qJ {o:D aA} (h:fL o) {i:Nat} (hi:i < o.1.length):(nth .str o.1 i).length<=8/\(fh o i).length<=1000:=⟨(h.mj hi).2.1,h.I4 i⟩
theorem qK {o:D aA} (h:fL o) {i:Nat} (hi:i < o.2.1.length):(Lib.itoa (nth (.int .i64) o.2.1 i)).length<=19/\(eO o i).length<=4000:=
 ⟨fM (h.word hi) (by decide) (by decide),h.I5 i⟩
theorem sR {o:D aA} (h:fL o) {i:Nat} (hi:i < o.2.2.1.length) :
  (nth aD o.2.2.1 i).1.length<=8/\(Lib.itoa (nth aD o.2.2.1 i).2.1).length<=19/\(cP (nth aD o.2.2.1 i).2.2.1).length<=5/\(dI o i).length<=5000:=
 ⟨(h.sym hi).1.2.1,fM (h.sym hi).2 (by decide) (by decide),mW _,h.I6 i⟩
theorem sU {o:D aA} (h:fL o) {i:Nat} (hi:i < o.2.2.2.1.length) :
  (nth aL o.2.2.2.1 i).2.2.2.1.length<=8/\(Lib.itoa (nth aL o.2.2.2.1 i).1).length<=19/\(Lib.itoa (nth aL o.2.2.2.1 i).2.2.1).length<=19/\(cP (nth aL o.2.2.2.1 i).2.2.2.2.1).length<=5/\(cz o i).length<=6000:=by
 have ht:=h.tie hi
 refine ⟨?_,fM ht.a (by decide) (by decide),fM ht.w (by decide) (by decide),mW _,h.JL i⟩
 by_cases hk:(nth aL o.2.2.2.1 i).2.1=1
 ·rw [(ht.base hk).1];decide
 ·exact (ht.nm hk).2.1
theorem ky {p p' q:aC} {a b:Int} (h:p'=p++q):(((cf p++cf q,a,b,()):D fO))=((cf p',a,b,()):D fO):=by rw [h,A9]
theorem sV {p p':aC} {a b:Int} (h:p=p'):((cf p,a,b,()):D fO)=((cf p',a,b,()):D fO):=by rw [h]
theorem uw {o:D aA} {i:Nat} (h:i < o.2.2.2.1.length) (hk:(nth aL o.2.2.2.1 i).2.1=1) :
  cz o (i + 1)=cz o i++([98,97,115,101,32]++Lib.itoa (nth aL o.2.2.2.1 i).1++[32]++Lib.itoa (nth aL o.2.2.2.1 i).2.2.1++[10]):=by
 rw [qI h];unfold o4;rw [if_pos hk]
theorem o5 {o:D aA} {i:Nat} (h:i < o.2.2.2.1.length) (hk:¬ (nth aL o.2.2.2.1 i).2.1=1) (hk2:(nth aL o.2.2.2.1 i).2.1=2) :
  cz o (i + 1)=cz o i++(cP (nth aL o.2.2.2.1 i).2.2.2.2.1++[119,104,111,108,101,32]++Lib.itoa (nth aL o.2.2.2.1 i).1++[32]++Lib.itoa (nth aL o.2.2.2.1 i).2.2.1++[32]++(nth aL o.2.2.2.1 i).2.2.2.1++[10]):=by
 rw [qI h];unfold o4;rw [if_neg hk,if_pos hk2]
theorem o6 {o:D aA} {i:Nat} (h:i < o.2.2.2.1.length) (hk:¬ (nth aL o.2.2.2.1 i).2.1=1) (hk2:¬ (nth aL o.2.2.2.1 i).2.1=2) :
  cz o (i + 1)=cz o i++(cP (nth aL o.2.2.2.1 i).2.2.2.2.1++[110,101,97,114,32]++Lib.itoa (nth aL o.2.2.2.1 i).1++[32]++Lib.itoa (nth aL o.2.2.2.1 i).2.2.1++[32]++(nth aL o.2.2.2.1 i).2.2.2.1++[10]):=by
 rw [qI h];unfold o4;rw [if_neg hk,if_neg hk2]
theorem wG {o:D aA} (h:bA o≠0):ft o=([],aX (bA o)):=by unfold ft;rw [if_pos h]
theorem ux {o:D aA} (h:bA o=0) {i:Nat} (hi:i=o.2.2.2.1.length) (hl:(cz o i).length > 1200):ft o=([], .no 2):=by
 unfold ft;rw [if_neg (by rw [h];decide),if_pos (by unfold cE;rw [<-hi];exact hl)]
theorem o7 {o:D aA} (h:bA o=0) {i:Nat} (hi:i=o.2.2.2.1.length) (hl:(cz o i).length<=1200):ft o=(cz o i, .nil):=by
 unfold ft;rw [if_neg (by rw [h];decide),if_neg (by unfold cE;rw [<-hi];omega)];unfold cE;rw [<-hi]
def fN (o:D aA):aC × Int:=if (cE o).length > 1200 then ([],2) else (cE o,0)
theorem uy {o:D aA} {i:Nat} (hi:i=o.2.2.2.1.length) (hl:(cz o i).length > 1200):fN o=([],2):=by
 unfold fN;rw [if_pos (by unfold cE;rw [<-hi];exact hl)]
theorem o8 {o:D aA} {i:Nat} (hi:i=o.2.2.2.1.length) (hl:(cz o i).length<=1200):fN o=(cz o i,0):=by
 unfold fN;rw [if_neg (by unfold cE;rw [<-hi];omega)];unfold cE;rw [<-hi]
@[reducible] def zH:List aC:=[[],[98,97,115,101],[119,104,111,108,101],[110,101,97,114]]
theorem GD:∀i:Nat,(nth .str [[],[98,97,115,101],[119,104,111,108,101],[110,101,97,114]] i).length<=5
 | 0=>by decide
 | 1=>by decide
 | 2=>by decide
 | 3=>by decide
 | n + 4=>by show ([]:aC).length<=5;decide
theorem fL.kind {o:D aA} (h:fL o) {i:Nat} (hi:i < o.2.2.2.1.length):jz 1 3 (nth aL o.2.2.2.1 i).2.1:=by
 rcases (h.tie hi).k with e | e | e <;> rw [e] <;> exact ⟨by decide,by decide⟩
theorem I7 {o:D aA} {i:Nat} (hi:i < o.2.2.2.1.length) (h:fL o) (hw:(nth aL o.2.2.2.1 i).2.2.2.2.1=true) (hk:(nth aL o.2.2.2.1 i).2.1≠1) :
  cz o i++[119,101,97,107,32]++nth .str zH (Int.toNat (nth aL o.2.2.2.1 i).2.1)++[32]++Lib.itoa (nth aL o.2.2.2.1 i).1++[32]++Lib.itoa (nth aL o.2.2.2.1 i).2.2.1++[32]++(nth aL o.2.2.2.1 i).2.2.2.1++[10]=cz o (i + 1):=by
 rcases (h.tie hi).k with e | e | e
 ·exact absurd e hk
 ·rw [o5 hi hk e,hw,e];simp [cP,nth]
 ·rw [o6 hi hk (by rw [e];decide),hw,e];simp [cP,nth]
theorem I8 {o:D aA} {i:Nat} (hi:i < o.2.2.2.1.length) (h:fL o) (hw:(nth aL o.2.2.2.1 i).2.2.2.2.1=false) (hk:(nth aL o.2.2.2.1 i).2.1≠1) :
  cz o i++nth .str zH (Int.toNat (nth aL o.2.2.2.1 i).2.1)++[32]++Lib.itoa (nth aL o.2.2.2.1 i).1++[32]++Lib.itoa (nth aL o.2.2.2.1 i).2.2.1++[32]++(nth aL o.2.2.2.1 i).2.2.2.1++[10]=cz o (i + 1):=by
 rcases (h.tie hi).k with e | e | e
 ·exact absurd e hk
 ·rw [o5 hi hk e,hw,e];simp [cP,nth]
 ·rw [o6 hi hk (by rw [e];decide),hw,e];simp [cP,nth]
theorem I9 {o:D aA} {i:Nat} (hi:i < o.2.2.2.1.length) (hk:(nth aL o.2.2.2.1 i).2.1=1) :
  cz o i++nth .str zH (Int.toNat (nth aL o.2.2.2.1 i).2.1)++[32]++Lib.itoa (nth aL o.2.2.2.1 i).1++[32]++Lib.itoa (nth aL o.2.2.2.1 i).2.2.1++[10]=cz o (i + 1):=by
 rw [uw hi hk,hk];simp [nth]
theorem Ja {o:D aA} {i:Nat} (hi:i < o.2.2.1.length) (hw:(nth aD o.2.2.1 i).2.2.1=true) :
  dI o i++[119,101,97,107,32]++[115,121,109,98,111,108,32]++(nth aD o.2.2.1 i).1++[32]++Lib.itoa (nth aD o.2.2.1 i).2.1++[10]=dI o (i + 1):=by
 rw [qH hi];unfold o3;rw [hw];simp [cP]
theorem Jb {o:D aA} {i:Nat} (hi:i < o.2.2.1.length) (hw:(nth aD o.2.2.1 i).2.2.1=false) :
  dI o i++[115,121,109,98,111,108,32]++(nth aD o.2.2.1 i).1++[32]++Lib.itoa (nth aD o.2.2.1 i).2.1++[10]=dI o (i + 1):=by
 rw [qH hi];unfold o3;rw [hw];simp [cP]
theorem Jy {o:D aA} {i:Nat} (hi:i < o.1.length):fh o i++[110,101,101,100,32]++nth .str o.1 i++[10]=fh o (i + 1):=by
 rw [wB hi];unfold mV;simp
theorem Jz {o:D aA} {i:Nat} (hi:i < o.2.1.length):eO o i++[119,111,114,100,32]++Lib.itoa (nth (.int .i64) o.2.1 i)++[10]=eO o (i + 1):=by
 rw [wC hi];unfold lI;simp
theorem B8 {x:Int} (h:x > 1):x≠1:=by omega
theorem E1 {x:Int} (h:¬ x > 1) (h':jz 1 3 x):x=1:=by obtain ⟨a,b⟩:=h';omega
end Go.Mrl

namespace Go.Mrl
open Go.Vg
@[reducible] def ir:aC:=[119,101,97,107]
@[reducible] def cw:aC:=[119,101,97,107,32]
@[reducible] def dn:aC:=[110,101,101,100]
@[reducible] def c8:aC:=[119,111,114,100]
@[reducible] def cI:aC:=[115,121,109,98,111,108]
@[reducible] def ey:aC:=[98,97,115,101]
@[reducible] def dw:aC:=[119,104,111,108,101]
@[reducible] def dW:aC:=[110,101,97,114]
def gb (o:D aA) (s:aC):D aA:=(o.1++[s],o.2)
def gf (o:D aA) (n:Int):D aA:=(o.1,o.2.1++[n],o.2.2)
def jZ (o:D aA) (y:D aD):D aA:=(o.1,o.2.1,o.2.2.1++[y],o.2.2.2)
def eZ (o:D aA) (t:D aL):D aA:=(o.1,o.2.1,o.2.2.1,o.2.2.2.1++[t],())
def sW (x y:aC) (k:Int->Int->D aA):Option (D aA):=
 match dq x,dq y with
 | some m,some n=>some (k m n)
 | _,_=>none
def ia (o:D aA) (b:Bool):List aC->Option (D aA)
 | [a,x]=>if a=dn then some (gb o x) else if a=c8 then (dq x).map (gf o) else none
 | [a,x,y]=>if a=cI then (dq y).map fun n=>jZ o (x,n,b,()) else if a=ey then sW x y fun m n=>eZ o (m,1,n,[],false,()) else none
 | [a,x,y,z]=>if a=dw\/a=dW then sW x y fun m n=>eZ o (m,if a=dW then 3 else 2,n,z,b,()) else none
 | _=>none
def j0 (o:D aA) (s:aC):Option (D aA):=ia o (Lib.hasPrefix s cw) (parts 32 (Lib.trimPrefix s cw))
def gL (x:aC):Int:=(gK x).getD (-1099511627776)
def dS (o:D aA) (b:Bool):List aC->Option (D aA)
 | [a,x]=>if a=dn then some (gb o x) else if a=c8 then some (gf o (gL x)) else none
 | [a,x,y]=>if a=cI then some (jZ o (x,gL y,b,())) else if a=ey then some (eZ o (gL x,1,gL y,[],b,())) else none
 | [a,x,y,z]=>if a=dw then some (eZ o (gL x,2,gL y,z,b,())) else if a=dW then some (eZ o (gL x,3,gL y,z,b,())) else none
 | _=>none
def rp (l:List aC):Bool:=decide (l.headD []=ir)
def uz (l:List aC):List aC:=if rp l=true then l.drop 1 else l
def fu (o:D aA) (s:aC):Option (D aA):=dS o (rp (parts 32 s)) (uz (parts 32 s))
def run (f:D aA->aC->Option (D aA)):D aA->List aC->Option (D aA)
 | o,[]=>some o
 | o,s :: r=>match f o s with
  | some p=>run f p r
  | none=>none
theorem sX {f:D aA->aC->Option (D aA)}:∀{l:List aC} {o:D aA} {s:aC},run f o (l++[s])=(run f o l).bind fun p=>f p s
 | [],o,s=>by simp only [List.nil_append,run,Option.bind_some];cases f o s <;> rfl
 | x :: r,o,s=>by
  simp only [List.cons_append,run]
  cases f o x with
  | none=>rfl
  | some p=>exact sX
theorem n7 {f:D aA->aC->Option (D aA)}:∀{l m:List aC} {o p:D aA},run f o l=some p->run f o (l++m)=run f p m
 | [],m,o,p,h=>by simp only [run,Option.some.injEq] at h;rw [h];rfl
 | x :: r,m,o,p,h=>by
  simp only [run] at h
  simp only [List.cons_append,run]
  cases hx:f o x with
  | none=>rw [hx] at h;cases h
  | some q=>rw [hx] at h;exact n7 h
def gR (s:aC):aC:=[110,101,101,100,32]++s
def gS (n:Int):aC:=[119,111,114,100,32]++Lib.itoa n
def sY (y:D aD):aC:=cP y.2.2.1++([115,121,109,98,111,108,32]++(y.1++32 :: Lib.itoa y.2.1))
def o9 (t:D aL):aC:=
 if t.2.1=1 then [98,97,115,101,32]++(Lib.itoa t.1++32 :: Lib.itoa t.2.2.1)
 else if t.2.1=2 then cP t.2.2.2.2.1++([119,104,111,108,101,32]++(Lib.itoa t.1++32 :: (Lib.itoa t.2.2.1++32 :: t.2.2.2.1)))
 else cP t.2.2.2.2.1++([110,101,97,114,32]++(Lib.itoa t.1++32 :: (Lib.itoa t.2.2.1++32 :: t.2.2.2.1)))
def j9 (o:D aA):List aC:=o.1.map gR++(o.2.1.map gS++(o.2.2.1.map sY++o.2.2.2.1.map o9))
theorem ml {α:Type} {f g:α->aC} (h:∀x,f x=g x++[10]):∀l:List α,l.flatMap f=ga 10 (l.map g)
 | []=>rfl
 | x :: r=>by rw [List.flatMap_cons,ml h r,List.map_cons,qF,h];simp
theorem sZ (c:UInt8) (l m:List aC):ga c (l++m)=ga c l++ga c m:=by simp [ga]
theorem r7 (o:D aA):cE o=ga 10 (j9 o):=by
 unfold cE cz dI eO fh j9
 rw [List.take_length,List.take_length,List.take_length,List.take_length,sZ,sZ,sZ,
  ml (g:=gR) (fun s=>by simp [mV,gR]) o.1,ml (g:=gS) (fun s=>by simp [lI,gS]) o.2.1,
  ml (g:=sY) (fun s=>by simp [o3,sY]) o.2.2.1,
  ml (g:=o9) (fun s=>by unfold o4 o9;split <;> (try split) <;> simp) o.2.2.2.1]
 simp
structure Reads (f:D aA->aC->Option (D aA)):Prop where
 mj:∀(o:D aA) (s:aC),Nm s->f o (gR s)=some (gb o s)
 word:∀(o:D aA) (n:Int),jz (-2147483648) 2147483647 n->f o (gS n)=some (gf o n)
 sym:∀(o:D aA) (y:D aD),Nm y.1->jz 0 39 y.2.1->f o (sY y)=some (jZ o y)
 tie:∀(o:D aA) (t:D aL),uq t->f o (o9 t)=some (eZ o t)
section
variable {f:D aA->aC->Option (D aA)} (h:Reads f)
include h
theorem wH:∀(l:List aC) (o:D aA),(∀s∈l,Nm s)->run f o (l.map gR)=some (o.1++l,o.2)
 | [],o,_=>by simp [run]
 | s :: r,o,hl=>by
  rw [List.map_cons,run,h.mj o s (hl s (by simp))]
  show run f (gb o s) (r.map gR)=_
  rw [wH r _ fun x hx=>hl x (List.mem_cons_of_mem _ hx)]
  simp [gb]
theorem wI:∀(l:List Int) (o:D aA),(∀n∈l,jz (-2147483648) 2147483647 n)->run f o (l.map gS)=some (o.1,o.2.1++l,o.2.2)
 | [],o,_=>by simp [run]
 | s :: r,o,hl=>by
  rw [List.map_cons,run,h.word o s (hl s (by simp))]
  show run f (gf o s) (r.map gS)=_
  rw [wI r _ fun x hx=>hl x (List.mem_cons_of_mem _ hx)]
  simp [gf]
theorem zI:∀(l:List (D aD)) (o:D aA),(∀y∈l,Nm y.1/\jz 0 39 y.2.1)->run f o (l.map sY)=some (o.1,o.2.1,o.2.2.1++l,o.2.2.2)
 | [],o,_=>by simp [run]
 | s :: r,o,hl=>by
  rw [List.map_cons,run,h.sym o s (hl s (by simp)).1 (hl s (by simp)).2]
  show run f (jZ o s) (r.map sY)=_
  rw [zI r _ fun x hx=>hl x (List.mem_cons_of_mem _ hx)]
  simp [jZ]
theorem zJ:∀(l:List (D aL)) (o:D aA),(∀t∈l,uq t)->run f o (l.map o9)=some (o.1,o.2.1,o.2.2.1,o.2.2.2.1++l,())
 | [],o,_=>by simp [run]
 | s :: r,o,hl=>by
  rw [List.map_cons,run,h.tie o s (hl s (by simp))]
  show run f (eZ o s) (r.map o9)=_
  rw [zJ r _ fun x hx=>hl x (List.mem_cons_of_mem _ hx)]
  simp [eZ]
theorem wJ {o:D aA} (ok:fL o):run f (bL aA) (j9 o)=some o:=by
 unfold j9
 rw [n7 (wH h o.1 _ ok.xT),n7 (wI h o.2.1 _ ok.words),n7 (zI h o.2.2.1 _ ok.syms),zJ h o.2.2.2.1 _ ok.Dj]
 rfl
end
theorem uA {a:UInt8} {s:aC} (h:a≠119):Lib.hasPrefix (a :: s) cw=false:=by
 unfold Lib.hasPrefix cw;simp [List.isPrefixOf];intro e;exact absurd e.symm h
theorem H9 {s:aC} (h:Lib.hasPrefix s cw=false):Lib.trimPrefix s cw=s:=by unfold Lib.trimPrefix;rw [if_neg (by rw [h];decide)]
theorem B9 (s:aC):Lib.hasPrefix (cw++s) cw=true:=by unfold Lib.hasPrefix cw;simp [List.isPrefixOf]
theorem GF (s:aC):Lib.trimPrefix (cw++s) cw=s:=by unfold Lib.trimPrefix;rw [if_pos (B9 s)];rfl
theorem Ca {a b:UInt8} {s:aC} (h:b≠101):Lib.hasPrefix (a :: b :: s) cw=false:=by
 unfold Lib.hasPrefix cw;simp [List.isPrefixOf];intro _ e;exact absurd e.symm h
theorem iu (o:D aA) (b:Bool) (s:aC) (h:Lib.hasPrefix s cw=false):j0 o (cP b++s)=ia o b (parts 32 s):=by
 unfold j0
 cases b with
 | false=>show ia o (Lib.hasPrefix s cw) (parts 32 (Lib.trimPrefix s cw))=_;rw [h,H9 h]
 | true=>show ia o (Lib.hasPrefix (cw++s) cw) (parts 32 (Lib.trimPrefix (cw++s) cw))=_;rw [B9,GF]
theorem iv (o:D aA) (b:Bool) (s:aC) (h:rp (parts 32 s)=false):fu o (cP b++s)=dS o b (parts 32 s):=by
 unfold fu
 cases b with
 | false=>show dS o (rp (parts 32 s)) (uz (parts 32 s))=_;unfold uz;rw [h,if_neg (by decide)]
 | true=>
  have e:parts 32 (cP true++s)=ir :: parts 32 s:=df (x:=ir) (by decide)
  rw [e]
  rfl
theorem kz {s:aC} (h:Nm s):(32:UInt8)∉s/\(10:UInt8)∉s:=⟨fun hc=>(h.2.2 _ hc).2 rfl,fun hc=>(h.2.2 _ hc).1 rfl⟩
theorem ib (n:Int):(32:UInt8)∉Lib.itoa n:=wv (by decide)
theorem pa (n:Int):(10:UInt8)∉Lib.itoa n:=wv (by decide)
theorem pb {s:aC} (h:Nm s):parts 32 (gR s) = [dn,s]:=by
 show parts 32 (dn++32 :: s)=_
 rw [df (by decide),fJ (kz h).1]
theorem pc (n:Int):parts 32 (gS n) = [c8,Lib.itoa n]:=by
 show parts 32 (c8++32 :: Lib.itoa n)=_
 rw [df (by decide),fJ (ib n)]
theorem qL {s:aC} {n:Int} (h:Nm s):parts 32 ([115,121,109,98,111,108,32]++(s++32 :: Lib.itoa n)) = [cI,s,Lib.itoa n]:=by
 show parts 32 (cI++32 :: (s++32 :: Lib.itoa n))=_
 rw [df (by decide),df (kz h).1,fJ (ib n)]
theorem pf (m n:Int):parts 32 ([98,97,115,101,32]++(Lib.itoa m++32 :: Lib.itoa n)) = [ey,Lib.itoa m,Lib.itoa n]:=by
 show parts 32 (ey++32 :: (Lib.itoa m++32 :: Lib.itoa n))=_
 rw [df (by decide),df (ib m),fJ (ib n)]
theorem nu {s:aC} (m n:Int) (h:Nm s):parts 32 ([119,104,111,108,101,32]++(Lib.itoa m++32 :: (Lib.itoa n++32 :: s))) = [dw,Lib.itoa m,Lib.itoa n,s]:=by
 show parts 32 (dw++32 :: (Lib.itoa m++32 :: (Lib.itoa n++32 :: s)))=_
 rw [df (by decide),df (ib m),df (ib n),fJ (kz h).1]
theorem pg {s:aC} (m n:Int) (h:Nm s):parts 32 ([110,101,97,114,32]++(Lib.itoa m++32 :: (Lib.itoa n++32 :: s))) = [dW,Lib.itoa m,Lib.itoa n,s]:=by
 show parts 32 (dW++32 :: (Lib.itoa m++32 :: (Lib.itoa n++32 :: s)))=_
 rw [df (by decide),df (ib m),df (ib n),fJ (kz h).1]
theorem rq {a b n:Int} (h:jz a b n) (ha : -9223372036854775808<=a) (hb:b<=9223372036854775807):dq (Lib.itoa n)=some n:=EW (Int.le_trans ha h.1) (Int.le_trans h.2 hb)
theorem rr {a b n:Int} (h:jz a b n) (ha : -999999999999999999<=a) (hb:b<=999999999999999999):gL (Lib.itoa n)=n:=by
 unfold gL;rw [EX (Int.le_trans ha h.1) (Int.le_trans h.2 hb)];rfl
theorem Jc:Reads j0 where
 mj o s h:=by
  have:=iu o false (gR s) (uA (by decide))
  rw [show cP false++gR s=gR s from rfl,pb h] at this
  exact this
 word o n h:=by
  have:=iu o false (gS n) (Ca (by decide))
  rw [show cP false++gS n=gS n from rfl,pc] at this
  rw [this]
  show (if c8=dn then some (gb o (Lib.itoa n)) else if c8=c8 then (dq (Lib.itoa n)).map (gf o) else none)=_
  rw [if_neg (by decide),if_pos rfl,rq h (by decide) (by decide)];rfl
 sym o y h h':=by
  have:=iu o y.2.2.1 ([115,121,109,98,111,108,32]++(y.1++32 :: Lib.itoa y.2.1)) (uA (by decide))
  rw [qL h] at this
  refine Eq.trans this ?_
  dsimp only [ia]
  rw [if_pos rfl,rq h' (by decide) (by decide)];rfl
 tie o t h:=by
  obtain ⟨at',k,ad,nm,b,_⟩:=t
  have ha:=rq h.a (by decide) (by decide)
  have hw:=rq h.w (by decide) (by decide)
  simp only at ha hw
  unfold o9
  rcases h.k with e | e | e
  ·have hb:=h.base e
   simp only at e hb
   obtain ⟨rfl,rfl⟩:=hb
   subst e
   rw [if_pos rfl]
   have:=iu o false ([98,97,115,101,32]++(Lib.itoa at'++32 :: Lib.itoa ad)) (uA (by decide))
   rw [pf] at this
   refine this.trans ?_
   dsimp only [ia]
   rw [if_neg (by decide),if_pos rfl];unfold sW;rw [ha,hw]
  ·have hn:=h.nm (by rw [show _=_ from e];decide)
   simp only at e hn
   subst e
   rw [if_neg (by simp),if_pos rfl]
   have:=iu o b ([119,104,111,108,101,32]++(Lib.itoa at'++32 :: (Lib.itoa ad++32 :: nm))) (Ca (by decide))
   rw [nu _ _ hn] at this
   refine this.trans ?_
   dsimp only [ia]
   rw [if_pos (.inl rfl),if_neg (by decide)];unfold sW;rw [ha,hw]
  ·have hn:=h.nm (by rw [show _=_ from e];decide)
   simp only at e hn
   subst e
   rw [if_neg (by simp),if_neg (by simp)]
   have:=iu o b ([110,101,97,114,32]++(Lib.itoa at'++32 :: (Lib.itoa ad++32 :: nm))) (uA (by decide))
   rw [pg _ _ hn] at this
   refine this.trans ?_
   dsimp only [ia]
   rw [if_pos (.inr rfl),if_pos rfl];unfold sW;rw [ha,hw]
theorem Jd:Reads fu where
 mj o s h:=by
  have:=iv o false (gR s) (by rw [pb h];rfl)
  rw [show cP false++gR s=gR s from rfl,pb h] at this
  exact this
 word o n h:=by
  have:=iv o false (gS n) (by rw [pc];rfl)
  rw [show cP false++gS n=gS n from rfl,pc] at this
  rw [this]
  show (if c8=dn then some (gb o (Lib.itoa n)) else if c8=c8 then some (gf o (gL (Lib.itoa n))) else none)=_
  rw [if_neg (by decide),if_pos rfl,rr h (by decide) (by decide)]
 sym o y h h':=by
  have:=iv o y.2.2.1 ([115,121,109,98,111,108,32]++(y.1++32 :: Lib.itoa y.2.1)) (by rw [qL h];rfl)
  rw [qL h] at this
  refine Eq.trans this ?_
  dsimp only [dS]
  rw [if_pos rfl,rr h' (by decide) (by decide)]
 tie o t h:=by
  obtain ⟨at',k,ad,nm,b,_⟩:=t
  have ha:=rr h.a (by decide) (by decide)
  have hw:=rr h.w (by decide) (by decide)
  simp only at ha hw
  unfold o9
  rcases h.k with e | e | e
  ·have hb:=h.base e
   simp only at e hb
   obtain ⟨rfl,rfl⟩:=hb
   subst e
   rw [if_pos rfl]
   have:=iv o false ([98,97,115,101,32]++(Lib.itoa at'++32 :: Lib.itoa ad)) (by rw [pf];rfl)
   rw [pf] at this
   refine this.trans ?_
   dsimp only [dS]
   rw [if_neg (by decide),if_pos rfl,ha,hw]
  ·have hn:=h.nm (by rw [show _=_ from e];decide)
   simp only at e hn
   subst e
   rw [if_neg (by simp),if_pos rfl]
   have:=iv o b ([119,104,111,108,101,32]++(Lib.itoa at'++32 :: (Lib.itoa ad++32 :: nm))) (by rw [nu _ _ hn];rfl)
   rw [nu _ _ hn] at this
   refine this.trans ?_
   dsimp only [dS]
   rw [if_pos rfl,ha,hw]
  ·have hn:=h.nm (by rw [show _=_ from e];decide)
   simp only at e hn
   subst e
   rw [if_neg (by simp),if_neg (by simp)]
   have:=iv o b ([110,101,97,114,32]++(Lib.itoa at'++32 :: (Lib.itoa ad++32 :: nm))) (by rw [pg _ _ hn];rfl)
   rw [pg _ _ hn] at this
   refine this.trans ?_
   dsimp only [dS]
   rw [if_neg (by decide),if_pos rfl,ha,hw]
end Go.Mrl

namespace Go.Mrl
open Go.Vg
theorem uB {o:D aA} (h:fL o):∀l∈j9 o,(10:UInt8)∉l:=by
 intro l hl
 unfold j9 at hl
 simp only [List.mem_append,List.mem_map] at hl
 have hw:∀b,(10:UInt8)∉cP b:=by intro b;cases b <;> decide
 rcases hl with ⟨s,hs,rfl⟩ | ⟨n,hn,rfl⟩ | ⟨y,hy,rfl⟩ | ⟨t,ht,rfl⟩
 ·have:=(kz (h.xT s hs)).2
  unfold gR;simp [this]
 ·have:=pa n
  unfold gS;simp [this]
 ·have h1:=(kz (h.syms y hy).1).2
  have h2:=pa y.2.1
  have h3:=hw y.2.2.1
  unfold sY;simp [h1,h2,h3]
 ·have h1:=pa t.1
  have h2:=pa t.2.2.1
  have h3:=hw t.2.2.2.2.1
  unfold o9
  split
  ·simp [h1,h2]
  ·rename_i hk
   have h4:=(kz ((h.Dj t ht).nm hk)).2
   split <;> simp [h1,h2,h3,h4]
theorem GG {o:D aA} (h:fL o):j9 o≠[]:=by
 have h1:=h.w1
 unfold j9
 intro e
 simp only [List.append_eq_nil_iff,List.map_eq_nil_iff] at e
 rw [e.2.1] at h1
 simp at h1
def Dm (s:aC):Option (D aA):=run j0 (bL aA) (parts 10 (Lib.trimSuffix s [10]))
theorem mX {o:D aA} (h:bA o=0):Dm (cE o)=some o:=by
 have ok:=dC h
 unfold Dm
 rw [r7,Di (GG ok) (uB ok),wJ Jc ok]
theorem E2 {o p:D aA} (h:bA o=0) (h':bA p=0) (e:cE o=cE p):o=p:=by
 have a:=mX h
 rw [e,mX h'] at a
 exact (Option.some.inj a).symm
open Classical in
noncomputable def bJ (s:aC):D aA × Int:=
 if s.length > 1200 then (bL aA,2)
 else if h:∃o:D aA,bA o=0/\cE o=s then (Classical.choose h,0) else (bL aA,4)
theorem qM {s:aC} (h:s.length > 1200):bJ s=(bL aA,2):=by unfold bJ;rw [if_pos h]
theorem n8 {s:aC} {o:D aA} (h:¬ s.length > 1200) (hf:bA o=0) (ht:cE o=s):bJ s=(o,0):=by
 have hx:∃o:D aA,bA o=0/\cE o=s:=⟨o,hf,ht⟩
 have hc:=Classical.choose_spec hx
 unfold bJ
 rw [if_neg h,dif_pos hx,E2 hc.1 hf (hc.2.trans ht.symm)]
theorem kA {s:aC} (h:¬ s.length > 1200) (hn:∀o:D aA,bA o=0->cE o≠s):bJ s=(bL aA,4):=by
 unfold bJ
 rw [if_neg h,dif_neg fun ⟨o,h1,h2⟩=>hn o h1 h2]
theorem Dn {s:aC} (h:¬ s.length > 1200) (hr:Dm s=none):bJ s=(bL aA,4):=
 kA h fun o h1 h2=>by rw [<-h2,mX h1] at hr;cases hr
theorem uC {s:aC} {o:D aA} (h:¬ s.length > 1200) (hr:Dm s=some o) (hb:bA o=0->cE o≠s):bJ s=(bL aA,4):=
 kA h fun p h1 h2=>by
  have:p=o:=by rw [<-h2,mX h1] at hr;exact Option.some.inj hr
  rw [this] at h1 h2
  exact hb h1 h2
def nv (s:aC):List aC × Bool:=((parts 10 s).dropLast,decide ((parts 10 s).getLastD [] = []))
theorem Cb {s x:aC} {L:List aC} (h:∀y∈L,(10:UInt8)∉y) (hx:(10:UInt8)∉x) (e:ga 10 L++x=s):nv s=(L,decide (x = [])):=by
 unfold nv
 rw [<-e,o1 h hx];simp
def Dp (s:aC):Option (D aA):=run fu (bL aA) (nv s).1
theorem wK {o:D aA} (h:bA o=0):nv (cE o)=(j9 o,true):=by
 have ok:=dC h
 rw [Cb (x:=[]) (uB ok) (by simp) (by rw [r7];simp)]
 rfl
theorem wL {o:D aA} (h:bA o=0):Dp (cE o)=some o:=by
 unfold Dp
 rw [wK h,wJ Jd (dC h)]
theorem E3 {s:aC} (h:¬ s.length > 1200) (hr:(nv s).2=false):bJ s=(bL aA,4):=
 kA h fun o h1 h2=>by rw [<-h2,wK h1] at hr;cases hr
theorem Dq {s:aC} (h:¬ s.length > 1200) (hr:Dp s=none):bJ s=(bL aA,4):=
 kA h fun o h1 h2=>by rw [<-h2,wL h1] at hr;cases hr
theorem Dr {s:aC} {o:D aA} (h:¬ s.length > 1200) (hr:Dp s=some o) (hb:bA o=0->cE o≠s):bJ s=(bL aA,4):=
 kA h fun p h1 h2=>by
  have:p=o:=by rw [<-h2,wL h1] at hr;exact Option.some.inj hr
  rw [this] at h1 h2
  exact hb h1 h2
def du (o:D aA) (b:Bool) (s:aC):D aA × Bool:=
 let w:=parts 32 (Lib.trimPrefix s cw)
 if nth .str w 0=dn/\w.length=2 then (gb o (nth .str w 1),b)
 else if nth .str w 0=c8/\w.length=2 then (gf o (cO (nth .str w 1)).1,b || (dq (nth .str w 1)).isNone)
 else if nth .str w 0=cI/\w.length=3 then (jZ o (nth .str w 1,(cO (nth .str w 2)).1,Lib.hasPrefix s cw,()),b || (dq (nth .str w 2)).isNone)
 else if nth .str w 0=ey/\w.length=3 then (eZ o ((cO (nth .str w 1)).1,1,(cO (nth .str w 2)).1,[],false,()),(b || (dq (nth .str w 1)).isNone) || (dq (nth .str w 2)).isNone)
 else if (nth .str w 0=dw\/nth .str w 0=dW)/\w.length=4 then
  (eZ o ((cO (nth .str w 1)).1,if nth .str w 0=dW then 3 else 2,(cO (nth .str w 2)).1,nth .str w 3,Lib.hasPrefix s cw,()),(b || (dq (nth .str w 1)).isNone) || (dq (nth .str w 2)).isNone)
 else (o,true)
theorem jA {s:aC} {n:Int} (h:dq s=some n):(cO s).1=n:=by
 unfold dq at h
 unfold cO
 cases ha:Lib.atoiAll s with
 | ok v=>rw [ha] at h;simp only at h ⊢;split at h <;> simp_all
 | range=>rw [ha] at h;cases h
 | _=>rw [ha] at h;cases h
theorem Ds (o:D aA) (b:Bool) (s:aC):(∃p,j0 o s=some p/\du o b s=(p,b))\/(j0 o s=none/\(du o b s).2=true):=by
 unfold j0 du
 generalize hw:parts 32 (Lib.trimPrefix s cw)=w
 generalize Lib.hasPrefix s cw=k
 have hne:=mf 32 (Lib.trimPrefix s cw)
 rw [hw] at hne
 match w,hne with
 | [],hne=>exact absurd rfl hne
 | [a],_=>exact .inr ⟨rfl,by simp⟩
 | [a,x],_=>
  dsimp only [ia]
  simp only [show nth .str [a,x] 0=a from rfl,show nth .str [a,x] 1=x from rfl]
  by_cases h1:a=dn
  ·rw [if_pos h1,if_pos (show (a=dn)/\[a,x].length=2 from ⟨h1,rfl⟩)];exact .inl ⟨_,rfl,rfl⟩
  ·rw [if_neg h1,if_neg (show ¬ ((a=dn)/\[a,x].length=2) from fun e=>h1 e.1)]
   by_cases h2:a=c8
   ·rw [if_pos h2,if_pos (show (a=c8)/\[a,x].length=2 from ⟨h2,rfl⟩)]
    cases hn:dq x with
    | none=>exact .inr ⟨rfl,by simp⟩
    | some n=>exact .inl ⟨_,rfl,by rw [jA hn];simp⟩
   ·rw [if_neg h2,if_neg (show ¬ ((a=c8)/\[a,x].length=2) from fun e=>h2 e.1),if_neg (show ¬ ((a=cI)/\[a,x].length=3) from fun e=>absurd e.2 (by simp)),if_neg (show ¬ ((a=ey)/\[a,x].length=3) from fun e=>absurd e.2 (by simp)),if_neg (show ¬ ((a=dw\/a=dW)/\[a,x].length=4) from fun e=>absurd e.2 (by simp))];exact .inr ⟨rfl,rfl⟩
 | [a,x,y],_=>
  dsimp only [ia]
  simp only [show nth .str [a,x,y] 0=a from rfl,show nth .str [a,x,y] 1=x from rfl,show nth .str [a,x,y] 2=y from rfl]
  rw [if_neg (show ¬ ((a=dn)/\[a,x,y].length=2) from fun e=>absurd e.2 (by simp)),if_neg (show ¬ ((a=c8)/\[a,x,y].length=2) from fun e=>absurd e.2 (by simp))]
  by_cases h1:a=cI
  ·rw [if_pos h1,if_pos (show (a=cI)/\[a,x,y].length=3 from ⟨h1,rfl⟩)]
   cases hn:dq y with
   | none=>exact .inr ⟨rfl,by simp⟩
   | some n=>exact .inl ⟨_,rfl,by rw [jA hn];simp⟩
  ·rw [if_neg h1,if_neg (show ¬ ((a=cI)/\[a,x,y].length=3) from fun e=>h1 e.1)]
   by_cases h2:a=ey
   ·rw [if_pos h2,if_pos (show (a=ey)/\[a,x,y].length=3 from ⟨h2,rfl⟩)]
    unfold sW
    cases hm:dq x with
    | none=>exact .inr ⟨rfl,by simp⟩
    | some m=>
     cases hn:dq y with
     | none=>exact .inr ⟨rfl,by simp⟩
     | some n=>exact .inl ⟨_,rfl,by rw [jA hn,jA hm];simp⟩
   ·rw [if_neg h2,if_neg (show ¬ ((a=ey)/\[a,x,y].length=3) from fun e=>h2 e.1),if_neg (show ¬ ((a=dw\/a=dW)/\[a,x,y].length=4) from fun e=>absurd e.2 (by simp))];exact .inr ⟨rfl,rfl⟩
 | [a,x,y,z],_=>
  dsimp only [ia]
  simp only [show nth .str [a,x,y,z] 0=a from rfl,show nth .str [a,x,y,z] 1=x from rfl,show nth .str [a,x,y,z] 2=y from rfl,show nth .str [a,x,y,z] 3=z from rfl]
  rw [if_neg (show ¬ ((a=dn)/\[a,x,y,z].length=2) from fun e=>absurd e.2 (by simp)),if_neg (show ¬ ((a=c8)/\[a,x,y,z].length=2) from fun e=>absurd e.2 (by simp)),if_neg (show ¬ ((a=cI)/\[a,x,y,z].length=3) from fun e=>absurd e.2 (by simp)),if_neg (show ¬ ((a=ey)/\[a,x,y,z].length=3) from fun e=>absurd e.2 (by simp))]
  by_cases h1:a=dw\/a=dW
  ·rw [if_pos h1,if_pos (show (a=dw\/a=dW)/\[a,x,y,z].length=4 from ⟨h1,rfl⟩)]
   unfold sW
   cases hm:dq x with
   | none=>exact .inr ⟨rfl,by simp⟩
   | some m=>
    cases hn:dq y with
    | none=>exact .inr ⟨rfl,by simp⟩
    | some n=>exact .inl ⟨_,rfl,by rw [jA hn,jA hm];simp⟩
  ·rw [if_neg h1,if_neg (show ¬ ((a=dw\/a=dW)/\[a,x,y,z].length=4) from fun e=>h1 e.1)];exact .inr ⟨rfl,rfl⟩
 | a :: x :: y :: z :: u :: r,_=>exact .inr ⟨rfl,by simp⟩
theorem E4 (o:D aA) (s:aC):(du o true s).2=true:=by
 unfold du;simp only [Bool.true_or]
 split
 ·rfl
 ·split
  ·rfl
  ·split
   ·rfl
   ·split
    ·rfl
    ·split <;> rfl
theorem E5 (o:D aA) (b:Bool) (s:aC) :
  (du o b s).1.1.length<=o.1.length + 1/\(du o b s).1.2.1.length<=o.2.1.length + 1/\(du o b s).1.2.2.1.length<=o.2.2.1.length + 1/\(du o b s).1.2.2.2.1.length<=o.2.2.2.1.length + 1:=by
 have e:∀{α:Type} (l:List α) (x:α),(l++[x]).length<=l.length + 1:=fun l x=>by simp
 have e0:∀n:Nat,n<=n + 1:=fun n=>Nat.le_succ n
 unfold du
 simp only
 split
 ·exact ⟨e _ _,e0 _,e0 _,e0 _⟩
 ·split
  ·exact ⟨e0 _,e _ _,e0 _,e0 _⟩
  ·split
   ·exact ⟨e0 _,e0 _,e _ _,e0 _⟩
   ·split
    ·exact ⟨e0 _,e0 _,e0 _,e _ _⟩
    ·split
     ·exact ⟨e0 _,e0 _,e0 _,e _ _⟩
     ·exact ⟨e0 _,e0 _,e0 _,e0 _⟩
structure gg (L:List aC) (i:Nat) (o:D aA) (b:Bool):Prop where
 le:i<=L.length
 st:(run j0 (bL aA) (L.take i)=some o/\b=false)\/(run j0 (bL aA) (L.take i)=none/\b=true)
 l1:o.1.length<=i
 l2:o.2.1.length<=i
 l3:o.2.2.1.length<=i
 l4:o.2.2.2.1.length<=i
theorem gg.zero (L:List aC):gg L 0 (bL aA) false:=⟨Nat.zero_le _, .inl ⟨rfl,rfl⟩,Nat.le_refl _,Nat.le_refl _,Nat.le_refl _,Nat.le_refl _⟩
theorem gg.next {L:List aC} {i:Nat} {o:D aA} {b:Bool} (h:gg L i o b) (hi:i < L.length):gg L (i + 1) (du o b (nth .str L i)).1 (du o b (nth .str L i)).2:=by
 obtain ⟨a1,a2,a3,a4⟩:=E5 o b (nth .str L i)
 refine ⟨hi,?_,by have:=h.l1;omega,by have:=h.l2;omega,by have:=h.l3;omega,by have:=h.l4;omega⟩
 rw [fS (t:=.str) hi,sX]
 rcases h.st with ⟨hr,hb⟩ | ⟨hr,hb⟩
 ·rw [hr,Option.bind_some]
  rcases Ds o b (nth .str L i) with ⟨p,h1,h2⟩ | ⟨h1,h2⟩
  ·rw [h2];exact .inl ⟨h1,hb⟩
  ·exact .inr ⟨h1,h2⟩
 ·rw [hr,hb];exact .inr ⟨rfl,E4 o _⟩
end Go.Mrl

namespace Go.Mrl
open Go.Vg
abbrev HF:=Unit × List (List UInt8) × List Int × List (D aD) × List (D aL) × (Bool × Unit) × Unit
def GH (x:HF):D aA:=(x.2.1,x.2.2.1,x.2.2.2.1,x.2.2.2.2.1,())
def E6 (p:D aA × Bool):HF:=((),p.1.1,p.1.2.1,p.1.2.2.1,p.1.2.2.2.1,(p.2,()),())
theorem zK (s p:aC):(Lib.trimPrefix s p).length<=s.length:=by unfold Lib.trimPrefix;split <;> simp
theorem Cc {s:aC} {w:List aC} (hw:w=parts 32 (Lib.trimPrefix s cw)) (i:Nat):(nth .str w i).length<=s.length:=by
 by_cases h:i < w.length
 ·have h1:=jx (t:=.str) h
  rw [hw] at h1
  have:=jr _ _ _ h1
  rw [<-hw] at this
  exact Nat.le_trans this (zK _ _)
 ·unfold nth;rw [List.getD_eq_getElem?_getD,List.getElem?_eq_none (by omega)];exact Nat.zero_le _
theorem GI {s:aC} {w:List aC} (hw:w=parts 32 (Lib.trimPrefix s cw)):0 < w.length:=by rw [hw];exact List.length_pos_iff.2 (mf _ _)
theorem dx {c:Bool} {P:Prop} (q:c=true ↔ P) (h:c=false):¬ P:=fun p=>by rw [q.2 p] at h;cases h
section
variable {o:D aA} {b:Bool} {s:aC} {w:List aC} (hw:w=parts 32 (Lib.trimPrefix s cw))
include hw
theorem Dt (h:nth .str w 0=dn/\w.length=2):du o b s=(gb o (nth .str w 1),b):=by
 unfold du;simp only;rw [<-hw,if_pos h]
theorem Du (h0:¬ (nth .str w 0=dn/\w.length=2)) (h:nth .str w 0=c8/\w.length=2):du o b s=(gf o (cO (nth .str w 1)).1,b || (dq (nth .str w 1)).isNone):=by
 unfold du;simp only;rw [<-hw,if_neg h0,if_pos h]
theorem E7 (h0:¬ (nth .str w 0=dn/\w.length=2)) (h1:¬ (nth .str w 0=c8/\w.length=2)) (h:nth .str w 0=cI/\w.length=3) :
  du o b s=(jZ o (nth .str w 1,(cO (nth .str w 2)).1,Lib.hasPrefix s cw,()),b || (dq (nth .str w 2)).isNone):=by
 unfold du;simp only;rw [<-hw,if_neg h0,if_neg h1,if_pos h]
theorem Dv (h0:¬ (nth .str w 0=dn/\w.length=2)) (h1:¬ (nth .str w 0=c8/\w.length=2)) (h2:¬ (nth .str w 0=cI/\w.length=3)) (h:nth .str w 0=ey/\w.length=3) :
  du o b s=(eZ o ((cO (nth .str w 1)).1,1,(cO (nth .str w 2)).1,[],false,()),(b || (dq (nth .str w 1)).isNone) || (dq (nth .str w 2)).isNone):=by
 unfold du;simp only;rw [<-hw,if_neg h0,if_neg h1,if_neg h2,if_pos h]
theorem wM (h0:¬ (nth .str w 0=dn/\w.length=2)) (h1:¬ (nth .str w 0=c8/\w.length=2)) (h2:¬ (nth .str w 0=cI/\w.length=3)) (h3:¬ (nth .str w 0=ey/\w.length=3))
  (h:(nth .str w 0=dw\/nth .str w 0=dW)/\w.length=4) {k:Int} (hk:k=if nth .str w 0=dW then 3 else 2) :
  du o b s=(eZ o ((cO (nth .str w 1)).1,k,(cO (nth .str w 2)).1,nth .str w 3,Lib.hasPrefix s cw,()),(b || (dq (nth .str w 1)).isNone) || (dq (nth .str w 2)).isNone):=by
 unfold du;simp only;rw [<-hw,if_neg h0,if_neg h1,if_neg h2,if_neg h3,if_pos h,hk]
theorem Dw (h0:¬ (nth .str w 0=dn/\w.length=2)) (h1:¬ (nth .str w 0=c8/\w.length=2)) (h2:¬ (nth .str w 0=cI/\w.length=3)) (h3:¬ (nth .str w 0=ey/\w.length=3))
  (h:¬ ((nth .str w 0=dw\/nth .str w 0=dW)/\w.length=4)):du o b s=(o,true):=by
 unfold du;simp only;rw [<-hw,if_neg h0,if_neg h1,if_neg h2,if_neg h3,if_neg h]
end
end Go.Mrl

namespace Go.Mrl
open Go.Vg
structure en (c:UInt8) (s:aC) (i:Nat) (L:List aC) (x:aC):Prop where
 le:i<=s.length
 eq:ga c L++x=s.take i
 free:∀y∈L,c∉y
 fx:c∉x
 len:L.length<=i
 lx:x.length<=i
theorem en.zero (c:UInt8) (s:aC):en c s 0 [] []:=⟨Nat.zero_le _,rfl,by simp,by simp,by simp,by simp⟩
theorem lj {s:aC} {i:Nat} (h:i < s.length):s.take (i + 1)=s.take i++[bC s i]:=by
 rw [List.take_add_one,wb h];rfl
theorem en.cut {c:UInt8} {s:aC} {i:Nat} {L:List aC} {x:aC} (h:en c s i L x) (hi:i < s.length) (e:bC s i=c):en c s (i + 1) (L++[x]) []:=by
 refine ⟨hi,?_,fun y hy => ?_,by simp,by have:=h.len;simp;omega,by simp⟩
 ·rw [lj hi,<-h.eq,e,wm];simp
 ·rcases List.mem_append.1 hy with hy | hy
  ·exact h.free y hy
  ·simp at hy;subst hy;exact h.fx
theorem en.more {c:UInt8} {s:aC} {i:Nat} {L:List aC} {x:aC} (h:en c s i L x) (hi:i < s.length) (e:¬ bC s i=c):en c s (i + 1) L (x++[bC s i]):=by
 refine ⟨hi,?_,h.free,?_,by have:=h.len;omega,by have:=h.lx;simp;omega⟩
 ·rw [lj hi,<-h.eq];simp
 ·intro hc
  rcases List.mem_append.1 hc with hc | hc
  ·exact h.fx hc
  ·simp at hc;exact e hc.symm
theorem en.done {c:UInt8} {s:aC} {i:Nat} {L:List aC} {x:aC} (h:en c s i L x) (hi:¬ i < s.length):L++[x]=parts c s:=by
 have e:=h.eq
 rw [List.take_of_length_le (by omega)] at e
 rw [<-e,o1 h.free h.fx]
structure eo (c:UInt8) (s:aC) (i:Nat) (L:List aC) (f:Nat):Prop where
 le:i<=s.length
 fi:f<=i
 eq:ga c L=s.take f
 free:∀y∈L,c∉y
 Je:∀j,f<=j->j < i->¬ bC s j=c
 len:L.length<=i
theorem eo.zero (c:UInt8) (s:aC):eo c s 0 [] 0:=⟨Nat.zero_le _,Nat.le_refl _,rfl,by simp,fun j h h'=>by omega,by simp⟩
theorem uD {c:UInt8} {s:aC} {f i:Nat} (hi:i<=s.length) (h:∀j,f<=j->j < i->¬ bC s j=c):c∉(s.take i).drop f:=by
 intro hc
 obtain ⟨k,hk,e⟩:=List.getElem_of_mem hc
 rw [List.length_drop,List.length_take] at hk
 rw [List.getElem_drop,List.getElem_take] at e
 refine h (f + k) (by omega) (by omega) ?_
 rw [nH (List.getElem?_eq_getElem (show f + k < s.length by omega))]
 exact e
theorem eo.cut {c:UInt8} {s:aC} {i:Nat} {L:List aC} {f:Nat} (h:eo c s i L f) (hi:i < s.length) (e:bC s i=c):eo c s (i + 1) (L++[(s.take i).drop f]) (i + 1):=by
 refine ⟨hi,Nat.le_refl _,?_,fun y hy => ?_,fun j h1 h2=>by omega,by have:=h.len;simp;omega⟩
 ·have hf:=h.fi
  rw [wm,h.eq,lj hi,e]
  congr 1
  have:=List.take_append_drop f (s.take i)
  rw [List.take_take,Nat.min_eq_left hf] at this
  exact this
 ·rcases List.mem_append.1 hy with hy | hy
  ·exact h.free y hy
  ·simp at hy;subst hy;exact uD h.le h.Je
theorem eo.more {c:UInt8} {s:aC} {i:Nat} {L:List aC} {f:Nat} (h:eo c s i L f) (hi:i < s.length) (e:¬ bC s i=c):eo c s (i + 1) L f:=by
 refine ⟨hi,by have:=h.fi;omega,h.eq,h.free,fun j h1 h2 => ?_,by have:=h.len;omega⟩
 rcases Nat.lt_or_ge j i with hl | hl
 ·exact h.Je j h1 hl
 ·rw [show j=i by omega];exact e
theorem eo.done {s:aC} {i:Nat} {L:List aC} {f:Nat} (h:eo 10 s i L f) (hi:¬ i < s.length):(L,(f == s.length))=nv s:=by
 have hle:=h.le
 have e:i=s.length:=by omega
 have hx:(10:UInt8)∉s.drop f:=by
  have:=uD h.le h.Je
  rwa [List.take_of_length_le (by omega)] at this
 rw [Cb (x:=s.drop f) h.free hx (by rw [h.eq,List.take_append_drop])]
 congr 1
 have:=h.fi
 rw [Bool.eq_iff_iff]
 simp [List.drop_eq_nil_iff]
 omega
theorem E8 {s:aC} (h:0 < s.length) (h2:bC s 0=45):cj s=s.drop 1/\(cj s).length < s.length:=by
 cases s with
 | nil=>simp at h
 | cons c r=>
  have:c=45:=h2
  subst this
  exact ⟨rfl,by simp [cj]⟩
theorem wN {s:aC} (h:¬ (0 < s.length/\bC s 0=45)):cj s=s:=by
 cases s with
 | nil=>rfl
 | cons c r=>
  have:¬ c=45:=fun e=>h ⟨by simp,e⟩
  unfold cj
  split
  ·rename_i e;cases e;exact absurd rfl this
  ·rfl
theorem wO {s:aC} (h:0 < s.length):s.head?=some (bC s 0):=by
 cases s with
 | nil=>simp at h
 | cons c r=>rfl
theorem Dx {s:aC} (h:(cj s).length < 1\/(cj s).length > 18):gK s=none:=by
 unfold gK;rw [if_pos];rcases h with h | h;exact .inl h;exact .inr (.inl h)
theorem Dy {s:aC} (h:0 < (cj s).length) (h1:bC (cj s) 0=48) (h2:1 < s.length):gK s=none:=by
 unfold gK;rw [if_pos];exact .inr (.inr ⟨by rw [wO h,h1],h2⟩)
theorem Ia {s:aC} (h:¬ (cj s).length < 1) (h':¬ (cj s).length > 18) (h2:¬ (bC (cj s) 0=48/\1 < s.length)) :
  gK s=if (cj s).all eN=true then some (if (cj s).length < s.length then -(fA (cj s):Int) else (fA (cj s):Int)) else none:=by
 unfold gK;rw [if_neg]
 rintro (e | e | ⟨e,e'⟩)
 ·exact h e
 ·exact h' e
 ·rw [wO (by omega)] at e
  exact h2 ⟨Option.some.inj e,e'⟩
theorem Jf {s:aC} {p:UInt8->Bool} {i:Nat} (h:i < s.length) (hn:p (bC s i)=false):s.all p=false:=by
 rw [List.all_eq_false]
 exact ⟨bC s i,List.mem_of_getElem? (wb h),by rw [hn];decide⟩
theorem Jg {s:aC} {p:UInt8->Bool} (h:∀j,j < s.length->p (bC s j)=true):s.all p=true:=by
 rw [List.all_eq_true]
 intro x hx
 obtain ⟨i,hi,rfl⟩:=List.getElem_of_mem hx
 have:=h i hi
 rwa [nH (List.getElem?_eq_getElem hi)] at this
theorem E9 {s:aC} {i:Nat} (h:i < s.length):fA (s.take (i + 1))=10 * fA (s.take i) + ((bC s i).toNat - 48):=by rw [lj h,qG]
def ka (s:aC):Int × Bool:=(match gK s with | some n=>n | none=>0,(gK s).isSome)
def nw (s:aC):Int:=(ka s).1
def lr (s:aC):Bool:=(ka s).2
def gx (s:aC):List aC:=(nv s).1
def qN (s:aC):Bool:=(nv s).2
theorem qO {s:aC} (h:gK s=none):((0:Int),false)=ka s:=by unfold ka;rw [h];rfl
theorem wP {s:aC} {n:Int} (h:gK s=some n):(n,true)=ka s:=by unfold ka;rw [h];rfl
theorem uE {s:aC} (h0:(s.length:Int) > 0) (h1:((bC s 0).toNat:Int)=45):cj s=List.drop 1 (List.take (List.length s) s):=by
 rw [(E8 (by omega) (UInt8.toNat_inj.1 (by rw [Int.ofNat_inj.1 (show ((bC s 0).toNat:Int)=(45:Nat) from h1)];rfl))).1,List.take_length]
theorem uF {s:aC} (h1:¬ ((bC s 0).toNat:Int)=45):cj s=s:=wN fun h=>h1 (by rw [h.2];rfl)
theorem uG {s:aC} (h0:(s.length:Int)<=0):cj s=s:=wN fun h=>by omega
theorem GJ {s t:aC} (hm:cj s=t) (h:t.length < 1\/t.length > 18):((0:Int),false)=ka s:=qO (Dx (by rw [hm];exact h))
theorem Fa {s t:aC} (hm:cj s=t) (h:0 < t.length) (h1:((bC t 0).toNat:Int)=48) (h2:1 < s.length):((0:Int),false)=ka s:=
 qO (Dy (by rw [hm];exact h) (by rw [hm];exact UInt8.toNat_inj.1 (by rw [Int.ofNat_inj.1 (show ((bC t 0).toNat:Int)=(48:Nat) from h1)];rfl)) h2)
theorem GK {s t:aC} (hm:cj s=t) {i:Nat} (hi:i < t.length) (h:((bC t i).toNat:Int) < 48\/((bC t i).toNat:Int) > 57):((0:Int),false)=ka s:=by
 refine qO ?_
 have:(cj s).all eN=false:=by
  rw [hm];exact Jf hi (by unfold eN;simp;omega)
 unfold gK
 split
 ·rfl
 ·rw [if_neg (by rw [this];decide)]
theorem GL {c:UInt8} (h:(48:Int)<=(c.toNat:Int)) (h':(c.toNat:Int)<=57):eN c=true:=by unfold eN;simp;omega
theorem r8 {s:aC} {i:Nat} (h:i < s.length) (h18:s.length<=18) (hd:∀j,j < i->eN (bC s j)=true):fA (s.take i) < 100000000000000000:=by
 refine Nat.lt_of_lt_of_le (B5 i _ (by simp;omega) fun c hc => ?_) (Nat.le_trans (Nat.pow_le_pow_right (by decide) (show i<=17 by omega)) (by decide))
 obtain ⟨k,hk,rfl⟩:=List.getElem_of_mem hc
 rw [List.length_take] at hk
 have:=hd k (by omega)
 rw [List.getElem_take]
 rw [nH (List.getElem?_eq_getElem (show k < s.length by omega))] at this
 simpa [eN] using this
theorem zL {s t:aC} (hm:cj s=t) {i:Nat} (hi:i < t.length) (h:(48:Int)<=((bC t i).toNat:Int)) (h':((bC t i).toNat:Int)<=57) {x1 x2:Int} (q1:x1=10 * (fA (List.take i (cj s)):Int))
  (q2:x2=IntKind.wrap IntKind.u8 (((bC t i).toNat:Int) - 48)):x1 + x2=(fA (List.take (i + 1) (cj s)):Int)/\0<=x2/\x2<=9:=by
 have hw:IntKind.wrap IntKind.u8 (((bC t i).toNat:Int) - 48)=((bC t i).toNat:Int) - 48:=by simp [IntKind.wrap,IntKind.signed,IntKind.bits];omega
 rw [hw] at q2
 rw [hm] at q1 ⊢
 rw [E9 hi]
 omega
theorem zM {s t:aC} (hm:cj s=t) (h1:¬ t.length < 1) (h18:t.length<=18) (h0:((bC t 0).toNat:Int)=48->¬ 1 < s.length) {i:Nat} (hi:¬ i < t.length) (hd:∀j,j < i->eN (bC (cj s) j)=true) :
  gK s=some (if t.length < s.length then -(fA (List.take i (cj s)):Int) else (fA (List.take i (cj s)):Int)):=by
 subst hm
 rw [Ia h1 (by omega) (fun h=>h0 (by rw [h.1];rfl) h.2),if_pos (Jg fun j hj=>hd j (by omega)),List.take_of_length_le (by omega)]
theorem GM {s t:aC} (hm:cj s=t) (h1:¬ t.length < 1) (h18:t.length<=18) (h0:((bC t 0).toNat:Int)=48->¬ 1 < s.length) {i:Nat} (hi:¬ i < t.length) (hd:∀j,j < i->eN (bC (cj s) j)=true) (hl:t.length < s.length) :
  ((0:Int) - (fA (List.take i (cj s)):Int),true)=ka s:=by
 have:=zM hm h1 h18 h0 hi hd
 rw [if_pos hl] at this
 rw [<-wP this,Int.zero_sub]
theorem GN {s t:aC} (hm:cj s=t) (h1:¬ t.length < 1) (h18:t.length<=18) (h0:((bC t 0).toNat:Int)=48->¬ 1 < s.length) {i:Nat} (hi:¬ i < t.length) (hd:∀j,j < i->eN (bC (cj s) j)=true) (hl:¬ t.length < s.length) :
  ((fA (List.take i (cj s)):Int),true)=ka s:=by
 have:=zM hm h1 h18 h0 hi hd
 rw [if_neg hl] at this
 rw [<-wP this]
theorem uH {s:aC} {i:Nat} (h:i < s.length):List.drop i (List.take (Int.toNat ((i:Int) + 1)) s) = [bC s i]:=by
 rw [show Int.toNat ((i:Int) + 1)=i + 1 by omega,lj h,List.drop_append_of_le_length (by simp;omega),List.drop_eq_nil_of_le (by simp;omega)];rfl
theorem Cd {c d:UInt8} {n:Nat} (h:(c.toNat:Int)=n) (hd:d.toNat=n):c=d:=UInt8.toNat_inj.1 (by omega)
theorem Ce {c d:UInt8} {n:Nat} (h:¬ (c.toNat:Int)=n) (hd:d.toNat=n):¬ c=d:=fun e=>h (by rw [e];omega)
end Go.Mrl

namespace Go.Mrl
open Go.Vg
noncomputable def iT (s:aC):D aA × cg:=((bJ s).1,aX (bJ s).2)
theorem Dz {s:aC} (h:s.length > 1200):(bL aA,cg.no 2)=iT s:=by unfold iT;rw [qM h];rfl
theorem gg.run {L:List aC} {i:Nat} {o:D aA} {b:Bool} (h:gg L i o b) (hi:¬ i < L.length):(run j0 (bL aA) L=some o/\b=false)\/(run j0 (bL aA) L=none/\b=true):=by
 have:=h.st
 rwa [List.take_of_length_le (by omega)] at this
theorem qP {s:aC} {i:Nat} {o:D aA} {b:Bool} (h:gg (parts 10 (Lib.trimSuffix s [10])) i o b) (hi:¬ i < (parts 10 (Lib.trimSuffix s [10])).length) (hl:¬ s.length > 1200)
  (hb:b=true\/(ft o).2.isNil=false\/¬ (ft o).1=s):(bL aA,cg.no 4)=iT s:=by
 have:bJ s=(bL aA,4):=by
  rcases h.run hi with ⟨hr,h0⟩ | ⟨hr,h0⟩
  ·rcases hb with hb | hb | hb
   ·rw [hb] at h0;cases h0
   ·refine uC hl hr fun hf ht => ?_
    rw [o7 hf rfl (by show (cE o).length<=1200;rw [ht];omega)] at hb
    cases hb
   ·refine uC hl hr fun hf ht=>hb ?_
    rw [o7 hf rfl (by show (cE o).length<=1200;rw [ht];omega)]
    exact ht
  ·exact Dn hl hr
 unfold iT;rw [this];rfl
theorem GO {s:aC} {o:D aA} (hl:¬ s.length > 1200)
  (hn:(ft o).2.isNil=true) (ht:(ft o).1=s):(o,cg.nil)=iT s:=by
 have hf:bA o=0:=by
  apply Classical.byContradiction;intro hf
  rw [wG hf] at hn
  exact hf (bN.1 hn)
 have hs:cE o=s:=by
  by_cases h:(cE o).length > 1200
  ·rw [ux hf rfl h] at hn;cases hn
  ·rw [o7 hf rfl (by show (cE o).length<=1200;omega)] at ht;exact ht
 unfold iT;rw [n8 hl hf hs];rfl
theorem Ib (s p:aC):(Lib.trimSuffix s p).length<=s.length:=by unfold Lib.trimSuffix;split <;> simp
theorem Fb (s:aC) (h:s.length<=1200):(parts 10 (Lib.trimSuffix s [10])).length<=1201:=by
 have h1:=mU 10 (Lib.trimSuffix s [10])
 have h2:(Lib.trimSuffix s [10]).length<=s.length:=by unfold Lib.trimSuffix;split <;> simp
 omega
theorem DA {s:aC} (h:s.length<=1200) (i:Nat):(nth .str (parts 10 (Lib.trimSuffix s [10])) i).length<=1200:=by
 by_cases hi:i < (parts 10 (Lib.trimSuffix s [10])).length
 ·have:=jr _ _ _ (jx (t:=.str) hi)
  have h2:(Lib.trimSuffix s [10]).length<=s.length:=by unfold Lib.trimSuffix;split <;> simp
  omega
 ·unfold nth;rw [List.getD_eq_getElem?_getD,List.getElem?_eq_none (by omega)];exact Nat.zero_le _
end Go.Mrl

namespace Go.Mrl
open Go.Vg
abbrev Rd:=aC->aC × Int × Int
structure kB (rd:Rd):Prop where
 code:∀s,(rd s).2.2=0\/(rd s).2.2=5
 HG:∃K:List aC,K.length<=6/\∀s,(rd s).2.2=0->s∈K
def cC (ns l:List aC):List aC:=l.foldl (fun ns s=>if ns.any (· == s)=true then ns else ns++[s]) ns
noncomputable def fv (rd:Rd) (s:aC):D aA:=(bJ (rd s).1).1
noncomputable def cM (rd:Rd) (s:aC):Int:=if (rd s).2.2=0 then (bJ (rd s).1).2 else (rd s).2.2
noncomputable def iU (rd:Rd):Nat->Nat->List aC->List (D aA)->List aC × List (D aA) × Int
 | 0,_,ns,os=>(ns,os,0)
 | k + 1,i,ns,os=>
  if i < ns.length then
   if cM rd (nth .str ns i)=0 then iU rd k (i + 1) (cC ns (fv rd (nth .str ns i)).1) (os++[fv rd (nth .str ns i)])
   else ([],[],cM rd (nth .str ns i))
  else (ns,os,0)
noncomputable def ck (rd:Rd) (root:aC):List aC × List (D aA) × Int:=iU rd 7 0 [root] []
theorem uI (s:aC):((bJ s).2=0/\bA (bJ s).1=0/\cE (bJ s).1=s)\/bJ s=(bL aA,2)\/bJ s=(bL aA,4):=by
 by_cases h:s.length > 1200
 ·exact .inr (.inl (qM h))
 ·by_cases h2:∃o:D aA,bA o=0/\cE o=s
  ·obtain ⟨o,h3,h4⟩:=h2
   rw [n8 h h3 h4];exact .inl ⟨rfl,h3,h4⟩
  ·exact .inr (.inr (kA h fun o h3 h4=>h2 ⟨o,h3,h4⟩))
theorem r9 (s:aC):0<=(bJ s).2:=by
 rcases uI s with ⟨h,_⟩ | h | h <;> rw [h] <;> decide
theorem DB {s:aC} (h:(bJ s).2=0):bA (bJ s).1=0:=by
 rcases uI s with ⟨_,h,_⟩ | h' | h'
 ·exact h
 ·rw [h'] at h;cases h
 ·rw [h'] at h;cases h
theorem vp {rd:Rd} (h:kB rd) (s:aC):0<=cM rd s:=by
 unfold cM
 split
 ·exact r9 _
 ·rcases h.code s with e | e <;> rw [e] <;> decide
theorem qQ {rd:Rd} (h:kB rd) {s:aC} (e:cM rd s=0):(rd s).2.2=0/\(bJ (rd s).1).2=0:=by
 unfold cM at e
 rcases h.code s with c | c
 ·rw [if_pos c] at e;exact ⟨c,e⟩
 ·rw [if_neg (by rw [c];decide),c] at e;cases e
theorem qR {rd:Rd} {s:aC} (e:¬ (rd s).2.2=0):cM rd s=(rd s).2.2:=by unfold cM;rw [if_neg e]
theorem nx {rd:Rd} {s:aC} (e:(rd s).2.2=0):cM rd s=(bJ (rd s).1).2:=by unfold cM;rw [if_pos e]
theorem GP (ns:List aC):cC ns []=ns:=rfl
theorem qS (ns l:List aC) (s:aC):cC ns (s :: l)=cC (if ns.any (· == s)=true then ns else ns++[s]) l:=rfl
theorem Fc (ns l:List aC) (s:aC):cC ns (l++[s])=if (cC ns l).any (· == s)=true then cC ns l else cC ns l++[s]:=by
 unfold cC;rw [List.foldl_append];rfl
theorem Cf {ns:List aC} {s:aC}:ns.any (· == s)=true ↔ s∈ns:=by
 rw [List.any_eq_true]
 constructor
 ·rintro ⟨x,hx,e⟩;rw [<-(by simpa using e:x=s)];exact hx
 ·intro h;exact ⟨s,h,by simp⟩
theorem kC:∀(l ns:List aC),∃r,cC ns l=ns++r/\r.length<=l.length/\∀s∈r,s∈l
 | [],ns=>⟨[],by simp [GP],by simp,by simp⟩
 | x :: l,ns=>by
  rw [qS]
  split
  ·obtain ⟨r,h1,h2,h3⟩:=kC l ns
   exact ⟨r,h1,by simp;omega,fun s hs=>by simp [h3 s hs]⟩
  ·obtain ⟨r,h1,h2,h3⟩:=kC l (ns++[x])
   refine ⟨x :: r,by rw [h1];simp,by simp;omega,fun s hs => ?_⟩
   rcases List.mem_cons.1 hs with rfl | hs
   ·simp
   ·simp [h3 s hs]
theorem ph:∀(l ns:List aC),ns.Nodup->(cC ns l).Nodup
 | [],ns,h=>h
 | x :: l,ns,h=>by
  rw [qS]
  split
  ·exact ph l ns h
  ·rename_i hx
   refine ph l _ ?_
   rw [List.nodup_append]
   refine ⟨h,by simp,fun a ha b hb e=>hx (Cf.2 ?_)⟩
   simp at hb;subst hb;exact e▸ha
theorem zN:∀(l ns:List aC),∀s∈l,s∈cC ns l
 | [],_,s,h=>by simp at h
 | x :: l,ns,s,h=>by
  rw [qS]
  rcases List.mem_cons.1 h with rfl | h
  ·split
   ·rename_i hx
    obtain ⟨r,h1,_⟩:=kC l ns
    rw [h1];exact List.mem_append_left _ (Cf.1 hx)
   ·obtain ⟨r,h1,_⟩:=kC l (ns++[s])
    rw [h1];simp
  ·exact zN l _ s h
theorem wQ {ns l:List aC} {i:Nat} (h:i < l.length):cC ns (l.take (i + 1))=if (cC ns (l.take i)).any (· == nth .str l i)=true then cC ns (l.take i) else cC ns (l.take i)++[nth .str l i]:=by
 rw [fS (t:=.str) h,Fc]
theorem wR {t:Ty} {a b:List (D t)} {i:Nat} (h:i < a.length):nth t (a++b) i=nth t a i:=by rw [oV,if_pos h]
structure e8 (rd:Rd) (root:aC) (i:Nat) (ns:List aC) (os:List (D aA)):Prop where
 eq:iU rd (7 - i) i ns os=ck rd root
 le:i<=6
 lo:i<=ns.length
 pos:0 < ns.length
 len:os.length=i
 hi:ns.length<=1 + 4 * i
 head:nth .str ns 0=root
 nd:ns.Nodup
 HH:∀j,j < i->cM rd (nth .str ns j)=0/\nth aA os j=fv rd (nth .str ns j)
 want:∀j,j < ns.length->j≠0->∃k,k < i/\k < j/\nth .str ns j∈(nth aA os k).1
 mj:∀j,j < i->∀s∈(nth aA os j).1,s∈ns
theorem e8.zero (rd:Rd) (root:aC):e8 rd root 0 [root] []:=
 ⟨rfl,by omega,by simp,by simp,rfl,by simp,rfl,by simp,fun j h=>by omega,fun j h h'=>by simp at h;omega,fun j h=>by omega⟩
theorem e8.room {rd:Rd} {root:aC} {i:Nat} {ns:List aC} {os:List (D aA)} (ok:kB rd) (h:e8 rd root i ns os) (hi:i < ns.length) (hf:cM rd (nth .str ns i)=0):i + 1<=6:=by
 obtain ⟨K,hK,hm⟩:=ok.HG
 have hsub:∀y∈ns.take (i + 1),y∈K:=by
  intro y hy
  obtain ⟨j,hj,rfl⟩:=B3 (t:=.str) hy
  rw [List.length_take] at hj
  rw [yR (t:=.str) (by omega)]
  refine hm _ (qQ ok ?_).1
  rcases Nat.lt_or_ge j i with hl | hl
  ·exact (h.HH j hl).1
  ·rw [show j=i by omega];exact hf
 have:=qy (h.nd.sublist (List.take_sublist (i + 1) ns)) hsub
 rw [List.length_take] at this
 omega
theorem e8.fuel {rd:Rd} {root:aC} {i:Nat} {ns:List aC} {os:List (D aA)} (h:e8 rd root i ns os):iU rd (6 - i + 1) i ns os=ck rd root:=by
 rw [<-h.eq];congr 1;have:=h.le;omega
theorem e8.bad {rd:Rd} {root:aC} {i:Nat} {ns:List aC} {os:List (D aA)} (h:e8 rd root i ns os) (hi:i < ns.length) (hf:¬ cM rd (nth .str ns i)=0) :
  ck rd root=([],[],cM rd (nth .str ns i)):=by
 rw [<-h.fuel,iU,if_pos hi,if_neg hf]
theorem e8.done {rd:Rd} {root:aC} {i:Nat} {ns:List aC} {os:List (D aA)} (h:e8 rd root i ns os) (hi:¬ i < ns.length):ck rd root=(ns,os,0):=by
 rw [<-h.fuel,iU,if_neg hi]
theorem zO {rd:Rd} (ok:kB rd) {s:aC} (hf:cM rd s=0):fL (fv rd s):=dC (DB (qQ ok hf).2)
theorem e8.next {rd:Rd} {root:aC} {i:Nat} {ns:List aC} {os:List (D aA)} (ok:kB rd) (h:e8 rd root i ns os) (hi:i < ns.length) (hf:cM rd (nth .str ns i)=0) :
  e8 rd root (i + 1) (cC ns (fv rd (nth .str ns i)).1) (os++[fv rd (nth .str ns i)]):=by
 have hr:=h.room ok hi hf
 have ho:=zO ok hf
 obtain ⟨r,h1,h2,h3⟩:=kC (fv rd (nth .str ns i)).1 ns
 have hn4:=ho.n4
 have hlen:=h.len
 have hhi:=h.hi
 have hpos:=h.pos
 have hos:nth aA (os++[fv rd (nth .str ns i)]) i=fv rd (nth .str ns i):=by rw [oV,if_neg (by omega),h.len,Nat.sub_self];rfl
 have hns:∀j,j < ns.length->nth .str (cC ns (fv rd (nth .str ns i)).1) j=nth .str ns j:=fun j hj=>by rw [h1,wR (t:=.str) hj]
 have hoj:∀j,j < i->nth aA (os++[fv rd (nth .str ns i)]) j=nth aA os j:=fun j hj=>wR (t:=aA) (by omega)
 refine ⟨?_,hr,by rw [h1,List.length_append];omega,by rw [h1,List.length_append];omega,by rw [List.length_append,h.len];rfl,by rw [h1,List.length_append];omega,
  by rw [hns 0 hpos];exact h.head,ph _ _ h.nd,fun j hj => ?_,fun j hj h0 => ?_,fun j hj s hs => ?_⟩
 ·rw [<-h.fuel,iU,if_pos hi,if_pos hf];congr 1;omega
 ·rcases Nat.lt_or_ge j i with hl | hl
  ·rw [hns j (by omega),hoj j hl];exact h.HH j hl
  ·rw [show j=i by omega,hns i hi,hos];exact ⟨hf,rfl⟩
 ·rcases Nat.lt_or_ge j ns.length with hl | hl
  ·obtain ⟨k,k1,k2,k3⟩:=h.want j hl h0
   exact ⟨k,by omega,k2,by rw [hns j hl,hoj k k1];exact k3⟩
  ·refine ⟨i,by omega,by omega,?_⟩
   rw [hos,h1,oV,if_neg (by omega)]
   refine h3 _ (jx (t:=.str) ?_)
   rw [h1,List.length_append] at hj;omega
 ·rcases Nat.lt_or_ge j i with hl | hl
  ·rw [hoj j hl] at hs
   rw [h1];exact List.mem_append_left _ (h.mj j hl s hs)
  ·rw [show j=i by omega,hos] at hs
   exact zN _ _ s hs
structure Scope (rd:Rd) (root:aC) (ns:List aC) (os:List (D aA)):Prop where
 le:ns.length<=6
 pos:0 < ns.length
 len:os.length=ns.length
 head:nth .str ns 0=root
 nd:ns.Nodup
 HH:∀j,j < ns.length->cM rd (nth .str ns j)=0/\nth aA os j=fv rd (nth .str ns j)
 want:∀j,j < ns.length->j≠0->∃k,k < j/\nth .str ns j∈(nth aA os k).1
 mj:∀j,j < ns.length->∀s∈(nth aA os j).1,s∈ns
theorem uJ {rd:Rd} {root:aC} (ok:kB rd):∀(m i:Nat) (ns:List aC) (os:List (D aA)),m=7 - i->e8 rd root i ns os->
  (∃f,0 < f/\ck rd root=([],[],f))\/(∃ns os,ck rd root=(ns,os,0)/\Scope rd root ns os)
 | 0,i,ns,os,hm,h=>by have:=h.le;omega
 | m + 1,i,ns,os,hm,h=>by
  by_cases hi:i < ns.length
  ·by_cases hf:cM rd (nth .str ns i)=0
   ·exact uJ ok m (i + 1) _ _ (by omega) (h.next ok hi hf)
   ·have:=vp ok (nth .str ns i)
    exact .inl ⟨_,by omega,h.bad hi hf⟩
  ·have h1:=h.lo
   have h2:=h.le
   have e:i=ns.length:=by omega
   subst e
   exact .inr ⟨ns,os,h.done hi,h2,h.pos,h.len,h.head,h.nd,h.HH,fun j hj h0=>let ⟨k,_,k2,k3⟩:=h.want j hj h0;⟨k,k2,k3⟩,h.mj⟩
theorem Ba {rd:Rd} (ok:kB rd) (root:aC):(∃f,0 < f/\ck rd root=([],[],f))\/(∃ns os,ck rd root=(ns,os,0)/\Scope rd root ns os):=
 uJ ok 7 0 _ _ rfl (e8.zero rd root)
theorem aW.rd {x:eH} {r:RS} (h:aW x r):bF x=bX r.1:=funext h.read
theorem mY {x:eH} (h:x.2.1.1.length<=6):kB (bF x):=by
 refine ⟨fun s => ?_,x.2.1.1.map fz,by rw [List.length_map];exact h,fun s hs => ?_⟩
 ·unfold bF;split
  ·exact .inl rfl
  ·exact .inr rfl
 ·by_cases c:cY cq x.2.1.1 s=true
  ·obtain ⟨y,hy,e⟩:=kv.1 c
   rw [<-e];exact List.mem_map_of_mem hy
  ·rw [mP (by simpa using c)] at hs;cases hs
theorem gy {r:RS} (h:r.1.length<=6):kB (bX r.1):=by
 refine ⟨Df r.1,r.1.map dK,by rw [List.length_map];exact h,fun s hs => ?_⟩
 by_cases c:∃y∈r.1,y.1=s
 ·obtain ⟨y,hy,e⟩:=c
  rw [<-e];exact List.mem_map_of_mem hy
 ·rw [oY fun y hy e=>c ⟨y,hy,e⟩] at hs;cases hs
end Go.Mrl

namespace Go.Mrl
open Go.Vg
section
variable {rd:Rd} {root:aC} {i:Nat} {ns:List aC} {os:List (D aA)}
theorem e8.zP (ok:kB rd) (h:e8 rd root i ns os) (hi:i < ns.length) (he:¬ (rd (nth .str ns i)).2.2=0) :
  ck rd root=([],[],(rd (nth .str ns i)).2.2):=by
 rw [h.bad hi (by rw [qR he];exact he),qR he]
theorem e8.Cg (h:e8 rd root i ns os) (hi:i < ns.length) (he:(rd (nth .str ns i)).2.2=0) (ho:¬ (bJ (rd (nth .str ns i)).1).2=0) :
  ck rd root=([],[],(bJ (rd (nth .str ns i)).1).2):=by
 rw [h.bad hi (by rw [nx he];exact ho),nx he]
theorem lP {s:aC} (he:(rd s).2.2=0) (ho:(bJ (rd s).1).2=0):cM rd s=0:=by rw [nx he];exact ho
theorem e8.Jh (h:e8 rd root i ns os):os.length + 1<=1000000000:=by have:=h.len;have:=h.le;omega
theorem e8.Fe (h:e8 rd root i ns os) (ok:kB rd) {s:aC} (hf:cM rd s=0) (k:Nat):(cC ns (List.take k (fv rd s).1)).length + 1<=1000000000:=by
 obtain ⟨r,h1,h2,_⟩:=kC (List.take k (fv rd s).1) ns
 have:=(zO ok hf).n4
 have:=h.hi
 have:=h.le
 rw [h1,List.length_append]
 rw [List.length_take] at h2
 omega
theorem ru {l:List aC} {k:Nat} (h:k < l.length) (hn:(cC ns (l.take k)).any (fun x=>x == nth .str l k)=false):cC ns (l.take k)++[nth .str l k]=cC ns (l.take (k + 1)):=by
 rw [wQ h,if_neg (by rw [hn];exact Bool.false_ne_true)]
theorem rv {l:List aC} {k:Nat} (h:k < l.length) (hn:(cC ns (l.take k)).any (fun x=>x == nth .str l k)=true):cC ns (l.take k)=cC ns (l.take (k + 1)):=by
 rw [wQ h,if_pos hn]
theorem ry {l:List aC} {k:Nat} (h:¬ k < l.length):cC ns (l.take k)=cC ns l:=by rw [List.take_of_length_le (by omega)]
theorem mZ (ok:kB rd) {s:aC} (h:(rd s).2.2<=0):(rd s).2.2=0:=by
 rcases ok.code s with e | e <;> omega
theorem vq {s:aC} (h:(bJ s).2<=0):(bJ s).2=0:=by have:=r9 s;omega
theorem GQ {l:List aC} {j:Nat} {y:aC} (h:(l.take j).any (fun x=>x == y)=true):true=(l.take (j + 1)).any (fun x=>x == y):=by
 obtain ⟨x,hx,e⟩:=List.any_eq_true.1 h
 exact (List.any_eq_true.2 ⟨x,(List.take_sublist_take_left (Nat.le_succ j)).subset hx,e⟩).symm
theorem GR {l:List aC} {j:Nat} {y:aC} (hj:j < l.length) (h:(l.take j).any (fun x=>x == y)=false):(nth .str l j == y)=(l.take (j + 1)).any (fun x=>x == y):=by
 rw [fS (t:=.str) hj,List.any_append,h];simp
theorem rA {l:List aC} {j:Nat} {y:aC} {b:Bool} (hj:¬ j < l.length) (h:(l.take j).any (fun x=>x == y)=b):l.any (fun x=>x == y)=b:=by
 rwa [List.take_of_length_le (by omega)] at h
end
end Go.Mrl

namespace Go.Mrl
open Go.Vg
structure fT (L:List aC) (i:Nat) (o:D aA):Prop where
 le:i<=L.length
 st:run fu (bL aA) (L.take i)=some o
 l1:o.1.length<=i
 l2:o.2.1.length<=i
 l3:o.2.2.1.length<=i
 l4:o.2.2.2.1.length<=i
theorem fT.zero (L:List aC):fT L 0 (bL aA):=⟨Nat.zero_le _,rfl,Nat.le_refl _,Nat.le_refl _,Nat.le_refl _,Nat.le_refl _⟩
structure js (o p:D aA):Prop where
 l1:p.1.length<=o.1.length + 1
 l2:p.2.1.length<=o.2.1.length + 1
 l3:p.2.2.1.length<=o.2.2.1.length + 1
 l4:p.2.2.2.1.length<=o.2.2.2.1.length + 1
theorem rB {α:Type} (l:List α) (x:α):(l++[x]).length<=l.length + 1:=by simp
theorem js.mj (o:D aA) (s:aC):js o (gb o s):=⟨rB _ _,Nat.le_succ _,Nat.le_succ _,Nat.le_succ _⟩
theorem js.word (o:D aA) (n:Int):js o (gf o n):=⟨Nat.le_succ _,rB _ _,Nat.le_succ _,Nat.le_succ _⟩
theorem js.sym (o:D aA) (y:D aD):js o (jZ o y):=⟨Nat.le_succ _,Nat.le_succ _,rB _ _,Nat.le_succ _⟩
theorem js.tie (o:D aA) (t:D aL):js o (eZ o t):=⟨Nat.le_succ _,Nat.le_succ _,Nat.le_succ _,rB _ _⟩
theorem fT.next {L:List aC} {i:Nat} {o p:D aA} (h:fT L i o) (hi:i < L.length) (hl:fu o (nth .str L i)=some p) (hm:js o p):fT L (i + 1) p:=by
 have a1:=h.l1;have a2:=h.l2;have a3:=h.l3;have a4:=h.l4
 have b1:=hm.l1;have b2:=hm.l2;have b3:=hm.l3;have b4:=hm.l4
 refine ⟨hi,?_,by omega,by omega,by omega,by omega⟩
 rw [fS (t:=.str) hi,sX,h.st,Option.bind_some];exact hl
theorem fT.fail {L:List aC} {i:Nat} {o:D aA} (h:fT L i o) (hi:i < L.length) (hl:fu o (nth .str L i)=none):run fu (bL aA) L=none:=by
 have:=n7 (m:=L.drop i) h.st
 rw [List.take_append_drop,eC (t:=.str) hi] at this
 rw [this];simp only [run];rw [hl]
theorem fT.done {L:List aC} {i:Nat} {o:D aA} (h:fT L i o) (hi:¬ i < L.length):run fu (bL aA) L=some o:=by
 have:=h.st
 rwa [List.take_of_length_le (by omega)] at this
theorem Ff {w:List aC} (h:w.length=2):w = [nth .str w 0,nth .str w 1]:=by
 match w,h with
 | [a,b],_=>rfl
theorem zQ {w:List aC} (h:w.length=3):w = [nth .str w 0,nth .str w 1,nth .str w 2]:=by
 match w,h with
 | [a,b,c],_=>rfl
theorem Ch {w:List aC} (h:w.length=4):w = [nth .str w 0,nth .str w 1,nth .str w 2,nth .str w 3]:=by
 match w,h with
 | [a,b,c,d],_=>rfl
def cy (w:List aC) (k:Nat):List Int:=(List.range (k - 1)).map fun i=>gL (nth .str w (i + 1))
theorem qT (w:List aC) (k:Nat):(cy w k).length=k - 1:=by simp [cy]
theorem uK {w:List aC} {k:Nat} (h:1<=k):cy w (k + 1)=cy w k++[gL (nth .str w k)]:=by
 obtain ⟨m,rfl⟩:∃m,k=m + 1:=⟨k - 1,by omega⟩
 simp [cy,List.range_succ]
theorem gj {w:List aC} {k i:Nat} (h:i + 1 < k):(nth (.int .i64) (cy w k) i:Int)=gL (nth .str w (i + 1)):=by
 apply dN;simp [cy,show i < k - 1 by omega]
theorem Ic {s:aC} (h:lr s=true):nw s=gL s:=by
 unfold lr ka at h;unfold nw ka gL
 cases hn:gK s with
 | none=>rw [hn] at h;cases h
 | some n=>rfl
theorem GS {s:aC} (h:lr s=false):(-1099511627776:Int)=gL s:=by
 unfold lr ka at h;unfold gL
 cases hn:gK s with
 | none=>rfl
 | some n=>rw [hn] at h;cases h
theorem zR {w:List aC} {k:Nat} (h:1<=k) (hn:lr (nth .str w k)=true):cy w k++[nw (nth .str w k)]=cy w (k + 1):=by rw [uK h,Ic hn]
theorem wS {w:List aC} {k:Nat} (h:1<=k) (hn:lr (nth .str w k)=false):cy w k++[(-1099511627776:Int)]=cy w (k + 1):=by rw [uK h,<-GS hn]
section
variable {o:D aA} {b:Bool} {w:List aC} {k:Nat}
theorem Bb (h:w.length=2/\nth .str w 0=dn):dS o b w=some (gb o (nth .str w 1)):=by
 rw [Ff h.1];show (if nth .str w 0=dn then _ else _)=_;rw [if_pos h.2];rfl
theorem Bc (h0:¬ (w.length=2/\nth .str w 0=dn)) (h:w.length=2/\nth .str w 0=c8) (hk:1 < k):dS o b w=some (gf o (nth (.int .i64) (cy w k) 0)):=by
 rw [gj (by omega),Ff h.1]
 show (if nth .str w 0=dn then _ else if nth .str w 0=c8 then _ else _)=_
 rw [if_neg fun e=>h0 ⟨h.1,e⟩,if_pos h.2];rfl
theorem DC (h:w.length=3/\nth .str w 0=cI) (hk:2 < k):dS o b w=some (jZ o (nth .str w 1,nth (.int .i64) (cy w k) 1,b,())):=by
 rw [gj (by omega),zQ h.1]
 show (if nth .str w 0=cI then _ else _)=_
 rw [if_pos h.2];rfl
theorem Bd (h0:¬ (w.length=3/\nth .str w 0=cI)) (h:w.length=3/\nth .str w 0=ey) (hk:2 < k):dS o b w=some (eZ o (nth (.int .i64) (cy w k) 0,1,nth (.int .i64) (cy w k) 1,[],b,())):=by
 rw [gj (by omega),gj (by omega),zQ h.1]
 show (if nth .str w 0=cI then _ else if nth .str w 0=ey then _ else _)=_
 rw [if_neg fun e=>h0 ⟨h.1,e⟩,if_pos h.2];rfl
theorem zS (h:w.length=4/\nth .str w 0=dw) (hk:2 < k):dS o b w=some (eZ o (nth (.int .i64) (cy w k) 0,2,nth (.int .i64) (cy w k) 1,nth .str w 3,b,())):=by
 rw [gj (by omega),gj (by omega),Ch h.1]
 show (if nth .str w 0=dw then _ else _)=_
 rw [if_pos h.2];rfl
theorem Be (h0:¬ (w.length=4/\nth .str w 0=dw)) (h:w.length=4/\nth .str w 0=dW) (hk:2 < k):dS o b w=some (eZ o (nth (.int .i64) (cy w k) 0,3,nth (.int .i64) (cy w k) 1,nth .str w 3,b,())):=by
 rw [gj (by omega),gj (by omega),Ch h.1]
 show (if nth .str w 0=dw then _ else if nth .str w 0=dW then _ else _)=_
 rw [if_neg fun e=>h0 ⟨h.1,e⟩,if_pos h.2];rfl
theorem Bf (h0:¬ (w.length=2/\nth .str w 0=dn)) (h1:¬ (w.length=2/\nth .str w 0=c8)) (h2:¬ (w.length=3/\nth .str w 0=cI)) (h3:¬ (w.length=3/\nth .str w 0=ey))
  (h4:¬ (w.length=4/\nth .str w 0=dw)) (h5:¬ (w.length=4/\nth .str w 0=dW)):dS o b w=none:=by
 match w with
 | []=>rfl
 | [_]=>rfl
 | [a,x]=>show (if a=dn then _ else if a=c8 then _ else _)=_;rw [if_neg (show ¬ a=dn from fun e=>h0 ⟨rfl,e⟩),if_neg (show ¬ a=c8 from fun e=>h1 ⟨rfl,e⟩)]
 | [a,x,y]=>show (if a=cI then _ else if a=ey then _ else _)=_;rw [if_neg (show ¬ a=cI from fun e=>h2 ⟨rfl,e⟩),if_neg (show ¬ a=ey from fun e=>h3 ⟨rfl,e⟩)]
 | [a,x,y,z]=>show (if a=dw then _ else if a=dW then _ else _)=_;rw [if_neg (show ¬ a=dw from fun e=>h4 ⟨rfl,e⟩),if_neg (show ¬ a=dW from fun e=>h5 ⟨rfl,e⟩)]
 | _ :: _ :: _ :: _ :: _ :: _=>rfl
end
theorem Ci {s:aC} {x:List aC} (hx:x=parts 32 s):rp x=(nth .str x 0 == ir):=by
 have:=mf 32 s
 rw [<-hx] at this
 unfold rp
 match x,this with
 | a :: r,_=>rw [Bool.eq_iff_iff];simp [nth]
theorem Fg {o:D aA} {s:aC} {x w:List aC} (hx:x=parts 32 s) (h:nth .str x 0=ir) (hw:w=x.drop 1):fu o s=dS o (nth .str x 0 == ir) w:=by
 unfold fu uz;rw [<-hx,Ci hx,h,hw];rfl
theorem GU {o:D aA} {s:aC} {x:List aC} (hx:x=parts 32 s) (h:¬ nth .str x 0=ir):fu o s=dS o (nth .str x 0 == ir) x:=by
 have:(nth .str x 0 == ir)=false:=by simpa using h
 unfold fu uz;rw [<-hx,Ci hx,this];rfl
theorem jT {w:List aC} {n:Nat} {m:Int} {a:aC} (h:(w.length:Int)=m) (hm:m=(n:Int)):(nth .str w 0 == a)=true ↔ (w.length=n/\nth .str w 0=a):=by
 simp;omega
theorem jF {w:List aC} {n:Nat} {m:Int} {P:Prop} (h:¬ (w.length:Int)=m) (hm:m=(n:Int)):false=true ↔ (w.length=n/\P):=by
 constructor
 ·intro h;cases h
 ·rintro ⟨h1,_⟩;omega
theorem eT {k n:Nat} (h:(k:Int) < (n:Int)):(decide ((k:Int) < 3))=true ↔ ((k:Int) < (n:Int)/\(k:Int) < 3):=by
 rw [decide_eq_true_eq];omega
theorem eF {k n:Nat} (h:(n:Int)<=(k:Int)):false=true ↔ ((k:Int) < (n:Int)/\(k:Int) < 3):=by
 constructor
 ·intro h;cases h
 ·intro h;omega
theorem pj {k n:Nat} (h:1<=k/\k<=3/\(k=1\/k<=n)) (h':¬ ((k:Int) < (n:Int)/\(k:Int) < 3)):(n=2->k=2)/\(3<=n->k=3):=by omega
theorem Ji {c:UInt8} {s:aC} {w:List aC} (h:w=parts c s):0 < w.length:=by rw [h];exact List.length_pos_iff.2 (mf c s)
theorem DD {s:aC} {i:Nat} {o:D aA} (hl:¬ s.length > 1200) (h:fT (gx s) i o) (hi:i < (gx s).length) (hn:fu o (nth .str (gx s) i)=none):((bL aA,4):D aA × Int)=bJ s:=
 (Dq hl (h.fail hi hn)).symm
theorem qU {s:aC} {i:Nat} {o:D aA} (hl:¬ s.length > 1200) (h:fT (gx s) i o) (hi:¬ i < (gx s).length)
  (hb:bA o > 0\/(fN o).2 > 0\/¬ (fN o).1=s):((bL aA,4):D aA × Int)=bJ s:=by
 refine (Dr hl (h.done hi) fun hf ht => ?_).symm
 rcases hb with hb | hb | hb
 ·omega
 ·rw [o8 rfl (by show (cE o).length<=1200;rw [ht];omega)] at hb;exact absurd hb (by simp)
 ·rw [o8 rfl (by show (cE o).length<=1200;rw [ht];omega)] at hb;exact hb ht
theorem DE {s:aC} {o:D aA} (hl:¬ s.length > 1200) (hf:bA o<=0) (hn:(fN o).2<=0) (ht:(fN o).1=s):((o,0):D aA × Int)=bJ s:=by
 have hf0:bA o=0:=by have:=pG o;omega
 have hs:cE o=s:=by
  by_cases h:(cE o).length > 1200
  ·rw [uy rfl h] at hn;exact absurd hn (by decide)
  ·rw [o8 rfl (by show (cE o).length<=1200;omega)] at ht;exact ht
 exact (n8 hl hf0 hs).symm
theorem Fh {s:aC} (h:s.length > 1200):((bL aA,2):D aA × Int)=bJ s:=(qM h).symm
theorem DF {s:aC} (h:¬ s.length > 1200) (hr:qN s=false):((bL aA,4):D aA × Int)=bJ s:=(E3 h hr).symm
theorem zT {s:aC} (h:s.length<=1200):(gx s).length<=1201:=by
 have:=mU 10 s
 unfold gx nv;simp;omega
theorem DG {s:aC} (h:s.length<=1200) (i:Nat):(nth .str (gx s) i).length<=1200:=by
 by_cases hi:i < (gx s).length
 ·have h1:=jx (t:=.str) hi
  have:=jr 10 s _ (List.dropLast_sublist _ |>.subset h1)
  omega
 ·unfold nth;rw [List.getD_eq_getElem?_getD,List.getElem?_eq_none (by omega)];exact Nat.zero_le _
end Go.Mrl

namespace Go.Mrl
open Go.Vg
end Go.Mrl
namespace Go.Mrl
open Go.Vg
end Go.Mrl

namespace Go.Mrl
open Go.Vg
end Go.Mrl

namespace Go.Mrl
open Go.Vg
end Go.Mrl

namespace Go.Mrl
open Go.Vg
def HI (e:D ez):Prop:=e.2.1.length < 1\/e.2.1.length > 6\/e.2.2.1.length > 36
instance (e:D ez):Decidable (HI e):=by unfold HI;infer_instance
end Go.Mrl

namespace Go.Mrl
open Go.Vg
open Classical in
noncomputable def fw (a b:D aA):Bool:=decide (a=b)
theorem uL (a:D aA):fw a a=true:=by unfold fw;simp
theorem DH {a b:D aA} (h1:cZ a.1 b.1=true) (h2:fX a.2.1 b.2.1=true) (l3:(a.2.2.1.length:Int)=b.2.2.1.length) (l4:(a.2.2.2.1.length:Int)=b.2.2.2.1.length)
  (h3:∀i,i < a.2.2.1.length->nth aD a.2.2.1 i=nth aD b.2.2.1 i) (h4:∀i,i < a.2.2.2.1.length->nth aL a.2.2.2.1 i=nth aL b.2.2.2.1 i):true=fw a b:=by
 obtain ⟨a1,a2,a3,a4,_⟩:=a
 obtain ⟨b1,b2,b3,b4,_⟩:=b
 have e1:a1=b1:=of_decide_eq_true h1
 have e2:a2=b2:=of_decide_eq_true h2
 have e3:a3=b3:=kO (t:=aD) (Int.ofNat_inj.1 l3) h3
 have e4:a4=b4:=kO (t:=aL) (Int.ofNat_inj.1 l4) h4
 rw [e1,e2,e3,e4];exact (uL _).symm
theorem kD {a b:D aA} (h:¬ a=b):false=fw a b:=by unfold fw;simp [h]
theorem Ie {a b:D aA} (h:cZ a.1 b.1=false):false=fw a b:=kD fun e=>of_decide_eq_false h (by rw [e])
theorem Ig {a b:D aA} (h:fX a.2.1 b.2.1=false):false=fw a b:=kD fun e=>of_decide_eq_false h (by rw [e])
theorem GV {a b:D aA} (h:¬ (a.2.2.1.length:Int)=b.2.2.1.length):false=fw a b:=kD fun e=>h (by rw [e])
theorem GW {a b:D aA} (h:¬ (a.2.2.2.1.length:Int)=b.2.2.2.1.length):false=fw a b:=kD fun e=>h (by rw [e])
theorem Ih {a b:D aA} {i:Nat} (h:¬ nth aD a.2.2.1 i=nth aD b.2.2.1 i):false=fw a b:=kD fun e=>h (by rw [e])
theorem Ii {a b:D aA} {i:Nat} (h:¬ nth aL a.2.2.2.1 i=nth aL b.2.2.2.1 i):false=fw a b:=kD fun e=>h (by rw [e])
end Go.Mrl

namespace Go.Vg
open Go
theorem Bg {H:Type} {enc:TypeId × Value->H} {a:Assume} {C:Checked} {os:Os} {f:FuncId} {fn:Func} {s:ChangeSpec} {conds:List PathCond} {apart fresh handsOn again:Bool} {X:World->Array Value->Prop}
  (hX:∀(w w':World) (args:Array Value),w.heap=w'.heap->X w args->X w' args)
  (own:ownKnob C.prog.godebug=none) (started:os.Started) (noInit:C.prog.inits.idxOf? f=none) (hfn:C.prog.funcs[f]?=some fn)
  (witness:∃(w:World) (tape:Tape) (i:Input),w.os=os/\(w.forCall tape i).Shaped C.prog/\i.vars = []/\Input.okWide C.prog (w.forCall tape i) .any w.heap.size f i/\
   ((s.pre enc C.prog fn conds apart (w.forCall tape i).memory i.args/\X (w.forCall tape i).memory i.args)/\sizedMet enc C.prog fn (OpenSpec.ofChange s) apart (w.forCall tape i).memory i.args)/\a.holds C.prog (lone (Frame.enter C.prog f i.args .normal) [] (w.forCall tape i)))
  (contract:∀(W:World) (base:Nat) (args:Array Value) (ds gs:List (DataW H)) (before:List MemPlace),
   (∀(j:Nat) t v,fn.params[j]?=some t->args[j]?=some v->Value.okWide C.prog W .any base t v)->
   DataW.Whole enc C.prog fn.params.toList s.vars apart W args.toList ds gs before->
   X W args->W.ShapedOpen C.prog->
   Calls C.prog f args W fun e W'=>∃v,e = .returned v/\s.post enc C.prog fn apart fresh handsOn again W args v W') :
  ReturnsInHanded a C os f .any (fun w args=>(s.pre enc C.prog fn conds apart w args/\X w args)/\sizedMet enc C.prog fn (OpenSpec.ofChange s) apart w args) (s.post enc C.prog fn apart fresh handsOn again):=by
 refine returnsInHanded_of_calls own started noInit witness ?_
 intro w tape i _ hsh _ hok hpre hholds
 obtain ⟨_,_,_,fn',hfn',_,_,_,_,hval⟩:=hok
 have e:fn'=fn:=Option.some.inj (hfn'.symm.trans hfn)
 subst e
 obtain ⟨⟨⟨ds,gs,before,hw,hc⟩,hx⟩,hz⟩:=hpre
 have hw':=DataW.Whole.of_heap (w':=w.forCall tape i) (by rfl) hw
 refine (contract (w.forCall tape i) w.heap.size i.args ds gs before hval hw' (hX _ _ _ (by rfl) hx) hsh).mono fun e W' ⟨v,he,hp⟩ => ?_
 subst he
 exact ChangeSpec.post_blind hp
theorem zU {P:Program} {w:World} {g:Nat} {t:TypeId} {zero:Array Value} (h:w.ShapedOpen P) (hg:g < P.globals.size)
  (h0:((begin P (fun _ _=>0) default).world.heap[g]?).bind Obj.row?=some (zero,t)) (hz:zero.size=1)
  (hb:P.buildable t=true) (hc:P.cellTypes P.depth t=some [t]) (hu:P.underlying t=some (.int .i64)):∃m,w.cell? ⟨g,0,none⟩=some (.int .i64 m):=by
 obtain ⟨cs,hh,hs,hr⟩:=h.1 g zero t hg h0
 obtain ⟨ts,hts,_,hall⟩:=hr hb
 rw [hc] at hts
 cases hts
 have h1:0 < cs.size:=by omega
 obtain ⟨u,hu',hok⟩:=hall 0 cs[0] (by simp [h1])
 have:u=t:=by simpa using hu'.symm
 subst this
 have hcell:w.cell? ⟨g,0,none⟩=some cs[0]:=by simp [World.cell?,hh,h1]
 rw [hcell]
 unfold Cell.ok at hok
 rw [hu] at hok
 cases hv:cs[0] <;> rw [hv] at hok <;> first | exact hok.elim | (obtain ⟨rfl,_⟩:=hok;exact ⟨_,rfl⟩) | simp at hok
def HJ:Option TypeDesc->Bool
 | some (.interface _)=>true
 | _=>false
theorem n9 {P:Program} {W:World} {name nm:String} {d:DataW Unit} {g:Nat} {t:TypeId}
  (hg:P.globalNamed name=some g) (hty:(P.globals[g]?).map (·.type)=some t) (hi:HJ (P.underlying t)=true)
  (h:Lib.VarReads P W name (.iface nm d)):∃ev,W.cell? ⟨g,0,none⟩=some ev/\(ev = .nilIface\/∃te pe,ev = .iface te pe):=by
 obtain ⟨g',t',cs,fuel,p,hg',ht',hvar,hd⟩:=h
 obtain rfl:=Option.some.inj (hg.symm.trans hg')
 obtain rfl:=Option.some.inj (hty.symm.trans ht')
 have hc:=World.var?_cell hg hvar 0
 obtain ⟨ms,hu⟩:∃ms,P.underlying t=some (.interface ms):=by
  unfold HJ at hi
  split at hi
  ·rename_i ms hm;exact ⟨ms,hm⟩
  ·cases hi
 cases fuel with
 | zero=>simp [DataW.trod] at hd
 | succ n=>
  cases hl:cs.toList with
  | nil=>rw [hl] at hd;simp [DataW.trod,hu] at hd
  | cons v r=>
   have h0:cs[0]?=some v:=by rw [<-Array.getElem?_toList,hl];rfl
   rw [h0] at hc
   refine ⟨v,hc,?_⟩
   rw [hl] at hd
   cases v <;> first | exact .inl rfl | exact .inr ⟨_,_,rfl⟩ | (simp [DataW.trod,hu] at hd)
theorem zV {P:Program} {W:World} {name:String} {k:IntKind} {zs:List Int} {g:Nat} {t e:TypeId} {n:Nat}
  (hg:P.globalNamed name=some g) (hty:(P.globals[g]?).map (·.type)=some t) (ht:P.underlying t=some (.array n e)) (he:P.underlying e=some (.int k)) (hce:P.cellsOf e=1) (hct:P.cellsOf t=n)
  (h:Lib.VarReads P W name (Lib.tabData k zs)):Lib.TabIs P W name k zs:=by
 obtain ⟨g',t',cs,fuel,p,hg',ht',hvar,hd⟩:=h
 obtain rfl:=Option.some.inj (hg.symm.trans hg')
 obtain rfl:=Option.some.inj (hty.symm.trans ht')
 unfold Lib.TabIs
 rw [hvar,<-Lib.cells_of_tab ht he hce hct hd]
end Go.Vg

namespace Go.Mrl
open Go.Vg
def s0:aC:=[110,101,101,100,32,98,10,119,111,114,100,32,49,10]
def vr:aC:=[119,111,114,100,32,50,10,115,121,109,98,111,108,32,120,32,48,10]
abbrev s3:D aA:=([[98]],[1],[],[],())
abbrev s4:D aA:=([],[2],[([120],0,false,())],[],())
theorem HK:bJ s0=(s3,0):=by
 have i1:Lib.itoa 1 = [49]:=by rw [mh (by decide) (by decide)];rfl
 refine n8 (by decide) (by decide) ?_
 simp only [cE,cz,dI,eO,fh,mV,lI,List.length_singleton,List.length_nil,List.take_succ_cons,List.take_zero,List.flatMap_cons,List.flatMap_nil,i1]
 decide
theorem HM:bJ vr=(s4,0):=by
 have i2:Lib.itoa 2 = [50]:=by rw [mh (by decide) (by decide)];rfl
 have i0:Lib.itoa 0 = [48]:=by rw [mh (by decide) (by decide)];rfl
 refine n8 (by decide) (by decide) ?_
 simp only [cE,cz,dI,eO,fh,lI,o3,cP,List.length_singleton,List.length_nil,List.take_succ_cons,List.take_zero,List.flatMap_cons,List.flatMap_nil,i2,i0]
 decide
def JP:eH:=(db rm [97] s0).1
def wT:eH:=(db JP [98] vr).1
theorem Jj:bF wT [97]=(s0,1,0):=by decide
theorem Jk:bF wT [98]=(vr,2,0):=by decide
theorem JA:ck (bF wT) [97]=([[97],[98]],[s3,s4],0):=by
 have fa:cM (bF wT) [97]=0:=by unfold cM;rw [Jj];show (if (0:Int)=0 then (bJ s0).2 else 0)=0;rw [HK];rfl
 have fb:cM (bF wT) [98]=0:=by unfold cM;rw [Jk];show (if (0:Int)=0 then (bJ vr).2 else 0)=0;rw [HM];rfl
 have oa:fv (bF wT) [97]=s3:=by unfold fv;rw [Jj];show (bJ s0).1=s3;rw [HK]
 have ob:fv (bF wT) [98]=s4:=by unfold fv;rw [Jk];show (bJ vr).1=s4;rw [HM]
 have n0:nth .str [[97]] 0 = [97]:=rfl
 have n1:nth .str [[97],[98]] 1 = [98]:=rfl
 have a0:cC [[97]] s3.1 = [[97],[98]]:=by decide
 have a1:cC [[97],[98]] s4.1 = [[97],[98]]:=by decide
 unfold ck
 rw [iU,if_pos (by decide),n0,if_pos fa,oa,a0,iU,if_pos (by decide),n1,if_pos fb,ob,a1,iU,if_neg (by decide)]
 rfl
def zW:eH:=((0 + 1 + 1,()),(dF cq (dF cq [] [97] (s0,0 + 1,()) 0) [98] (vr,0 + 1 + 1,()) (gI cq [] [97] 0),gI cq (dF cq [] [97] (s0,0 + 1,()) 0) [98] (gI cq [] [97] 0),()),())
theorem JB:wT=zW:=rfl
theorem qV:ck (bF zW) [97]=([[97],[98]],[s3,s4],0):=by rw [<-JB];exact JA
theorem zX {rd:Rd} (ok:kB rd) (root:aC):0<=(ck rd root).2.2:=by
 rcases Ba ok root with ⟨f,hf,e⟩ | ⟨ns,os,e,_⟩
 ·rw [e];exact Int.le_of_lt hf
 ·rw [e];exact Int.le_refl _
theorem aW.HG {x:eH} {r:RS} (h:aW x r):r.1.length<=6:=by
 rw [h.perm.length_eq,List.length_map];exact h.len
theorem aW.scope {x:eH} {r:RS} (h:aW x r) (s:aC):ck (bF x) s=ck (bX r.1) s:=by rw [h.rd]
theorem Cj:dU ([s3,s4],[120])=(1,0):=by
 refine mb (i:=1) (k:=0) ⟨⟨by decide,by decide,rfl,rfl⟩,?_⟩
 rintro i k (h | ⟨_,h⟩) ⟨_,h1,_,h2⟩
 ·obtain rfl:i=0:=by omega
  exact absurd (show k < 0 from h1) (Nat.not_lt_zero _)
 ·omega
end Go.Mrl

