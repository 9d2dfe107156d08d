/- A part of the proof that the law TopAloneCard holds of the given program: facts that are used there. -/
import Derived.Test.YtgokjhhcfemnhacGreatDoorPart2
import Derived.Lib.ItoaNum
import Derived.Lib.AtoiAll
import Derived.Handed
import Derived.Clock
import Derived.Lib.LaidTab
import Derived.Lib.LaidU8
import Derived.Lay
set_option linter.unusedSimpArgs false
set_option linter.unusedVariables false
namespace Go.Mrl
open Go.Vg
theorem py {k:Nat} (h:k < 10):(UInt8.ofNat (48 + k)).toNat=48 + k:=by
 rw [UInt8.toNat_ofNat'];omega
theorem jb:∀(u:Nat),∀c∈Lib.decDigits u,48<=c.toNat/\c.toNat<=57:=by
 intro u
 induction u using Nat.strongRecOn with
 | _ u ih=>
  intro c hc
  by_cases h:u < 10
  ·rw [Lib.decDigits,dif_pos h] at hc
   simp only [List.mem_singleton] at hc
   rw [hc,py h];omega
  ·rw [Lib.decDigits,dif_neg h] at hc
   rcases List.mem_append.1 hc with hc | hc
   ·exact ih _ (by omega) c hc
   ·simp only [List.mem_singleton] at hc
    rw [hc,py (Nat.mod_lt _ (by decide))];omega
theorem pz (u:Nat):Lib.decDigits u≠[]:=by
 rw [Lib.decDigits];split <;> simp
theorem kr:∀(k u:Nat),u < 10 ^ (k + 1)->(Lib.decDigits u).length<=k + 1
 | 0,u,h=>by rw [Lib.decDigits,dif_pos (by simpa using h)];simp
 | k + 1,u,h=>by
  rw [Lib.decDigits]
  split
  ·simp
  ·have:=kr k (u / 10) (by rw [Nat.pow_succ] at h;omega)
   simp;exact this
theorem uG:∀(l:aG) (c:UInt8) (a v:Nat),Lib.parseUint10 a l = .ok v->Lib.parseUint10 a (l++[c])=Lib.parseUint10 v [c]
 | [],c,a,v,h=>by simp [Lib.parseUint10] at h;rw [h];rfl
 | b :: l,c,a,v,h=>by
  rw [List.cons_append,Lib.parseUint10]
  rw [Lib.parseUint10] at h
  split at h
  ·rename_i hb
   rw [if_pos hb]
   split at h
   ·cases h
   ·rename_i h1
    rw [if_neg h1]
    split at h
    ·cases h
    ·rename_i h2
     rw [if_neg h2]
     exact uG l c _ v h
  ·cases h
theorem xh {v d:Nat} (hd:d < 10) (h:10 * v + d < 18446744073709551616):Lib.parseUint10 v [UInt8.ofNat (48 + d)] = .ok (10 * v + d):=by
 unfold Lib.parseUint10
 rw [py hd,if_pos (by omega),if_neg (by omega),if_neg (by omega)]
 unfold Lib.parseUint10
 congr 1;omega
theorem EI:∀u:Nat,u < 18446744073709551616->Lib.parseUint10 0 (Lib.decDigits u) = .ok u:=by
 intro u
 induction u using Nat.strongRecOn with
 | _ u ih=>
  intro hu
  by_cases h:u < 10
  ·rw [Lib.decDigits,dif_pos h]
   have:=xh (v:=0) (d:=u) h (by omega)
   simpa using this
  ·rw [Lib.decDigits,dif_neg h,uG _ _ _ _ (ih _ (by omega) (by omega)),xh (Nat.mod_lt _ (by decide)) (by omega)]
   congr 1;omega
theorem z6 {u:Nat} (hu:u < 18446744073709551616):Lib.parseMag (Lib.decDigits u) = .ok u:=by
 unfold Lib.parseMag
 rw [if_neg (pz u),EI u hu]
theorem CW {n:Int} (h0 : -9223372036854775808<=n) (h1:n<=9223372036854775807):Lib.atoiAll (Lib.itoa n) = .ok n:=by
 by_cases hn:n < 0
 ·have hm:=z6 (u:=n.natAbs) (by omega)
  simp only [Lib.itoa,if_pos hn,Lib.atoiAll]
  rw [if_pos (Or.inr (by decide)),hm]
  simp only
  rw [if_neg (by simp),if_neg (by simp;omega)]
  simp;omega
 ·have hm:=z6 (u:=n.toNat) (by omega)
  simp only [Lib.itoa,if_neg hn,Lib.atoiAll]
  cases hd:Lib.decDigits n.toNat with
  | nil=>exact absurd hd (pz _)
  | cons c r=>
   have hc:=jb n.toNat c (by rw [hd];simp)
   rw [hd] at hm
   simp only
   rw [if_neg (by omega),hm]
   simp only
   rw [if_neg (by omega),if_neg (by omega),if_neg (by omega)]
   congr 1;omega
def b8 (s:List UInt8):Int × aS:=match Lib.atoiAll s with
 | .ok n=>(n, .nil)
 | Lib.NumEnd.syntax=>(0, .other)
 | .range=>(Lib.atoiSat s, .other)
def cA (s:aG):Option Int:=match Lib.atoiAll s with
 | .ok n=>if Lib.itoa n=s then some n else none
 | _=>none
theorem CX {n:Int} (h0 : -9223372036854775808<=n) (h1:n<=9223372036854775807):cA (Lib.itoa n)=some n:=by
 unfold cA;rw [CW h0 h1];simp
theorem uH {s:aG}:(cA s).isNone=(!(b8 s).2.isNil || !decide (Lib.itoa (b8 s).1=s)):=by
 unfold cA b8
 cases Lib.atoiAll s with
 | ok v=>simp only [aS.isNil];by_cases h:Lib.itoa v=s <;> simp [h]
 | range=>rfl
 | _=>rfl
theorem uI {n:Int} {c:UInt8} (h:c.toNat<=44):c∉Lib.itoa n:=by
 intro hc
 have h45:(45:UInt8).toNat=45:=rfl
 unfold Lib.itoa at hc
 split at hc
 ·rcases List.mem_cons.1 hc with rfl | hc
  ·omega
  ·have:=jb _ c hc;omega
 ·have:=jb _ c hc;omega
theorem rv {n:Int} (h:0<=n) (h':n < 10):Lib.itoa n = [UInt8.ofNat (48 + n).toNat]:=by
 unfold Lib.itoa;rw [if_neg (by omega),Lib.decDigits,dif_pos (by omega)];congr 2;omega
end Go.Mrl

namespace Go.Mrl
open Go.Vg
theorem ki {f:Int} (h0:0<=f) (h:(aV f).isNil=false):f > 0:=by
 have:¬ f=0:=fun e=>by rw [aY.2 e] at h;cases h
 omega
theorem jz {f:Int} (h:(aV f).isNil=true):f<=0:=by
 have:=aY.1 h;omega
theorem uJ {t:Ty} {l:List (D t)} {i j:Nat} (h:j < i):nth t (List.drop 0 (List.take i l)) j=nth t l j:=by
 rw [List.drop_zero,wX h]
theorem uK {α:Type} {l:List α} {i:Nat} (h:i<=l.length):(List.drop 0 (List.take i l)).length=i:=by
 rw [List.drop_zero,List.length_take];omega
def cW (b:Bool):List UInt8:=if b=true then [119,101,97,107,32] else []
def nQ (s:aG):aG:=[110,101,101,100,32]++s++[10]
def lV (n:Int):aG:=[119,111,114,100,32]++Lib.itoa n++[10]
def ry (y:D aF):aG:=cW y.2.2.1++[115,121,109,98,111,108,32]++y.1++[32]++Lib.itoa y.2.1++[10]
def mn (t:D aI):aG:=
 if t.2.1=1 then [98,97,115,101,32]++Lib.itoa t.1++[32]++Lib.itoa t.2.2.1++[10]
 else if t.2.1=2 then cW t.2.2.2.2.1++[119,104,111,108,101,32]++Lib.itoa t.1++[32]++Lib.itoa t.2.2.1++[32]++t.2.2.2.1++[10]
 else cW t.2.2.2.2.1++[110,101,97,114,32]++Lib.itoa t.1++[32]++Lib.itoa t.2.2.1++[32]++t.2.2.2.1++[10]
def iw (o:D aA) (i:Nat):aG:=(o.1.take i).flatMap nQ
def gm (o:D aA) (i:Nat):aG:=iw o o.1.length++(o.2.1.take i).flatMap lV
def gn (o:D aA) (i:Nat):aG:=gm o o.2.1.length++(o.2.2.1.take i).flatMap ry
def dy (o:D aA) (i:Nat):aG:=gn o o.2.2.1.length++(o.2.2.2.1.take i).flatMap mn
def cy (o:D aA):aG:=dy o o.2.2.2.1.length
def bu (o:D aA):aG × aS:=if bt o≠0 then ([],aV (bt o)) else if (cy o).length > 1200 then ([], .no 2) else (cy o, .nil)
theorem CY {o:D aA} {i:Nat} (h:i < o.1.length):iw o (i + 1)=iw o i++nQ (nth .str o.1 i):=by
 unfold iw;rw [gl (t:=.str) h];simp
theorem CZ {o:D aA} {i:Nat} (h:i < o.2.1.length):gm o (i + 1)=gm o i++lV (nth (.int .i64) o.2.1 i):=by
 unfold gm;rw [gl (t:=.int .i64) h];simp
theorem C0 {o:D aA} {i:Nat} (h:i < o.2.2.1.length):gn o (i + 1)=gn o i++ry (nth aF o.2.2.1 i):=by
 unfold gn;rw [gl (t:=aF) h];simp
theorem pA {o:D aA} {i:Nat} (h:i < o.2.2.2.1.length):dy o (i + 1)=dy o i++mn (nth aI o.2.2.2.1 i):=by
 unfold dy;rw [gl (t:=aI) h];simp
theorem C1 (o:D aA):gm o 0=iw o o.1.length:=by unfold gm;simp
theorem C2 (o:D aA):gn o 0=gm o o.2.1.length:=by unfold gn;simp
theorem C3 (o:D aA):dy o 0=gn o o.2.2.1.length:=by unfold dy;simp
def Nm (s:aG):Prop:=s≠[]/\s.length<=8/\∀c∈s,c≠10/\c≠32
def jc (a b x:Int):Prop:=a<=x/\x<=b
structure sQ (t:D aI):Prop where
 a:jc 0 39 t.1
 w:jc (-2147483648) 2147483647 t.2.2.1
 k:t.2.1=1\/t.2.1=2\/t.2.1=3
 base:t.2.1=1->t.2.2.2.1 = []/\t.2.2.2.2.1=false
 nm:t.2.1≠1->Nm t.2.2.2.1
structure eP (o:D aA):Prop where
 n4:o.1.length<=4
 w1:1<=o.2.1.length
 FH:o.2.1.length<=40
 s8:o.2.2.1.length<=8
 t6:o.2.2.2.1.length<=6
 vK:∀s∈o.1,Nm s
 words:∀n∈o.2.1,jc (-2147483648) 2147483647 n
 syms:∀y∈o.2.2.1,Nm y.1/\jc 0 39 y.2.1
 Bg:∀t∈o.2.2.2.1,sQ t
end Go.Mrl

namespace Go.Mrl
open Go.Vg
theorem qD:∀(l p:List aG),dG p l=0->∀s∈l,aH s=0
 | [],_,_,s,h=>absurd h (by simp)
 | x :: r,p,h,s,hs=>by
  have hx:=dw x
  unfold dG at h
  split at h
  ·omega
  ·split at h
   ·cases h
   ·rcases List.mem_cons.1 hs with rfl | hs
    ·omega
    ·exact qD r _ h s hs
theorem qE:∀(l:List Int),eG l=0->∀n∈l,dL n=true
 | [],_,s,h=>absurd h (by simp)
 | x :: r,h,s,hs=>by
  unfold eG at h
  split at h
  ·rename_i hx
   rcases List.mem_cons.1 hs with rfl | hs
   ·exact hx
   ·exact qE r h s hs
  ·cases h
theorem sR (n:Nat):∀(l p:List (D aF)),cQ n p l=0->∀y∈l,aH y.1=0/\jc 0 (n - 1) y.2.1
 | [],_,_,s,h=>absurd h (by simp)
 | x :: r,p,h,s,hs=>by
  have hx:=dw x.1
  unfold cQ at h
  split at h
  ·omega
  ·split at h
   ·cases h
   ·rename_i h2
    split at h
    ·cases h
    ·rcases List.mem_cons.1 hs with rfl | hs
     ·exact ⟨by omega,Int.not_lt.1 fun e=>h2 (.inl e),Int.le_sub_one_of_lt (Int.not_le.1 fun e=>h2 (.inr e))⟩
     ·exact sR n r _ h s hs
theorem uL {n:Nat} {p:Option Int} {t:D aI} (h:gk n p t=0) :
  jc 0 (n - 1) t.1/\dL t.2.2.1=true/\jc 1 3 t.2.1/\(t.2.1=1->t.2.2.2.1 = []/\t.2.2.2.2.1=false)/\(t.2.1≠1->aH t.2.2.2.1=0):=by
 unfold gk at h
 split at h
 ·cases h
 ·rename_i h1
  split at h
  ·cases h
  ·rename_i h2
   refine ⟨⟨Int.not_lt.1 fun e=>h1 (.inl e),Int.le_sub_one_of_lt (Int.not_le.1 fun e=>h1 (.inr (.inl e)))⟩,?_,⟨Int.not_lt.1 fun e=>h2 (.inl e),Int.not_lt.1 fun e=>h2 (.inr (.inl e))⟩,?_,?_⟩
   ·cases hw:dL t.2.2.1 with
    | true=>rfl
    | false=>exact absurd (.inr (.inr hw)) h1
   ·intro e
    rw [if_pos e] at h
    split at h
    ·cases h
    ·rename_i h3
     refine ⟨Classical.byContradiction fun e=>h3 (.inl e),?_⟩
     cases hb:t.2.2.2.2.1 with
     | false=>rfl
     | true=>exact absurd (.inr hb) h3
   ·intro e
    rw [if_neg e] at h
    exact h
theorem nR (n:Nat):∀(l:List (D aI)) (p:Option Int),eH n p l=0->∀t∈l,∃p,gk n p t=0
 | [],_,_,s,h=>absurd h (by simp)
 | x :: r,p,h,s,hs=>by
  unfold eH at h
  split at h
  ·rename_i h0;exact absurd h h0
  ·rename_i h0
   rcases List.mem_cons.1 hs with rfl | hs
   ·exact ⟨p,Classical.byContradiction h0⟩
   ·exact nR n r _ h s hs
theorem Bh {s:aG} (h:aH s=0):Nm s:=by
 unfold aH at h
 split at h
 ·cases h
 ·rename_i hl
  split at h
  ·cases h
  ·rename_i hb
   refine ⟨by rintro rfl;simp at hl,by omega,fun c hc => ?_⟩
   obtain ⟨i,hi,rfl⟩:=List.getElem_of_mem hc
   have hn:dq i (dW s i)=false:=by
    unfold mN at hb
    rw [Bool.not_eq_true,List.any_eq_false] at hb
    have:=hb i (by simpa using hi)
    simpa using this
   have he:dW s i=s[i]:=by unfold dW;simp [hi]
   rw [he] at hn
   constructor
   ·intro e;rw [e] at hn;unfold dq small other at hn;simp at hn
   ·intro e;rw [e] at hn;unfold dq small other at hn;simp at hn
theorem three {x:Int} (h:1<=x) (h':x<=3):x=1\/x=2\/x=3:=by omega
theorem e8 {o:D aA} (h:bt o=0):eP o:=by
 unfold bt at h
 split at h
 ·cases h
 ·rename_i hm
  split at h
  ·rename_i h1;exact absurd h h1
  ·rename_i h1
   split at h
   ·rename_i h2;exact absurd h h2
   ·rename_i h2
    split at h
    ·rename_i h3;exact absurd h h3
    ·rename_i h3
     have h1:=Classical.byContradiction h1
     have h2:=Classical.byContradiction h2
     have h3:=Classical.byContradiction h3
     unfold fy at hm
     have hw:o.2.1.length<=40:=Nat.not_lt.1 fun e=>hm (.inr (.inr (.inl e)))
     refine ⟨Nat.not_lt.1 fun e=>hm (.inl e),Nat.not_lt.1 fun e=>hm (.inr (.inl e)),hw,Nat.not_lt.1 fun e=>hm (.inr (.inr (.inr (.inl e)))),Nat.not_lt.1 fun e=>hm (.inr (.inr (.inr (.inr e)))),
      fun s hs=>Bh (qD _ _ h1 s hs),fun n hn => ?_,fun y hy => ?_,fun t ht => ?_⟩
     ·have:=qE _ h2 n hn
      unfold dL at this
      simp only [Bool.and_eq_true,decide_eq_true_eq] at this
      exact this
     ·obtain ⟨a,b,c⟩:=sR _ _ _ h3 y hy
      exact ⟨Bh a,b,Int.le_trans c (by omega)⟩
     ·obtain ⟨p,hp⟩:=nR _ _ _ h t ht
      obtain ⟨⟨a,b⟩,c,⟨d,e⟩,f,g⟩:=uL hp
      unfold dL at c
      simp only [Bool.and_eq_true,decide_eq_true_eq] at c
      exact ⟨⟨a,Int.le_trans b (by omega)⟩,c,three d e,f,fun e=>Bh (g e)⟩
theorem eJ {a b n:Int} (h:jc a b n) (ha : -999999999999999999<=a) (hb:b<=999999999999999999):(Lib.itoa n).length<=19:=by
 obtain ⟨h0,h1⟩:=h
 unfold Lib.itoa
 split
 ·rw [List.length_cons]
  have:=kr 17 n.natAbs (by omega)
  omega
 ·have:=kr 17 n.toNat (by omega)
  omega
theorem lW (b:Bool):(cW b).length<=5:=by cases b <;> decide
theorem C4 {s:aG} (h:Nm s):(nQ s).length<=64:=by have:=h.2.1;simp [nQ];omega
theorem C5 {n:Int} (h:jc (-2147483648) 2147483647 n):(lV n).length<=64:=by have:=eJ h (by decide) (by decide);simp [lV];omega
theorem EJ {y:D aF} (h:Nm y.1/\jc 0 39 y.2.1):(ry y).length<=64:=by
 have h1:=eJ h.2 (by decide) (by decide)
 have h2:=lW y.2.2.1
 have h3:=h.1.2.1
 simp [ry];omega
theorem EK {t:D aI} (h:sQ t):(mn t).length<=64:=by
 have h1:=eJ h.a (by decide) (by decide)
 have h4:=eJ h.w (by decide) (by decide)
 have h2:=lW t.2.2.2.2.1
 unfold mn
 split
 ·simp;omega
 ·rename_i hk
  have h3:=(h.nm hk).2.1
  split
  ·simp;omega
  ·simp;omega
theorem ln {α:Type} {f:α->aG}:∀{l:List α},(∀x∈l,(f x).length<=64)->(l.flatMap f).length<=64 * l.length
 | [],_=>by simp
 | x :: r,h=>by
  have h1:=h x (by simp)
  have h2:=ln (f:=f) (l:=r) fun y hy=>h y (List.mem_cons_of_mem _ hy)
  rw [List.flatMap_cons,List.length_append,List.length_cons];omega
theorem eP.G6 {o:D aA} (h:eP o) (i:Nat):(iw o i).length<=1000:=by
 have:=ln (f:=nQ) (l:=o.1.take i) fun s hs=>C4 (h.vK s (List.mem_of_mem_take hs))
 have h2:=h.n4
 unfold iw;simp only [List.length_take] at this;omega
theorem eP.G7 {o:D aA} (h:eP o) (i:Nat):(gm o i).length<=4000:=by
 have h0:=h.G6 o.1.length
 have:=ln (f:=lV) (l:=o.2.1.take i) fun s hs=>C5 (h.words s (List.mem_of_mem_take hs))
 have h2:=h.FH
 unfold gm;rw [List.length_append];simp only [List.length_take] at this;omega
theorem eP.G8 {o:D aA} (h:eP o) (i:Nat):(gn o i).length<=5000:=by
 have h0:=h.G7 o.2.1.length
 have:=ln (f:=ry) (l:=o.2.2.1.take i) fun s hs=>EJ (h.syms s (List.mem_of_mem_take hs))
 have h2:=h.s8
 unfold gn;rw [List.length_append];simp only [List.length_take] at this;omega
theorem eP.HC {o:D aA} (h:eP o) (i:Nat):(dy o i).length<=6000:=by
 have h0:=h.G8 o.2.2.1.length
 have:=ln (f:=mn) (l:=o.2.2.2.1.take i) fun s hs=>EK (h.Bg s (List.mem_of_mem_take hs))
 have h2:=h.t6
 unfold dy;rw [List.length_append];simp only [List.length_take] at this;omega
theorem eP.pB {o:D aA} (h:eP o) {i:Nat} (hi:i < o.1.length):Nm (nth .str o.1 i):=h.vK _ (eY (t:=.str) hi)
theorem eP.word {o:D aA} (h:eP o) {i:Nat} (hi:i < o.2.1.length):jc (-2147483648) 2147483647 (nth (.int .i64) o.2.1 i):=h.words _ (eY (t:=.int .i64) hi)
theorem eP.sym {o:D aA} (h:eP o) {i:Nat} (hi:i < o.2.2.1.length):Nm (nth aF o.2.2.1 i).1/\jc 0 39 (nth aF o.2.2.1 i).2.1:=h.syms _ (eY (t:=aF) hi)
theorem eP.tie {o:D aA} (h:eP o) {i:Nat} (hi:i < o.2.2.2.1.length):sQ (nth aI o.2.2.2.1 i):=h.Bg _ (eY (t:=aI) hi)
theorem yF (a b:aG):bB a++bB b=bB (a++b):=by simp [bB]
theorem uM {o:D aA} (h:eP o) {i:Nat} (hi:i < o.1.length):(nth .str o.1 i).length<=8/\(iw o i).length<=1000:=⟨(h.pB hi).2.1,h.G6 i⟩
theorem uN {o:D aA} (h:eP o) {i:Nat} (hi:i < o.2.1.length):(Lib.itoa (nth (.int .i64) o.2.1 i)).length<=19/\(gm o i).length<=4000:=
 ⟨eJ (h.word hi) (by decide) (by decide),h.G7 i⟩
theorem xi {o:D aA} (h:eP o) {i:Nat} (hi:i < o.2.2.1.length) :
  (nth aF o.2.2.1 i).1.length<=8/\(Lib.itoa (nth aF o.2.2.1 i).2.1).length<=19/\(cW (nth aF o.2.2.1 i).2.2.1).length<=5/\(gn o i).length<=5000:=
 ⟨(h.sym hi).1.2.1,eJ (h.sym hi).2 (by decide) (by decide),lW _,h.G8 i⟩
theorem xj {o:D aA} (h:eP o) {i:Nat} (hi:i < o.2.2.2.1.length) :
  (nth aI o.2.2.2.1 i).2.2.2.1.length<=8/\(Lib.itoa (nth aI o.2.2.2.1 i).1).length<=19/\(Lib.itoa (nth aI o.2.2.2.1 i).2.2.1).length<=19/\(cW (nth aI o.2.2.2.1 i).2.2.2.2.1).length<=5/\(dy o i).length<=6000:=by
 have ht:=h.tie hi
 refine ⟨?_,eJ ht.a (by decide) (by decide),eJ ht.w (by decide) (by decide),lW _,h.HC i⟩
 by_cases hk:(nth aI o.2.2.2.1 i).2.1=1
 ·rw [(ht.base hk).1];decide
 ·exact (ht.nm hk).2.1
theorem jA {p p' q:aG} {a b:Int} (h:p'=p++q):(((bB p++bB q,a,b,()):D eL))=((bB p',a,b,()):D eL):=by rw [h,yF]
theorem rA {p p':aG} {a b:Int} (h:p=p'):((bB p,a,b,()):D eL)=((bB p',a,b,()):D eL):=by rw [h]
theorem Bi {o:D aA} {i:Nat} (h:i < o.2.2.2.1.length) (hk:(nth aI o.2.2.2.1 i).2.1=1) :
  dy o (i + 1)=dy o i++([98,97,115,101,32]++Lib.itoa (nth aI o.2.2.2.1 i).1++[32]++Lib.itoa (nth aI o.2.2.2.1 i).2.2.1++[10]):=by
 rw [pA h];unfold mn;rw [if_pos hk]
theorem Bj {o:D aA} {i:Nat} (h:i < o.2.2.2.1.length) (hk:¬ (nth aI o.2.2.2.1 i).2.1=1) (hk2:(nth aI o.2.2.2.1 i).2.1=2) :
  dy o (i + 1)=dy o i++(cW (nth aI o.2.2.2.1 i).2.2.2.2.1++[119,104,111,108,101,32]++Lib.itoa (nth aI o.2.2.2.1 i).1++[32]++Lib.itoa (nth aI o.2.2.2.1 i).2.2.1++[32]++(nth aI o.2.2.2.1 i).2.2.2.1++[10]):=by
 rw [pA h];unfold mn;rw [if_neg hk,if_pos hk2]
theorem Bk {o:D aA} {i:Nat} (h:i < o.2.2.2.1.length) (hk:¬ (nth aI o.2.2.2.1 i).2.1=1) (hk2:¬ (nth aI o.2.2.2.1 i).2.1=2) :
  dy o (i + 1)=dy o i++(cW (nth aI o.2.2.2.1 i).2.2.2.2.1++[110,101,97,114,32]++Lib.itoa (nth aI o.2.2.2.1 i).1++[32]++Lib.itoa (nth aI o.2.2.2.1 i).2.2.1++[32]++(nth aI o.2.2.2.1 i).2.2.2.1++[10]):=by
 rw [pA h];unfold mn;rw [if_neg hk,if_neg hk2]
theorem lX {o:D aA} (h:bt o≠0):bu o=([],aV (bt o)):=by unfold bu;rw [if_pos h]
theorem kI {o:D aA} (h:bt o=0) {i:Nat} (hi:i=o.2.2.2.1.length) (hl:(dy o i).length > 1200):bu o=([], .no 2):=by
 unfold bu;rw [if_neg (by rw [h];decide),if_pos (by unfold cy;rw [<-hi];exact hl)]
theorem jB {o:D aA} (h:bt o=0) {i:Nat} (hi:i=o.2.2.2.1.length) (hl:(dy o i).length<=1200):bu o=(dy o i, .nil):=by
 unfold bu;rw [if_neg (by rw [h];decide),if_neg (by unfold cy;rw [<-hi];omega)];unfold cy;rw [<-hi]
end Go.Mrl

namespace Go.Mrl
open Go.Vg
@[reducible] def bO:aG:=[119,101,97,107,32]
@[reducible] def en:aG:=[110,101,101,100]
@[reducible] def ed:aG:=[119,111,114,100]
@[reducible] def dz:aG:=[115,121,109,98,111,108]
@[reducible] def fR:aG:=[98,97,115,101]
@[reducible] def e9:aG:=[119,104,111,108,101]
@[reducible] def eU:aG:=[110,101,97,114]
def jC (o:D aA) (s:aG):D aA:=(o.1++[s],o.2)
def jD (o:D aA) (n:Int):D aA:=(o.1,o.2.1++[n],o.2.2)
def mU (o:D aA) (y:D aF):D aA:=(o.1,o.2.1,o.2.2.1++[y],o.2.2.2)
def jd (o:D aA) (t:D aI):D aA:=(o.1,o.2.1,o.2.2.1,o.2.2.2.1++[t],())
def rB (x y:aG) (k:Int->Int->D aA):Option (D aA):=
 match cA x,cA y with
 | some m,some n=>some (k m n)
 | _,_=>none
def gp (o:D aA) (b:Bool):List aG->Option (D aA)
 | [a,x]=>if a=en then some (jC o x) else if a=ed then (cA x).map (jD o) else none
 | [a,x,y]=>if a=dz then (cA y).map fun n=>mU o (x,n,b,()) else if a=fR then rB x y fun m n=>jd o (m,1,n,[],false,()) else none
 | [a,x,y,z]=>if a=e9\/a=eU then rB x y fun m n=>jd o (m,if a=eU then 3 else 2,n,z,b,()) else none
 | _=>none
def je (o:D aA) (s:aG):Option (D aA):=gp o (Lib.hasPrefix s bO) (parts 32 (Lib.trimPrefix s bO))
def run (f:D aA->aG->Option (D aA)):D aA->List aG->Option (D aA)
 | o,[]=>some o
 | o,s :: r=>match f o s with
  | some p=>run f p r
  | none=>none
theorem xk {f:D aA->aG->Option (D aA)}:∀{l:List aG} {o:D aA} {s:aG},run f o (l++[s])=(run f o l).bind fun p=>f p s
 | [],o,s=>by simp only [List.nil_append,run,Option.bind_some];cases f o s <;> rfl
 | x :: r,o,s=>by
  simp only [List.cons_append,run]
  cases f o x with
  | none=>rfl
  | some p=>exact xk
theorem qc {f:D aA->aG->Option (D aA)}:∀{l m:List aG} {o p:D aA},run f o l=some p->run f o (l++m)=run f p m
 | [],m,o,p,h=>by simp only [run,Option.some.injEq] at h;rw [h];rfl
 | x :: r,m,o,p,h=>by
  simp only [run] at h
  simp only [List.cons_append,run]
  cases hx:f o x with
  | none=>rw [hx] at h;cases h
  | some q=>rw [hx] at h;exact qc h
def jf (s:aG):aG:=[110,101,101,100,32]++s
def jg (n:Int):aG:=[119,111,114,100,32]++Lib.itoa n
def rC (y:D aF):aG:=cW y.2.2.1++([115,121,109,98,111,108,32]++(y.1++32 :: Lib.itoa y.2.1))
def pC (t:D aI):aG:=
 if t.2.1=1 then [98,97,115,101,32]++(Lib.itoa t.1++32 :: Lib.itoa t.2.2.1)
 else if t.2.1=2 then cW t.2.2.2.2.1++([119,104,111,108,101,32]++(Lib.itoa t.1++32 :: (Lib.itoa t.2.2.1++32 :: t.2.2.2.1)))
 else cW t.2.2.2.2.1++([110,101,97,114,32]++(Lib.itoa t.1++32 :: (Lib.itoa t.2.2.1++32 :: t.2.2.2.1)))
def kj (o:D aA):List aG:=o.1.map jf++(o.2.1.map jg++(o.2.2.1.map rC++o.2.2.2.1.map pC))
theorem lp {α:Type} {f g:α->aG} (h:∀x,f x=g x++[10]):∀l:List α,l.flatMap f=kq 10 (l.map g)
 | []=>rfl
 | x :: r=>by rw [List.flatMap_cons,lp h r,List.map_cons,uE,h];simp
theorem rD (c:UInt8) (l m:List aG):kq c (l++m)=kq c l++kq c m:=by simp [kq]
theorem yG (o:D aA):cy o=kq 10 (kj o):=by
 unfold cy dy gn gm iw kj
 rw [List.take_length,List.take_length,List.take_length,List.take_length,rD,rD,rD,
  lp (g:=jf) (fun s=>by simp [nQ,jf]) o.1,lp (g:=jg) (fun s=>by simp [lV,jg]) o.2.1,
  lp (g:=rC) (fun s=>by simp [ry,rC]) o.2.2.1,
  lp (g:=pC) (fun s=>by unfold mn pC;split <;> (try split) <;> simp) o.2.2.2.1]
 simp
structure Reads (f:D aA->aG->Option (D aA)):Prop where
 pB:∀(o:D aA) (s:aG),Nm s->f o (jf s)=some (jC o s)
 word:∀(o:D aA) (n:Int),jc (-2147483648) 2147483647 n->f o (jg n)=some (jD o n)
 sym:∀(o:D aA) (y:D aF),Nm y.1->jc 0 39 y.2.1->f o (rC y)=some (mU o y)
 tie:∀(o:D aA) (t:D aI),sQ t->f o (pC t)=some (jd o t)
section
variable {f:D aA->aG->Option (D aA)} (h:Reads f)
include h
theorem uO:∀(l:List aG) (o:D aA),(∀s∈l,Nm s)->run f o (l.map jf)=some (o.1++l,o.2)
 | [],o,_=>by simp [run]
 | s :: r,o,hl=>by
  rw [List.map_cons,run,h.pB o s (hl s (by simp))]
  show run f (jC o s) (r.map jf)=_
  rw [uO r _ fun x hx=>hl x (List.mem_cons_of_mem _ hx)]
  simp [jC]
theorem uP:∀(l:List Int) (o:D aA),(∀n∈l,jc (-2147483648) 2147483647 n)->run f o (l.map jg)=some (o.1,o.2.1++l,o.2.2)
 | [],o,_=>by simp [run]
 | s :: r,o,hl=>by
  rw [List.map_cons,run,h.word o s (hl s (by simp))]
  show run f (jD o s) (r.map jg)=_
  rw [uP r _ fun x hx=>hl x (List.mem_cons_of_mem _ hx)]
  simp [jD]
theorem xl:∀(l:List (D aF)) (o:D aA),(∀y∈l,Nm y.1/\jc 0 39 y.2.1)->run f o (l.map rC)=some (o.1,o.2.1,o.2.2.1++l,o.2.2.2)
 | [],o,_=>by simp [run]
 | s :: r,o,hl=>by
  rw [List.map_cons,run,h.sym o s (hl s (by simp)).1 (hl s (by simp)).2]
  show run f (mU o s) (r.map rC)=_
  rw [xl r _ fun x hx=>hl x (List.mem_cons_of_mem _ hx)]
  simp [mU]
theorem xm:∀(l:List (D aI)) (o:D aA),(∀t∈l,sQ t)->run f o (l.map pC)=some (o.1,o.2.1,o.2.2.1,o.2.2.2.1++l,())
 | [],o,_=>by simp [run]
 | s :: r,o,hl=>by
  rw [List.map_cons,run,h.tie o s (hl s (by simp))]
  show run f (jd o s) (r.map pC)=_
  rw [xm r _ fun x hx=>hl x (List.mem_cons_of_mem _ hx)]
  simp [jd]
theorem C6 {o:D aA} (ok:eP o):run f (bF aA) (kj o)=some o:=by
 unfold kj
 rw [qc (uO h o.1 _ ok.vK),qc (uP h o.2.1 _ ok.words),qc (xl h o.2.2.1 _ ok.syms),xm h o.2.2.2.1 _ ok.Bg]
 rfl
end
theorem sU {a:UInt8} {s:aG} (h:a≠119):Lib.hasPrefix (a :: s) bO=false:=by
 unfold Lib.hasPrefix bO;simp [List.isPrefixOf];intro e;exact absurd e.symm h
theorem Gd {s:aG} (h:Lib.hasPrefix s bO=false):Lib.trimPrefix s bO=s:=by unfold Lib.trimPrefix;rw [if_neg (by rw [h];decide)]
theorem z7 (s:aG):Lib.hasPrefix (bO++s) bO=true:=by unfold Lib.hasPrefix bO;simp [List.isPrefixOf]
theorem EL (s:aG):Lib.trimPrefix (bO++s) bO=s:=by unfold Lib.trimPrefix;rw [if_pos (z7 s)];rfl
theorem z8 {a b:UInt8} {s:aG} (h:b≠101):Lib.hasPrefix (a :: b :: s) bO=false:=by
 unfold Lib.hasPrefix bO;simp [List.isPrefixOf];intro _ e;exact absurd e.symm h
theorem gC (o:D aA) (b:Bool) (s:aG) (h:Lib.hasPrefix s bO=false):je o (cW b++s)=gp o b (parts 32 s):=by
 unfold je
 cases b with
 | false=>show gp o (Lib.hasPrefix s bO) (parts 32 (Lib.trimPrefix s bO))=_;rw [h,Gd h]
 | true=>show gp o (Lib.hasPrefix (bO++s) bO) (parts 32 (Lib.trimPrefix (bO++s) bO))=_;rw [z7,EL]
theorem jE {s:aG} (h:Nm s):(32:UInt8)∉s/\(10:UInt8)∉s:=⟨fun hc=>(h.2.2 _ hc).2 rfl,fun hc=>(h.2.2 _ hc).1 rfl⟩
theorem gq (n:Int):(32:UInt8)∉Lib.itoa n:=uI (by decide)
theorem nS (n:Int):(10:UInt8)∉Lib.itoa n:=uI (by decide)
theorem Bl {s:aG} (h:Nm s):parts 32 (jf s) = [en,s]:=by
 show parts 32 (en++32 :: s)=_
 rw [cL (by decide),fh (jE h).1]
theorem Bm (n:Int):parts 32 (jg n) = [ed,Lib.itoa n]:=by
 show parts 32 (ed++32 :: Lib.itoa n)=_
 rw [cL (by decide),fh (gq n)]
theorem C7 {s:aG} {n:Int} (h:Nm s):parts 32 ([115,121,109,98,111,108,32]++(s++32 :: Lib.itoa n)) = [dz,s,Lib.itoa n]:=by
 show parts 32 (dz++32 :: (s++32 :: Lib.itoa n))=_
 rw [cL (by decide),cL (jE h).1,fh (gq n)]
theorem Bn (m n:Int):parts 32 ([98,97,115,101,32]++(Lib.itoa m++32 :: Lib.itoa n)) = [fR,Lib.itoa m,Lib.itoa n]:=by
 show parts 32 (fR++32 :: (Lib.itoa m++32 :: Lib.itoa n))=_
 rw [cL (by decide),cL (gq m),fh (gq n)]
theorem yH {s:aG} (m n:Int) (h:Nm s):parts 32 ([119,104,111,108,101,32]++(Lib.itoa m++32 :: (Lib.itoa n++32 :: s))) = [e9,Lib.itoa m,Lib.itoa n,s]:=by
 show parts 32 (e9++32 :: (Lib.itoa m++32 :: (Lib.itoa n++32 :: s)))=_
 rw [cL (by decide),cL (gq m),cL (gq n),fh (jE h).1]
theorem Bo {s:aG} (m n:Int) (h:Nm s):parts 32 ([110,101,97,114,32]++(Lib.itoa m++32 :: (Lib.itoa n++32 :: s))) = [eU,Lib.itoa m,Lib.itoa n,s]:=by
 show parts 32 (eU++32 :: (Lib.itoa m++32 :: (Lib.itoa n++32 :: s)))=_
 rw [cL (by decide),cL (gq m),cL (gq n),fh (jE h).1]
theorem qd {a b n:Int} (h:jc a b n) (ha : -9223372036854775808<=a) (hb:b<=9223372036854775807):cA (Lib.itoa n)=some n:=CX (Int.le_trans ha h.1) (Int.le_trans h.2 hb)
theorem G9:Reads je where
 pB o s h:=by
  have:=gC o false (jf s) (sU (by decide))
  rw [show cW false++jf s=jf s from rfl,Bl h] at this
  exact this
 word o n h:=by
  have:=gC o false (jg n) (z8 (by decide))
  rw [show cW false++jg n=jg n from rfl,Bm] at this
  rw [this]
  show (if ed=en then some (jC o (Lib.itoa n)) else if ed=ed then (cA (Lib.itoa n)).map (jD o) else none)=_
  rw [if_neg (by decide),if_pos rfl,qd h (by decide) (by decide)];rfl
 sym o y h h':=by
  have:=gC o y.2.2.1 ([115,121,109,98,111,108,32]++(y.1++32 :: Lib.itoa y.2.1)) (sU (by decide))
  rw [C7 h] at this
  refine Eq.trans this ?_
  dsimp only [gp]
  rw [if_pos rfl,qd h' (by decide) (by decide)];rfl
 tie o t h:=by
  obtain ⟨at',k,ad,nm,b,_⟩:=t
  have ha:=qd h.a (by decide) (by decide)
  have hw:=qd h.w (by decide) (by decide)
  simp only at ha hw
  unfold pC
  rcases h.k with e | e | e
  ·have hb:=h.base e
   simp only at e hb
   obtain ⟨rfl,rfl⟩:=hb
   subst e
   rw [if_pos rfl]
   have:=gC o false ([98,97,115,101,32]++(Lib.itoa at'++32 :: Lib.itoa ad)) (sU (by decide))
   rw [Bn] at this
   refine this.trans ?_
   dsimp only [gp]
   rw [if_neg (by decide),if_pos rfl];unfold rB;rw [ha,hw]
  ·have hn:=h.nm (by rw [show _=_ from e];decide)
   simp only at e hn
   subst e
   rw [if_neg (by simp),if_pos rfl]
   have:=gC o b ([119,104,111,108,101,32]++(Lib.itoa at'++32 :: (Lib.itoa ad++32 :: nm))) (z8 (by decide))
   rw [yH _ _ hn] at this
   refine this.trans ?_
   dsimp only [gp]
   rw [if_pos (.inl rfl),if_neg (by decide)];unfold rB;rw [ha,hw]
  ·have hn:=h.nm (by rw [show _=_ from e];decide)
   simp only at e hn
   subst e
   rw [if_neg (by simp),if_neg (by simp)]
   have:=gC o b ([110,101,97,114,32]++(Lib.itoa at'++32 :: (Lib.itoa ad++32 :: nm))) (sU (by decide))
   rw [Bo _ _ hn] at this
   refine this.trans ?_
   dsimp only [gp]
   rw [if_pos (.inr rfl),if_pos rfl];unfold rB;rw [ha,hw]
end Go.Mrl

namespace Go.Mrl
open Go.Vg
theorem Bp {o:D aA} (h:eP o):∀l∈kj o,(10:UInt8)∉l:=by
 intro l hl
 unfold kj at hl
 simp only [List.mem_append,List.mem_map] at hl
 have hw:∀b,(10:UInt8)∉cW b:=by intro b;cases b <;> decide
 rcases hl with ⟨s,hs,rfl⟩ | ⟨n,hn,rfl⟩ | ⟨y,hy,rfl⟩ | ⟨t,ht,rfl⟩
 ·have:=(jE (h.vK s hs)).2
  unfold jf;simp [this]
 ·have:=nS n
  unfold jg;simp [this]
 ·have h1:=(jE (h.syms y hy).1).2
  have h2:=nS y.2.1
  have h3:=hw y.2.2.1
  unfold rC;simp [h1,h2,h3]
 ·have h1:=nS t.1
  have h2:=nS t.2.2.1
  have h3:=hw t.2.2.2.2.1
  unfold pC
  split
  ·simp [h1,h2]
  ·rename_i hk
   have h4:=(jE ((h.Bg t ht).nm hk)).2
   split <;> simp [h1,h2,h3,h4]
theorem EM {o:D aA} (h:eP o):kj o≠[]:=by
 have h1:=h.w1
 unfold kj
 intro e
 simp only [List.append_eq_nil_iff,List.map_eq_nil_iff] at e
 rw [e.2.1] at h1
 simp at h1
def Bq (s:aG):Option (D aA):=run je (bF aA) (parts 10 (Lib.trimSuffix s [10]))
theorem lY {o:D aA} (h:bt o=0):Bq (cy o)=some o:=by
 have ok:=e8 h
 unfold Bq
 rw [yG,Bf (EM ok) (Bp ok),C6 G9 ok]
theorem C8 {o p:D aA} (h:bt o=0) (h':bt p=0) (e:cy o=cy p):o=p:=by
 have a:=lY h
 rw [e,lY h'] at a
 exact (Option.some.inj a).symm
open Classical in
noncomputable def bP (s:aG):D aA × Int:=
 if s.length > 1200 then (bF aA,2)
 else if h:∃o:D aA,bt o=0/\cy o=s then (Classical.choose h,0) else (bF aA,4)
theorem uQ {s:aG} (h:s.length > 1200):bP s=(bF aA,2):=by unfold bP;rw [if_pos h]
theorem mV {s:aG} {o:D aA} (h:¬ s.length > 1200) (hf:bt o=0) (ht:cy o=s):bP s=(o,0):=by
 have hx:∃o:D aA,bt o=0/\cy o=s:=⟨o,hf,ht⟩
 have hc:=Classical.choose_spec hx
 unfold bP
 rw [if_neg h,dif_pos hx,C8 hc.1 hf (hc.2.trans ht.symm)]
theorem rE {s:aG} (h:¬ s.length > 1200) (hn:∀o:D aA,bt o=0->cy o≠s):bP s=(bF aA,4):=by
 unfold bP
 rw [if_neg h,dif_neg fun ⟨o,h1,h2⟩=>hn o h1 h2]
theorem Br {s:aG} (h:¬ s.length > 1200) (hr:Bq s=none):bP s=(bF aA,4):=
 rE h fun o h1 h2=>by rw [<-h2,lY h1] at hr;cases hr
theorem sV {s:aG} {o:D aA} (h:¬ s.length > 1200) (hr:Bq s=some o) (hb:bt o=0->cy o≠s):bP s=(bF aA,4):=
 rE h fun p h1 h2=>by
  have:p=o:=by rw [<-h2,lY h1] at hr;exact Option.some.inj hr
  rw [this] at h1 h2
  exact hb h1 h2
def cD (o:D aA) (b:Bool) (s:aG):D aA × Bool:=
 let w:=parts 32 (Lib.trimPrefix s bO)
 if nth .str w 0=en/\w.length=2 then (jC o (nth .str w 1),b)
 else if nth .str w 0=ed/\w.length=2 then (jD o (b8 (nth .str w 1)).1,b || (cA (nth .str w 1)).isNone)
 else if nth .str w 0=dz/\w.length=3 then (mU o (nth .str w 1,(b8 (nth .str w 2)).1,Lib.hasPrefix s bO,()),b || (cA (nth .str w 2)).isNone)
 else if nth .str w 0=fR/\w.length=3 then (jd o ((b8 (nth .str w 1)).1,1,(b8 (nth .str w 2)).1,[],false,()),(b || (cA (nth .str w 1)).isNone) || (cA (nth .str w 2)).isNone)
 else if (nth .str w 0=e9\/nth .str w 0=eU)/\w.length=4 then
  (jd o ((b8 (nth .str w 1)).1,if nth .str w 0=eU then 3 else 2,(b8 (nth .str w 2)).1,nth .str w 3,Lib.hasPrefix s bO,()),(b || (cA (nth .str w 1)).isNone) || (cA (nth .str w 2)).isNone)
 else (o,true)
theorem iH {s:aG} {n:Int} (h:cA s=some n):(b8 s).1=n:=by
 unfold cA at h
 unfold b8
 cases ha:Lib.atoiAll s with
 | ok v=>rw [ha] at h;simp only at h ⊢;split at h <;> simp_all
 | range=>rw [ha] at h;cases h
 | _=>rw [ha] at h;cases h
theorem Bs (o:D aA) (b:Bool) (s:aG):(∃p,je o s=some p/\cD o b s=(p,b))\/(je o s=none/\(cD o b s).2=true):=by
 unfold je cD
 generalize hw:parts 32 (Lib.trimPrefix s bO)=w
 generalize Lib.hasPrefix s bO=k
 have hne:=ru 32 (Lib.trimPrefix s bO)
 rw [hw] at hne
 match w,hne with
 | [],hne=>exact absurd rfl hne
 | [a],_=>exact .inr ⟨rfl,by simp⟩
 | [a,x],_=>
  dsimp only [gp]
  simp only [show nth .str [a,x] 0=a from rfl,show nth .str [a,x] 1=x from rfl]
  by_cases h1:a=en
  ·rw [if_pos h1,if_pos (show (a=en)/\[a,x].length=2 from ⟨h1,rfl⟩)];exact .inl ⟨_,rfl,rfl⟩
  ·rw [if_neg h1,if_neg (show ¬ ((a=en)/\[a,x].length=2) from fun e=>h1 e.1)]
   by_cases h2:a=ed
   ·rw [if_pos h2,if_pos (show (a=ed)/\[a,x].length=2 from ⟨h2,rfl⟩)]
    cases hn:cA x with
    | none=>exact .inr ⟨rfl,by simp⟩
    | some n=>exact .inl ⟨_,rfl,by rw [iH hn];simp⟩
   ·rw [if_neg h2,if_neg (show ¬ ((a=ed)/\[a,x].length=2) from fun e=>h2 e.1),if_neg (show ¬ ((a=dz)/\[a,x].length=3) from fun e=>absurd e.2 (by simp)),if_neg (show ¬ ((a=fR)/\[a,x].length=3) from fun e=>absurd e.2 (by simp)),if_neg (show ¬ ((a=e9\/a=eU)/\[a,x].length=4) from fun e=>absurd e.2 (by simp))];exact .inr ⟨rfl,rfl⟩
 | [a,x,y],_=>
  dsimp only [gp]
  simp only [show nth .str [a,x,y] 0=a from rfl,show nth .str [a,x,y] 1=x from rfl,show nth .str [a,x,y] 2=y from rfl]
  rw [if_neg (show ¬ ((a=en)/\[a,x,y].length=2) from fun e=>absurd e.2 (by simp)),if_neg (show ¬ ((a=ed)/\[a,x,y].length=2) from fun e=>absurd e.2 (by simp))]
  by_cases h1:a=dz
  ·rw [if_pos h1,if_pos (show (a=dz)/\[a,x,y].length=3 from ⟨h1,rfl⟩)]
   cases hn:cA y with
   | none=>exact .inr ⟨rfl,by simp⟩
   | some n=>exact .inl ⟨_,rfl,by rw [iH hn];simp⟩
  ·rw [if_neg h1,if_neg (show ¬ ((a=dz)/\[a,x,y].length=3) from fun e=>h1 e.1)]
   by_cases h2:a=fR
   ·rw [if_pos h2,if_pos (show (a=fR)/\[a,x,y].length=3 from ⟨h2,rfl⟩)]
    unfold rB
    cases hm:cA x with
    | none=>exact .inr ⟨rfl,by simp⟩
    | some m=>
     cases hn:cA y with
     | none=>exact .inr ⟨rfl,by simp⟩
     | some n=>exact .inl ⟨_,rfl,by rw [iH hn,iH hm];simp⟩
   ·rw [if_neg h2,if_neg (show ¬ ((a=fR)/\[a,x,y].length=3) from fun e=>h2 e.1),if_neg (show ¬ ((a=e9\/a=eU)/\[a,x,y].length=4) from fun e=>absurd e.2 (by simp))];exact .inr ⟨rfl,rfl⟩
 | [a,x,y,z],_=>
  dsimp only [gp]
  simp only [show nth .str [a,x,y,z] 0=a from rfl,show nth .str [a,x,y,z] 1=x from rfl,show nth .str [a,x,y,z] 2=y from rfl,show nth .str [a,x,y,z] 3=z from rfl]
  rw [if_neg (show ¬ ((a=en)/\[a,x,y,z].length=2) from fun e=>absurd e.2 (by simp)),if_neg (show ¬ ((a=ed)/\[a,x,y,z].length=2) from fun e=>absurd e.2 (by simp)),if_neg (show ¬ ((a=dz)/\[a,x,y,z].length=3) from fun e=>absurd e.2 (by simp)),if_neg (show ¬ ((a=fR)/\[a,x,y,z].length=3) from fun e=>absurd e.2 (by simp))]
  by_cases h1:a=e9\/a=eU
  ·rw [if_pos h1,if_pos (show (a=e9\/a=eU)/\[a,x,y,z].length=4 from ⟨h1,rfl⟩)]
   unfold rB
   cases hm:cA x with
   | none=>exact .inr ⟨rfl,by simp⟩
   | some m=>
    cases hn:cA y with
    | none=>exact .inr ⟨rfl,by simp⟩
    | some n=>exact .inl ⟨_,rfl,by rw [iH hn,iH hm];simp⟩
  ·rw [if_neg h1,if_neg (show ¬ ((a=e9\/a=eU)/\[a,x,y,z].length=4) from fun e=>h1 e.1)];exact .inr ⟨rfl,rfl⟩
 | a :: x :: y :: z :: u :: r,_=>exact .inr ⟨rfl,by simp⟩
theorem C9 (o:D aA) (s:aG):(cD o true s).2=true:=by
 unfold cD;simp only [Bool.true_or]
 split
 ·rfl
 ·split
  ·rfl
  ·split
   ·rfl
   ·split
    ·rfl
    ·split <;> rfl
theorem Da (o:D aA) (b:Bool) (s:aG) :
  (cD o b s).1.1.length<=o.1.length + 1/\(cD o b s).1.2.1.length<=o.2.1.length + 1/\(cD o b s).1.2.2.1.length<=o.2.2.1.length + 1/\(cD o b s).1.2.2.2.1.length<=o.2.2.2.1.length + 1:=by
 have e:∀{α:Type} (l:List α) (x:α),(l++[x]).length<=l.length + 1:=fun l x=>by simp
 have e0:∀n:Nat,n<=n + 1:=fun n=>Nat.le_succ n
 unfold cD
 simp only
 split
 ·exact ⟨e _ _,e0 _,e0 _,e0 _⟩
 ·split
  ·exact ⟨e0 _,e _ _,e0 _,e0 _⟩
  ·split
   ·exact ⟨e0 _,e0 _,e _ _,e0 _⟩
   ·split
    ·exact ⟨e0 _,e0 _,e0 _,e _ _⟩
    ·split
     ·exact ⟨e0 _,e0 _,e0 _,e _ _⟩
     ·exact ⟨e0 _,e0 _,e0 _,e0 _⟩
structure fc (L:List aG) (i:Nat) (o:D aA) (b:Bool):Prop where
 le:i<=L.length
 st:(run je (bF aA) (L.take i)=some o/\b=false)\/(run je (bF aA) (L.take i)=none/\b=true)
 l1:o.1.length<=i
 l2:o.2.1.length<=i
 l3:o.2.2.1.length<=i
 l4:o.2.2.2.1.length<=i
theorem fc.zero (L:List aG):fc L 0 (bF aA) false:=⟨Nat.zero_le _, .inl ⟨rfl,rfl⟩,Nat.le_refl _,Nat.le_refl _,Nat.le_refl _,Nat.le_refl _⟩
theorem fc.next {L:List aG} {i:Nat} {o:D aA} {b:Bool} (h:fc L i o b) (hi:i < L.length):fc L (i + 1) (cD o b (nth .str L i)).1 (cD o b (nth .str L i)).2:=by
 obtain ⟨a1,a2,a3,a4⟩:=Da o b (nth .str L i)
 refine ⟨hi,?_,by have:=h.l1;omega,by have:=h.l2;omega,by have:=h.l3;omega,by have:=h.l4;omega⟩
 rw [gl (t:=.str) hi,xk]
 rcases h.st with ⟨hr,hb⟩ | ⟨hr,hb⟩
 ·rw [hr,Option.bind_some]
  rcases Bs o b (nth .str L i) with ⟨p,h1,h2⟩ | ⟨h1,h2⟩
  ·rw [h2];exact .inl ⟨h1,hb⟩
  ·exact .inr ⟨h1,h2⟩
 ·rw [hr,hb];exact .inr ⟨rfl,C9 o _⟩
end Go.Mrl

namespace Go.Mrl
open Go.Vg
abbrev FI:=Unit × List (List UInt8) × List Int × List (D aF) × List (D aI) × (Bool × Unit) × Unit
def EN (x:FI):D aA:=(x.2.1,x.2.2.1,x.2.2.2.1,x.2.2.2.2.1,())
def Db (p:D aA × Bool):FI:=((),p.1.1,p.1.2.1,p.1.2.2.1,p.1.2.2.2.1,(p.2,()),())
theorem xn (s p:aG):(Lib.trimPrefix s p).length<=s.length:=by unfold Lib.trimPrefix;split <;> simp
theorem Aa {s:aG} {w:List aG} (hw:w=parts 32 (Lib.trimPrefix s bO)) (i:Nat):(nth .str w i).length<=s.length:=by
 by_cases h:i < w.length
 ·have h1:=eY (t:=.str) h
  rw [hw] at h1
  have:=jy _ _ _ h1
  rw [<-hw] at this
  exact Nat.le_trans this (xn _ _)
 ·unfold nth;rw [List.getD_eq_getElem?_getD,List.getElem?_eq_none (by omega)];exact Nat.zero_le _
theorem EO {s:aG} {w:List aG} (hw:w=parts 32 (Lib.trimPrefix s bO)):0 < w.length:=by rw [hw];exact List.length_pos_iff.2 (ru _ _)
theorem fz {c:Bool} {P:Prop} (q:c=true ↔ P) (h:c=false):¬ P:=fun p=>by rw [q.2 p] at h;cases h
section
variable {o:D aA} {b:Bool} {s:aG} {w:List aG} (hw:w=parts 32 (Lib.trimPrefix s bO))
include hw
theorem Bt (h:nth .str w 0=en/\w.length=2):cD o b s=(jC o (nth .str w 1),b):=by
 unfold cD;simp only;rw [<-hw,if_pos h]
theorem Bu (h0:¬ (nth .str w 0=en/\w.length=2)) (h:nth .str w 0=ed/\w.length=2):cD o b s=(jD o (b8 (nth .str w 1)).1,b || (cA (nth .str w 1)).isNone):=by
 unfold cD;simp only;rw [<-hw,if_neg h0,if_pos h]
theorem Dc (h0:¬ (nth .str w 0=en/\w.length=2)) (h1:¬ (nth .str w 0=ed/\w.length=2)) (h:nth .str w 0=dz/\w.length=3) :
  cD o b s=(mU o (nth .str w 1,(b8 (nth .str w 2)).1,Lib.hasPrefix s bO,()),b || (cA (nth .str w 2)).isNone):=by
 unfold cD;simp only;rw [<-hw,if_neg h0,if_neg h1,if_pos h]
theorem Bv (h0:¬ (nth .str w 0=en/\w.length=2)) (h1:¬ (nth .str w 0=ed/\w.length=2)) (h2:¬ (nth .str w 0=dz/\w.length=3)) (h:nth .str w 0=fR/\w.length=3) :
  cD o b s=(jd o ((b8 (nth .str w 1)).1,1,(b8 (nth .str w 2)).1,[],false,()),(b || (cA (nth .str w 1)).isNone) || (cA (nth .str w 2)).isNone):=by
 unfold cD;simp only;rw [<-hw,if_neg h0,if_neg h1,if_neg h2,if_pos h]
theorem uR (h0:¬ (nth .str w 0=en/\w.length=2)) (h1:¬ (nth .str w 0=ed/\w.length=2)) (h2:¬ (nth .str w 0=dz/\w.length=3)) (h3:¬ (nth .str w 0=fR/\w.length=3))
  (h:(nth .str w 0=e9\/nth .str w 0=eU)/\w.length=4) {k:Int} (hk:k=if nth .str w 0=eU then 3 else 2) :
  cD o b s=(jd o ((b8 (nth .str w 1)).1,k,(b8 (nth .str w 2)).1,nth .str w 3,Lib.hasPrefix s bO,()),(b || (cA (nth .str w 1)).isNone) || (cA (nth .str w 2)).isNone):=by
 unfold cD;simp only;rw [<-hw,if_neg h0,if_neg h1,if_neg h2,if_neg h3,if_pos h,hk]
theorem Bw (h0:¬ (nth .str w 0=en/\w.length=2)) (h1:¬ (nth .str w 0=ed/\w.length=2)) (h2:¬ (nth .str w 0=dz/\w.length=3)) (h3:¬ (nth .str w 0=fR/\w.length=3))
  (h:¬ ((nth .str w 0=e9\/nth .str w 0=eU)/\w.length=4)):cD o b s=(o,true):=by
 unfold cD;simp only;rw [<-hw,if_neg h0,if_neg h1,if_neg h2,if_neg h3,if_neg h]
end
end Go.Mrl

namespace Go.Mrl
open Go.Vg
end Go.Mrl

namespace Go.Mrl
open Go.Vg
noncomputable def gZ (s:aG):D aA × aS:=((bP s).1,aV (bP s).2)
theorem Bx {s:aG} (h:s.length > 1200):(bF aA,aS.no 2)=gZ s:=by unfold gZ;rw [uQ h];rfl
theorem fc.run {L:List aG} {i:Nat} {o:D aA} {b:Bool} (h:fc L i o b) (hi:¬ i < L.length):(run je (bF aA) L=some o/\b=false)\/(run je (bF aA) L=none/\b=true):=by
 have:=h.st
 rwa [List.take_of_length_le (by omega)] at this
theorem pD {s:aG} {i:Nat} {o:D aA} {b:Bool} (h:fc (parts 10 (Lib.trimSuffix s [10])) i o b) (hi:¬ i < (parts 10 (Lib.trimSuffix s [10])).length) (hl:¬ s.length > 1200)
  (hb:b=true\/(bu o).2.isNil=false\/¬ (bu o).1=s):(bF aA,aS.no 4)=gZ s:=by
 have:bP s=(bF aA,4):=by
  rcases h.run hi with ⟨hr,h0⟩ | ⟨hr,h0⟩
  ·rcases hb with hb | hb | hb
   ·rw [hb] at h0;cases h0
   ·refine sV hl hr fun hf ht => ?_
    rw [jB hf rfl (by show (cy o).length<=1200;rw [ht];omega)] at hb
    cases hb
   ·refine sV hl hr fun hf ht=>hb ?_
    rw [jB hf rfl (by show (cy o).length<=1200;rw [ht];omega)]
    exact ht
  ·exact Br hl hr
 unfold gZ;rw [this];rfl
theorem EP {s:aG} {o:D aA} (hl:¬ s.length > 1200)
  (hn:(bu o).2.isNil=true) (ht:(bu o).1=s):(o,aS.nil)=gZ s:=by
 have hf:bt o=0:=by
  apply Classical.byContradiction;intro hf
  rw [lX hf] at hn
  exact hf (aY.1 hn)
 have hs:cy o=s:=by
  by_cases h:(cy o).length > 1200
  ·rw [kI hf rfl h] at hn;cases hn
  ·rw [jB hf rfl (by show (cy o).length<=1200;omega)] at ht;exact ht
 unfold gZ;rw [mV hl hf hs];rfl
theorem Ge (s p:aG):(Lib.trimSuffix s p).length<=s.length:=by unfold Lib.trimSuffix;split <;> simp
theorem Dd (s:aG) (h:s.length<=1200):(parts 10 (Lib.trimSuffix s [10])).length<=1201:=by
 have h1:=px 10 (Lib.trimSuffix s [10])
 have h2:(Lib.trimSuffix s [10]).length<=s.length:=by unfold Lib.trimSuffix;split <;> simp
 omega
theorem By {s:aG} (h:s.length<=1200) (i:Nat):(nth .str (parts 10 (Lib.trimSuffix s [10])) i).length<=1200:=by
 by_cases hi:i < (parts 10 (Lib.trimSuffix s [10])).length
 ·have:=jy _ _ _ (eY (t:=.str) hi)
  have h2:(Lib.trimSuffix s [10]).length<=s.length:=by unfold Lib.trimSuffix;split <;> simp
  omega
 ·unfold nth;rw [List.getD_eq_getElem?_getD,List.getElem?_eq_none (by omega)];exact Nat.zero_le _
end Go.Mrl

namespace Go.Mrl
open Go.Vg
abbrev Rd:=aG->aG × Int × Int
structure er (rd:Rd):Prop where
 code:∀s,(rd s).2.2=0\/(rd s).2.2=5
 HG:∃K:List aG,K.length<=6/\∀s,(rd s).2.2=0->s∈K
def cp (ns l:List aG):List aG:=l.foldl (fun ns s=>if ns.any (· == s)=true then ns else ns++[s]) ns
noncomputable def dM (rd:Rd) (s:aG):D aA:=(bP (rd s).1).1
noncomputable def bS (rd:Rd) (s:aG):Int:=if (rd s).2.2=0 then (bP (rd s).1).2 else (rd s).2.2
noncomputable def fE (rd:Rd):Nat->Nat->List aG->List (D aA)->List aG × List (D aA) × Int
 | 0,_,ns,os=>(ns,os,0)
 | k + 1,i,ns,os=>
  if i < ns.length then
   if bS rd (nth .str ns i)=0 then fE rd k (i + 1) (cp ns (dM rd (nth .str ns i)).1) (os++[dM rd (nth .str ns i)])
   else ([],[],bS rd (nth .str ns i))
  else (ns,os,0)
noncomputable def aP (rd:Rd) (root:aG):List aG × List (D aA) × Int:=fE rd 7 0 [root] []
theorem sW (s:aG):((bP s).2=0/\bt (bP s).1=0/\cy (bP s).1=s)\/bP s=(bF aA,2)\/bP s=(bF aA,4):=by
 by_cases h:s.length > 1200
 ·exact .inr (.inl (uQ h))
 ·by_cases h2:∃o:D aA,bt o=0/\cy o=s
  ·obtain ⟨o,h3,h4⟩:=h2
   rw [mV h h3 h4];exact .inl ⟨rfl,h3,h4⟩
  ·exact .inr (.inr (rE h fun o h3 h4=>h2 ⟨o,h3,h4⟩))
theorem yI (s:aG):0<=(bP s).2:=by
 rcases sW s with ⟨h,_⟩ | h | h <;> rw [h] <;> decide
theorem sX {s:aG} (h:(bP s).2=0):bt (bP s).1=0:=by
 rcases sW s with ⟨_,h,_⟩ | h' | h'
 ·exact h
 ·rw [h'] at h;cases h
 ·rw [h'] at h;cases h
theorem tJ {rd:Rd} (h:er rd) (s:aG):0<=bS rd s:=by
 unfold bS
 split
 ·exact yI _
 ·rcases h.code s with e | e <;> rw [e] <;> decide
theorem lq {rd:Rd} (h:er rd) {s:aG} (e:bS rd s=0):(rd s).2.2=0/\(bP (rd s).1).2=0:=by
 unfold bS at e
 rcases h.code s with c | c
 ·rw [if_pos c] at e;exact ⟨c,e⟩
 ·rw [if_neg (by rw [c];decide),c] at e;cases e
theorem pE {rd:Rd} {s:aG} (e:¬ (rd s).2.2=0):bS rd s=(rd s).2.2:=by unfold bS;rw [if_neg e]
theorem mo {rd:Rd} {s:aG} (e:(rd s).2.2=0):bS rd s=(bP (rd s).1).2:=by unfold bS;rw [if_pos e]
theorem xp (ns:List aG):cp ns []=ns:=rfl
theorem pF (ns l:List aG) (s:aG):cp ns (s :: l)=cp (if ns.any (· == s)=true then ns else ns++[s]) l:=rfl
theorem De (ns l:List aG) (s:aG):cp ns (l++[s])=if (cp ns l).any (· == s)=true then cp ns l else cp ns l++[s]:=by
 unfold cp;rw [List.foldl_append];rfl
theorem Ab {ns:List aG} {s:aG}:ns.any (· == s)=true ↔ s∈ns:=by
 rw [List.any_eq_true]
 constructor
 ·rintro ⟨x,hx,e⟩;rw [<-(by simpa using e:x=s)];exact hx
 ·intro h;exact ⟨s,h,by simp⟩
theorem jG:∀(l ns:List aG),∃r,cp ns l=ns++r/\r.length<=l.length/\∀s∈r,s∈l
 | [],ns=>⟨[],by simp [xp],by simp,by simp⟩
 | x :: l,ns=>by
  rw [pF]
  split
  ·obtain ⟨r,h1,h2,h3⟩:=jG l ns
   exact ⟨r,h1,by simp;omega,fun s hs=>by simp [h3 s hs]⟩
  ·obtain ⟨r,h1,h2,h3⟩:=jG l (ns++[x])
   refine ⟨x :: r,by rw [h1];simp,by simp;omega,fun s hs => ?_⟩
   rcases List.mem_cons.1 hs with rfl | hs
   ·simp
   ·simp [h3 s hs]
theorem nT:∀(l ns:List aG),ns.Nodup->(cp ns l).Nodup
 | [],ns,h=>h
 | x :: l,ns,h=>by
  rw [pF]
  split
  ·exact nT l ns h
  ·rename_i hx
   refine nT l _ ?_
   rw [List.nodup_append]
   refine ⟨h,by simp,fun a ha b hb e=>hx (Ab.2 ?_)⟩
   simp at hb;subst hb;exact e▸ha
theorem xq:∀(l ns:List aG),∀s∈l,s∈cp ns l
 | [],_,s,h=>by simp at h
 | x :: l,ns,s,h=>by
  rw [pF]
  rcases List.mem_cons.1 h with rfl | h
  ·split
   ·rename_i hx
    obtain ⟨r,h1,_⟩:=jG l ns
    rw [h1];exact List.mem_append_left _ (Ab.1 hx)
   ·obtain ⟨r,h1,_⟩:=jG l (ns++[s])
    rw [h1];simp
  ·exact xq l _ s h
theorem uS {ns l:List aG} {i:Nat} (h:i < l.length):cp ns (l.take (i + 1))=if (cp ns (l.take i)).any (· == nth .str l i)=true then cp ns (l.take i) else cp ns (l.take i)++[nth .str l i]:=by
 rw [gl (t:=.str) h,De]
theorem uT {t:Ty} {a b:List (D t)} {i:Nat} (h:i < a.length):nth t (a++b) i=nth t a i:=by rw [nM,if_pos h]
structure eQ (rd:Rd) (root:aG) (i:Nat) (ns:List aG) (os:List (D aA)):Prop where
 eq:fE rd (7 - i) i ns os=aP rd root
 le:i<=6
 lo:i<=ns.length
 pos:0 < ns.length
 len:os.length=i
 hi:ns.length<=1 + 4 * i
 head:nth .str ns 0=root
 nd:ns.Nodup
 Ac:∀j,j < i->bS rd (nth .str ns j)=0/\nth aA os j=dM rd (nth .str ns j)
 want:∀j,j < ns.length->j≠0->∃k,k < i/\k < j/\nth .str ns j∈(nth aA os k).1
 pB:∀j,j < i->∀s∈(nth aA os j).1,s∈ns
theorem eQ.zero (rd:Rd) (root:aG):eQ rd root 0 [root] []:=
 ⟨rfl,by omega,by simp,by simp,rfl,by simp,rfl,by simp,fun j h=>by omega,fun j h h'=>by simp at h;omega,fun j h=>by omega⟩
theorem eQ.room {rd:Rd} {root:aG} {i:Nat} {ns:List aG} {os:List (D aA)} (ok:er rd) (h:eQ rd root i ns os) (hi:i < ns.length) (hf:bS rd (nth .str ns i)=0):i + 1<=6:=by
 obtain ⟨K,hK,hm⟩:=ok.HG
 have hsub:∀y∈ns.take (i + 1),y∈K:=by
  intro y hy
  obtain ⟨j,hj,rfl⟩:=p8 (t:=.str) hy
  rw [List.length_take] at hj
  rw [wX (t:=.str) (by omega)]
  refine hm _ (lq ok ?_).1
  rcases Nat.lt_or_ge j i with hl | hl
  ·exact (h.Ac j hl).1
  ·rw [show j=i by omega];exact hf
 have:=uz (h.nd.sublist (List.take_sublist (i + 1) ns)) hsub
 rw [List.length_take] at this
 omega
theorem eQ.fuel {rd:Rd} {root:aG} {i:Nat} {ns:List aG} {os:List (D aA)} (h:eQ rd root i ns os):fE rd (6 - i + 1) i ns os=aP rd root:=by
 rw [<-h.eq];congr 1;have:=h.le;omega
theorem eQ.bad {rd:Rd} {root:aG} {i:Nat} {ns:List aG} {os:List (D aA)} (h:eQ rd root i ns os) (hi:i < ns.length) (hf:¬ bS rd (nth .str ns i)=0) :
  aP rd root=([],[],bS rd (nth .str ns i)):=by
 rw [<-h.fuel,fE,if_pos hi,if_neg hf]
theorem eQ.done {rd:Rd} {root:aG} {i:Nat} {ns:List aG} {os:List (D aA)} (h:eQ rd root i ns os) (hi:¬ i < ns.length):aP rd root=(ns,os,0):=by
 rw [<-h.fuel,fE,if_neg hi]
theorem rF {rd:Rd} (ok:er rd) {s:aG} (hf:bS rd s=0):eP (dM rd s):=e8 (sX (lq ok hf).2)
theorem eQ.next {rd:Rd} {root:aG} {i:Nat} {ns:List aG} {os:List (D aA)} (ok:er rd) (h:eQ rd root i ns os) (hi:i < ns.length) (hf:bS rd (nth .str ns i)=0) :
  eQ rd root (i + 1) (cp ns (dM rd (nth .str ns i)).1) (os++[dM rd (nth .str ns i)]):=by
 have hr:=h.room ok hi hf
 have ho:=rF ok hf
 obtain ⟨r,h1,h2,h3⟩:=jG (dM rd (nth .str ns i)).1 ns
 have hn4:=ho.n4
 have hlen:=h.len
 have hhi:=h.hi
 have hpos:=h.pos
 have hos:nth aA (os++[dM rd (nth .str ns i)]) i=dM rd (nth .str ns i):=by rw [nM,if_neg (by omega),h.len,Nat.sub_self];rfl
 have hns:∀j,j < ns.length->nth .str (cp ns (dM rd (nth .str ns i)).1) j=nth .str ns j:=fun j hj=>by rw [h1,uT (t:=.str) hj]
 have hoj:∀j,j < i->nth aA (os++[dM rd (nth .str ns i)]) j=nth aA os j:=fun j hj=>uT (t:=aA) (by omega)
 refine ⟨?_,hr,by rw [h1,List.length_append];omega,by rw [h1,List.length_append];omega,by rw [List.length_append,h.len];rfl,by rw [h1,List.length_append];omega,
  by rw [hns 0 hpos];exact h.head,nT _ _ h.nd,fun j hj => ?_,fun j hj h0 => ?_,fun j hj s hs => ?_⟩
 ·rw [<-h.fuel,fE,if_pos hi,if_pos hf];congr 1;omega
 ·rcases Nat.lt_or_ge j i with hl | hl
  ·rw [hns j (by omega),hoj j hl];exact h.Ac j hl
  ·rw [show j=i by omega,hns i hi,hos];exact ⟨hf,rfl⟩
 ·rcases Nat.lt_or_ge j ns.length with hl | hl
  ·obtain ⟨k,k1,k2,k3⟩:=h.want j hl h0
   exact ⟨k,by omega,k2,by rw [hns j hl,hoj k k1];exact k3⟩
  ·refine ⟨i,by omega,by omega,?_⟩
   rw [hos,h1,nM,if_neg (by omega)]
   refine h3 _ (eY (t:=.str) ?_)
   rw [h1,List.length_append] at hj;omega
 ·rcases Nat.lt_or_ge j i with hl | hl
  ·rw [hoj j hl] at hs
   rw [h1];exact List.mem_append_left _ (h.pB j hl s hs)
  ·rw [show j=i by omega,hos] at hs
   exact xq _ _ s hs
structure Scope (rd:Rd) (root:aG) (ns:List aG) (os:List (D aA)):Prop where
 le:ns.length<=6
 pos:0 < ns.length
 len:os.length=ns.length
 head:nth .str ns 0=root
 nd:ns.Nodup
 Ac:∀j,j < ns.length->bS rd (nth .str ns j)=0/\nth aA os j=dM rd (nth .str ns j)
 want:∀j,j < ns.length->j≠0->∃k,k < j/\nth .str ns j∈(nth aA os k).1
 pB:∀j,j < ns.length->∀s∈(nth aA os j).1,s∈ns
theorem sY {rd:Rd} {root:aG} (ok:er rd):∀(m i:Nat) (ns:List aG) (os:List (D aA)),m=7 - i->eQ rd root i ns os->
  (∃f,0 < f/\aP rd root=([],[],f))\/(∃ns os,aP rd root=(ns,os,0)/\Scope rd root ns os)
 | 0,i,ns,os,hm,h=>by have:=h.le;omega
 | m + 1,i,ns,os,hm,h=>by
  by_cases hi:i < ns.length
  ·by_cases hf:bS rd (nth .str ns i)=0
   ·exact sY ok m (i + 1) _ _ (by omega) (h.next ok hi hf)
   ·have:=tJ ok (nth .str ns i)
    exact .inl ⟨_,by omega,h.bad hi hf⟩
  ·have h1:=h.lo
   have h2:=h.le
   have e:i=ns.length:=by omega
   subst e
   exact .inr ⟨ns,os,h.done hi,h2,h.pos,h.len,h.head,h.nd,h.Ac,fun j hj h0=>let ⟨k,_,k2,k3⟩:=h.want j hj h0;⟨k,k2,k3⟩,h.pB⟩
theorem qF {rd:Rd} (ok:er rd) (root:aG):(∃f,0 < f/\aP rd root=([],[],f))\/(∃ns os,aP rd root=(ns,os,0)/\Scope rd root ns os):=
 sY ok 7 0 _ _ rfl (eQ.zero rd root)
theorem rG {rd:Rd} (ok:er rd) {root:aG} (h:(aP rd root).2.2=0):Scope rd root (aP rd root).1 (aP rd root).2.1:=by
 rcases qF ok root with ⟨f,hf,e⟩ | ⟨ns,os,e,h'⟩
 ·rw [e] at h;simp only at h;omega
 ·rw [e];exact h'
theorem fj {x:fw} (h:x.2.1.1.length<=6):er (aZ x):=by
 refine ⟨fun s => ?_,x.2.1.1.map ph,by rw [List.length_map];exact h,fun s hs => ?_⟩
 ·unfold aZ;split
  ·exact .inl rfl
  ·exact .inr rfl
 ·by_cases c:cb cj x.2.1.1 s=true
  ·obtain ⟨y,hy,e⟩:=nP.1 c
   rw [<-e];exact List.mem_map_of_mem hy
  ·rw [lT (by simpa using c)] at hs;cases hs
end Go.Mrl

namespace Go.Mrl
open Go.Vg
section
variable {rd:Rd} {root:aG} {i:Nat} {ns:List aG} {os:List (D aA)}
theorem eQ.ER (ok:er rd) (h:eQ rd root i ns os) (hi:i < ns.length) (he:¬ (rd (nth .str ns i)).2.2=0) :
  aP rd root=([],[],(rd (nth .str ns i)).2.2):=by
 rw [h.bad hi (by rw [pE he];exact he),pE he]
theorem eQ.Gf (h:eQ rd root i ns os) (hi:i < ns.length) (he:(rd (nth .str ns i)).2.2=0) (ho:¬ (bP (rd (nth .str ns i)).1).2=0) :
  aP rd root=([],[],(bP (rd (nth .str ns i)).1).2):=by
 rw [h.bad hi (by rw [mo he];exact ho),mo he]
theorem tK {s:aG} (he:(rd s).2.2=0) (ho:(bP (rd s).1).2=0):bS rd s=0:=by rw [mo he];exact ho
theorem eQ.HD (h:eQ rd root i ns os):os.length + 1<=1000000000:=by have:=h.len;have:=h.le;omega
theorem eQ.Ha (h:eQ rd root i ns os) (ok:er rd) {s:aG} (hf:bS rd s=0) (k:Nat):(cp ns (List.take k (dM rd s).1)).length + 1<=1000000000:=by
 obtain ⟨r,h1,h2,_⟩:=jG (List.take k (dM rd s).1) ns
 have:=(rF ok hf).n4
 have:=h.hi
 have:=h.le
 rw [h1,List.length_append]
 rw [List.length_take] at h2
 omega
theorem Ad {l:List aG} {k:Nat} (h:k < l.length) (hn:(cp ns (l.take k)).any (fun x=>x == nth .str l k)=false):cp ns (l.take k)++[nth .str l k]=cp ns (l.take (k + 1)):=by
 rw [uS h,if_neg (by rw [hn];exact Bool.false_ne_true)]
theorem Ae {l:List aG} {k:Nat} (h:k < l.length) (hn:(cp ns (l.take k)).any (fun x=>x == nth .str l k)=true):cp ns (l.take k)=cp ns (l.take (k + 1)):=by
 rw [uS h,if_pos hn]
theorem Af {l:List aG} {k:Nat} (h:¬ k < l.length):cp ns (l.take k)=cp ns l:=by rw [List.take_of_length_le (by omega)]
end
end Go.Mrl

namespace Go.Mrl
open Go.Vg
end Go.Mrl
namespace Go.Mrl
open Go.Vg
end Go.Mrl

namespace Go.Mrl
open Go.Vg
end Go.Mrl

namespace Go.Mrl
open Go.Vg
def bD (l:List (D aA)):List Int:=l.map fun o=>(o.2.1.length:Int)
def bE (l:List (D aA)):Ws:=l.map fun o=>o.2.1
theorem Bz (l:List (D aA)):(bD l).length=l.length:=by simp [bD]
theorem jh (l:List (D aA)):(bE l).length=l.length:=by simp [bE]
theorem Gg {t u:Ty} {f:D u->D t} {l:List (D u)} {i:Nat} (h:i < l.length):nth t (l.map f) i=f (nth u l i):=by
 unfold nth;rw [List.getD_eq_getElem?_getD,List.getD_eq_getElem?_getD,List.getElem?_map,List.getElem?_eq_getElem h];rfl
theorem sZ {l:List (D aA)} {i:Nat} (h:i < l.length):nth cP (bE l) i=(nth aA l i).2.1:=Gg (u:=aA) (t:=cP) h
theorem qG {l:List (D aA)} {i:Nat} (h:i < l.length):bD (l.take (i + 1))=bD (l.take i)++[((nth aA l i).2.1.length:Int)]:=by
 unfold bD;rw [lS (t:=aA) h];simp
theorem qH {l:List (D aA)} {i:Nat} (h:i < l.length):bE (l.take (i + 1))=bE (l.take i)++[(nth aA l i).2.1]:=by
 unfold bE;rw [lS (t:=aA) h];simp
noncomputable def BA (l:List (D aA)) (b:List Int) (i:Nat) (ts:List (D aI)):List Pt:=ts.map fun t=>((i:Int),t.1,(cZ l b i t).1,())
noncomputable def pG (l:List (D aA)) (b:List Int):List (D aA)->Nat->List Pt
 | [],_=>[]
 | o :: r,i=>BA l b i o.2.2.2.1++pG l b r (i + 1)
theorem Ag {l:List (D aA)} {b:List Int} {i:Nat}:∀{ts:List (D aI)} {out:List Pt},(gX l b i ts out).2.isNil=true->gX l b i ts out=(out++BA l b i ts, .nil)/\∀t∈ts,(cZ l b i t).2.isNil=true
 | [],out,_=>⟨by simp [gX,BA],by simp⟩
 | t :: r,out,h=>by
  rw [gX] at h ⊢
  by_cases c:(cZ l b i t).2.isNil=true
  ·rw [if_pos c] at h ⊢
   obtain ⟨h1,h2⟩:=Ag h
   refine ⟨by rw [h1];simp [BA],fun u hu => ?_⟩
   rcases List.mem_cons.1 hu with rfl | hu
   ·exact c
   ·exact h2 u hu
  ·rw [if_neg c] at h;exact absurd h c
theorem Ah {l:List (D aA)} {b:List Int}:∀{os:List (D aA)} {i:Nat} {out:List Pt},(gH l b os i out).2.isNil=true->gH l b os i out=(out++pG l b os i, .nil)/\
  ∀k,k < os.length->∀t∈(nth aA os k).2.2.2.1,(cZ l b ((i + k:Nat):Int) t).2.isNil=true
 | [],i,out,_=>⟨by simp [gH,pG],fun k hk=>by simp at hk⟩
 | o :: r,i,out,h=>by
  rw [gH] at h ⊢
  unfold ib at h ⊢
  by_cases c:(gX l b i o.2.2.2.1 out).2.isNil=true
  ·rw [if_pos c] at h ⊢
   obtain ⟨h1,h2⟩:=Ag c
   obtain ⟨h3,h4⟩:=Ah h
   refine ⟨by rw [h3,h1];simp [pG],fun k hk => ?_⟩
   rcases k with _ | k
   ·exact h2
   ·have:=h4 k (by simpa using hk)
    rw [show i + 1 + k=i + (k + 1) by omega] at this
    exact this
  ·rw [if_neg c] at h;exact absurd h c
theorem ES {l:List (D aA)} {b:List Int} (h:(bY (l,b)).2.isNil=true):b.length=l.length/\ji b/\(bY (l,b)).1=pG l b l 0/\∀k,k < l.length->∀t∈(nth aA l k).2.2.2.1,(cZ l b (k:Int) t).2.isNil=true:=by
 have h':=h
 unfold bY at h ⊢
 split at h
 ·cases h
 ·rename_i hl
  split at h
  ·rename_i hb
   obtain ⟨h1,h2⟩:=Ah h
   refine ⟨Classical.byContradiction hl,hb,?_,fun k hk t ht=>by have:=h2 k hk t ht;rwa [Nat.zero_add] at this⟩
   rw [if_neg hl,if_pos hb,h1];rfl
  ·cases h
theorem xr {l:List (D aA)} {b:List Int}:∀{os:List (D aA)} {i:Nat} {p:Pt},p∈pG l b os i->∃k t,k < os.length/\t∈(nth aA os k).2.2.2.1/\p=(((i + k:Nat):Int),t.1,(cZ l b ((i + k:Nat):Int) t).1,())
 | [],i,p,h=>by simp [pG] at h
 | o :: r,i,p,h=>by
  rcases List.mem_append.1 h with h | h
  ·obtain ⟨t,ht,rfl⟩:=List.mem_map.1 h
   exact ⟨0,t,by simp,ht,rfl⟩
  ·obtain ⟨k,t,hk,ht,rfl⟩:=xr h
   exact ⟨k + 1,t,by simp;omega,ht,by rw [show i + 1 + k=i + (k + 1) by omega]⟩
theorem s0 (x:List Int × List (D aO)):Told (bH x).2:=by
 unfold bH
 split
 ·rfl
 ·split
  ·rfl
  ·split <;> rfl
theorem ET (x:Ws × List Pt):Told (cR x).2:=by
 unfold cR;split <;> rfl
theorem nU {e:aS} (h:Told e):aV (cz e)=e:=by
 cases e with
 | nil=>rfl
 | no m=>
  have h':0 < m:=by have:=h;simpa [Told,p6,cz] using this
  have h2:¬ m=0:=by omega
  show aV m=_
  unfold aV
  rw [if_neg h2]
 | other=>unfold Told at h;simp [p6] at h
theorem rH {e:aS} (h:Told e) (hn:e.isNil=false):0 < cz e:=by
 cases e with
 | nil=>cases hn
 | no m=>
  have h':0 < m:=by have:=h;simpa [Told,p6,cz] using this
  exact h'
 | other=>unfold Told at h;simp [p6] at h
abbrev Rk:=List aG × List (D aA) × List Int × List Pt × Int
noncomputable def bd (rd:Rd) (root:aG):Rk:=
 if ¬ (aP rd root).2.2=0 then ([],[],[],[],(aP rd root).2.2)
 else if (bH (bD (aP rd root).2.1,[])).2.isNil=false then ([],[],[],[],cz (bH (bD (aP rd root).2.1,[])).2)
 else if (bY ((aP rd root).2.1,(bH (bD (aP rd root).2.1,[])).1)).2.isNil=false then ([],[],[],[],cz (bY ((aP rd root).2.1,(bH (bD (aP rd root).2.1,[])).1)).2)
 else ((aP rd root).1,(aP rd root).2.1,(bH (bD (aP rd root).2.1,[])).1,(bY ((aP rd root).2.1,(bH (bD (aP rd root).2.1,[])).1)).1,0)
theorem pH {rd:Rd} {root:aG} (h:¬ (aP rd root).2.2=0):bd rd root=([],[],[],[],(aP rd root).2.2):=by unfold bd;rw [if_pos h]
theorem pI {rd:Rd} {root:aG} (h:(aP rd root).2.2=0) (h1:(bH (bD (aP rd root).2.1,[])).2.isNil=false):bd rd root=([],[],[],[],cz (bH (bD (aP rd root).2.1,[])).2):=by
 unfold bd;rw [if_neg (not_not_intro h),if_pos h1]
theorem nV {rd:Rd} {root:aG} (h:(aP rd root).2.2=0) (h1:(bH (bD (aP rd root).2.1,[])).2.isNil=true) (h2:(bY ((aP rd root).2.1,(bH (bD (aP rd root).2.1,[])).1)).2.isNil=false) :
  bd rd root=([],[],[],[],cz (bY ((aP rd root).2.1,(bH (bD (aP rd root).2.1,[])).1)).2):=by
 unfold bd;rw [if_neg (not_not_intro h),if_neg (by rw [h1];decide),if_pos h2]
theorem mq {rd:Rd} {root:aG} (h:(aP rd root).2.2=0) (h1:(bH (bD (aP rd root).2.1,[])).2.isNil=true) (h2:(bY ((aP rd root).2.1,(bH (bD (aP rd root).2.1,[])).1)).2.isNil=true) :
  bd rd root=((aP rd root).1,(aP rd root).2.1,(bH (bD (aP rd root).2.1,[])).1,(bY ((aP rd root).2.1,(bH (bD (aP rd root).2.1,[])).1)).1,0):=by
 unfold bd;rw [if_neg (not_not_intro h),if_neg (by rw [h1];decide),if_neg (by rw [h2];decide)]
structure tL (rd:Rd) (root:aG) (ns:List aG) (os:List (D aA)) (bs:List Int) (ps:List Pt):Prop where
 e:aP rd root=(ns,os,0)
 sc:Scope rd root ns os
 eb:bH (bD os,[])=(bs, .nil)
 ea:bY (os,bs)=(ps, .nil)
 bl:bs.length=os.length
 bi:ji bs
 pt:ps=pG os bs os 0
 one:∀k,k < os.length->∀t∈(nth aA os k).2.2.2.1,(cZ os bs (k:Int) t).2.isNil=true
 HH:∀i,i < ps.length->mQ (bE os) (nth bm ps i)
theorem pJ {e:aS} (h:e.isNil=true):e = .nil:=by cases e <;> first | rfl | cases h
theorem Scope.obj {rd:Rd} {root:aG} {ns:List aG} {os:List (D aA)} (ok:er rd) (h:Scope rd root ns os) {i:Nat} (hi:i < os.length):eP (nth aA os i):=by
 have:=h.Ac i (by rw [<-h.len];exact hi)
 rw [this.2];exact rF ok this.1
theorem eP.BB {o:D aA} (h:eP o):FF o:=by
 refine ⟨by have:=h.t6;omega,fun i hi => ?_,fun i hi => ?_⟩
 ·have:=(h.sym hi).2;unfold jc at this;unfold Small;omega
 ·have:=h.tie hi
  have a:=this.a
  have w:=this.w
  unfold jc at a w
  unfold Small Word
  omega
theorem Scope.BB {rd:Rd} {root:aG} {ns:List aG} {os:List (D aA)} (ok:er rd) (h:Scope rd root ns os):df os:=⟨by have:=h.le;have:=h.len;omega,fun _ hi=>(h.obj ok hi).BB⟩
theorem Df {a n:Int} (h:a<=n - 1):a < n:=by omega
theorem yJ {o:D aA} (h:bt o=0):cQ o.2.1.length [] o.2.2.1=0/\eH o.2.1.length none o.2.2.2.1=0:=by
 unfold bt at h
 split at h
 ·cases h
 ·split at h
  ·rename_i h1;exact absurd h h1
  ·split at h
   ·rename_i h2;exact absurd h h2
   ·split at h
    ·rename_i h3;exact absurd h h3
    ·rename_i h3;exact ⟨Classical.byContradiction h3,h⟩
theorem BC {o:D aA} (h:bt o=0) {t:D aI} (ht:t∈o.2.2.2.1):0<=t.1/\t.1 < (o.2.1.length:Int):=by
 obtain ⟨p,hp⟩:=nR _ _ _ (yJ h).2 t ht
 obtain ⟨⟨a,b⟩,_⟩:=uL hp
 exact ⟨a,Df b⟩
theorem Scope.fault {rd:Rd} {root:aG} {ns:List aG} {os:List (D aA)} (ok:er rd) (h:Scope rd root ns os) {i:Nat} (hi:i < os.length):bt (nth aA os i)=0:=by
 have:=h.Ac i (by rw [<-h.len];exact hi)
 rw [this.2];exact sX (lq ok this.1).2
theorem pK {rd:Rd} (ok:er rd) (root:aG):(∃f,0 < f/\bd rd root=([],[],[],[],f))\/(∃ns os bs ps,bd rd root=(ns,os,bs,ps,0)/\tL rd root ns os bs ps):=by
 rcases qF ok root with ⟨f,hf,e⟩ | ⟨ns,os,e,sc⟩
 ·exact .inl ⟨f,hf,by rw [pH (by rw [e];simp only;omega),e]⟩
 ·have e0:(aP rd root).2.2=0:=by rw [e]
  have e1:(aP rd root).2.1=os:=by rw [e]
  have e2:(aP rd root).1=ns:=by rw [e]
  cases hb:(bH (bD os,[])).2.isNil with
  | false=>exact .inl ⟨_,rH (s0 _) hb,by rw [pI e0 (by rw [e1];exact hb),e1]⟩
  | true=>
   cases ha:(bY (os,(bH (bD os,[])).1)).2.isNil with
   | false=>exact .inl ⟨_,rH (rq _) ha,by rw [nV e0 (by rw [e1];exact hb) (by rw [e1];exact ha),e1]⟩
   | true=>
    obtain ⟨a1,a2,a3,a4⟩:=ES ha
    refine .inr ⟨ns,os,_,_,by rw [mq e0 (by rw [e1];exact hb) (by rw [e1];exact ha),e1,e2],e,sc,Prod.ext rfl (pJ hb),Prod.ext rfl (pJ ha),a1,a2,a3,a4,fun i hi => ?_⟩
    obtain ⟨k,t,hk,ht,hp⟩:=xr (by rw [<-a3];exact eY (t:=bm) hi)
    rw [hp]
    have:=BC (sc.fault ok hk) ht
    refine ⟨by simp only;omega,by simp only;rw [jh];omega,this.1,?_⟩
    simp only [Nat.zero_add]
    rw [show ((k:Int)).toNat=k from rfl,sZ hk]
    exact this.2
def dH (ns:List aG) (bs:List Int) (w:Ws) (n:Nat):List (D dZ):=(List.range n).map fun i=>(nth .str ns i,nth (.int .i64) bs i,nth cP w i,())
theorem BD (ns:List aG) (bs:List Int) (w:Ws) (n:Nat):(dH ns bs w n).length=n:=by simp [dH]
theorem qI (ns:List aG) (bs:List Int) (w:Ws) (n:Nat):dH ns bs w (n + 1)=dH ns bs w n++[(nth .str ns n,nth (.int .i64) bs n,nth cP w n,())]:=by simp [dH,List.range_succ]
noncomputable def fL (ns:List aG) (bs:List Int) (os:List (D aA)) (ps:List Pt):List (D dZ) × aS:=
 if ¬ ns.length=os.length\/¬ bs.length=os.length then ([], .no 3)
 else if (cR (bE os,ps)).2.isNil=false then ([],(cR (bE os,ps)).2)
 else (dH ns bs (cR (bE os,ps)).1 os.length, .nil)
theorem s3 {ns:List aG} {bs:List Int} {os:List (D aA)} {ps:List Pt} (h:¬ ns.length=os.length\/¬ bs.length=os.length):fL ns bs os ps=([], .no 3):=by unfold fL;rw [if_pos h]
theorem EU {ns:List aG} {bs:List Int} {os:List (D aA)} {ps:List Pt} (h:ns.length=os.length) (h':bs.length=os.length) (hp:(cR (bE os,ps)).2.isNil=false):fL ns bs os ps=([],(cR (bE os,ps)).2):=by
 unfold fL;rw [if_neg (by rintro (e | e);exact e h;exact e h'),if_pos hp]
theorem tM {ns:List aG} {bs:List Int} {os:List (D aA)} {ps:List Pt} (h:ns.length=os.length) (h':bs.length=os.length) (hp:(cR (bE os,ps)).2.isNil=true):fL ns bs os ps=(dH ns bs (cR (bE os,ps)).1 os.length, .nil):=by
 unfold fL;rw [if_neg (by rintro (e | e);exact e h;exact e h'),if_neg (by rw [hp];decide)]
theorem EV (ns:List aG) (bs:List Int) (os:List (D aA)) (ps:List Pt):Told (fL ns bs os ps).2:=by
 unfold fL;split
 ·rfl
 ·split
  ·exact ET _
  ·rfl
noncomputable def dt (rd:Rd) (root:aG):List (D dZ) × Int:=
 if ¬ (bd rd root).2.2.2.2=0 then ([],(bd rd root).2.2.2.2)
 else ((fL (bd rd root).1 (bd rd root).2.2.1 (bd rd root).2.1 (bd rd root).2.2.2.1).1,cz (fL (bd rd root).1 (bd rd root).2.2.1 (bd rd root).2.1 (bd rd root).2.2.2.1).2)
theorem tL.put {rd:Rd} {root:aG} {ns:List aG} {os:List (D aA)} {bs:List Int} {ps:List Pt} (h:tL rd root ns os bs ps):cR (bE os,ps)=(eO (bE os) ps, .nil):=p9 h.HH
theorem tL.lay {rd:Rd} {root:aG} {ns:List aG} {os:List (D aA)} {bs:List Int} {ps:List Pt} (h:tL rd root ns os bs ps):fL ns bs os ps=(dH ns bs (eO (bE os) ps) os.length, .nil):=by
 rw [tM h.sc.len.symm h.bl (by rw [h.put];rfl),h.put]
theorem xu {rd:Rd} {root:aG} (h:¬ (bd rd root).2.2.2.2=0):dt rd root=([],(bd rd root).2.2.2.2):=by unfold dt;rw [if_pos h]
theorem Gh {rd:Rd} {root:aG} {ns:List aG} {os:List (D aA)} {bs:List Int} {ps:List Pt} (e:bd rd root=(ns,os,bs,ps,0)) (h:tL rd root ns os bs ps):dt rd root=(dH ns bs (eO (bE os) ps) os.length,0):=by
 unfold dt;rw [e,if_neg (by simp),h.lay];rfl
end Go.Mrl

namespace Go.Mrl
open Go.Vg
def HI (p:D dZ) (a:Int):Prop:=(p.2.1:Int)<=a/\a < (p.2.1:Int) + (p.2.2.1.length:Int)
instance (p:D dZ) (a:Int):Decidable (HI p a):=inferInstanceAs (Decidable (_/\_))
theorem Dg {rd:Rd} (ok:er rd) {root:aG} (h:(aP rd root).2.2=0):(aP rd root).2.1.length<=6:=by
 have:=(rG ok h).le;have:=(rG ok h).len;omega
theorem BE {rd:Rd} (ok:er rd) {root:aG} (h:(aP rd root).2.2=0):df (aP rd root).2.1:=(rG ok h).BB ok
theorem Gi {l:List (D aA)} (h:l.length<=1000/\∀i,i < l.length->(nth aA l i).2.1.length<=1000) :
  (bE l).length<=100000/\∀i,i < (bE l).length->(nth cP (bE l) i).length<=100000000:=by
 refine ⟨by rw [jh];omega,fun i hi => ?_⟩
 rw [jh] at hi
 rw [sZ hi];have:=h.2 i hi;omega
theorem BF {rd:Rd} (ok:er rd) {root:aG} {ns:List aG} {os:List (D aA)} (h:Scope rd root ns os):os.length<=1000/\∀i,i < os.length->(nth aA os i).2.1.length<=1000:=by
 refine ⟨by have:=h.le;have:=h.len;omega,fun i hi => ?_⟩
 exact Nat.le_trans (h.obj ok hi).FH (by decide)
theorem xv {rd:Rd} (ok:er rd) {root:aG} (h:(bd rd root).2.2.2.2=0) :
  (bd rd root).2.1.length<=1000/\∀i,i < (bd rd root).2.1.length->(nth aA (bd rd root).2.1 i).2.1.length<=1000:=by
 rcases pK ok root with ⟨f,hf,e⟩ | ⟨ns,os,bs,ps,e,hr⟩
 ·rw [e] at h;simp at h;omega
 ·rw [e];exact BF ok hr.sc
theorem EW {rd:Rd} {root:aG} (h:(bd rd root).2.2.2.2=0) :
  ((fL (bd rd root).1 (bd rd root).2.2.1 (bd rd root).2.1 (bd rd root).2.2.2.1).1,(fL (bd rd root).1 (bd rd root).2.2.1 (bd rd root).2.1 (bd rd root).2.2.2.1).2,()) =
   ((dt rd root).1,aV (dt rd root).2,()):=by
 unfold dt;rw [if_neg (not_not_intro h)]
 simp only [nU (EV _ _ _ _)]
theorem pL {f:Int} (h:(aV f).isNil=false):¬ f=0:=fun e=>by rw [aY.2 e] at h;cases h
theorem EX (x:List (D aA) × List Int):aV (cz (bY x).2)=(bY x).2:=nU (rq x)
end Go.Mrl

namespace Go.Mrl
open Go.Vg
section
variable {o:D aA} {b:Bool} {w:List aG} {k:Nat}
end
theorem eT {k n:Nat} (h:(k:Int) < (n:Int)):(decide ((k:Int) < 3))=true ↔ ((k:Int) < (n:Int)/\(k:Int) < 3):=by
 rw [decide_eq_true_eq];omega
end Go.Mrl

namespace Go.Mrl
open Go.Vg
def FJ (e:D gV):Prop:=e.2.1.length < 1\/e.2.1.length > 6\/e.2.2.1.length > 36
instance (e:D gV):Decidable (FJ e):=by unfold FJ;infer_instance
end Go.Mrl

namespace Go.Mrl
open Go.Vg
open Classical in
noncomputable def dN (a b:D aA):Bool:=decide (a=b)
theorem s4 (a:D aA):dN a a=true:=by unfold dN;simp
theorem BG {a b:D aA} (h1:ec a.1 b.1=true) (h2:dK a.2.1 b.2.1=true) (l3:(a.2.2.1.length:Int)=b.2.2.1.length) (l4:(a.2.2.2.1.length:Int)=b.2.2.2.1.length)
  (h3:∀i,i < a.2.2.1.length->nth aF a.2.2.1 i=nth aF b.2.2.1 i) (h4:∀i,i < a.2.2.2.1.length->nth aI a.2.2.2.1 i=nth aI b.2.2.2.1 i):true=dN a b:=by
 obtain ⟨a1,a2,a3,a4,_⟩:=a
 obtain ⟨b1,b2,b3,b4,_⟩:=b
 have e1:a1=b1:=of_decide_eq_true h1
 have e2:a2=b2:=of_decide_eq_true h2
 have e3:a3=b3:=jW (t:=aF) (Int.ofNat_inj.1 l3) h3
 have e4:a4=b4:=jW (t:=aI) (Int.ofNat_inj.1 l4) h4
 rw [e1,e2,e3,e4];exact (s4 _).symm
theorem jH {a b:D aA} (h:¬ a=b):false=dN a b:=by unfold dN;simp [h]
theorem Gj {a b:D aA} (h:ec a.1 b.1=false):false=dN a b:=jH fun e=>of_decide_eq_false h (by rw [e])
theorem Gk {a b:D aA} (h:dK a.2.1 b.2.1=false):false=dN a b:=jH fun e=>of_decide_eq_false h (by rw [e])
theorem EY {a b:D aA} (h:¬ (a.2.2.1.length:Int)=b.2.2.1.length):false=dN a b:=jH fun e=>h (by rw [e])
theorem EZ {a b:D aA} (h:¬ (a.2.2.2.1.length:Int)=b.2.2.2.1.length):false=dN a b:=jH fun e=>h (by rw [e])
theorem Gl {a b:D aA} {i:Nat} (h:¬ nth aF a.2.2.1 i=nth aF b.2.2.1 i):false=dN a b:=jH fun e=>h (by rw [e])
theorem Gm {a b:D aA} {i:Nat} (h:¬ nth aI a.2.2.2.1 i=nth aI b.2.2.2.1 i):false=dN a b:=jH fun e=>h (by rw [e])
end Go.Mrl

namespace Go.Mrl
open Go.Vg
end Go.Mrl

namespace Go.Mrl
open Go.Vg
theorem Dh {rd:Rd} {root:aG} {ns:List aG} {os:List (D aA)} {bs:List Int} {ps:List Pt} {w:Ws} (h:aP rd root=(ns,os,0)) (hb:bH (bD os,[])=(bs, .nil)) (ha:bY (os,bs)=(ps, .nil))
  (hn:ns.length=os.length) (hl:bs.length=os.length) (hp:∀i,i < ps.length->mQ (bE os) (nth bm ps i)) (hw:eO (bE os) ps=w):dt rd root=(dH ns bs w os.length,0):=by
 have e:bd rd root=(ns,os,bs,ps,0):=by
  unfold bd
  rw [h]
  simp only [hb,ha,aS.isNil]
  rfl
 unfold dt
 rw [e,if_neg (by simp)]
 have hq:cR (bE os,ps)=(w, .nil):=by rw [p9 hp,hw]
 simp only
 rw [tM hn hl (by rw [hq];rfl),hq]
 rfl
theorem Di {rd:Rd} {a t:aG} {n:Int} {o:D aA} (h:rd a=(t,n,0)) (ho:bP t=(o,0)) (hn:o.1 = []):aP rd a=([a],[o],0):=by
 have fa:bS rd a=0:=by unfold bS;rw [h];show (if (0:Int)=0 then (bP t).2 else 0)=0;rw [ho];rfl
 have oa:dM rd a=o:=by unfold dM;rw [h];show (bP t).1=o;rw [ho]
 have n0:nth .str [a] 0=a:=rfl
 unfold aP
 rw [fE,if_pos (by simp),n0,if_pos fa,oa,hn,xp,fE,if_neg (by simp)]
 rfl
def rI:aG:=[110,101,101,100,32,98,10,119,111,114,100,32,48,10,119,104,111,108,101,32,48,32,48,32,120,10]
def tN:aG:=[119,111,114,100,32,55,10,115,121,109,98,111,108,32,120,32,48,10]
abbrev gD:D aA:=([[98]],[0],[],[(0,2,0,[120],false,())],())
abbrev jI:D aA:=([],[7],[([120],0,false,())],[],())
theorem FK:bP rI=(gD,0):=by
 have i0:Lib.itoa 0 = [48]:=by rw [rv (by decide) (by decide)];rfl
 refine mV (by decide) (by decide) ?_
 simp only [cy,dy,gn,gm,iw,nQ,lV,mn,cW,List.length_singleton,List.length_nil,List.take_succ_cons,List.take_zero,List.flatMap_cons,List.flatMap_nil,i0]
 decide
theorem FL:bP tN=(jI,0):=by
 have i7:Lib.itoa 7 = [55]:=by rw [rv (by decide) (by decide)];rfl
 have i0:Lib.itoa 0 = [48]:=by rw [rv (by decide) (by decide)];rfl
 refine mV (by decide) (by decide) ?_
 simp only [cy,dy,gn,gm,iw,lV,ry,cW,List.length_singleton,List.length_nil,List.take_succ_cons,List.take_zero,List.flatMap_cons,List.flatMap_nil,i7,i0]
 decide
def HJ:fw:=(bk kG [97] rI).1
def s5:fw:=(bk HJ [98] tN).1
theorem Hb:aZ s5 [97]=(rI,1,0):=by decide
theorem Hc:aZ s5 [98]=(tN,2,0):=by decide
theorem Hs:aP (aZ s5) [97]=([[97],[98]],[gD,jI],0):=by
 have fa:bS (aZ s5) [97]=0:=by unfold bS;rw [Hb];show (if (0:Int)=0 then (bP rI).2 else 0)=0;rw [FK];rfl
 have fb:bS (aZ s5) [98]=0:=by unfold bS;rw [Hc];show (if (0:Int)=0 then (bP tN).2 else 0)=0;rw [FL];rfl
 have oa:dM (aZ s5) [97]=gD:=by unfold dM;rw [Hb];show (bP rI).1=gD;rw [FK]
 have ob:dM (aZ s5) [98]=jI:=by unfold dM;rw [Hc];show (bP tN).1=jI;rw [FL]
 have n0:nth .str [[97]] 0 = [97]:=rfl
 have n1:nth .str [[97],[98]] 1 = [98]:=rfl
 have a0:cp [[97]] gD.1 = [[97],[98]]:=by decide
 have a1:cp [[97],[98]] jI.1 = [[97],[98]]:=by decide
 unfold aP
 rw [fE,if_pos (by decide),n0,if_pos fa,oa,a0,fE,if_pos (by decide),n1,if_pos fb,ob,a1,fE,if_neg (by decide)]
 rfl
theorem Gn:bJ ([gD,jI],[120])=(1,0):=by
 refine lj (i:=1) (k:=0) ⟨⟨by decide,by decide,rfl,rfl⟩,?_⟩
 rintro i k (h | ⟨_,h⟩) ⟨_,h1,_,h2⟩
 ·obtain rfl:i=0:=by omega
  exact absurd (show k < 0 from h1) (Nat.not_lt_zero _)
 ·omega
theorem Gp:dt (aZ s5) [97]=([([97],0,[16],()),([98],16,[7],())],0):=by
 refine Dh Hs (bs:=[0,16]) (ps:=[(0,0,16,())]) (w:=[[16],[7]]) rfl ?_ rfl rfl ?_ rfl
 ·rw [tG rfl (by
   intro i hi
   have:i=0\/i=1:=by simp at hi;omega
   rcases this with rfl | rfl <;> simp [nth])]
  have h1:cZ [gD,jI] [0,16] 0 (0,2,0,[120],false,())=(16, .nil):=by
   have ht:b6 [gD,jI] [0,16] (0,2,0,[120],false,())=(16, .nil):=by
    unfold b6
    show (if 0<=(bJ ([gD,jI],[120])).1 then (iZ [0,16] (bJ ([gD,jI],[120])).1.toNat + (nth aF (nth aA [gD,jI] (bJ ([gD,jI],[120])).1.toNat).2.2.1 (bJ ([gD,jI],[120])).2.toNat).2.1,aS.nil) else _)=_
    rw [Gn];rfl
   rw [mR (by decide) (by rw [ht];rfl),ht]
   exact tH (by decide) rfl (by decide)
  simp [gH,gX,ib,h1,aS.isNil]
 ·intro i hi
  obtain rfl:i=0:=by simp at hi;omega
  unfold mQ;decide
def Dj:fw:=((0 + 1 + 1,()),(bW cj (bW cj [] [97] (rI,0 + 1,()) 0) [98] (tN,0 + 1 + 1,()) (fr cj [] [97] 0),fr cj (bW cj [] [97] (rI,0 + 1,()) 0) [98] (fr cj [] [97] 0),()),())
theorem Ht:s5=Dj:=rfl
theorem rJ:dt (aZ Dj) [97]=([([97],0,[16],()),([98],16,[7],())],0):=by rw [<-Ht];exact Gp
end Go.Mrl

namespace Go.Vg
open Go
theorem yK {H:Type} {enc:TypeId × Value->H} {a:Assume} {C:Checked} {os:Os} {f:FuncId} {fn:Func} {s:ChangeSpec} {conds:List PathCond} {apart fresh handsOn again:Bool} {X:World->Array Value->Prop}
  (hX:∀(w w':World) (args:Array Value),w.heap=w'.heap->X w args->X w' args)
  (own:ownKnob C.prog.godebug=none) (started:os.Started) (noInit:C.prog.inits.idxOf? f=none) (hfn:C.prog.funcs[f]?=some fn)
  (witness:∃(w:World) (tape:Tape) (i:Input),w.os=os/\(w.forCall tape i).Shaped C.prog/\i.vars = []/\Input.okWide C.prog (w.forCall tape i) .any w.heap.size f i/\
   ((s.pre enc C.prog fn conds apart (w.forCall tape i).memory i.args/\X (w.forCall tape i).memory i.args)/\sizedMet enc C.prog fn (OpenSpec.ofChange s) apart (w.forCall tape i).memory i.args)/\a.holds C.prog (lone (Frame.enter C.prog f i.args .normal) [] (w.forCall tape i)))
  (contract:∀(W:World) (base:Nat) (args:Array Value) (ds gs:List (DataW H)) (before:List MemPlace),
   (∀(j:Nat) t v,fn.params[j]?=some t->args[j]?=some v->Value.okWide C.prog W .any base t v)->
   DataW.Whole enc C.prog fn.params.toList s.vars apart W args.toList ds gs before->
   X W args->W.ShapedOpen C.prog->
   Calls C.prog f args W fun e W'=>∃v,e = .returned v/\s.post enc C.prog fn apart fresh handsOn again W args v W') :
  ReturnsInHanded a C os f .any (fun w args=>(s.pre enc C.prog fn conds apart w args/\X w args)/\sizedMet enc C.prog fn (OpenSpec.ofChange s) apart w args) (s.post enc C.prog fn apart fresh handsOn again):=by
 refine returnsInHanded_of_calls own started noInit witness ?_
 intro w tape i _ hsh _ hok hpre hholds
 obtain ⟨_,_,_,fn',hfn',_,_,_,_,hval⟩:=hok
 have e:fn'=fn:=Option.some.inj (hfn'.symm.trans hfn)
 subst e
 obtain ⟨⟨⟨ds,gs,before,hw,hc⟩,hx⟩,hz⟩:=hpre
 have hw':=DataW.Whole.of_heap (w':=w.forCall tape i) (by rfl) hw
 refine (contract (w.forCall tape i) w.heap.size i.args ds gs before hval hw' (hX _ _ _ (by rfl) hx) hsh).mono fun e W' ⟨v,he,hp⟩ => ?_
 subst he
 exact ChangeSpec.post_blind hp
theorem xw {P:Program} {w:World} {g:Nat} {t:TypeId} {zero:Array Value} (h:w.ShapedOpen P) (hg:g < P.globals.size)
  (h0:((begin P (fun _ _=>0) default).world.heap[g]?).bind Obj.row?=some (zero,t)) (hz:zero.size=1)
  (hb:P.buildable t=true) (hc:P.cellTypes P.depth t=some [t]) (hu:P.underlying t=some (.int .i64)):∃m,w.cell? ⟨g,0,none⟩=some (.int .i64 m):=by
 obtain ⟨cs,hh,hs,hr⟩:=h.1 g zero t hg h0
 obtain ⟨ts,hts,_,hall⟩:=hr hb
 rw [hc] at hts
 cases hts
 have h1:0 < cs.size:=by omega
 obtain ⟨u,hu',hok⟩:=hall 0 cs[0] (by simp [h1])
 have:u=t:=by simpa using hu'.symm
 subst this
 have hcell:w.cell? ⟨g,0,none⟩=some cs[0]:=by simp [World.cell?,hh,h1]
 rw [hcell]
 unfold Cell.ok at hok
 rw [hu] at hok
 cases hv:cs[0] <;> rw [hv] at hok <;> first | exact hok.elim | (obtain ⟨rfl,_⟩:=hok;exact ⟨_,rfl⟩) | simp at hok
def FM:Option TypeDesc->Bool
 | some (.interface _)=>true
 | _=>false
theorem mW {P:Program} {W:World} {name nm:String} {d:DataW Unit} {g:Nat} {t:TypeId}
  (hg:P.globalNamed name=some g) (hty:(P.globals[g]?).map (·.type)=some t) (hi:FM (P.underlying t)=true)
  (h:Lib.VarReads P W name (.iface nm d)):∃ev,W.cell? ⟨g,0,none⟩=some ev/\(ev = .nilIface\/∃te pe,ev = .iface te pe):=by
 obtain ⟨g',t',cs,fuel,p,hg',ht',hvar,hd⟩:=h
 obtain rfl:=Option.some.inj (hg.symm.trans hg')
 obtain rfl:=Option.some.inj (hty.symm.trans ht')
 have hc:=World.var?_cell hg hvar 0
 obtain ⟨ms,hu⟩:∃ms,P.underlying t=some (.interface ms):=by
  unfold FM at hi
  split at hi
  ·rename_i ms hm;exact ⟨ms,hm⟩
  ·cases hi
 cases fuel with
 | zero=>simp [DataW.trod] at hd
 | succ n=>
  cases hl:cs.toList with
  | nil=>rw [hl] at hd;simp [DataW.trod,hu] at hd
  | cons v r=>
   have h0:cs[0]?=some v:=by rw [<-Array.getElem?_toList,hl];rfl
   rw [h0] at hc
   refine ⟨v,hc,?_⟩
   rw [hl] at hd
   cases v <;> first | exact .inl rfl | exact .inr ⟨_,_,rfl⟩ | (simp [DataW.trod,hu] at hd)
theorem xx {P:Program} {W:World} {name:String} {k:IntKind} {zs:List Int} {g:Nat} {t e:TypeId} {n:Nat}
  (hg:P.globalNamed name=some g) (hty:(P.globals[g]?).map (·.type)=some t) (ht:P.underlying t=some (.array n e)) (he:P.underlying e=some (.int k)) (hce:P.cellsOf e=1) (hct:P.cellsOf t=n)
  (h:Lib.VarReads P W name (Lib.tabData k zs)):Lib.TabIs P W name k zs:=by
 obtain ⟨g',t',cs,fuel,p,hg',ht',hvar,hd⟩:=h
 obtain rfl:=Option.some.inj (hg.symm.trans hg')
 obtain rfl:=Option.some.inj (hty.symm.trans ht')
 unfold Lib.TabIs
 rw [hvar,<-Lib.cells_of_tab ht he hce hct hd]
end Go.Vg

namespace Go.Mrl
open Go.Vg
theorem dS.ok {x:fw} (h:dS x):er (aZ x):=fj h.pre.1
end Go.Mrl

namespace Go.Mrl
open Go.Vg
end Go.Mrl

namespace Go.Mrl
open Go.Vg
structure kJ (x:fw):Prop where
 st:dS x
 Hx:∀y∈x.2.1.1,aH y.1=0/\y.2.1.1.length<=1200/\1<=y.2.1.2.1
theorem kJ.new:kJ kG:=⟨.new,fun y hy=>by simp [kG] at hy⟩
theorem xy {s:aG} {v:aG × Int × Unit} {c:Int}:∀{es:List FE} {y:FE},y∈bW cj es s v c->(y.1=s/\y.2.1=v)\/y∈es
 | [],y,h=>by simp [bW] at h;subst h;exact .inl ⟨rfl,rfl⟩
 | z :: r,y,h=>by
  unfold bW at h
  split at h
  ·rcases List.mem_cons.1 h with rfl | h
   ·exact .inl ⟨rfl,rfl⟩
   ·exact .inr (by simp [h])
  ·rcases List.mem_cons.1 h with rfl | h
   ·exact .inr (by simp)
   ·rcases xy h with h | h
    ·exact .inl h
    ·exact .inr (by simp [h])
theorem xz {x:fw} {s t:aG} (h:(bk x s t).2=0):aH s=0/\t.length<=1200/\¬ x.1.1=1000000:=by
 unfold bk at h
 split at h
 ·rename_i h1;exact absurd h h1
 ·rename_i h1
  split at h
  ·simp at h
  ·rename_i h2
   split at h
   ·simp at h
   ·rename_i h3
    exact ⟨by simpa using h1,by omega,fun e=>h3 (.inr e)⟩
theorem dS.pos {x:fw} (h:dS x):0<=x.1.1:=h.pre.2.1
theorem kJ.write {x:fw} (h:kJ x) (s t:aG):kJ (bk x s t).1:=by
 refine ⟨(h.st.write s t).1,?_⟩
 rcases ko x s t with ⟨e,_⟩ | ⟨e,e2⟩
 ·rw [e];exact h.Hx
 ·rw [e]
  intro y hy
  obtain ⟨k1,k2,_⟩:=xz e2
  rcases xy hy with ⟨h1,h2⟩ | hy
  ·rw [h1,h2];exact ⟨k1,k2,by have:=h.st.pos;show (1:Int)<=x.1.1 + 1;omega⟩
  ·exact h.Hx y hy
theorem kJ.ok {x:fw} (h:kJ x):er (aZ x):=h.st.ok
end Go.Mrl

namespace Go.Mrl
open Go.Vg
theorem E0 {x:fw} {s t:aG} (h1:aH s=0) (h2:t.length<=1200) (h3:cb cj x.2.1.1 s=true\/x.2.1.1.length < 6) (h4:x.1.1 < 1000000):(aV (bk x s t).2).isNil=true:=by
 rw [nO h1 (by omega) (by rintro (⟨e,e'⟩ | e) <;> (rcases h3 with h3 | h3 <;> first | omega | (rw [h3] at e;cases e)))];rfl
end Go.Mrl

namespace Go.Mrl
open Go.Vg
end Go.Mrl

namespace Go.Mrl
open Go.Vg
end Go.Mrl

namespace Go.Mrl
open Go.Vg
theorem E1 {o:D aA} (h:(bu o).2.isNil=true):bP (bu o).1=(o,0):=by
 have hf:bt o=0:=by
  apply Classical.byContradiction;intro hf
  rw [lX hf] at h
  exact hf (aY.1 h)
 by_cases hl:(cy o).length > 1200
 ·rw [kI hf rfl hl] at h;cases h
 ·rw [jB hf rfl (by show (cy o).length<=1200;omega)]
  exact mV hl hf rfl
end Go.Mrl

namespace Go.Mrl
open Go.Vg
abbrev mX:fw:=((0,()),([],0,()),())
theorem lZ {o:D aA} (h:(bu o).2.isNil=true):bt o=0/\(bu o).1.length<=1200:=by
 have hf:bt o=0:=by
  apply Classical.byContradiction;intro hf
  rw [lX hf] at h
  exact hf (aY.1 h)
 refine ⟨hf,?_⟩
 by_cases hl:(cy o).length > 1200
 ·rw [kI hf rfl hl] at h;cases h
 ·rw [jB hf rfl (by show (cy o).length<=1200;omega)];show (cy o).length<=1200;omega
theorem qJ {o:D aA} (h:(bu o).2.isNil=true):(aV (bk mX [97] (bu o).1).2).isNil=true:=
 E0 (x:=mX) (by decide) (lZ h).2 (.inr (by decide)) (by decide)
theorem BH {o:D aA} (h:(bu o).2.isNil=true):aZ (bk mX [97] (bu o).1).1 [97]=((bu o).1,1,0):=CV (qJ h)
theorem hE {o:D aA} (h:(bu o).2.isNil=true) (hn:o.1 = []):aP (aZ (bk mX [97] (bu o).1).1) [97]=([[97]],[o],0):=Di (BH h) (E1 h) hn
theorem Dl {n:Int} (h1:1<=n) (h2:n<=40):bH ([n],[])=([0], .nil):=by
 have hs:∀j,j < [n].length->1<=(nth (.int .i64) [n] j:Int)/\(nth (.int .i64) [n] j:Int)<=40:=by
  intro j hj
  obtain rfl:j=0:=by simp at hj;omega
  exact ⟨h1,h2⟩
 rw [o8 (by simp) hs (fun j hj=>by simp at hj)]
 have hr:=gj h1 h2
 have hg:dx [] [n] []=some [0]:=by
  unfold dx
  simp only [de,dr,List.all_nil,if_true]
  rw [if_neg (by omega)]
  simp [dx]
 rw [hg]
theorem BI {o:D aA} (h:(bu o).2.isNil=true):df [o]:=by
 refine ⟨by simp,fun i hi => ?_⟩
 obtain rfl:i=0:=by simp at hi;omega
 exact (e8 (lZ h).1).BB
theorem pM {o:D aA} (h:(bu o).2.isNil=true) (hn:o.1 = []) :
  ((bY ([o],[0])).2.isNil=false->bd (aZ (bk mX [97] (bu o).1).1) [97]=([],[],[],[],cz (bY ([o],[0])).2))/\
  ((bY ([o],[0])).2.isNil=true->bd (aZ (bk mX [97] (bu o).1).1) [97]=([[97]],[o],[0],(bY ([o],[0])).1,0)):=by
 have hk:=e8 (lZ h).1
 have hb:bH (bD [o],[])=([0], .nil):=Dl (n:=(o.2.1.length:Int)) (by have:=hk.w1;omega) (by have:=hk.FH;omega)
 have hs:=hE h hn
 have e1:bH (bD (aP (aZ (bk mX [97] (bu o).1).1) [97]).2.1,[])=([0], .nil):=by rw [hs];exact hb
 constructor
 ·intro hf
  have e:=nV (rd:=aZ (bk mX [97] (bu o).1).1) (root:=[97]) (by rw [hs]) (by rw [e1];rfl) (by rw [e1,hs];exact hf)
  rw [e1,hs] at e;exact e
 ·intro hf
  have e:=mq (rd:=aZ (bk mX [97] (bu o).1).1) (root:=[97]) (by rw [hs]) (by rw [e1];rfl) (by rw [e1,hs];exact hf)
  rw [e1,hs] at e;exact e
theorem Dm {o:D aA} (h:(bu o).2.isNil=true) (hn:o.1 = []) (hf:(bY ([o],[0])).2.isNil=false) :
  (dt (aZ (bk mX [97] (bu o).1).1) [97]).2=cz (bY ([o],[0])).2/\0 < cz (bY ([o],[0])).2:=by
 have e:=(pM h hn).1 hf
 have hp:=rH (rq ([o],[0])) hf
 exact ⟨by rw [xu (by rw [e];show ¬ cz _=0;omega),e],hp⟩
theorem iy {o:D aA} (h:(bu o).2.isNil=true) (hn:o.1 = []) (hf:(bY ([o],[0])).2.isNil=true) :
  dt (aZ (bk mX [97] (bu o).1).1) [97]=([([97],0,nth cP (eO [o.2.1] (bY ([o],[0])).1) 0,())],0)/\cR ([o.2.1],(bY ([o],[0])).1)=(eO [o.2.1] (bY ([o],[0])).1, .nil):=by
 have e:=(pM h hn).2 hf
 have ok:er (aZ (bk mX [97] (bu o).1).1):=(kJ.new.write [97] (bu o).1).ok
 rcases pK ok [97] with ⟨f,hf',e'⟩ | ⟨ns,os,bs,ps,e',hr⟩
 ·rw [e'] at e;have:=congrArg (fun x:Rk=>x.2.2.2.2) e;simp only at this;omega
 ·rw [e] at e'
  have a:=congrArg (fun x:Rk=>x.1) e'
  have b:=congrArg (fun x:Rk=>x.2.1) e'
  have c:=congrArg (fun x:Rk=>x.2.2.1) e'
  have d:=congrArg (fun x:Rk=>x.2.2.2.1) e'
  simp only at a b c d
  subst a b c d
  exact ⟨Gh e hr,hr.put⟩
theorem E2 (f:Int):cz (aV f)=f:=by
 unfold aV;split
 ·rename_i h;rw [h];rfl
 ·rfl
theorem Dn {o:D aA} (h:(bu o).2.isNil=true) (hn:o.1 = []):cz (aV (dt (aZ (bk mX [97] (bu o).1).1) [97]).2)=cz (bY ([o],[0])).2:=by
 rw [E2]
 cases hf:(bY ([o],[0])).2.isNil with
 | false=>exact (Dm h hn hf).1
 | true=>rw [(iy h hn hf).1,pJ hf];rfl
theorem BJ {o:D aA} (h:(bu o).2.isNil=true):List.length [o.2.1]<=100000/\∀i,i < List.length [o.2.1]->(nth cP [o.2.1] i).length<=100000000:=by
 refine ⟨by simp,fun i hi => ?_⟩
 obtain rfl:i=0:=by simp at hi;omega
 exact Nat.le_trans (e8 (lZ h).1).FH (by decide)
end Go.Mrl

