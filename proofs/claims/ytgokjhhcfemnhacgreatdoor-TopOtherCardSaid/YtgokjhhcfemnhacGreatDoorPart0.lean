/- A part of the proof that the law TopOtherCard holds of the given program: facts that are used there. -/
import Derived.WalkKit
import Derived.Below
import Derived.Orders
import Derived.Lib.AppendStr
import Derived.Laws.Closers25b
import Derived.Laws.Strings
import Derived.Lib.Strings
import Derived.Laws.Cells
import Derived.Laws.CopyRow
import Derived.Laws.Append
import Derived.Laws.MakeOwn
import Derived.Laws.Tables
import Derived.Laws.AppendOwn
import Derived.Laws.OwnMore
set_option linter.unusedSimpArgs false
set_option linter.unusedVariables false
namespace Go.Vg
structure Below (B:Nat) (w w':World):Prop where
 os:w'.os=w.os
 output:w'.output=w.output
 size:w.heap.size<=w'.heap.size
 block:∀k,k < B->w'.heap[k]?=w.heap[k]?
theorem Below.of {B:Nat} {w w':World} (h:Go.RowKit.Below B w w'):Below B w w':=⟨h.os,h.output,h.size,h.block⟩
theorem Below.refl (B:Nat) (w:World):Below B w w:=⟨rfl,rfl,Nat.le_refl _,fun _ _=>rfl⟩
theorem Below.trans {B:Nat} {a b c:World} (h:Below B a b) (k:Below B b c):Below B a c:=
 ⟨k.os.trans h.os,k.output.trans h.output,Nat.le_trans h.size k.size,fun i hi=>(k.block i hi).trans (h.block i hi)⟩
theorem Below.mono {B B':Nat} {w w':World} (h:Below B w w') (hB:B'<=B):Below B' w w':=⟨h.os,h.output,h.size,fun k hk=>h.block k (Nat.lt_of_lt_of_le hk hB)⟩
theorem Below.drew {B:Nat} {a w:World} (h:Below B a w):Below B a w.drew:=⟨h.os,h.output,h.size,h.block⟩
theorem Below.alloc {B:Nat} {a w:World} (h:Below B a w) (hB:B<=w.heap.size) (o:Obj):Below B a (w.alloc o):=h.trans (.of ((Go.RowKit.Below.refl B w).alloc hB o))
theorem Below.cell {B:Nat} {w w':World} (h:Below B w w') {p:Addr} (hp:p.block < B):w'.cell? p=w.cell? p:=World.cell?_of_block (w:=w) (h.block p.block hp)
theorem Below.same {W w':World} (h:Below W.heap.size W w') {p:MemPlace} (hp:p.block < W.heap.size):W.sameAt w' p:=by
 cases p with
 | cell b o=>exact World.cell?_of_block (w:=W) (h.block b hp)
 | map b=>exact h.block b hp
theorem Below.frame {W w':World} (h:Below W.heap.size W w') (may:MemPlace->Prop):W.keptBut w' may:=by
 refine ⟨h.os,h.output,fun i hi => ?_⟩
 rw [h.block i hi]
 split <;> simp_all
inductive aV where
 | nil
 | no (n:Int)
 | other
inductive Ty where
 | bool | int (k:IntKind) | str | err | cO | unit
 | prod (a b:Ty)
 | slice (e:Ty)
@[reducible] def D:Ty->Type
 | .bool=>Bool
 | .int _=>Int
 | .str=>List UInt8
 | .err=>aV
 | .cO=>Unit
 | .unit=>Unit
 | .prod a b=>D a × D b
 | .slice e=>List (D e)
def Ty.beq:Ty->Ty->Bool
 | .bool, .bool=>true
 | .int k, .int k'=>decide (k=k')
 | .str, .str=>true
 | .err, .err=>true
 | .cO, .cO=>true
 | .unit, .unit=>true
 | .prod a b, .prod c d=>Ty.beq a c && Ty.beq b d
 | .slice a, .slice b=>Ty.beq a b
 | _,_=>false
theorem Ty.eq_of_beq:∀{a b:Ty},Ty.beq a b=true->a=b:=by
 intro a
 induction a with
 | prod a b iha ihb=>intro c h;cases c <;> simp [Ty.beq] at h;rw [iha h.1,ihb h.2]
 | slice a ih=>intro c h;cases c <;> simp [Ty.beq] at h;rw [ih h]
 | int k=>intro c h;cases c <;> simp [Ty.beq] at h;rw [h]
 | _=>intro c h;cases c <;> simp [Ty.beq] at h;rfl
def Ty.size:Ty->Nat
 | .unit=>0
 | .prod a b=>a.size + b.size
 | _=>1
def Ty.one:Ty->Bool
 | .unit | .prod _ _=>false
 | _=>true
def Ty.flat:Ty->Bool
 | .slice _=>false
 | .prod a b=>a.flat && b.flat
 | _=>true
abbrev aD:=Nat->Nat->Prop
def aH:Nat:=9223372036854775807
theorem GI:aH=9223372036854775807:=rfl
def Row (A:aD) (w:World) (b o:Nat) (us:List Value):Prop:=
 ∀j u,us[j]?=some u->w.cell? ⟨b,o + j,none⟩=some u/\¬ A b (o + j)
section
variable (eT:TypeId)
def D9:aV->Value->Prop
 | .nil,v=>v = .nilIface
 | .no n,v=>v = .iface eT (.int .i64 n)/\IntKind.i64.min<=n/\n<=IntKind.i64.max
 | .other,v=>∃t u,v = .iface t u/\t≠eT
def R:(t:Ty)->D t->aD->World->List Value->Prop
  | .bool,x,_,_,vs=>vs = [.bool x]
  | .int k,x,_,_,vs=>vs = [.int k x]/\k.min<=x/\x<=k.max
  | .str,x,_,_,vs=>vs = [.string ⟨x.toArray⟩]/\x.length<=aH
  | .err,x,_,_,vs=>∃v,vs = [v]/\D9 eT x v
  | .cO,_,_,_,_=>False
  | .unit,_,_,_,vs=>vs = []
  | .prod a b,x,A,w,vs=>∃u1 u2,vs=u1++u2/\R a x.1 A w u1/\R b x.2 A w u2
  | .slice e,x,A,w,vs=>∃v,vs = [v]/\x.length<=aH/\
      ((x = []/\∃a c,v = .slice a 0 c)\/
       ∃b o cap,v = .slice (some ⟨b,o,none⟩) x.length cap/\x.length<=cap/\
         ∀i y,x[i]?=some y->∃us,R e y A w us/\Row A w b (o + i * e.size) us)
def VR (t:Ty) (x:D t) (A:aD) (w:World) (v:Value):Prop:=
 if t.one then R eT t x A w [v] else ∃cs,v = .agg cs/\R eT t x A w cs.toList
variable {eT}
theorem R.length:∀{t:Ty} {x:D t} {A:aD} {w:World} {vs:List Value},R eT t x A w vs->vs.length=t.size:=by
 intro t
 induction t with
 | prod a b iha ihb=>
  intro x A w vs h
  obtain ⟨u1,u2,rfl,h1,h2⟩:=h
  simp [Ty.size,iha h1,ihb h2]
 | slice e _=>intro x A w vs h;obtain ⟨v,rfl,_⟩:=h;rfl
 | err=>intro x A w vs h;obtain ⟨v,rfl,_⟩:=h;rfl
 | int k=>intro x A w vs h;obtain ⟨rfl,_⟩:=h;rfl
 | str=>intro x A w vs h;obtain ⟨rfl,_⟩:=h;rfl
 | cO=>intro x A w vs h;exact h.elim
 | bool=>intro x A w vs h;cases h;rfl
 | unit=>intro x A w vs h;cases h;rfl
theorem R.fK:∀{t:Ty} {x:D t} {A:aD} {w:World} {vs:List Value},R eT t x A w vs->∀v∈vs,v.oneCell'=true:=by
 intro t
 induction t with
 | prod a b iha ihb=>
  intro x A w vs h v hv
  obtain ⟨u1,u2,rfl,h1,h2⟩:=h
  rcases List.mem_append.1 hv with h | h
  ·exact iha h1 v h
  ·exact ihb h2 v h
 | slice e _=>
  intro x A w vs h v hv
  obtain ⟨u,rfl,_,h | ⟨b,o,cap,h,_⟩⟩:=h
  ·obtain ⟨_,_,rfl⟩:=h.2;simp at hv;rw [hv];rfl
  ·simp at hv;rw [hv,h];rfl
 | err=>
  intro x A w vs h v hv
  obtain ⟨u,rfl,h⟩:=h
  simp at hv;subst hv
  cases x with
  | nil=>rw [show v=_ from h];rfl
  | no n=>rw [show v=_ from h.1];rfl
  | other=>obtain ⟨t,u,rfl,_⟩:=h;rfl
 | int k=>intro x A w vs h v hv;obtain ⟨rfl,_⟩:=h;simp at hv;subst hv;rfl
 | str=>intro x A w vs h v hv;obtain ⟨rfl,_⟩:=h;simp at hv;subst hv;rfl
 | cO=>intro x A w vs h;exact h.elim
 | bool=>intro x A w vs h v hv;cases h;simp at hv;subst hv;rfl
 | unit=>intro x A w vs h v hv;cases h;simp at hv
theorem R.frame:∀{t:Ty} {x:D t} {A A':aD} {w w':World} {vs:List Value},R eT t x A w vs->
  (∀b o v,¬ A b o->w.cell? ⟨b,o,none⟩=some v->w'.cell? ⟨b,o,none⟩=some v/\¬ A' b o)->R eT t x A' w' vs:=by
 intro t
 induction t with
 | prod a b iha ihb=>
  intro x A A' w w' vs h hf
  obtain ⟨u1,u2,rfl,h1,h2⟩:=h
  exact ⟨u1,u2,rfl,iha h1 hf,ihb h2 hf⟩
 | slice e ih=>
  intro x A A' w w' vs h hf
  obtain ⟨v,rfl,hl,h⟩:=h
  refine ⟨v,rfl,hl,?_⟩
  rcases h with h | ⟨b,o,cap,rfl,hc,h⟩
  ·exact .inl h
  ·refine .inr ⟨b,o,cap,rfl,hc,fun i y hy => ?_⟩
   obtain ⟨us,h1,h2⟩:=h i y hy
   refine ⟨us,ih h1 hf,fun j u hu => ?_⟩
   have:=h2 j u hu
   exact hf _ _ _ this.2 this.1
 | _=>intro x A A' w w' vs h _;exact h
theorem R.of_flat:∀{t:Ty} {x:D t} {A A':aD} {w w':World} {vs:List Value},t.flat=true->R eT t x A w vs->R eT t x A' w' vs:=by
 intro t
 induction t with
 | prod a b iha ihb=>
  intro x A A' w w' vs hf h
  simp [Ty.flat] at hf
  obtain ⟨u1,u2,rfl,h1,h2⟩:=h
  exact ⟨u1,u2,rfl,iha hf.1 h1,ihb hf.2 h2⟩
 | slice e ih=>intro x A A' w w' vs hf h;simp [Ty.flat] at hf
 | _=>intro x A A' w w' vs _ h;exact h
theorem Row.frame {A A':aD} {w w':World} {b o:Nat} {us:List Value} (h:Row A w b o us)
  (hf:∀b o v,¬ A b o->w.cell? ⟨b,o,none⟩=some v->w'.cell? ⟨b,o,none⟩=some v/\¬ A' b o):Row A' w' b o us:=
 fun j u hu=>hf _ _ _ (h j u hu).2 (h j u hu).1
theorem VR.frame {t:Ty} {x:D t} {A A':aD} {w w':World} {v:Value} (h:VR eT t x A w v)
  (hf:∀b o v,¬ A b o->w.cell? ⟨b,o,none⟩=some v->w'.cell? ⟨b,o,none⟩=some v/\¬ A' b o):VR eT t x A' w' v:=by
 unfold VR at h ⊢
 split
 ·rename_i h1;rw [if_pos h1] at h;exact h.frame hf
 ·rename_i h1;rw [if_neg h1] at h;obtain ⟨cs,rfl,h⟩:=h;exact ⟨cs,rfl,h.frame hf⟩
theorem VR.of_flat {t:Ty} {x:D t} {A A':aD} {w w':World} {v:Value} (hfl:t.flat=true) (h:VR eT t x A w v):VR eT t x A' w' v:=by
 unfold VR at h ⊢
 split
 ·rename_i h1;rw [if_pos h1] at h;exact h.of_flat hfl
 ·rename_i h1;rw [if_neg h1] at h;obtain ⟨cs,rfl,h⟩:=h;exact ⟨cs,rfl,h.of_flat hfl⟩
theorem VR.cells {t:Ty} {x:D t} {A:aD} {w:World} {v:Value} (h:VR eT t x A w v):R eT t x A w v.cells.toList:=by
 unfold VR at h
 split at h
 ·rename_i h1
  have:=h.fK v (by simp)
  cases v <;> simp_all [Value.cells,Value.oneCell']
 ·obtain ⟨cs,rfl,h⟩:=h;exact h
theorem VR.one {t:Ty} {x:D t} {A:aD} {w:World} {v:Value} (ht:t.one=true) (h:VR eT t x A w v):R eT t x A w [v]:=by
 unfold VR at h;rwa [if_pos ht] at h
theorem VR.bt {t:Ty} {x:D t} {A:aD} {w:World} {v:Value} (ht:t.one=true) (h:R eT t x A w [v]):VR eT t x A w v:=by
 unfold VR;rwa [if_pos ht]
theorem Ty.il {t:Ty} (h:t.one=true):t.size=1:=by cases t <;> simp_all [Ty.one,Ty.size]
end
end Go.Vg

namespace Go.Vg
inductive XP where
 | top
 | el (e:Ty) (i off:Nat)
 | row (i:Nat)
 | cell (i j:Nat)
inductive C where
 | xd (n:Nat) (p:XP)
 | lit (b:Bool)
 | d (t:Ty) (x:D t)
 | app (t:Ty) (xs:List (D t)) (n:Nat)
 | dZ
 | c7
 | emp
 | aQ (n:Nat)
 | iP (n:Nat) (t:Ty) (lo len:Nat)
 | im (n:Nat)
 | cn (n:Nat)
 | ref (n off:Nat)
 | kT (n:Nat)
 | fq (n:Nat) (t:Ty) (i off:Nat)
 | iR (t:Ty) (x:D t)
 | fn (f:FuncId) (caps:List Nat)
 | any
inductive bx where
 | one (c:C)
 | agg (cs:List C)
inductive SV where
 | s (v:bx)
 | gH (vs:List bx)
inductive OC where
 | cells (T:TypeId) (cs:List C)
 | aQ (t:Ty) (xs:List (D t))
 | arr (t:Ty) (xs:List (D t))
 | tok (t:Ty) (xs:List (D t))
 | ext (k:Nat) (t:Ty) (x:D t)
 | iter (cs:List C) (seen:List Int) (cl:Int)
def OC.GJ:OC->Bool
 | .ext _ _ _=>true
 | .iter _ _ _=>true
 | _=>false
structure Loc where
 v:Value
 bs:List Nat
instance:Inhabited Loc:=⟨⟨.nilFunc,[]⟩⟩
def OC.lo:OC->Nat
 | .tok t xs=>xs.length * t.size
 | _=>0
structure St where
 env:List (Nat × SV)
 aC:List (Nat × OC)
 next:Nat
def look.{u} {α:Type u} (l:List (Nat × α)) (n:Nat):Option α:=
 match l with
 | []=>none
 | (m,x) :: r=>match Nat.beq m n with
  | true=>some x
  | false=>look r n
def ins {α:Type} (l:List (Nat × α)) (n:Nat) (y:α):List (Nat × α):=
 match l with
 | []=>[(n,y)]
 | (m,x) :: r=>match Nat.beq m n with
  | true=>(m,y) :: r
  | false=>(m,x) :: ins r n y
theorem gM {n m:Nat} (h:¬ n=m):Nat.beq n m=false:=by
 rw [Bool.eq_false_iff];intro e;exact h (Nat.eq_of_beq_eq_true e)
theorem Ea {α:Type} (l:List (Nat × α)) (n m:Nat) (y:α):look (ins l n y) m=if n=m then some y else look l m:=by
 induction l with
 | nil=>
  simp only [ins,look]
  by_cases h:n=m
  ·subst h;simp [Nat.beq_refl]
  ·rw [if_neg h];have:Nat.beq n m=false:=gM h
   rw [this]
 | cons p r ih=>
  obtain ⟨k,x⟩:=p
  simp only [ins]
  by_cases hk:k=n
  ·subst hk
   simp only [Nat.beq_refl,look]
   by_cases h:k=m
   ·subst h;simp [Nat.beq_refl]
   ·rw [if_neg h];have:Nat.beq k m=false:=gM h
    rw [this]
  ·have hkb:Nat.beq k n=false:=gM hk
   simp only [hkb,look]
   by_cases h:k=m
   ·subst h;simp only [Nat.beq_refl];rw [if_neg (fun e=>hk e.symm)]
   ·have:Nat.beq k m=false:=gM h
    rw [this];exact ih
theorem bm.{u} {α:Type u} (l:List (Nat × α)) (n m:Nat) (y:α):look ((n,y) :: l) m=if n=m then some y else look l m:=by
 simp only [look]
 by_cases h:n=m
 ·subst h;simp [Nat.beq_refl]
 ·rw [if_neg h];have:Nat.beq n m=false:=gM h
  rw [this]
structure aX where
 O:aD
 ob:Nat->Option OC
 loc:Nat->Loc
 next:Nat
 w:World
def aX.A (S:aX):aD:=fun b off=>S.O b off\/∃n oc,S.ob n=some oc/\b∈(S.loc n).bs/\oc.lo<=off
def aX.jv (S:aX) (b:Nat):Prop:=∃n oc,S.ob n=some oc/\b∈(S.loc n).bs
def aX.fixed (S:aX) (n:Nat):Prop:=∀t ys,S.ob n≠some (.tok t ys)
def aX.rQ (S:aX) (n:Nat):Prop:=∀t x,S.ob n≠some (.ext 2 t x)
theorem hJ {l l':Loc} {p:Prop} (h:l'=l):l'.v=l.v/\(p->l'=l):=⟨by rw [h],fun _=>h⟩
def Ty.cd:Ty->Bool
 | .bool | .int _ | .str | .unit=>true
 | .prod a b=>a.cd && b.cd
 | _=>false
structure gK (e:Ty) where
 off:Nat
 t:Ty
 get:D e->List (D t)
 put:D e->List (D t)->D e
def spot:(e:Ty)->Option (gK e)
 | .slice t=>match t.cd && Nat.beq t.size 1 with
  | true=>some ⟨0,t,fun y=>y,fun _ ys=>ys⟩
  | false=>none
 | .prod a b=>match spot a with
  | some s=>match b.cd with
   | true=>some ⟨s.off,s.t,fun y=>s.get y.1,fun y ys=>(s.put y.1 ys,y.2)⟩
   | false=>none
  | none=>match a.cd,spot b with
   | true,some s=>some ⟨a.size + s.off,s.t,fun y=>s.get y.2,fun y ys=>(y.1,s.put y.2 ys)⟩
   | _,_=>none
 | _=>none
def iS (c:Option Nat):aD:=fun b _=>some b≠c
structure ek (e:Ty) (s:gK e) (xs:List (D e)) (w:World) (b:Nat) (cs:List (Option Nat)) (hs:List Value) (vs:Array Value):Prop where
 hl:hs.length=xs.length
 cl:cs.length=xs.length
 inj:∀i j c:Nat,cs[i]?=some (some c)->cs[j]?=some (some c)->i=j
 rR:∀i c:Nat,cs[i]?=some (some c)->c≠b/\∃vs T,w.heap[c]?=some (.cells vs T (0,0))
 row:∀(i:Nat) (y:D e),xs[i]?=some y->∃c h us,cs[i]?=some c/\hs[i]?=some h/\us[s.off]?=some h/\R 0 e y (iS c) w us/\∀j u,us[j]?=some u->vs[i * e.size + j]?=some u
def e8:(t:Ty)->D t->Loc->World->Prop
  | .slice e,xs,l,w=>∃s,spot e=some s/\∃top hs,l.v = .tuple (top :: hs).toArray/\
      ((xs = []/\hs = []/\(∃a,top = .slice a 0 0)/\l.bs = [])\/
       ∃b vs T cap cs,top = .slice (some ⟨b,0,none⟩) xs.length cap/\l.bs=b :: cs.filterMap id/\w.heap[b]?=some (.cells vs T (0,0))/\vs.size=cap * e.size/\xs.length<=cap/\xs.length<=aH/\
         ek e s xs w b cs hs vs)
  | _,_,_,_=>False
def Cn:XP->Value->Value->Prop
 | .top,l,v=>∃hs:List Value,l = .tuple (v :: hs).toArray
 | .el e i off,l,v=>∃b k c,∃hs:List Value,l = .tuple ((.slice (some ⟨b,0,none⟩) k c) :: hs).toArray/\v = .pointer (some ⟨b,i * e.size + off,none⟩)
 | .row i,l,v=>∃t,∃hs:List Value,l = .tuple (t :: hs).toArray/\hs[i]?=some v
 | .cell i j,l,v=>∃t,∃hs:List Value,∃b o k c,l = .tuple (t :: hs).toArray/\hs[i]?=some (.slice (some ⟨b,o,none⟩) k c)/\v = .pointer (some ⟨b,o + j,none⟩)
@[reducible] def dq (e:Ty):Ty:=.prod .str (.prod e (.prod (.int .i64) .unit))
@[reducible] def dL (e:Ty):Ty:=.prod (.slice (dq e)) (.prod (.int .i64) .unit)
def FD:aD:=fun _ _=>False
structure qO (e:Ty) (y:D (dq e)) (m:MapEntry) (w:World):Prop where
 key:m.key = .string ⟨y.1.toArray⟩/\y.1.length<=aH
 val:VR 0 e y.2.1 FD w m.val
 born:y.2.2.1=(m.born:Int)
def dI (e:Ty):List (D (dq e))->List MapEntry->World->Prop
 | [],[],_=>True
 | y :: r,m :: ms,w=>qO e y m w/\dI e r ms w
 | _,_,_=>False
structure vY (e:Ty) (x:D (dL e)) (l:Loc) (w:World) (b:Nat) (es:Array MapEntry) (b9:Nat):Prop where
 cd:e.cd=true
 lv:l.v = .map (some b)
 bs:l.bs = [b]
 heap:w.heap[b]?=some (.map es b9)
 b9:x.2.1=(b9:Int)
 mb:dI e x.1 es.toList w
 aH:x.1.length<=aH
 mz:∀y∈x.1,y.2.2.1 < x.2.1
def mc (t:Ty) (x:D t) (l:Loc) (w:World):Prop:=∃e,∃h:t=dL e,∃b es b9,vY e (h▸x) l w b es b9
@[reducible] def eR:Ty:=.prod (.slice (.int .u8)) (.prod (.int .i64) (.prod (.int .i64) .unit))
structure GK (x:D eR) (l:Loc) (w:World) (b:Nat) (p v:Value):Prop where
 lv:l.v = .pointer (some ⟨b,0,none⟩)
 ptr:p = .pointer none\/p = .pointer (some ⟨b,0,none⟩)
 heap:w.heap[b]?=some (.cells #[p,v] x.2.1.toNat (0,0))
 row:w.ownsRow 0 x.2.2.1.toNat 1 v x.1.length (x.1.map (Value.int .u8))
 bs:l.bs=b :: v.ownBlock.toList
 ne:v.ownBlock≠some b
 u8:∀y∈x.1,0<=(y:Int)/\(y:Int)<=255
 cap:∀a n c,v = .slice (some a) n c->0 < c
def nj (t:Ty) (x:D t) (l:Loc) (w:World):Prop:=∃h:t=eR,∃b p v,GK (h▸x) l w b p v
theorem nj.inside {t:Ty} {x:D t} {l:Loc} {w:World} (h:nj t x l w):∀b∈l.bs,b < w.heap.size:=by
 obtain ⟨rfl,b,p,v,h⟩:=h
 intro k hk
 rw [h.bs] at hk
 rcases List.mem_cons.1 hk with rfl | hk
 ·exact (Array.getElem?_eq_some_iff.1 h.heap).1
 ·rcases h.row.2 with ⟨rfl,_⟩ | ⟨g,cap,cur,rfl,_,hg,_⟩
  ·simp [Value.ownBlock] at hk
  ·simp [Value.ownBlock] at hk
   subst hk
   exact (Array.getElem?_eq_some_iff.1 hg).1
theorem nj.frame {t:Ty} {x:D t} {l:Loc} {w w':World} (h:nj t x l w) (hb:∀b∈l.bs,w'.heap[b]?=w.heap[b]?):nj t x l w':=by
 obtain ⟨rfl,b,p,v,h⟩:=h
 refine ⟨rfl,b,p,v,h.lv,h.ptr,by rw [hb b (by rw [h.bs];simp)];exact h.heap,⟨h.row.1,?_⟩,h.bs,h.ne,h.u8,h.cap⟩
 rcases h.row.2 with h1 | ⟨g,cap,cur,h1,h2,h3,h4⟩
 ·exact .inl h1
 ·exact .inr ⟨g,cap,cur,h1,h2,by rw [hb g (by rw [h.bs,h1];simp [Value.ownBlock])];exact h3,h4⟩
structure Ext where
 rel:Nat->(t:Ty)->D t->Loc->World->Prop
 inside:∀{k t x l w},rel k t x l w->∀b∈l.bs,b < w.heap.size
 ptr:∀{k t x l w},2<=k->rel k t x l w->∃a,l.v = .pointer (some a)
 deep:∀{t x l w},rel 0 t x l w ↔ e8 t x l w
 map:∀{t x l w},rel 1 t x l w ↔ mc t x l w
 FF:∀{t x l w},rel 2 t x l w ↔ nj t x l w
 frame:∀{k t x l w w'},rel k t x l w->(∀b∈l.bs,w'.heap[b]?=w.heap[b]?)->rel k t x l w'
 oA:World->Prop
 zX:List Nat
 FG:∀{w},oA w->∀b∈zX,b < w.heap.size
 vZ:∀{w w'},oA w->(∀b∈zX,w'.heap[b]?=w.heap[b]?)->oA w'
section
variable (eT:TypeId) (X:Ext)
def CR (S:aX):C->Value->Prop
 | .lit b,v=>v = .bool b
 | .d t x,v=>VR eT t x S.A S.w v
 | .app t xs n,v=>VR eT (.slice t) xs S.A S.w v/\n < S.next/\
   ∀ys,S.ob n=some (.tok t ys)->xs.length<=ys.length/\(xs.length=ys.length->v=(S.loc n).v)
 | .dZ,v=>v = .slice none 0 0
 | .c7,v=>v = .pointer none
 | .emp,v=>∃a,v = .slice a 0 0
 | .aQ n,v=>n < S.next/\∀t xs,S.ob n=some (.aQ t xs)->v=(S.loc n).v
 | .iP n t lo len,v=>n < S.next/\∀xs,S.ob n=some (.aQ t xs)->(len=0/\∃a c,v = .slice a 0 c)\/∃b c,(S.loc n).bs = [b]/\v = .slice (some ⟨b,lo * t.size,none⟩) len c
 | .im n,v=>n < S.next/\∀t xs,S.ob n=some (.arr t xs)->v=(S.loc n).v
 | .cn n,v=>n < S.next/\∀oc,S.ob n=some oc->oc.GJ=true->v=(S.loc n).v
 | .xd n p,v=>n < S.next/\∀t x,S.ob n=some (.ext 0 t x)->Cn p (S.loc n).v v
 | .ref n off,v=>n < S.next/\∀T cs,S.ob n=some (.cells T cs)->∃b,(S.loc n).v = .pointer (some ⟨b,0,none⟩)/\v = .pointer (some ⟨b,off,none⟩)
 | .kT n,v=>n < S.next/\(v = .pointer none\/∀T cs,S.ob n=some (.cells T cs)->v=(S.loc n).v)
 | .fq n t i off,v=>n < S.next/\((∃xs,S.ob n=some (.aQ t xs)\/S.ob n=some (.arr t xs))->∃b,(S.loc n).bs = [b]/\v = .pointer (some ⟨b,i * t.size + off,none⟩))
 | .iR t x,v=>∃b o us,v = .pointer (some ⟨b,o,none⟩)/\R eT t x S.A S.w us/\Row S.A S.w b o us
 | .fn f caps,v=>v = .func (.func f) #[] (caps.map fun n=>(S.loc n).v).toArray/\∀n∈caps,n < S.next/\S.fixed n
 | .any,_=>True
inductive bZ (S:aX):List C->List Value->Prop
 | nil:bZ S [] []
 | cons {c v cs vs}:CR eT S c v->v.oneCell'=true->bZ S cs vs->bZ S (c :: cs) (v :: vs)
def dM (S:aX):bx->Value->Prop
 | .one c,v=>CR eT S c v
 | .agg cs,v=>∃vs:List Value,v = .agg vs.toArray/\bZ eT S cs vs
inductive bM (S:aX):List bx->List Value->Prop
 | nil:bM S [] []
 | cons {c v cs vs}:dM eT S c v->bM S cs vs->bM S (c :: cs) (v :: vs)
def bX (S:aX):SV->Value->Prop
 | .s x,v=>dM eT S x v
 | .gH xs,v=>∃vs:List Value,v = .tuple vs.toArray/\bM eT S xs vs
def fr (S:aX) (t:Ty) (xs:List (D t)) (vs:Array Value):Prop:=
 ∀i y,xs[i]?=some y->∃us,R eT t y S.A S.w us/\∀j u,us[j]?=some u->vs[i * t.size + j]?=some u
def OR (S:aX) (l:Loc):OC->Prop
 | .cells T cs=>∃b,∃vs:List Value,l.v = .pointer (some ⟨b,0,none⟩)/\l.bs = [b]/\S.w.heap[b]?=some (.cells vs.toArray T (0,0))/\bZ eT S cs vs
 | .aQ t xs=>(xs = []/\(∃a,l.v = .slice a 0 0)/\l.bs = [])\/∃b vs T cap,l.v = .slice (some ⟨b,0,none⟩) xs.length cap/\l.bs = [b]/\S.w.heap[b]?=some (.cells vs T (0,0))/\vs.size=cap * t.size/\
   xs.length<=cap/\xs.length<=aH/\fr eT S t xs vs
 | .arr t xs=>∃b vs T,l.v = .pointer (some ⟨b,0,none⟩)/\l.bs = [b]/\S.w.heap[b]?=some (.cells vs T (0,0))/\vs.size=xs.length * t.size/\fr eT S t xs vs
 | .tok t xs=>(xs = []/\(∃a,l.v = .slice a 0 0)/\l.bs = [])\/∃b vs T cap,l.v = .slice (some ⟨b,0,none⟩) xs.length cap/\l.bs = [b]/\S.w.heap[b]?=some (.cells vs T (0,0))/\vs.size=cap * t.size/\
   xs.length<=cap/\xs.length<=aH/\fr eT S t xs vs
 | .ext k t x=>X.rel k t x l S.w
 | .iter cs seen cl=>∃b m c,∃sn:Array Nat,l.v = .pointer (some ⟨b,0,none⟩)/\l.bs = [b]/\S.w.heap[b]?=some (.mapIter (some m) c sn c)/\bZ eT S cs [.map (some m)]/\cl=(c:Int)/\seen=sn.toList.map fun (n:Nat)=>(n:Int)
def kU (S:aX):Prop:=X.oA S.w/\∀b∈X.zX,¬ S.jv b
structure Good (S:aX):Prop where
 obj:∀n oc,S.ob n=some oc->n < S.next/\OR eT X S (S.loc n) oc
 apart:∀n m oc oc' b,S.ob n=some oc->S.ob m=some oc'->b∈(S.loc n).bs->b∈(S.loc m).bs->n=m
 out:∀n oc b off,S.ob n=some oc->b∈(S.loc n).bs->¬ S.O b off
 iq:kU X S
def aM (l l':Loc):OC->OC->Prop
 | .cells T _, .cells T' _=>T=T'
 | .aQ t _, .aQ t' _=>t=t'
 | .arr t _, .arr t' _=>t=t'
 | .ext k t _, .ext k' t' _=>k=k'/\t=t'
 | .iter _ _ _, .iter _ _ _=>True
 | .tok t xs, .tok t' ys=>t=t'/\xs.length<=ys.length/\(xs.length=ys.length->l'.v=l.v)
 | _,_=>False
structure Tr (S S':aX):Prop where
 O:S'.O=S.O
 next:S.next<=S'.next
 os:S'.w.os=S.w.os
 output:S'.w.output=S.w.output
 size:S.w.heap.size<=S'.w.heap.size
 own:∀b,S'.jv b->S.jv b\/S.w.heap.size<=b
 cell:∀b o v,¬ S.A b o->S.w.cell? ⟨b,o,none⟩=some v->S'.w.cell? ⟨b,o,none⟩=some v/\¬ S'.A b o
 block:∀b,b < S.w.heap.size->¬ S.jv b->S'.w.heap[b]?=S.w.heap[b]?
 loc:∀n,n < S.next->S.fixed n->(S'.loc n).v=(S.loc n).v/\(S.rQ n->S'.loc n=S.loc n)
 kind:∀n oc',n < S.next->S'.ob n=some oc'->∃oc,S.ob n=some oc/\aM (S.loc n) (S'.loc n) oc oc'
variable {eT X}
theorem Tr.refl (S:aX):Tr S S:=
 ⟨rfl,Nat.le_refl _,rfl,rfl,Nat.le_refl _,fun _ h => .inl h,fun _ _ _ h h'=>⟨h',h⟩,fun _ _ _=>rfl,fun _ _ _=>hJ rfl,
  fun n oc' _ h=>⟨oc',h,by cases oc' <;> simp [aM]⟩⟩
theorem kU.tr {S S':aX} (t:Tr S S') (g:kU X S):kU X S':=
 ⟨X.vZ g.1 fun b hb=>t.block b (X.FG g.1 b hb) (g.2 b hb),fun b hb h=>by
  rcases t.own b h with h | h
  ·exact g.2 b hb h
  ·have:=X.FG g.1 b hb;omega⟩
theorem kU.sub {S S':aX} (g:kU X S) (hw:S'.w=S.w) (ho:∀b,S'.jv b->S.jv b):kU X S':=
 ⟨by rw [hw];exact g.1,fun b hb h=>g.2 b hb (ho b h)⟩
theorem Tr.fixed {S S':aX} (h:Tr S S') {n:Nat} (hn:n < S.next) (hf:S.fixed n):S'.fixed n:=by
 intro t ys e
 obtain ⟨oc,h1,h2⟩:=h.kind n _ hn e
 cases oc <;> simp [aM] at h2
 exact hf _ _ h1
theorem Tr.rQ {S S':aX} (h:Tr S S') {n:Nat} (hn:n < S.next) (hf:S.rQ n):S'.rQ n:=by
 intro t x e
 obtain ⟨oc,h1,h2⟩:=h.kind n _ hn e
 cases oc <;> simp [aM] at h2
 obtain ⟨rfl,rfl⟩:=h2
 exact hf _ _ h1
theorem Tr.trans {S S' S'':aX} (h:Tr S S') (k:Tr S' S''):Tr S S'' where
 O:=k.O.trans h.O
 next:=Nat.le_trans h.next k.next
 os:=k.os.trans h.os
 output:=k.output.trans h.output
 size:=Nat.le_trans h.size k.size
 own b hb:=by
  rcases k.own b hb with h1 | h1
  ·exact h.own b h1
  ·exact .inr (Nat.le_trans h.size h1)
 cell b o v ha hc:=let ⟨h1,h2⟩:=h.cell b o v ha hc;k.cell b o v h2 h1
 block b hb ho:=by
  rw [k.block b (Nat.lt_of_lt_of_le hb h.size) (fun h1=>by
   rcases h.own b h1 with h2 | h2
   ·exact ho h2
   ·omega),h.block b hb ho]
 loc n hn hf:=by
  obtain ⟨a,b⟩:=h.loc n hn hf
  obtain ⟨c,d⟩:=k.loc n (Nat.lt_of_lt_of_le hn h.next) (h.fixed hn hf)
  exact ⟨c.trans a,fun hr=>(d (h.rQ hn hr)).trans (b hr)⟩
 kind n oc'' hn h'':=by
  obtain ⟨oc',h1,k1⟩:=k.kind n oc'' (Nat.lt_of_lt_of_le hn h.next) h''
  obtain ⟨oc,h2,k2⟩:=h.kind n oc' hn h1
  refine ⟨oc,h2,?_⟩
  cases oc <;> cases oc' <;> simp [aM] at k2 <;> cases oc'' <;> simp [aM] at k1 ⊢
  all_goals (try (simp_all;done))
  rename_i t xs t' ys t'' zs
  obtain ⟨rfl,a1,a2⟩:=k2
  obtain ⟨rfl,b1,b2⟩:=k1
  refine ⟨rfl,by omega,fun e => ?_⟩
  rw [b2 (by omega),a2 (by omega)]
theorem CR.tr {S S':aX} (h:Tr S S'):∀{c:C} {v:Value},CR eT S c v->CR eT S' c v:=by
 intro c v hc
 cases c with
 | lit b=>exact hc
 | d t x=>exact VR.frame hc h.cell
 | app t xs n=>
  obtain ⟨h1,h2,h3⟩:=hc
  refine ⟨VR.frame h1 h.cell,Nat.lt_of_lt_of_le h2 h.next,fun ys hy => ?_⟩
  obtain ⟨oc,k1,k2⟩:=h.kind n _ h2 hy
  cases oc <;> simp [aM] at k2
  obtain ⟨rfl,k3,k4⟩:=k2
  obtain ⟨m1,m2⟩:=h3 _ k1
  exact ⟨by omega,fun e=>by rw [m2 (by omega),k4 (by omega)]⟩
 | dZ=>exact hc
 | c7=>exact hc
 | emp=>exact hc
 | aQ n=>
  refine ⟨Nat.lt_of_lt_of_le hc.1 h.next,fun t xs e => ?_⟩
  obtain ⟨oc,k1,k2⟩:=h.kind n _ hc.1 e
  cases oc <;> simp [aM] at k2
  rw [(h.loc n hc.1 (fun t ys=>by rw [k1];simp)).1]
  exact hc.2 _ _ k1
 | iP n t lo len=>
  refine ⟨Nat.lt_of_lt_of_le hc.1 h.next,fun xs e => ?_⟩
  obtain ⟨oc,k1,k2⟩:=h.kind n _ hc.1 e
  cases oc <;> simp [aM] at k2
  subst k2
  rw [(h.loc n hc.1 (fun t ys=>by rw [k1];simp)).2 (fun t x=>by rw [k1];simp)]
  exact hc.2 _ k1
 | im n=>
  refine ⟨Nat.lt_of_lt_of_le hc.1 h.next,fun t xs e => ?_⟩
  obtain ⟨oc,k1,k2⟩:=h.kind n _ hc.1 e
  cases oc <;> simp [aM] at k2
  rw [(h.loc n hc.1 (fun t ys=>by rw [k1];simp)).1]
  exact hc.2 _ _ k1
 | cn n=>
  refine ⟨Nat.lt_of_lt_of_le hc.1 h.next,fun oc' e hx => ?_⟩
  obtain ⟨oc,k1,k2⟩:=h.kind n _ hc.1 e
  have hx':oc.GJ=true:=by cases oc <;> cases oc' <;> first | rfl | exact k2.elim | cases hx
  rw [(h.loc n hc.1 (fun t ys=>by rw [k1];intro e;cases e;cases hx')).1]
  exact hc.2 _ k1 hx'
 | xd n p=>
  refine ⟨Nat.lt_of_lt_of_le hc.1 h.next,fun t xs e => ?_⟩
  obtain ⟨oc,k1,k2⟩:=h.kind n _ hc.1 e
  cases oc <;> simp [aM] at k2
  obtain ⟨rfl,rfl⟩:=k2
  rw [(h.loc n hc.1 (fun t ys=>by rw [k1];simp)).1]
  exact hc.2 _ _ k1
 | ref n off=>
  refine ⟨Nat.lt_of_lt_of_le hc.1 h.next,fun T cs e => ?_⟩
  obtain ⟨oc,k1,k2⟩:=h.kind n _ hc.1 e
  cases oc <;> simp [aM] at k2
  rw [(h.loc n hc.1 (fun t ys=>by rw [k1];simp)).1]
  exact hc.2 _ _ k1
 | kT n=>
  refine ⟨Nat.lt_of_lt_of_le hc.1 h.next,?_⟩
  rcases hc.2 with hn | hn
  ·exact .inl hn
  ·refine .inr fun T cs e => ?_
   obtain ⟨oc,k1,k2⟩:=h.kind n _ hc.1 e
   cases oc <;> simp [aM] at k2
   rw [(h.loc n hc.1 (fun t ys=>by rw [k1];simp)).1]
   exact hn _ _ k1
 | fq n t i off=>
  refine ⟨Nat.lt_of_lt_of_le hc.1 h.next,fun ⟨xs,e⟩ => ?_⟩
  rcases e with e | e
  ·obtain ⟨oc,k1,k2⟩:=h.kind n _ hc.1 e
   cases oc <;> simp [aM] at k2
   rw [(h.loc n hc.1 (fun t ys=>by rw [k1];simp)).2 (fun t x=>by rw [k1];simp)]
   subst k2
   exact hc.2 ⟨_, .inl k1⟩
  ·obtain ⟨oc,k1,k2⟩:=h.kind n _ hc.1 e
   cases oc <;> simp [aM] at k2
   rw [(h.loc n hc.1 (fun t ys=>by rw [k1];simp)).2 (fun t x=>by rw [k1];simp)]
   subst k2
   exact hc.2 ⟨_, .inr k1⟩
 | iR t x=>
  obtain ⟨b,o,us,rfl,h1,h2⟩:=hc
  exact ⟨b,o,us,rfl,h1.frame h.cell,h2.frame h.cell⟩
 | fn f caps=>
  obtain ⟨rfl,h2⟩:=hc
  refine ⟨?_,fun n hn=>⟨Nat.lt_of_lt_of_le (h2 n hn).1 h.next,h.fixed (h2 n hn).1 (h2 n hn).2⟩⟩
  congr 2
  exact List.map_congr_left fun n hn=>by rw [(h.loc n (h2 n hn).1 (h2 n hn).2).1]
 | any=>trivial
theorem bZ.tr {S S':aX} (h:Tr S S') {cs:List C} {vs:List Value} (hc:bZ eT S cs vs):bZ eT S' cs vs:=by
 induction hc with
 | nil=>exact .nil
 | cons h1 h2 _ ih=>exact .cons (h1.tr h) h2 ih
theorem dM.tr {S S':aX} (h:Tr S S') {x:bx} {v:Value} (hc:dM eT S x v):dM eT S' x v:=by
 cases x with
 | one c=>exact CR.tr h hc
 | agg cs=>obtain ⟨vs,rfl,h1⟩:=hc;exact ⟨vs,rfl,h1.tr h⟩
theorem bM.tr {S S':aX} (h:Tr S S') {xs:List bx} {vs:List Value} (hc:bM eT S xs vs):bM eT S' xs vs:=by
 induction hc with
 | nil=>exact .nil
 | cons h1 _ ih=>exact .cons (h1.tr h) ih
theorem bX.tr {S S':aX} (h:Tr S S') {x:SV} {v:Value} (hc:bX eT S x v):bX eT S' x v:=by
 cases x with
 | s x=>exact dM.tr h hc
 | gH xs=>obtain ⟨vs,rfl,h1⟩:=hc;exact ⟨vs,rfl,h1.tr h⟩
theorem fr.tr {S S':aX} (h:Tr S S') {t:Ty} {xs:List (D t)} {vs:Array Value} (hc:fr eT S t xs vs):fr eT S' t xs vs:=
 fun i y hy=>let ⟨us,h1,h2⟩:=hc i y hy;⟨us,h1.frame h.cell,h2⟩
theorem OR.tr {S S':aX} (h:Tr S S') {l:Loc} {oc:OC} (hb:∀b,b∈l.bs->S'.w.heap[b]?=S.w.heap[b]?) (ho:OR eT X S l oc):OR eT X S' l oc:=by
 cases oc with
 | cells T cs=>
  obtain ⟨b,vs,h1,h2,h3,h4⟩:=ho
  exact ⟨b,vs,h1,h2,by rw [hb b (by simp [h2])];exact h3,h4.tr h⟩
 | aQ t xs=>
  rcases ho with ho | ⟨b,vs,T,cap,h1,h2,h3,h4,h5,h6,h7⟩
  ·exact .inl ho
  ·exact .inr ⟨b,vs,T,cap,h1,h2,by rw [hb b (by simp [h2])];exact h3,h4,h5,h6,h7.tr h⟩
 | arr t xs=>
  obtain ⟨b,vs,T,h1,h2,h3,h4,h5⟩:=ho
  exact ⟨b,vs,T,h1,h2,by rw [hb b (by simp [h2])];exact h3,h4,h5.tr h⟩
 | tok t xs=>
  rcases ho with ho | ⟨b,vs,T,cap,h1,h2,h3,h4,h5,h6,h7⟩
  ·exact .inl ho
  ·exact .inr ⟨b,vs,T,cap,h1,h2,by rw [hb b (by simp [h2])];exact h3,h4,h5,h6,h7.tr h⟩
 | ext k t x=>exact X.frame ho hb
 | iter cs seen cl=>
  obtain ⟨b,m,c,sn,h1,h2,h3,h4,h5,h6⟩:=ho
  exact ⟨b,m,c,sn,h1,h2,by rw [hb b (by simp [h2])];exact h3,h4.tr h,h5,h6⟩
theorem OR.inside {S:aX} {l:Loc} {oc:OC} (ho:OR eT X S l oc):∀b∈l.bs,b < S.w.heap.size:=by
 intro b hb
 have key:∀{b':Nat} {o:Obj},S.w.heap[b']?=some o->b' < S.w.heap.size:=fun h=>(Array.getElem?_eq_some_iff.1 h).1
 cases oc with
 | cells T cs=>obtain ⟨b',vs,_,h2,h3,_⟩:=ho;rw [h2] at hb;simp at hb;subst hb;exact key h3
 | aQ t xs=>
  rcases ho with ⟨_,_,h⟩ | ⟨b',vs,T,cap,_,h2,h3,_⟩
  ·rw [h] at hb;simp at hb
  ·rw [h2] at hb;simp at hb;subst hb;exact key h3
 | arr t xs=>obtain ⟨b',vs,T,_,h2,h3,_⟩:=ho;rw [h2] at hb;simp at hb;subst hb;exact key h3
 | tok t xs=>
  rcases ho with ⟨_,_,h⟩ | ⟨b',vs,T,cap,_,h2,h3,_⟩
  ·rw [h] at hb;simp at hb
  ·rw [h2] at hb;simp at hb;subst hb;exact key h3
 | ext k t x=>exact X.inside ho b hb
 | iter cs seen cl=>obtain ⟨b',m,c,sn,_,h2,h3,_⟩:=ho;rw [h2] at hb;simp at hb;subst hb;exact key h3
end
end Go.Vg

namespace Go.Vg
open Go.RowKit
inductive VC:Type 1 where
 | leaf (p:Prop)
 | and (p:Prop) (k:VC)
 | imp (p:Prop) (k:VC)
 | all (α:Type) (k:α->VC)
 | ite (c:Bool) (a b:VC)
 | both (a b:VC)
 | ff
def VC.holds:VC->Prop
 | .leaf p=>p
 | .and p k=>p/\k.holds
 | .imp p k=>p->k.holds
 | .all α k=>∀x:α,(k x).holds
 | .ite c a b=>(c=true->a.holds)/\(c=false->b.holds)
 | .both a b=>a.holds/\b.holds
 | .ff=>False
section
variable {eT:TypeId} {X:Ext}
theorem iT {w w':World} (h:Below w.heap.size w w') {b o:Nat} {v:Value} (hc:w.cell? ⟨b,o,none⟩=some v):w'.cell? ⟨b,o,none⟩=some v:=by
 rw [h.cell (p:=⟨b,o,none⟩) (World.block_lt_of_cell? w _ hc)];exact hc
theorem nk {S S':aX} (g:Good eT X S) (hO:S'.O=S.O) (hob:S'.ob=S.ob) (hloc:S'.loc=S.loc) (hn:S'.next=S.next)
  (hw:Below S.w.heap.size S.w S'.w):Tr S S'/\Good eT X S':=by
 have hA:S'.A=S.A:=by funext b o;simp [aX.A,hO,hob,hloc]
 have ht:Tr S S':={
  O:=hO
  next:=by rw [hn];exact Nat.le_refl _
  os:=hw.os
  output:=hw.output
  size:=hw.size
  own:=fun b h => .inl (by simpa [aX.jv,hob,hloc] using h)
  cell:=fun b o v ha hc=>⟨iT hw hc,by rw [hA];exact ha⟩
  block:=fun b hb _=>hw.block b hb
  loc:=fun n _ _=>hJ (by rw [hloc])
  kind:=fun n oc' _ h=>⟨oc',by rw [<-hob];exact h,by cases oc' <;> simp [aM,hloc]⟩}
 refine ⟨ht,⟨fun n oc h => ?_,fun n m oc oc' b h1 h2 h3 h4 => ?_,fun n oc b off h1 h2 => ?_,g.iq.tr ht⟩⟩
 ·rw [hob] at h
  obtain ⟨h1,h2⟩:=g.obj n oc h
  refine ⟨by rw [hn];exact h1,?_⟩
  rw [hloc]
  exact h2.tr ht fun b hb=>hw.block b (h2.inside b hb)
 ·rw [hob] at h1 h2;rw [hloc] at h3 h4;exact g.apart n m oc oc' b h1 h2 h3 h4
 ·rw [hob] at h1;rw [hloc] at h2;rw [hO];exact g.out n oc b off h1 h2
theorem Eb {S S':aX} {oc:OC} {l:Loc} (g:Good eT X S) (hO:S'.O=S.O) (hOin:∀b off,S.O b off->b < S.w.heap.size)
  (hob:∀m,S'.ob m=if S.next=m then some oc else S.ob m) (hloc:∀m,S'.loc m=if S.next=m then l else S.loc m) (hn:S'.next=S.next + 1)
  (hw:Below S.w.heap.size S.w S'.w) (hl:∀b∈l.bs,S.w.heap.size<=b):Tr S S'/\(OR eT X S' l oc->Good eT X S'):=by
 have hne:∀n oc',S.ob n=some oc'->S.next≠n:=fun n oc' h e=>by have:=(g.obj n oc' h).1;omega
 have ht:Tr S S':={
  O:=hO
  next:=by rw [hn];omega
  os:=hw.os
  output:=hw.output
  size:=hw.size
  own:=fun b h=>by
   obtain ⟨n,oc',h1,h2⟩:=h
   rw [hob] at h1;rw [hloc] at h2
   by_cases e:S.next=n
   ·rw [if_pos e] at h2;exact .inr (hl b h2)
   ·rw [if_neg e] at h1 h2;exact .inl ⟨n,oc',h1,h2⟩
  cell:=fun b o v ha hc=>⟨iT hw hc,fun h=>by
   rcases h with h | ⟨n,oc',h1,h2,h3⟩
   ·rw [hO] at h;exact ha (.inl h)
   ·rw [hob] at h1;rw [hloc] at h2
    by_cases e:S.next=n
    ·rw [if_pos e] at h2
     have:=hl b h2
     have:=World.block_lt_of_cell? S.w _ hc
     simp at this;omega
    ·rw [if_neg e] at h1 h2;exact ha (.inr ⟨n,oc',h1,h2,h3⟩)⟩
  block:=fun b hb _=>hw.block b hb
  loc:=fun n hlt _=>hJ (by rw [hloc,if_neg (by omega)])
  kind:=fun n oc' hlt h=>by
   rw [hob,if_neg (by omega)] at h
   exact ⟨oc',h,by cases oc' <;> simp [aM];rw [hloc,if_neg (by omega)]⟩}
 refine ⟨ht,fun ho=>⟨fun n oc' h => ?_,fun n m oc1 oc2 b h1 h2 h3 h4 => ?_,fun n oc' b off h1 h2 => ?_,g.iq.tr ht⟩⟩
 ·rw [hob] at h
  rw [hloc]
  by_cases e:S.next=n
  ·rw [if_pos e] at h ⊢;cases h;exact ⟨by omega,ho⟩
  ·rw [if_neg e] at h ⊢
   obtain ⟨h1,h2⟩:=g.obj n oc' h
   exact ⟨by omega,h2.tr ht fun b hb=>hw.block b (h2.inside b hb)⟩
 ·rw [hob] at h1 h2;rw [hloc] at h3 h4
  by_cases e:S.next=n
  ·by_cases e':S.next=m
   ·omega
   ·rw [if_pos e] at h3;rw [if_neg e'] at h2 h4
    have:=hl b h3
    have:=(g.obj m oc2 h2).2.inside b h4
    omega
  ·rw [if_neg e] at h1 h3
   by_cases e':S.next=m
   ·rw [if_pos e'] at h4
    have:=hl b h4
    have:=(g.obj n oc1 h1).2.inside b h3
    omega
   ·rw [if_neg e'] at h2 h4;exact g.apart n m oc1 oc2 b h1 h2 h3 h4
 ·rw [hob] at h1;rw [hloc] at h2;rw [hO]
  by_cases e:S.next=n
  ·rw [if_pos e] at h2
   intro hc
   have:=hl b h2
   have:=hOin b off hc
   omega
  ·rw [if_neg e] at h1 h2;exact g.out n oc' b off h1 h2
theorem jw {S S':aX} {n:Nat} {oc oc':OC} {l':Loc} (g:Good eT X S) (hO:S'.O=S.O) (hOin:∀b off,S.O b off->b < S.w.heap.size)
  (hn0:S.ob n=some oc) (hob:∀m,S'.ob m=if n=m then some oc' else S.ob m) (hloc:∀m,S'.loc m=if n=m then l' else S.loc m) (hn:S'.next=S.next)
  (hl:(∀t ys,oc≠.tok t ys)->l'.v=(S.loc n).v/\((∀t x,oc≠.ext 2 t x)->l'=S.loc n)) (hk:aM (S.loc n) l' oc oc')
  (hos:S'.w.os=S.w.os) (hout:S'.w.output=S.w.output) (hsize:S.w.heap.size<=S'.w.heap.size)
  (hb:∀b,b < S.w.heap.size->b∉(S.loc n).bs->S'.w.heap[b]?=S.w.heap[b]?)
  (hc:∀b o v,b∈(S.loc n).bs->o < oc.lo->S.w.cell? ⟨b,o,none⟩=some v->S'.w.cell? ⟨b,o,none⟩=some v)
  (hlo:∀b∈l'.bs,(b∈(S.loc n).bs/\oc.lo<=oc'.lo)\/S.w.heap.size<=b):Tr S S'/\(OR eT X S' l' oc'->Good eT X S'):=by
 have ht:Tr S S':={
  O:=hO
  next:=by rw [hn];exact Nat.le_refl _
  os:=hos
  output:=hout
  size:=hsize
  own:=fun b h=>by
   obtain ⟨m,oc1,h1,h2⟩:=h
   rw [hob] at h1;rw [hloc] at h2
   by_cases e:n=m
   ·rw [if_pos e] at h2
    rcases hlo b h2 with h | h
    ·exact .inl ⟨n,oc,hn0,h.1⟩
    ·exact .inr h
   ·rw [if_neg e] at h1 h2;exact .inl ⟨m,oc1,h1,h2⟩
  cell:=fun b o v ha hcell=>by
   have hlt:=World.block_lt_of_cell? S.w _ hcell
   simp only at hlt
   constructor
   ·by_cases hm:b∈(S.loc n).bs
    ·refine hc b o v hm ?_ hcell
     apply Nat.lt_of_not_le
     intro hle
     exact ha (.inr ⟨n,oc,hn0,hm,hle⟩)
    ·rw [World.cell?_of_block (w:=S.w) (w':=S'.w) (a:=⟨b,o,none⟩) (hb b hlt hm)];exact hcell
   ·intro h
    rcases h with h | ⟨m,oc1,h1,h2,h3⟩
    ·rw [hO] at h;exact ha (.inl h)
    ·rw [hob] at h1;rw [hloc] at h2
     by_cases e:n=m
     ·rw [if_pos e] at h1 h2
      cases h1
      rcases hlo b h2 with h | h
      ·exact ha (.inr ⟨n,oc,hn0,h.1,by omega⟩)
      ·omega
     ·rw [if_neg e] at h1 h2;exact ha (.inr ⟨m,oc1,h1,h2,h3⟩)
  block:=fun b hlt ho=>hb b hlt fun hm=>ho ⟨n,oc,hn0,hm⟩
  loc:=fun m _ hf=>by
   rw [hloc]
   by_cases e:n=m
   ·rw [if_pos e,<-e]
    have hl':=hl fun t ys e'=>by subst e;subst e';exact hf t ys hn0
    exact ⟨hl'.1,fun hr=>hl'.2 fun t x e'=>by subst e';exact hr t x hn0⟩
   ·rw [if_neg e];exact hJ rfl
  kind:=fun m oc1 _ h=>by
   rw [hob] at h
   rw [hloc]
   by_cases e:n=m
   ·rw [if_pos e] at h ⊢;cases h;subst e;exact ⟨oc,hn0,hk⟩
   ·rw [if_neg e] at h ⊢;exact ⟨oc1,h,by cases oc1 <;> simp [aM]⟩}
 refine ⟨ht,fun ho=>⟨fun m oc1 h => ?_,fun m1 m2 oc1 oc2 b h1 h2 h3 h4 => ?_,fun m oc1 b off h1 h2 => ?_,g.iq.tr ht⟩⟩
 ·rw [hob] at h
  rw [hloc]
  by_cases e:n=m
  ·rw [if_pos e] at h ⊢;cases h;exact ⟨by rw [hn,<-e];exact (g.obj n oc hn0).1,ho⟩
  ·rw [if_neg e] at h ⊢
   obtain ⟨h1,h2⟩:=g.obj m oc1 h
   refine ⟨by omega,h2.tr ht fun b hbm=>hb b (h2.inside b hbm) fun hbn=>e (g.apart n m oc oc1 b hn0 h hbn hbm)⟩
 ·rw [hob] at h1 h2;rw [hloc] at h3 h4
  have key:∀m oc1,n≠m->S.ob m=some oc1->b∈l'.bs->b∈(S.loc m).bs->False:=by
   intro m oc1 e hm hbl hbm
   rcases hlo b hbl with h | h
   ·exact e (g.apart n m oc oc1 b hn0 hm h.1 hbm)
   ·have:=(g.obj m oc1 hm).2.inside b hbm;omega
  by_cases e:n=m1
  ·by_cases e':n=m2
   ·omega
   ·rw [if_pos e] at h3;rw [if_neg e'] at h2 h4;exact (key m2 oc2 e' h2 h3 h4).elim
  ·rw [if_neg e] at h1 h3
   by_cases e':n=m2
   ·rw [if_pos e'] at h4;exact (key m1 oc1 e h1 h4 h3).elim
   ·rw [if_neg e'] at h2 h4;exact g.apart m1 m2 oc1 oc2 b h1 h2 h3 h4
 ·rw [hob] at h1;rw [hloc] at h2;rw [hO]
  by_cases e:n=m
  ·rw [if_pos e] at h2
   rcases hlo b h2 with h | h
   ·exact g.out n oc b off hn0 h.1
   ·intro hc';have:=hOin b off hc';omega
  ·rw [if_neg e] at h1 h2;exact g.out m oc1 b off h1 h2
end
end Go.Vg

namespace Go.Vg
open Go.RowKit
theorem gO {a b:Nat} (h:Nat.blt a b=true):a < b:=Nat.le_of_ble_eq_true h
theorem zY {a b:Nat} (h:Nat.blt a b=false):¬ a < b:=fun k=>by
 have:Nat.blt a b=true:=Nat.ble_eq_true_of_le k
 rw [this] at h;cases h
def zeroCell:Ty->Value->Bool
 | .bool, .bool b => !b
 | .int k, .int k' n=>decide (k=k') && decide (n=0)
 | .str, .string s=>Nat.beq s.size 0
 | .err, .nilIface=>true
 | .slice _, .slice none l c=>Nat.beq l 0 && Nat.beq c 0
 | .cO, .pointer none=>true
 | .cO, .map none=>true
 | .cO, .nilFunc=>true
 | .cO, .nilIface=>true
 | _,_=>false
def cf:Ty->List Value->Bool
 | .prod a b,vs=>cf a (vs.take a.size) && cf b (vs.drop a.size)
 | .unit,vs=>vs.isEmpty
 | t,[v]=>t.one && zeroCell t v
 | _,_=>false
def jx (ty:Ty):Nat->List Value->Bool
 | 0,vs=>vs.isEmpty
 | n + 1,vs=>cf ty (vs.take ty.size) && jx ty n (vs.drop ty.size)
def bR (f:TypeId->Ty->Bool):List Field->Nat->Ty->Bool
 | [],_, .unit=>true
 | g :: gs,off, .prod a b=>Nat.beq g.offset off && f g.type a && Nat.blt 0 a.size && bR f gs (off + a.size) b
 | _,_,_=>false
def bj (f:TypeId->Ty->Bool):Ty->TypeDesc->Bool
 | .bool, .bool=>true
 | .int k, .int k'=>decide (k=k')
 | .str, .string=>true
 | .err, .interface _=>true
 | .slice e, .slice te=>f te e
 | .cO, .struct _=>false
 | .cO, .array _ _=>false
 | .cO,_=>true
 | .prod a b, .struct fs=>bR f fs.toList 0 (.prod a b)
 | .unit, .struct fs=>bR f fs.toList 0 .unit
 | _,_=>false
def fits (P:Program):Nat->TypeId->Ty->Bool
 | 0,_,_=>false
 | n + 1,t,ty=>match P.info? t,P.underlying t with
  | some i,some d=>Nat.beq i.size ty.size && Nat.ble i.bytes 4096 &&
    (match i.zero with | some z=>cf ty z.cells.toList | none=>false) && bj (fits P n) ty d
  | _,_=>false
structure Fit (P:Program) (t:TypeId) (ty:Ty) (i:TypeInfo) (d:TypeDesc):Prop where
 info:P.info? t=some i
 dG:P.underlying t=some d
 size:i.size=ty.size
 bytes:i.bytes<=4096
 zero:∃z,i.zero=some z/\cf ty z.cells.toList=true
theorem ft {P:Program} {n:Nat} {t:TypeId} {ty:Ty} (h:fits P n t ty=true) :
  ∃m i d,n=m + 1/\Fit P t ty i d/\bj (fits P m) ty d=true:=by
 cases n with
 | zero=>simp [fits] at h
 | succ m=>
  simp only [fits] at h
  split at h
  ·rename_i i d hi hd
   simp only [Bool.and_eq_true] at h
   obtain ⟨⟨⟨h1,h2⟩,h3⟩,h4⟩:=h
   refine ⟨m,i,d,rfl,⟨hi,hd,Nat.eq_of_beq_eq_true h1,Nat.le_of_ble_eq_true h2,?_⟩,h4⟩
   split at h3
   ·rename_i z hz;exact ⟨z,hz,h3⟩
   ·cases h3
  ·cases h
def bF:(t:Ty)->D t
 | .bool=>false
 | .int _=>0
 | .str=>[]
 | .err => .nil
 | .cO=>()
 | .unit=>()
 | .prod a b=>(bF a,bF b)
 | .slice _=>[]
def kV:Ty->List C
 | .cO=>[.any]
 | .unit=>[]
 | .prod a b=>kV a++kV b
 | .slice _=>[.dZ]
 | .bool=>[.lit false]
 | .int k=>[.d (.int k) 0]
 | .str=>[.d .str []]
 | .err=>[.d .err .nil]
def bo {a b:Ty} (h:Ty.beq a b=true) (x:D a):D b:=Ty.eq_of_beq h▸x
theorem fW {eT:TypeId} {a b:Ty} (h:Ty.beq a b=true) (x:D a) {A:aD} {w:World} {vs:List Value} (hr:R eT a x A w vs):R eT b (bo h x) A w vs:=by
 have:=Ty.eq_of_beq h;subst this;exact hr
theorem fu {eT:TypeId} {a b:Ty} (h:Ty.beq a b=true) (x:D a) {A:aD} {w:World} {v:Value} (hr:VR eT a x A w v):VR eT b (bo h x) A w v:=by
 have:=Ty.eq_of_beq h;subst this;exact hr
def ot (want:Ty):C->Option (D want)
 | .lit b=>match h:Ty.beq .bool want with
  | true=>some (bo h (a:=.bool) b)
  | false=>none
 | .d t x=>match h:Ty.beq t want with
  | true=>some (bo h x)
  | false=>none
 | .app t xs _=>match h:Ty.beq (.slice t) want with
  | true=>some (bo h (a:=.slice t) xs)
  | false=>none
 | .dZ=>match want with
  | .slice _=>some []
  | _=>none
 | .emp=>match want with
  | .slice _=>some []
  | _=>none
 | _=>none
def fQ:(t:Ty)->List C->Option (D t × List C)
 | .prod a b,cs=>match fQ a cs with
  | some (x,cs1)=>match fQ b cs1 with
   | some (y,cs2)=>some ((x,y),cs2)
   | none=>none
  | none=>none
 | .unit,cs=>some ((),cs)
 | t,c :: cs=>match ot t c with
  | some x=>some (x,cs)
  | none=>none
 | _,[]=>none
def kv (want:Ty):bx->Option (D want)
 | .one c=>ot want c
 | .agg cs=>match want.one with
  | true=>none
  | false=>match fQ want cs with
   | some (x,[])=>some x
   | _=>none
def pT:(t:Ty)->D t->List C
 | .prod a b,x=>pT a x.1++pT b x.2
 | .unit,_=>[]
 | t,x=>[.d t x]
def zZ:(t:Ty)->D t->Nat->(want:Ty)->Option (D want)
 | .prod a b,x,off,want=>match (Nat.beq off 0 && Ty.beq (.prod a b) want) with
  | true=>match h:Ty.beq (.prod a b) want with
   | true=>some (bo h (a:=.prod a b) x)
   | false=>none
  | false=>match Nat.blt off a.size with
   | true=>zZ a x.1 off want
   | false=>zZ b x.2 (off - a.size) want
 | t,x,off,want=>match Nat.beq off 0 with
  | true=>match h:Ty.beq t want with
   | true=>some (bo h x)
   | false=>none
  | false=>none
def comp:(t:Ty)->D t->Nat->Option ((u:Ty) × D u)
 | .prod a _,x,0=>some ⟨a,x.1⟩
 | .prod _ b,x,f + 1=>comp b x.2 f
 | _,_,_=>none
def e9:Ty->Nat->Option Nat
 | .prod _ _,0=>some 0
 | .prod a b,f + 1=>match e9 b f with
  | some o=>some (a.size + o)
  | none=>none
 | _,_=>none
section
variable {eT:TypeId} {X:Ext}
theorem R.kb {e:Ty} {A:aD} {w:World}:R eT (.slice e) [] A w [.slice none 0 0]:=
 ⟨_,rfl,by simp, .inl ⟨rfl,none,0,rfl⟩⟩
theorem mA {S:aX} {want:Ty} {c:C} {x:D want} {v:Value} (h:ot want c=some x) (hc:CR eT S c v):VR eT want x S.A S.w v:=by
 cases c <;> simp only [ot] at h
 case lit b=>
  split at h
  ·cases h
   rename_i hb
   exact fu hb _ (VR.bt rfl (show R eT .bool b _ _ _ from by rw [show v=_ from hc];rfl))
  ·cases h
 case d t y=>
  split at h
  ·cases h;rename_i hb;exact fu hb _ hc
  ·cases h
 case app t xs n=>
  split at h
  ·cases h;rename_i hb;exact fu hb _ hc.1
  ·cases h
 case dZ=>
  cases want <;> simp at h
  subst h
  rw [show v=_ from hc]
  exact VR.bt rfl R.kb
 case emp=>
  cases want <;> simp at h
  subst h
  obtain ⟨a,rfl⟩:=hc
  exact VR.bt rfl ⟨_,rfl,by simp, .inl ⟨rfl,a,0,rfl⟩⟩
 all_goals cases h
theorem qm {t:Ty} {x:D t} {A:aD} {w:World} {v:Value} (ho:v.oneCell'=true) (h:VR eT t x A w v):t.one=true/\R eT t x A w [v]:=by
 unfold VR at h
 split at h
 ·rename_i h1;exact ⟨h1,h⟩
 ·obtain ⟨cs,rfl,_⟩:=h;simp [Value.oneCell'] at ho
theorem tX {S:aX}:∀{t:Ty} {cs cs':List C} {x:D t} {vs:List Value},fQ t cs=some (x,cs')->bZ eT S cs vs->
  ∃us vs',vs=us++vs'/\R eT t x S.A S.w us/\bZ eT S cs' vs':=by
 have one:∀{t:Ty} {c:C} {cs cs':List C} {x:D t} {vs:List Value},(match ot t c with | some x=>some (x,cs) | none=>none)=some (x,cs')->bZ eT S (c :: cs) vs->
   ∃us vs',vs=us++vs'/\R eT t x S.A S.w us/\bZ eT S cs' vs':=by
  intro t c cs cs' x vs h hc
  cases hc with
  | cons h1 h2 h3=>
   rename_i v vs0
   split at h
   ·rename_i y hy
    cases h
    exact ⟨[v],vs0,rfl,(qm h2 (mA hy h1)).2,h3⟩
   ·cases h
 intro t
 induction t with
 | prod a b iha ihb=>
  intro cs cs' x vs h hc
  simp only [fQ] at h
  split at h
  ·rename_i y cs1 h1
   split at h
   ·rename_i z cs2 h2
    cases h
    obtain ⟨u1,v1,rfl,r1,k1⟩:=iha h1 hc
    obtain ⟨u2,v2,rfl,r2,k2⟩:=ihb h2 k1
    exact ⟨u1++u2,v2,by simp,⟨u1,u2,rfl,r1,r2⟩,k2⟩
   ·cases h
  ·cases h
 | unit=>
  intro cs cs' x vs h hc
  simp only [fQ] at h
  cases h
  exact ⟨[],vs,rfl,rfl,hc⟩
 | bool=>intro cs cs' x vs h hc;cases cs with | nil=>simp [fQ] at h | cons c cs=>exact one (t:=.bool) h hc
 | int k=>intro cs cs' x vs h hc;cases cs with | nil=>simp [fQ] at h | cons c cs=>exact one (t:=.int k) h hc
 | str=>intro cs cs' x vs h hc;cases cs with | nil=>simp [fQ] at h | cons c cs=>exact one (t:=.str) h hc
 | err=>intro cs cs' x vs h hc;cases cs with | nil=>simp [fQ] at h | cons c cs=>exact one (t:=.err) h hc
 | cO=>intro cs cs' x vs h hc;cases cs with | nil=>simp [fQ] at h | cons c cs=>exact one (t:=.cO) h hc
 | slice e _=>intro cs cs' x vs h hc;cases cs with | nil=>simp [fQ] at h | cons c cs=>exact one (t:=.slice e) h hc
theorem fv {S:aX} {want:Ty} {c:bx} {x:D want} {v:Value} (h:kv want c=some x) (hc:dM eT S c v):VR eT want x S.A S.w v:=by
 cases c with
 | one c=>exact mA h hc
 | agg cs=>
  simp only [kv] at h
  obtain ⟨vs,rfl,hcs⟩:=hc
  split at h
  ·cases h
  ·rename_i ho
   split at h
   ·rename_i y hy
    cases h
    obtain ⟨us,vs',rfl,r,k⟩:=tX hy hcs
    cases k
    unfold VR
    rw [if_neg (by simp [ho])]
    exact ⟨_,rfl,by simpa using r⟩
   ·cases h
theorem bZ.append {S:aX} {cs cs':List C} {vs vs':List Value} (h:bZ eT S cs vs) (h':bZ eT S cs' vs'):bZ eT S (cs++cs') (vs++vs'):=by
 induction h with
 | nil=>exact h'
 | cons h1 h2 _ ih=>exact .cons h1 h2 ih
theorem bZ.length {S:aX} {cs:List C} {vs:List Value} (h:bZ eT S cs vs):cs.length=vs.length:=by
 induction h with
 | nil=>rfl
 | cons _ _ _ ih=>simp [ih]
theorem bZ.get {S:aX} {cs:List C} {vs:List Value} (h:bZ eT S cs vs):∀{j:Nat} {c:C},cs[j]?=some c->∃v,vs[j]?=some v/\CR eT S c v/\v.oneCell'=true:=by
 induction h with
 | nil=>intro j c h;simp at h
 | cons h1 h2 _ ih=>
  intro j c h
  cases j with
  | zero=>simp at h;subst h;exact ⟨_,rfl,h1,h2⟩
  | succ j=>simp at h;simpa using ih h
theorem bZ.drop {S:aX} {cs:List C} {vs:List Value} (h:bZ eT S cs vs):∀k,bZ eT S (cs.drop k) (vs.drop k):=by
 induction h with
 | nil=>intro k;simp;exact .nil
 | cons h1 h2 h3 ih=>
  intro k
  cases k with
  | zero=>exact .cons h1 h2 h3
  | succ k=>exact ih k
theorem bZ.take {S:aX} {cs:List C} {vs:List Value} (h:bZ eT S cs vs):∀k,bZ eT S (cs.take k) (vs.take k):=by
 induction h with
 | nil=>intro k;simp;exact .nil
 | cons h1 h2 h3 ih=>
  intro k
  cases k with
  | zero=>exact .nil
  | succ k=>exact .cons h1 h2 (ih k)
theorem yu {S:aX}:∀{t:Ty} {x:D t} {vs:List Value},R eT t x S.A S.w vs->bZ eT S (pT t x) vs:=by
 intro t
 induction t with
 | prod a b iha ihb=>
  intro x vs h
  obtain ⟨u1,u2,rfl,h1,h2⟩:=h
  exact (iha h1).append (ihb h2)
 | unit=>intro x vs h;cases h;exact .nil
 | slice e _=>
  intro x vs h
  have ho:=h.fK
  obtain ⟨v,rfl,hr⟩:=id h
  exact .cons (VR.bt rfl h) (ho v (by simp)) .nil
 | err=>
  intro x vs h
  have ho:=h.fK
  obtain ⟨v,rfl,hr⟩:=id h
  exact .cons (VR.bt rfl h) (ho v (by simp)) .nil
 | bool=>intro x vs h;cases h;exact .cons (VR.bt rfl rfl) rfl .nil
 | int k=>intro x vs h;have h':=h;obtain ⟨rfl,_⟩:=h;exact .cons (VR.bt rfl h') rfl .nil
 | str=>intro x vs h;have h':=h;obtain ⟨rfl,_⟩:=h;exact .cons (VR.bt rfl h') rfl .nil
 | cO=>intro x vs h;exact h.elim
theorem z1:∀{t:Ty} {x:D t} {off:Nat} {want:Ty} {y:D want} {A:aD} {w:World} {vs:List Value},zZ t x off want=some y->R eT t x A w vs->
  R eT want y A w ((vs.drop off).take want.size):=by
 have one:∀{t:Ty} {x:D t} {off:Nat} {want:Ty} {y:D want} {A:aD} {w:World} {vs:List Value},
   (match Nat.beq off 0 with | true=>(match h:Ty.beq t want with | true=>some (bo h x) | false=>none) | false=>none)=some y->R eT t x A w vs->
   R eT want y A w ((vs.drop off).take want.size):=by
  intro t x off want y A w vs h hr
  split at h
  ·rename_i h0
   have h0:=Nat.eq_of_beq_eq_true h0
   subst h0
   split at h
   ·rename_i hb
    cases h
    have e:=fW hb x hr
    have hl:=e.length
    simp only [List.drop_zero]
    rw [List.take_of_length_le (by omega)]
    exact e
   ·cases h
  ·cases h
 intro t
 induction t with
 | prod a b iha ihb=>
  intro x off want y A w vs h hr
  simp only [zZ] at h
  split at h
  ·rename_i hb0
   simp at hb0
   split at h
   ·rename_i hb
    cases h
    have e:=fW hb x hr
    have hl:=e.length
    rw [hb0.1,List.drop_zero,List.take_of_length_le (by omega)]
    exact e
   ·cases h
  ·obtain ⟨u1,u2,rfl,r1,r2⟩:=hr
   have hl1:=r1.length
   have hl2:=r2.length
   split at h
   ·rename_i hlt
    have hlt:off < a.size:=gO hlt
    have:=iha h r1
    have hlw:=this.length
    simp only [List.length_take,List.length_drop] at hlw
    rw [List.drop_append_of_le_length (by omega),List.take_append_of_le_length (by simp only [List.length_drop];omega)]
    exact this
   ·rename_i hlt
    have hlt:¬ off < a.size:=zY hlt
    have:=ihb h r2
    rw [List.drop_append,List.drop_of_length_le (by omega),List.nil_append]
    rw [hl1]
    exact this
 | unit=>intro x off want y A w vs h hr;exact one (t:=.unit) h hr
 | bool=>intro x off want y A w vs h hr;exact one (t:=.bool) h hr
 | int k=>intro x off want y A w vs h hr;exact one (t:=.int k) h hr
 | str=>intro x off want y A w vs h hr;exact one (t:=.str) h hr
 | err=>intro x off want y A w vs h hr;exact one (t:=.err) h hr
 | cO=>intro x off want y A w vs h hr;exact one (t:=.cO) h hr
 | slice e _=>intro x off want y A w vs h hr;exact one (t:=.slice e) h hr
end
end Go.Vg

namespace Go.Vg
open Go.RowKit
def aK (n:Int):Prop:=-9223372036854775808<=n/\n<=9223372036854775807
theorem kP (n:Int):(IntKind.i64.min<=n/\n<=IntKind.i64.max) ↔ aK n:=by
 unfold aK;simp [IntKind.min,IntKind.max,IntKind.signed,IntKind.bits]
def GL:IntKind->Int->Bool
 | .i8,n=>decide (-128<=n) && decide (n<=127)
 | .i16,n=>decide (-32768<=n) && decide (n<=32767)
 | .i32,n=>decide (-2147483648<=n) && decide (n<=2147483647)
 | .i64,n=>decide (-9223372036854775808<=n) && decide (n<=9223372036854775807)
 | .u8,n=>decide (0<=n) && decide (n<=255)
 | .u16,n=>decide (0<=n) && decide (n<=65535)
 | .u32,n=>decide (0<=n) && decide (n<=4294967295)
 | .u64,n=>decide (0<=n) && decide (n<=18446744073709551615)
def aV.isNil:aV->Bool
 | .nil=>true
 | _=>false
def aV.AP:aV->Bool
 | .no _=>true
 | _=>false
def aV.num:aV->Int
 | .no n=>n
 | _=>0
def Ec (op:BinOp) (a b:Int):Option Bool:=
 match op with
 | .eql=>some (a == b)
 | .neq=>some (a != b)
 | .lss=>some (decide (a < b))
 | .leq=>some (decide (a<=b))
 | .gtr=>some (decide (a > b))
 | .geq=>some (decide (a>=b))
 | _=>none
def vL (op:BinOp) (k:IntKind) (a b:Int):Option Int:=
 match op with
 | .and=>some (k.wrap (BitVec.ofInt k.bits a &&& BitVec.ofInt k.bits b).toNat)
 | .or=>some (k.wrap (BitVec.ofInt k.bits a ||| BitVec.ofInt k.bits b).toNat)
 | .xor=>some (k.wrap (BitVec.ofInt k.bits a ^^^ BitVec.ofInt k.bits b).toNat)
 | .andNot=>some (k.wrap (BitVec.ofInt k.bits a &&& ~~~(BitVec.ofInt k.bits b)).toNat)
 | _=>none
def Ed (op:BinOp) (a b:List UInt8):Option Bool:=
 match op with
 | .eql=>some (a == b)
 | .neq=>some (!(a == b))
 | .lss=>some (Op.bytesLess a b)
 | .leq=>some (Op.bytesLess a b || a == b)
 | .gtr=>some (!(Op.bytesLess a b || a == b))
 | .geq=>some (!(Op.bytesLess a b))
 | _=>none
def kE (r:Int) (K:Int->VC):VC:=.all Int fun x => .imp (x=r) (K x)
theorem cR {r:Int} {K:Int->VC} (h:(kE r K).holds):(K r).holds:=h r rfl
def arith (k:IntKind) (a b r:Int) (K:C->VC):VC:=
 match k with
 | .i64 => .imp (aK a) (.imp (aK b) (.and (aK r) (K (.d (.int .i64) r))))
 | k=>kE (k.wrap r) fun x=>K (.d (.int k) x)
def GM (op:BinOp) (k k':IntKind) (a b:Int) (K:C->VC):VC:=
 match op with
 | .shl => .and (0<=b) (kE (k.wrap (a * 2 ^ (min b.toNat k.bits))) fun x=>K (.d (.int k) x))
 | .shr => .and (0<=b) (kE (a.fdiv (2 ^ (min b.toNat k.bits))) fun x=>K (.d (.int k) x))
 | op=>match decide (k=k') with
  | false => .ff
  | true=>match op with
   | .add=>arith k a b (a + b) K
   | .sub=>arith k a b (a - b) K
   | .mul=>kE (a * b) fun x=>arith k a b x K
   | .quo => .and (b≠0) (kE (a.tdiv b) fun x=>arith k a b x K)
   | .rem => .and (b≠0) (kE (a.tmod b) fun x=>K (.d (.int k) x))
   | op=>match Ec op a b with
    | some r=>K (.d .bool r)
    | none=>match vL op k a b with
     | some r=>kE r fun x=>K (.d (.int k) x)
     | none => .ff
def gv:C->Option Bool
 | .lit b=>some b
 | .d .bool b=>some b
 | _=>none
def qP:C->Bool
 | .d .err .nil=>true
 | _=>false
def nn (op:BinOp) (x y:C) (ny:Bool) (K:C->VC):VC:=
 match x,y with
 | .d (.int k) a, .d (.int k') b=>GM op k k' a b K
 | .d .str a, .d .str b=>match op with
  | .add => .and (a.length + b.length<=aH) (K (.d .str (a++b)))
  | op=>match Ed op a b with
   | some r=>K (.d .bool r)
   | none => .ff
 | .d .err e,y=>match ny && qP y with
  | false => .ff
  | true=>match op with
   | .eql=>K (.d .bool e.isNil)
   | .neq=>K (.d .bool (!e.isNil))
   | _ => .ff
 | x,y=>match gv x,gv y with
  | some a,some b=>match op with
   | .eql=>K (.d .bool (a == b))
   | .neq=>K (.d .bool (!(a == b)))
   | _ => .ff
  | _,_ => .ff
def Ee (op:UnOp) (x:C) (K:C->VC):VC:=
 match op,x with
 | .not, .lit b=>match b with
  | true=>K (.lit false)
  | false=>K (.lit true)
 | .not, .d .bool b=>K (.d .bool (!b))
 | .neg, .d (.int k) a=>arith k 0 a (0 - a) K
 | _,_ => .ff
def GN (k k':IntKind):Bool:=decide (k'.min<=k.min) && decide (k.max<=k'.max)
def v7 (dst:Ty) (x:C) (K:C->VC):VC:=
 match dst,x with
 | .int k', .d (.int k) a=>match GN k k' with
  | true=>K (.d (.int k') a)
  | false=>K (.d (.int k') (k'.wrap a))
 | _,_ => .ff
def v8:Value->C
 | .bool b => .lit b
 | .int k n=>match GL k n with
  | true => .d (.int k) n
  | false => .any
 | .string s=>match Nat.ble s.size aH with
  | true => .d .str s.data.toList
  | false => .any
 | .nilIface => .d .err .nil
 | .slice none 0 0 => .dZ
 | .pointer none => .c7
 | _ => .any
def ev (env:List (Nat × SV)):Operand->SV
 | .tmp t=>match look env t with
  | some v=>v
  | none => .s (.one .any)
 | .const v => .s (.one (v8 v))
 | .func f => .s (.one (.fn f []))
 | .global _ => .s (.one .any)
def bY (env:List (Nat × SV)) (x:Operand):C:=
 match ev env x with
 | .s (.one c)=>c
 | _ => .any
def kC (env:List (Nat × SV)) (x:Operand):bx:=
 match ev env x with
 | .s c=>c
 | _ => .one .any
section
variable {eT:TypeId} {X:Ext}
def dz (eT:TypeId) (S:aX) (env:List (Nat × SV)) (a:Act):Prop:=∀t sv,look env t=some sv->bX eT S sv (a.tmps.getD t undef)
theorem yv {k:IntKind} {n:Int} (h:GL k n=true):k.min<=n/\n<=k.max:=by
 cases k <;> simp [GL,IntKind.min,IntKind.max,IntKind.signed,IntKind.bits] at h ⊢ <;> omega
theorem bB {S:aX} {k:IntKind} {n:Int} {v:Value}:CR eT S (.d (.int k) n) v ↔ v = .int k n/\k.min<=n/\n<=k.max:=by
 show VR eT (.int k) n S.A S.w v ↔ _
 unfold VR R
 simp [Ty.one]
theorem eh {S:aX} {s:List UInt8} {v:Value}:CR eT S (.d .str s) v ↔ v = .string ⟨s.toArray⟩/\s.length<=aH:=by
 show VR eT .str s S.A S.w v ↔ _
 unfold VR R
 simp [Ty.one]
theorem b6 {S:aX} {b:Bool} {v:Value}:CR eT S (.d .bool b) v ↔ v = .bool b:=by
 show VR eT .bool b S.A S.w v ↔ _
 unfold VR R
 simp [Ty.one]
theorem gw {S:aX} {e:aV} {v:Value}:CR eT S (.d .err e) v ↔ D9 eT e v:=by
 show VR eT .err e S.A S.w v ↔ _
 unfold VR R
 simp [Ty.one]
theorem AQ (S:aX) (v:Value):CR eT S (v8 v) v:=by
 unfold v8
 split
 ·rfl
 ·split
  ·rename_i h;exact bB.2 ⟨rfl,yv h⟩
  ·trivial
 ·split
  ·rename_i s h;exact eh.2 ⟨by rw [Array.toArray_toList],by have:=Nat.le_of_ble_eq_true h;rw [Array.length_toList];exact this⟩
  ·trivial
 ·exact gw.2 rfl
 ·rfl
 ·rfl
 ·trivial
theorem fX {S:aX} {env:List (Nat × SV)} {a:Act} (h:dz eT S env a) (x:Operand):bX eT S (ev env x) (a.eval x):=by
 cases x with
 | tmp t=>
  simp only [ev]
  split
  ·rename_i v hv;exact h t v hv
  ·trivial
 | const v=>exact AQ S v
 | func f=>exact ⟨rfl,fun n hn=>by simp at hn⟩
 | global g=>trivial
theorem aZ {S:aX} {env:List (Nat × SV)} {a:Act} (h:dz eT S env a) (x:Operand):CR eT S (bY env x) (a.eval x):=by
 have:=fX h x
 unfold bY
 split
 ·rename_i c hc;rw [hc] at this;exact this
 ·trivial
theorem fL {S:aX} {env:List (Nat × SV)} {a:Act} (h:dz eT S env a) (x:Operand):dM eT S (kC env x) (a.eval x):=by
 have:=fX h x
 unfold kC
 split
 ·rename_i c hc;rw [hc] at this;exact this
 ·trivial
theorem iU (k:IntKind) (n:Int):k.min<=k.wrap n/\k.wrap n<=k.max:=wrap_within k n
theorem tm {k:IntKind} {n:Int} (h:k.min<=n/\n<=k.max):k.wrap n=n:=by
 cases k <;> simp [IntKind.min,IntKind.max,IntKind.signed,IntKind.bits] at h
 ·exact IntWalk.i8_in n h
 ·exact IntWalk.i16_in n h
 ·exact IntWalk.i32_in n h
 ·exact IntWalk.i64_in n h
 ·exact IntWalk.u8_in n h
 ·exact IntWalk.u16_in n h
 ·exact IntWalk.u32_in n h
 ·exact IntWalk.u64_in n h
theorem kd {S:aX} {k:IntKind} {a b r:Int} {K:C->VC} (ha:k.min<=a/\a<=k.max) (hb:k.min<=b/\b<=k.max) (h:(arith k a b r K).holds) :
  ∃c,(K c).holds/\CR eT S c (.int k (k.wrap r)):=by
 have key:∀k:IntKind,(K (.d (.int k) (k.wrap r))).holds->∃c,(K c).holds/\CR eT S c (.int k (k.wrap r)):=
  fun k h=>⟨_,h,bB.2 ⟨rfl,iU k r⟩⟩
 cases k
 case i64=>
  obtain ⟨h1,h2⟩:=h ((kP a).1 ha) ((kP b).1 hb)
  have hr:=(kP r).2 h1
  rw [tm hr]
  exact ⟨_,h2,bB.2 ⟨rfl,hr⟩⟩
 all_goals exact key _ (cR h)
theorem AR {k:IntKind} {a b:Int} (ha:k.min<=a/\a<=k.max):k.min<=a.tmod b/\a.tmod b<=k.max:=by
 have h0:k.min<=0/\0<=k.max:=by cases k <;> simp [IntKind.min,IntKind.max,IntKind.signed,IntKind.bits]
 rcases Int.le_total 0 a with h | h
 ·have h1:=Int.tmod_nonneg b h
  have h2:a.tmod b<=a:=by
   by_cases hb:b=0
   ·subst hb;simp
   ·have h3:=Int.natAbs_tmod a b
    have:(a.tmod b).natAbs<=a.natAbs:=by rw [h3];exact Nat.mod_le _ _
    omega
  omega
 ·have h1:(-a).tmod b = -(a.tmod b):=Int.neg_tmod a b
  have h2:=Int.tmod_nonneg (a:=-a) b (by omega)
  have h3:=Int.natAbs_tmod a b
  have:(a.tmod b).natAbs<=a.natAbs:=by rw [h3];exact Nat.mod_le _ _
  omega
theorem AS {k:IntKind} {a:Int} (n:Nat) (ha:k.min<=a/\a<=k.max):k.min<=a.fdiv (2 ^ n)/\a.fdiv (2 ^ n)<=k.max:=by
 have h0:k.min<=0/\0<=k.max:=by cases k <;> simp [IntKind.min,IntKind.max,IntKind.signed,IntKind.bits]
 have hp:(0:Int) < 2 ^ n:=Int.pow_pos (by decide)
 rw [Int.fdiv_eq_ediv_of_nonneg _ (Int.le_of_lt hp)]
 rcases Int.le_total 0 a with h | h
 ·have h1:=Int.ediv_nonneg h (Int.le_of_lt hp)
  have h2:=Int.ediv_le_self (2 ^ n:Int) h
  omega
 ·have h1:a / 2 ^ n<=0:=by
   have:=Int.ediv_le_ediv hp h
   simpa using this
  have h2:a<=a / 2 ^ n:=by
   rw [Int.le_ediv_iff_mul_le hp]
   have:(1:Int)<=2 ^ n:=hp
   have:=Int.mul_le_mul_of_nonpos_left h this
   omega
  omega
theorem Ef {S:aX} {op:BinOp} {k k':IntKind} {a b:Int} {K:C->VC} {P:Program} (t:TypeId) (ha:k.min<=a/\a<=k.max) (hb:k'.min<=b/\b<=k'.max)
  (h:(GM op k k' a b K).holds):∃c v,(K c).holds/\CR eT S c v/\∀w,(binOp op t (.int k a) (.int k' b)).run P w = .ok v w:=by
 have cmp:∀r,Ec op a b=some r->k=k'->(K (.d .bool r)).holds->∃c v,(K c).holds/\CR eT S c v/\∀w,(binOp op t (.int k a) (.int k' b)).run P w = .ok v w:=by
  intro r hr hk h9
  subst hk
  refine ⟨_,_,h9,b6.2 rfl,fun w => ?_⟩
  cases op <;> simp [Ec] at hr <;> subst hr <;> simp [binOp,Op.intCmp]
 have bit:∀r,vL op k a b=some r->k=k'->(K (.d (.int k) r)).holds->∃c v,(K c).holds/\CR eT S c v/\∀w,(binOp op t (.int k a) (.int k' b)).run P w = .ok v w:=by
  intro r hr hk h9
  subst hk
  have:k.min<=r/\r<=k.max:=by
   cases op <;> simp [vL] at hr <;> subst hr <;> exact iU _ _
  refine ⟨_,_,h9,bB.2 ⟨rfl,this⟩,fun w => ?_⟩
  cases op <;> simp [vL] at hr <;> subst hr <;> simp [binOp,Op.intBits]
 have eqk:∀{v:VC},(match decide (k=k') with | false=>VC.ff | true=>v).holds->k=k'/\v.holds:=by
  intro v h
  split at h
  ·exact h.elim
  ·rename_i hk;exact ⟨by simpa using hk,h⟩
 cases op
 case shl=>
  obtain ⟨h1,h2⟩:=h
  refine ⟨_,_,cR h2,bB.2 ⟨rfl,iU k _⟩,fun w => ?_⟩
  simp only [binOp,Op.shift,if_neg (Int.not_lt.2 h1),Sem.run_pure]
 case shr=>
  obtain ⟨h1,h2⟩:=h
  refine ⟨_,_,cR h2,bB.2 ⟨rfl,AS _ ha⟩,fun w => ?_⟩
  simp only [binOp,Op.shift,if_neg (Int.not_lt.2 h1),Sem.run_pure]
 case add=>
  obtain ⟨hk,h9⟩:=eqk h
  subst hk
  obtain ⟨c,h3,h4⟩:=kd (S:=S) (eT:=eT) ha hb h9
  exact ⟨c,_,h3,h4,fun w=>by simp [binOp,Op.intArith]⟩
 case sub=>
  obtain ⟨hk,h9⟩:=eqk h
  subst hk
  obtain ⟨c,h3,h4⟩:=kd (S:=S) (eT:=eT) ha hb h9
  exact ⟨c,_,h3,h4,fun w=>by simp [binOp,Op.intArith]⟩
 case mul=>
  obtain ⟨hk,h9⟩:=eqk h
  subst hk
  obtain ⟨c,h3,h4⟩:=kd (S:=S) (eT:=eT) ha hb (cR h9)
  exact ⟨c,_,h3,h4,fun w=>by simp [binOp,Op.intArith]⟩
 case quo=>
  obtain ⟨hk,h0,h9⟩:=eqk h
  subst hk
  obtain ⟨c,h3,h4⟩:=kd (S:=S) (eT:=eT) ha hb (cR h9)
  exact ⟨c,_,h3,h4,fun w=>by simp [binOp,Op.intDiv,h0]⟩
 case rem=>
  obtain ⟨hk,h0,h9⟩:=eqk h
  subst hk
  exact ⟨_,_,cR h9,bB.2 ⟨rfl,AR ha⟩,fun w=>by simp [binOp,Op.intDiv,h0]⟩
 case and=>obtain ⟨hk,h9⟩:=eqk h;exact bit _ rfl hk (cR h9)
 case or=>obtain ⟨hk,h9⟩:=eqk h;exact bit _ rfl hk (cR h9)
 case xor=>obtain ⟨hk,h9⟩:=eqk h;exact bit _ rfl hk (cR h9)
 case andNot=>obtain ⟨hk,h9⟩:=eqk h;exact bit _ rfl hk (cR h9)
 case eql=>obtain ⟨hk,h9⟩:=eqk h;exact cmp _ rfl hk h9
 case neq=>obtain ⟨hk,h9⟩:=eqk h;exact cmp _ rfl hk h9
 case lss=>obtain ⟨hk,h9⟩:=eqk h;exact cmp _ rfl hk h9
 case leq=>obtain ⟨hk,h9⟩:=eqk h;exact cmp _ rfl hk h9
 case gtr=>obtain ⟨hk,h9⟩:=eqk h;exact cmp _ rfl hk h9
 case geq=>obtain ⟨hk,h9⟩:=eqk h;exact cmp _ rfl hk h9
theorem toList_mk (l:List UInt8):(⟨l.toArray⟩:ByteArray).toList=l:=by
 rw [ByteArray.toList_eq]
end
end Go.Vg

namespace Go.Vg
open Go.RowKit
section
variable {eT:TypeId} {X:Ext}
def Operand.Co:Operand->Bool
 | .const _=>true
 | _=>false
theorem qn {S:aX} {c:C} {b:Bool} {v:Value} (h:gv c=some b) (hc:CR eT S c v):v = .bool b:=by
 unfold gv at h
 split at h
 ·cases h;exact hc
 ·cases h;exact b6.1 hc
 ·cases h
theorem wa {S:aX} {c:C} {v:Value} (h:qP c=true) (hc:CR eT S c v):v = .nilIface:=by
 unfold qP at h
 split at h
 ·exact gw.1 hc
 ·cases h
theorem qQ {e:aV} {v:Value} (h:D9 eT e v):(e = .nil/\v = .nilIface)\/(e.isNil=false/\∃t u,v = .iface t u):=by
 cases e with
 | nil=>exact .inl ⟨rfl,h⟩
 | no n=>exact .inr ⟨rfl,_,_,h.1⟩
 | other=>obtain ⟨t,u,h,_⟩:=h;exact .inr ⟨rfl,t,u,h⟩
theorem hM {P:Program} {op:BinOp} {t:TypeId} {x y:Operand} {a b:Value} (ha:∀cs,a≠.agg cs) (hn:a≠.nilIface\/b≠.nilIface\/Operand.Co y=true) (w:World) :
  (eqGuard op t x y a b).run P w = .ok () w:=by
 have key:∀o:BinOp,(o = .eql\/o = .neq)->(eqGuard o t x y a b).run P w = .ok () w:=by
  intro o ho
  rcases ho with rfl | rfl
  all_goals
   unfold eqGuard
   simp only [Bool.not_true,Bool.false_eq_true,if_false]
   split
   ·rcases hn with hn | hn | hn
    ·exact (hn rfl).elim
    ·exact (hn rfl).elim
    ·cases y <;> simp [Operand.Co] at hn
     simp
   ·rename_i cs _;exact (ha cs rfl).elim
   ·simp
 cases op
 case eql=>exact key _ (.inl rfl)
 case neq=>exact key _ (.inr rfl)
 all_goals simp [eqGuard]
theorem wb {P:Program} {t:TypeId} (d:Nat) (hu:P.underlying t=some .bool) (a b:Bool) (w:World):(Op.equalIn (d + 1) t (.bool a) (.bool b)).run P w = .ok (a == b) w:=by
 simp [Op.equalIn,run_underlying hu]
theorem qR {P:Program} {t:TypeId} {ms:Array (String × TypeId)} (d:Nat) (hu:P.underlying t=some (.interface ms)) (w:World):(Op.equalIn (d + 1) t .nilIface .nilIface).run P w = .ok true w:=by
 simp [Op.equalIn,run_underlying hu]
theorem qj {P:Program} {t:TypeId} {ms:Array (String × TypeId)} (d:Nat) (hu:P.underlying t=some (.interface ms)) (t':TypeId) (u:Value) (w:World):(Op.equalIn (d + 1) t (.iface t' u) .nilIface).run P w = .ok false w:=by
 simp [Op.equalIn,run_underlying hu]
theorem AT {P:Program} {t:TypeId} (hu:P.underlying t=some .bool) (a b:Bool) (w:World):(Op.equal t (.bool a) (.bool b)).run P w = .ok (a == b) w:=
 wb 9999 hu a b w
theorem tn {P:Program} {t:TypeId} {ms:Array (String × TypeId)} (hu:P.underlying t=some (.interface ms)) (w:World):(Op.equal t .nilIface .nilIface).run P w = .ok true w:=
 qR 9999 hu w
theorem rS {P:Program} {t:TypeId} {ms:Array (String × TypeId)} (hu:P.underlying t=some (.interface ms)) (t':TypeId) (u:Value) (w:World):(Op.equal t (.iface t' u) .nilIface).run P w = .ok false w:=
 qj 9999 hu t' u w
theorem Cp {S:aX} {op:BinOp} {x y:C} {ny:Bool} {K:C->VC} {P:Program} {t:TypeId} {xo yo:Operand} {v1 v2:Value}
  (hb:∀b,gv x=some b->P.underlying t=some .bool) (he:∀e,x = .d .err e->∃ms,P.underlying t=some (.interface ms))
  (hx:CR eT S x v1) (hy:CR eT S y v2) (hny:ny=true->Operand.Co yo=true)
  (h:(nn op x y ny K).holds):∃c v,(K c).holds/\CR eT S c v/\∀w,(do eqGuard op t xo yo v1 v2;binOp op t v1 v2:Sem Value).run P w = .ok v w:=by
 unfold nn at h
 split at h
 ·rename_i k a k' b
  obtain ⟨rfl,ha⟩:=bB.1 hx
  obtain ⟨rfl,hb'⟩:=bB.1 hy
  obtain ⟨c,v,h1,h2,h3⟩:=Ef (P:=P) t ha hb' h
  refine ⟨c,v,h1,h2,fun w => ?_⟩
  rw [Sem.run_bind,hM (by simp) (.inl (by simp))]
  exact h3 w
 ·rename_i a b
  obtain ⟨rfl,ha⟩:=eh.1 hx
  obtain ⟨rfl,hb'⟩:=eh.1 hy
  have hg:∀w,(eqGuard op t xo yo (.string ⟨a.toArray⟩) (.string ⟨b.toArray⟩)).run P w = .ok () w:=fun w=>hM (by simp) (.inl (by simp)) w
  have cmp:∀r,Ed op a b=some r->(K (.d .bool r)).holds->
    ∃c v,(K c).holds/\CR eT S c v/\∀w,(do eqGuard op t xo yo (.string ⟨a.toArray⟩) (.string ⟨b.toArray⟩);binOp op t (.string ⟨a.toArray⟩) (.string ⟨b.toArray⟩):Sem Value).run P w = .ok v w:=by
   intro r hr h9
   refine ⟨_,_,h9,b6.2 rfl,fun w => ?_⟩
   rw [Sem.run_bind,hg]
   cases op <;> simp only [Ed,reduceCtorEq,Option.some.injEq] at hr <;> subst hr <;> simp [binOp,Op.stringOp]
  split at h
  ·obtain ⟨h1,h2⟩:=h
   refine ⟨_,_,h2,eh.2 ⟨rfl,by rw [List.length_append];exact h1⟩,fun w => ?_⟩
   rw [Sem.run_bind,hg]
   have hs:¬ ((((⟨a.toArray⟩:ByteArray).size + (⟨b.toArray⟩:ByteArray).size:Nat):Int) > IntKind.i64.max):=by
    show ¬ (((a.length + b.length:Nat):Int) > IntKind.i64.max)
    have:IntKind.i64.max=9223372036854775807:=by simp [IntKind.max,IntKind.signed,IntKind.bits]
    rw [this]
    unfold aH at h1
    omega
   simp only [Result.andThen_ok,binOp,Op.stringOp,if_neg hs,Sem.run_pure]
   congr 2
  ·split at h
   ·rename_i r hr;exact cmp r hr h
   ·exact h.elim
 ·rename_i e
  obtain ⟨ms,hu⟩:=he e rfl
  split at h
  ·exact h.elim
  ·rename_i hn
   simp only [Bool.and_eq_true] at hn
   have hv2:=wa hn.2 hy
   subst hv2
   have hyo:=hny hn.1
   have hg:∀w,(eqGuard op t xo yo v1 .nilIface).run P w = .ok () w:=fun w=>hM
    (by rcases qQ (gw.1 hx) with ⟨_,rfl⟩ | ⟨_,_,_,rfl⟩ <;> simp) (.inr (.inr hyo)) w
   have heq:∀w,(Op.equal t v1 .nilIface).run P w = .ok e.isNil w:=by
    intro w
    rcases qQ (gw.1 hx) with ⟨rfl,rfl⟩ | ⟨h1,t',u,rfl⟩
    ·exact tn hu w
    ·rw [h1];exact rS hu t' u w
   have hnb:∀o,(o=BinOp.eql\/o=BinOp.neq)->∀w,(binOp o t v1 .nilIface).run P w = .ok (.bool (if o = .eql then e.isNil else !e.isNil)) w:=by
    intro o ho w
    have hform:v1 = .nilIface\/∃t' u,v1 = .iface t' u:=by
     rcases qQ (gw.1 hx) with ⟨_,h⟩ | ⟨_,t',u,h⟩
     ·exact .inl h
     ·exact .inr ⟨t',u,h⟩
    rcases ho with rfl | rfl <;> rcases hform with rfl | ⟨t',u,rfl⟩ <;> simp [binOp,heq]
   split at h
   ·refine ⟨_,_,h,b6.2 rfl,fun w => ?_⟩
    rw [Sem.run_bind,hg]
    simpa using hnb .eql (.inl rfl) w
   ·refine ⟨_,_,h,b6.2 rfl,fun w => ?_⟩
    rw [Sem.run_bind,hg]
    simpa using hnb .neq (.inr rfl) w
   ·exact h.elim
 ·split at h
  ·rename_i a b ha hb'
   have hu:=hb a ha
   have h1:=qn ha hx
   have h2:=qn hb' hy
   subst h1;subst h2
   have hg:∀w,(eqGuard op t xo yo (.bool a) (.bool b)).run P w = .ok () w:=fun w=>hM (by simp) (.inl (by simp)) w
   have heq:∀w,(Op.equal t (.bool a) (.bool b)).run P w = .ok (a == b) w:=by
    intro w;exact AT hu a b w
   split at h
   ·refine ⟨_,_,h,b6.2 rfl,fun w => ?_⟩
    rw [Sem.run_bind,hg]
    simp [binOp,heq]
   ·refine ⟨_,_,h,b6.2 rfl,fun w => ?_⟩
    rw [Sem.run_bind,hg]
    simp [binOp,heq]
   ·exact h.elim
  ·exact h.elim
theorem Eg {S:aX} {op:UnOp} {x:C} {K:C->VC} {P:Program} {v1:Value} (hx:CR eT S x v1) (h:(Ee op x K).holds) :
  ∃c v,(K c).holds/\CR eT S c v/\∀w,(Op.unary op v1).run P w = .ok v w:=by
 unfold Ee at h
 split at h
 ·rw [show v1=_ from hx]
  split at h
  ·exact ⟨_,_,h,rfl,fun w=>by simp [Op.unary]⟩
  ·exact ⟨_,_,h,rfl,fun w=>by simp [Op.unary]⟩
 ·rw [b6.1 hx]
  exact ⟨_,_,h,b6.2 rfl,fun w=>by simp [Op.unary]⟩
 ·rename_i k a
  obtain ⟨rfl,ha⟩:=bB.1 hx
  have h0:k.min<=0/\0<=k.max:=by cases k <;> simp [IntKind.min,IntKind.max,IntKind.signed,IntKind.bits]
  obtain ⟨c,h3,h4⟩:=kd (S:=S) (eT:=eT) h0 ha h
  exact ⟨c,_,h3,h4,fun w=>by simp [Op.unary,Op.intArith]⟩
 ·exact h.elim
theorem AU {S:aX} {dst:Ty} {x:C} {K:C->VC} {P:Program} {v1:Value} {sT dT:TypeId} {ds dd:TypeDesc}
  (hs:P.underlying sT=some ds) (hd:P.underlying dT=some dd) (hdd:∀k,dst = .int k->dd = .int k)
  (hx:CR eT S x v1) (h:(v7 dst x K).holds) :
  ∃c v,(K c).holds/\CR eT S c v/\∀w,(convert sT dT v1).run P w = .ok v w:=by
 unfold v7 at h
 split at h
 ·rename_i k' k a
  have:=hdd k' rfl
  subst this
  obtain ⟨rfl,ha⟩:=bB.1 hx
  have hrun:∀w,(convert sT dT (.int k a)).run P w = .ok (.int k' (k'.wrap a)) w:=by
   intro w
   cases ds <;> simp [convert,run_underlying hs,run_underlying hd,Conv.intToInt]
  split at h
  ·rename_i hk
   simp [GN] at hk
   have:k'.min<=a/\a<=k'.max:=⟨Int.le_trans hk.1 ha.1,Int.le_trans ha.2 hk.2⟩
   exact ⟨_,_,h,bB.2 ⟨rfl,this⟩,fun w=>by rw [hrun,tm this]⟩
  ·exact ⟨_,_,h,bB.2 ⟨rfl,iU k' a⟩,fun w=>hrun w⟩
 ·exact h.elim
end
end Go.Vg

namespace Go.Vg
open Go.RowKit
theorem kG:∀{t:Ty},t.cd=true->t.flat=true:=by
 intro t
 induction t with
 | prod a b iha ihb=>intro h;simp [Ty.cd] at h;simp [Ty.flat,iha h.1,ihb h.2]
 | slice e _=>intro h;simp [Ty.cd] at h
 | _=>intro _;rfl
theorem en:∀{t:Ty} {e1 e2:TypeId} {x:D t} {A A':aD} {w w':World} {us:List Value},t.cd=true->R e1 t x A w us->R e2 t x A' w' us:=by
 intro t
 induction t with
 | prod a b iha ihb=>
  intro e1 e2 x A A' w w' us h hr
  simp [Ty.cd] at h
  obtain ⟨u1,u2,rfl,h1,h2⟩:=hr
  exact ⟨u1,u2,rfl,iha h.1 h1,ihb h.2 h2⟩
 | slice e _=>intro e1 e2 x A A' w w' us h;simp [Ty.cd] at h
 | err=>intro e1 e2 x A A' w w' us h;simp [Ty.cd] at h
 | cO=>intro e1 e2 x A A' w w' us h;simp [Ty.cd] at h
 | bool=>intro e1 e2 x A A' w w' us _ h;exact h
 | int k=>intro e1 e2 x A A' w w' us _ h;exact h
 | str=>intro e1 e2 x A A' w w' us _ h;exact h
 | unit=>intro e1 e2 x A A' w w' us _ h;exact h
theorem gx {t:Ty} {s:gK (.slice t)} (h:spot (.slice t)=some s):t.cd=true/\t.size=1/\s=⟨0,t,fun y=>y,fun _ ys=>ys⟩:=by
 unfold spot at h
 split at h
 ·rename_i hb
  simp only [Bool.and_eq_true] at hb
  cases h
  exact ⟨hb.1,Nat.eq_of_beq_eq_true hb.2,rfl⟩
 ·cases h
theorem iG {a b:Ty} {s:gK (.prod a b)} (h:spot (.prod a b)=some s) :
  (∃s',spot a=some s'/\b.cd=true/\s=⟨s'.off,s'.t,fun y=>s'.get y.1,fun y ys=>(s'.put y.1 ys,y.2)⟩)\/
  (∃s',a.cd=true/\spot b=some s'/\s=⟨a.size + s'.off,s'.t,fun y=>s'.get y.2,fun y ys=>(y.1,s'.put y.2 ys)⟩):=by
 rw [spot] at h
 split at h
 ·rename_i s' hs
  split at h
  ·rename_i hb;cases h;exact .inl ⟨s',hs,hb,rfl⟩
  ·cases h
 ·split at h
  ·rename_i s' ha hs;cases h;exact .inr ⟨s',ha,hs,rfl⟩
  ·cases h
theorem kW:∀{e:Ty} {s:gK e},spot e=some s->s.t.cd=true/\s.t.size=1:=by
 intro e
 induction e with
 | slice t _=>intro s h;obtain ⟨h1,h2,rfl⟩:=gx h;exact ⟨h1,h2⟩
 | prod a b iha ihb=>
  intro s h
  rcases iG h with ⟨s',h1,_,rfl⟩ | ⟨s',_,h1,rfl⟩
  ·exact iha h1
  ·exact ihb h1
 | _=>intro s h;cases h
theorem mB:∀{e:Ty} {s:gK e},spot e=some s->s.off < e.size:=by
 intro e
 induction e with
 | slice t _=>intro s h;obtain ⟨_,_,rfl⟩:=gx h;exact Nat.one_pos
 | prod a b iha ihb=>
  intro s h
  simp only [Ty.size]
  rcases iG h with ⟨s',h1,_,rfl⟩ | ⟨s',_,h1,rfl⟩
  ·have:=iha h1;simp only;omega
  ·have:=ihb h1;simp only;omega
 | _=>intro s h;cases h
theorem wc:∀{e:Ty} {s:gK e} {y:D e} {A:aD} {w:World} {us:List Value} {h:Value} {eT:TypeId},spot e=some s->R eT e y A w us->us[s.off]?=some h->R eT (.slice s.t) (s.get y) A w [h]:=by
 intro e
 induction e with
 | slice t _=>
  intro s y A w us h eT hs hr hu
  obtain ⟨_,_,rfl⟩:=gx hs
  obtain ⟨v,rfl,h2⟩:=hr
  simp at hu;subst hu
  exact ⟨v,rfl,h2⟩
 | prod a b iha ihb=>
  intro s y A w us h eT hs hr hu
  obtain ⟨u1,u2,rfl,r1,r2⟩:=hr
  rcases iG hs with ⟨s',h1,_,rfl⟩ | ⟨s',_,h1,rfl⟩
  ·have:=mB h1
   simp only at hu
   rw [List.getElem?_append_left (by rw [r1.length];omega)] at hu
   exact iha h1 r1 hu
  ·simp only at hu
   rw [List.getElem?_append_right (by rw [r1.length];omega),r1.length,Nat.add_sub_cancel_left] at hu
   exact ihb h1 r2 hu
 | _=>intro s y A w us h eT hs;cases hs
theorem Eh:∀{e:Ty} {s:gK e} {y:D e} {ys:List (D s.t)} {A A':aD} {w w':World} {us:List Value} {h:Value} {eT:TypeId},spot e=some s->R eT e y A w us->us[s.off]?=some h->
  R eT (.slice s.t) ys A' w' [h]->R eT e (s.put y ys) A' w' us:=by
 intro e
 induction e with
 | slice t _=>
  intro s y ys A A' w w' us h eT hs hr hu hy
  obtain ⟨_,_,rfl⟩:=gx hs
  obtain ⟨v,rfl,h2⟩:=hr
  simp at hu;subst hu
  exact hy
 | prod a b iha ihb=>
  intro s y ys A A' w w' us h eT hs hr hu hy
  obtain ⟨u1,u2,rfl,r1,r2⟩:=hr
  rcases iG hs with ⟨s',h1,hb,rfl⟩ | ⟨s',ha,h1,rfl⟩
  ·have:=mB h1
   simp only at hu
   rw [List.getElem?_append_left (by rw [r1.length];omega)] at hu
   exact ⟨u1,u2,rfl,iha h1 r1 hu hy,r2.of_flat (kG hb)⟩
  ·simp only at hu
   rw [List.getElem?_append_right (by rw [r1.length];omega),r1.length,Nat.add_sub_cancel_left] at hu
   exact ⟨u1,u2,rfl,r1.of_flat (kG ha),ihb h1 r2 hu hy⟩
 | _=>intro s y ys A A' w w' us h eT hs;cases hs
theorem qS {t:Ty} {e1 e2:TypeId} {xs:List (D t)} {A:aD} {w:World} {us:List Value} (ht:t.cd=true) (h:R e1 (.slice t) xs A w us):R e2 (.slice t) xs A w us:=by
 obtain ⟨v,rfl,hl,h⟩:=h
 refine ⟨v,rfl,hl,?_⟩
 rcases h with h | ⟨b,o,cap,h1,h2,h3⟩
 ·exact .inl h
 ·exact .inr ⟨b,o,cap,h1,h2,fun i y hy=>let ⟨us,k1,k2⟩:=h3 i y hy;⟨us,en ht k1,k2⟩⟩
theorem z6:∀{e:Ty} {s:gK e} {y:D e} {A:aD} {w:World} {us:List Value} {e1 e2:TypeId},spot e=some s->R e1 e y A w us->R e2 e y A w us:=by
 intro e
 induction e with
 | slice t _=>intro s y A w us e1 e2 hs hr;exact qS (gx hs).1 hr
 | prod a b iha ihb=>
  intro s y A w us e1 e2 hs hr
  obtain ⟨u1,u2,rfl,r1,r2⟩:=hr
  rcases iG hs with ⟨s',h1,hb,rfl⟩ | ⟨s',ha,h1,rfl⟩
  ·exact ⟨u1,u2,rfl,iha h1 r1,en hb r2⟩
  ·exact ⟨u1,u2,rfl,en ha r1,ihb h1 r2⟩
 | _=>intro s y A w us e1 e2 hs;cases hs
theorem lF {c:Option Nat} {w w':World} (h:∀b,c=some b->w'.heap[b]?=w.heap[b]?):∀b o v,¬ iS c b o->w.cell? ⟨b,o,none⟩=some v->w'.cell? ⟨b,o,none⟩=some v/\¬ iS c b o:=by
 intro b o v hn hc
 refine ⟨?_,hn⟩
 have hb:c=some b:=by unfold iS at hn;exact (Classical.not_not.1 hn).symm
 rw [World.cell?_of_block (w:=w) (w':=w') (a:=⟨b,o,none⟩) (h b hb)];exact hc
theorem cp {c:Nat}:∀{cs:List (Option Nat)},c∈cs.filterMap id ↔ ∃i:Nat,cs[i]?=some (some c):=by
 intro cs
 simp only [List.mem_filterMap,id]
 constructor
 ·rintro ⟨x,hx,rfl⟩
  obtain ⟨i,hi⟩:=List.getElem?_of_mem hx
  exact ⟨i,hi⟩
 ·rintro ⟨i,hi⟩
  exact ⟨some c,List.mem_of_getElem? hi,rfl⟩
theorem ek.frame {e:Ty} {s:gK e} {xs:List (D e)} {w w':World} {b:Nat} {cs:List (Option Nat)} {hs:List Value} {vs:Array Value} (h:ek e s xs w b cs hs vs)
  (hb:∀i c:Nat,cs[i]?=some (some c)->w'.heap[c]?=w.heap[c]?):ek e s xs w' b cs hs vs:=by
 refine ⟨h.hl,h.cl,h.inj,fun i c hi => ?_,fun i y hy => ?_⟩
 ·rw [hb i c hi];exact h.rR i c hi
 ·obtain ⟨c,k,us,h1,h2,h3,h4,h5⟩:=h.row i y hy
  exact ⟨c,k,us,h1,h2,h3,h4.frame (lF fun b' e'=>hb i b' (by rw [h1,e'])),h5⟩
theorem e8.frame {t:Ty} {x:D t} {l:Loc} {w w':World} (h:e8 t x l w) (hb:∀b∈l.bs,w'.heap[b]?=w.heap[b]?):e8 t x l w':=by
 cases t <;> try exact h.elim
 obtain ⟨s,hs,top,hs',hv,h⟩:=h
 refine ⟨s,hs,top,hs',hv,?_⟩
 rcases h with h | ⟨b,vs,T,cap,cs,h1,h2,h3,h4,h5,h6,h7⟩
 ·exact .inl h
 ·refine .inr ⟨b,vs,T,cap,cs,h1,h2,by rw [hb b (by rw [h2];simp)];exact h3,h4,h5,h6,h7.frame fun i c hi=>hb c ?_⟩
  rw [h2]
  exact List.mem_cons_of_mem _ (cp.2 ⟨i,hi⟩)
theorem e8.inside {t:Ty} {x:D t} {l:Loc} {w:World} (h:e8 t x l w):∀b∈l.bs,b < w.heap.size:=by
 cases t <;> try exact h.elim
 have key:∀{b':Nat} {o:Obj},w.heap[b']?=some o->b' < w.heap.size:=fun h=>(Array.getElem?_eq_some_iff.1 h).1
 obtain ⟨s,hs,top,hs',hv,h⟩:=h
 rcases h with ⟨_,_,_,h⟩ | ⟨b,vs,T,cap,cs,h1,h2,h3,h4,h5,h6,h7⟩
 ·rw [h];simp
 ·rw [h2]
  intro b' hb'
  rcases List.mem_cons.1 hb' with rfl | hb'
  ·exact key h3
  ·obtain ⟨i,hi⟩:=cp.1 hb'
   obtain ⟨_,vs',T',h⟩:=h7.rR i b' hi
   exact key h
theorem e8.data {eT:TypeId} {e:Ty} {xs:List (D e)} {l:Loc} {w:World} {v:Value} {A:aD} (h:e8 (.slice e) xs l w) (hv:Cn .top l.v v) (hA:∀b∈l.bs,∀o,¬ A b o):VR eT (.slice e) xs A w v:=by
 obtain ⟨s,hs,top,hs',hl,h⟩:=h
 obtain ⟨hs'',hl'⟩:=hv
 rw [hl] at hl'
 simp at hl'
 obtain ⟨rfl,rfl⟩:=hl'
 rcases h with ⟨rfl,_,⟨a,rfl⟩,_⟩ | ⟨b,vs,T,cap,cs,h1,h2,h3,h4,h5,h6,h7⟩
 ·exact VR.bt rfl ⟨_,rfl,by simp, .inl ⟨rfl,a,0,rfl⟩⟩
 ·refine VR.bt rfl ⟨_,rfl,h6, .inr ⟨b,0,cap,h1,h5,fun i y hy => ?_⟩⟩
  obtain ⟨c,k,us,k1,k2,k3,k4,k5⟩:=h7.row i y hy
  refine ⟨us,(z6 hs k4).frame fun b' o' v' hn hc=>⟨hc,?_⟩,fun j u hj=>⟨?_,hA b (by rw [h2];simp) _⟩⟩
  ·have hb':c=some b':=by unfold iS at hn;exact (Classical.not_not.1 hn).symm
   exact hA b' (by rw [h2];exact List.mem_cons_of_mem _ (cp.2 ⟨i,by rw [k1,hb']⟩)) o'
  ·rw [cell_of_row w b _ vs T (0,0) h3,Nat.zero_add]
   exact k5 j u hj
theorem Ei {e:Ty} {xs:List (D e)} {l:Loc} {w:World} {v:Value} (h:e8 (.slice e) xs l w) (hv:Cn .top l.v v):xs.length<=aH/\∃a c,v = .slice a xs.length c:=by
 obtain ⟨s,hs,top,hs',hl,h⟩:=h
 obtain ⟨hs'',hl'⟩:=hv
 rw [hl] at hl'
 simp at hl'
 obtain ⟨rfl,rfl⟩:=hl'
 rcases h with ⟨rfl,_,⟨a,rfl⟩,_⟩ | ⟨b,vs,T,cap,cs,h1,h2,h3,h4,h5,h6,h7⟩
 ·exact ⟨by simp,a,0,rfl⟩
 ·exact ⟨h6,_,cap,h1⟩
structure GO (e:Ty) (s:gK e) (xs:List (D e)) (l:Loc) (w:World) where
 top:Value
 hs:List Value
 b:Nat
 vs:Array Value
 T:TypeId
 cap:Nat
 cs:List (Option Nat)
 lv:l.v = .tuple (top :: hs).toArray
 tv:top = .slice (some ⟨b,0,none⟩) xs.length cap
 lb:l.bs=b :: cs.filterMap id
 heap:w.heap[b]?=some (.cells vs T (0,0))
 size:vs.size=cap * e.size
 fit:xs.length<=cap
 aH:xs.length<=Go.Vg.aH
 rows:ek e s xs w b cs hs vs
theorem mC {e:Ty} {s:gK e} (hsp:spot e=some s) {xs:List (D e)} {l:Loc} {w:World} (h:e8 (.slice e) xs l w) (hne:0 < xs.length):Nonempty (GO e s xs l w):=by
 obtain ⟨s',hs,top,hs',hl,h⟩:=h
 rw [hsp] at hs
 cases hs
 rcases h with ⟨rfl,_⟩ | ⟨b,vs,T,cap,cs,h1,h2,h3,h4,h5,h6,h7⟩
 ·simp at hne
 ·exact ⟨⟨top,hs',b,vs,T,cap,cs,hl,h1,h2,h3,h4,h5,h6,h7⟩⟩
theorem lG {t:Ty} {xs:D t} {l:Loc} {w:World} (h:e8 t xs l w):∃e s,t = .slice e/\spot e=some s:=by
 cases t <;> try exact h.elim
 obtain ⟨s,hs,_⟩:=h
 exact ⟨_,s,rfl,hs⟩
theorem qT {e:Ty} {s:gK e} (hsp:spot e=some s) {xs:List (D e)} {l:Loc} {w:World} (h:e8 (.slice e) xs l w) {i:Nat} (hi:i < xs.length) {v:Value} (hv:Cn (.row i) l.v v) :
  ∃c,R 0 (.slice s.t) (s.get xs[i]) (iS c) w [v]:=by
 obtain ⟨d⟩:=mC hsp h (by omega)
 obtain ⟨t,hs'',hl',hget⟩:=hv
 rw [d.lv] at hl'
 simp at hl'
 obtain ⟨rfl,rfl⟩:=hl'
 obtain ⟨c,k,us,k1,k2,k3,k4,k5⟩:=d.rows.row i _ (List.getElem?_eq_getElem hi)
 rw [hget] at k2
 cases k2
 exact ⟨c,wc hsp k4 k3⟩
end Go.Vg

namespace Go.Vg
open Go.RowKit
abbrev bp:=List bx->St->(SV->St->VC)->VC
structure Cx:Type 1 where
 eT:TypeId
 τ:List (TypeId × Ty)
 qU:List (TypeId × (Nat × TypeId))
 Γ:List (FuncId × (Bool × bp))
 N:Nat
 eqs:List TypeId:=[]
 ir:List TypeId:=[]
 hint:List Nat:=[]
 wr:Bool:=false
 ke:List (TypeId × (TypeId × TypeId)):=[]
 lH:List (TypeId × TypeId):=[]
def iu (n:Nat):List Nat->Bool
 | []=>false
 | m :: r=>match Nat.beq m n with
  | true=>true
  | false=>iu n r
def AV (P:Program) (t:TypeId):Bool:=
 !P.stoodInHeld t && !P.eqGuardType P.depth t && match P.underlying t with
 | some (.struct fs)=>fs.toList.all fun f=>f.name != "_"
 | _=>false
def we (P:Program) (t:TypeId):Bool:=
 match P.underlying t with
 | some (.pointer _)=>true
 | _=>false
def rT:(t:Ty)->D t->D t->Option Bool
 | .bool,a,b=>some (a == b)
 | .int _,a,b=>some (decide ((a:Int)=b))
 | .str,a,b=>some (a == b)
 | .unit,_,_=>some true
 | .prod a b,x,y=>match a.one,rT a x.1 y.1,rT b x.2 y.2 with
  | true,some p,some q=>some (p && q)
  | _,_,_=>none
 | _,_,_=>none
def aB (O:aD) (st:St) (loc:Nat->Loc) (w:World):aX:=⟨O,look st.aC,loc,st.next,w⟩
structure TyOK (P:Program) (cx:Cx):Prop where
 fit:∀t ty,look cx.τ t=some ty->∃n,fits P n t ty=true
 hP:P.underlying cx.eT=some (.int .i64)
 eD:∃i,P.info? cx.eT=some i/\i.zero=some (.int .i64 0)
 mixed:P.follows .mixedOrders=true
 eqs:∀t,iu t cx.eqs=true->AV P t=true
 ir:∀t,iu t cx.ir=true->we P t=true
 arr:∀t n e,look cx.qU t=some (n,e)->P.underlying t=some (.array n e)
 ke:∀t k e,look cx.ke t=some (k,e)->P.underlying t=some (.map k e)/\P.underlying k=some .string/\∃i cs,P.info? e=some i/\i.zero=some (.agg cs)
 lH:∀t e,look cx.lH t=some e->∃i,P.info? t=some i/\i.zero=some (.agg #[.pointer none, .slice none 0 0])
 np:∀t n te e,look cx.qU t=some (n,te)->look cx.τ te=some e->∃i z,P.info? t=some i/\i.zero=some z/\jx e n z.cells.toList=true
def kX:C->Option Int
 | .d (.int _) n=>some n
 | _=>none
def tp (want:Ty):C->Option (List (D want))
 | .d (.slice t) xs=>match h:Ty.beq (.slice t) (.slice want) with
  | true=>some (bo h (a:=.slice t) xs)
  | false=>none
 | .app t xs _=>match h:Ty.beq (.slice t) (.slice want) with
  | true=>some (bo h (a:=.slice t) xs)
  | false=>none
 | .dZ=>some []
 | .emp=>some []
 | _=>none
def AW (st:St):C->Bool
 | .iR _ _=>true
 | .ref n _=>match look st.aC n with
  | some (.cells _ _)=>true
  | _=>false
 | .im n=>match look st.aC n with
  | some (.arr _ _)=>true
  | _=>false
 | .cn n=>match look st.aC n with
  | some (.ext (_ + 2) _ _)=>true
  | _=>false
 | _=>false
def nth (t:Ty) (xs:List (D t)) (i:Nat):D t:=xs.getD i (bF t)
def ec (s:List UInt8) (i:Nat):UInt8:=s.getD i 0
theorem dX {t:Ty} {xs:List (D t)} {i:Nat} {y:D t} (h:xs[i]?=some y):nth t xs i=y:=by
 unfold nth;rw [List.getD_eq_getElem?_getD,h];rfl
theorem FZ {s:List UInt8} {i:Nat} {c:UInt8} (h:s[i]?=some c):ec s i=c:=by
 unfold ec;rw [List.getD_eq_getElem?_getD,h];rfl
def rU (st:St) (x:C) (K:C->VC):VC:=
 match x with
 | .d .str s => .imp (s.length<=aH) (K (.d (.int .i64) s.length))
 | .d (.slice _) xs => .imp (xs.length<=aH) (K (.d (.int .i64) xs.length))
 | .app _ xs _ => .imp (xs.length<=aH) (K (.d (.int .i64) xs.length))
 | .dZ=>K (.d (.int .i64) 0)
 | .emp=>K (.d (.int .i64) 0)
 | .aQ n=>match look st.aC n with
  | some (.aQ _ xs) => .imp (xs.length<=aH) (K (.d (.int .i64) xs.length))
  | _ => .ff
 | .xd n .top=>match look st.aC n with
  | some (.ext 0 (.slice _) xs) => .imp (List.length xs<=aH) (K (.d (.int .i64) (List.length xs)))
  | _ => .ff
 | .xd n (.row i)=>match look st.aC n with
  | some (.ext 0 (.slice e) xs)=>match spot e with
   | some s => .and (i < List.length xs) (.imp ((s.get (nth e xs i)).length<=aH) (K (.d (.int .i64) (s.get (nth e xs i)).length)))
   | none => .ff
  | _ => .ff
 | _ => .ff
def tq (x i:C) (K:C->VC):VC:=
 match x,kX i with
 | .d .str s,some i => .and (0<=i/\i < s.length) (K (.d (.int .u8) (ec s i.toNat).toNat))
 | _,_ => .ff
def qV (op:BinOp) (r:Option Bool) (K:C->VC):VC:=
 match r with
 | some r=>match op with
  | .eql=>K (.d .bool r)
  | .neq=>K (.d .bool (!r))
  | _ => .ff
 | none => .ff
def AX (st:St) (op:BinOp) (x y:C) (K:C->VC):VC:=
 match y with
 | .c7=>match x with
  | .c7=>match op with
   | .eql=>K (.lit true)
   | .neq=>K (.lit false)
   | _ => .ff
  | x=>match AW st x with
   | true=>match op with
    | .eql=>K (.lit false)
    | .neq=>K (.lit true)
    | _ => .ff
   | false => .ff
 | _ => .ff
def qW (st:St) (x:C):Option Nat:=
 match x with
 | .d (.slice _) xs=>some xs.length
 | .app _ xs _=>some xs.length
 | .aQ n=>match look st.aC n with
  | some (.aQ _ xs)=>some xs.length
  | _=>none
 | .emp=>some 0
 | _=>none
def tt (st:St) (op:BinOp) (x y:C) (K:C->VC):VC:=
 match y with
 | .dZ=>match x with
  | .dZ=>match op with
   | .eql=>K (.lit true)
   | .neq=>K (.lit false)
   | _ => .ff
  | x=>match qW st x with
   | some n=>match op with
    | .eql => .all Bool fun b => .imp (0 < n->b=false) (K (.d .bool b))
    | .neq => .all Bool fun b => .imp (0 < n->b=false) (K (.d .bool (!b)))
    | _ => .ff
   | none => .ff
 | _ => .ff
def GP (wr:Bool) (op:BinOp) (k:IntKind) (y:C):Option Int:=
 match wr,op,y with
 | true, .add, .d (.int k') b=>match decide (k=k') with
  | true=>some b
  | false=>none
 | _,_,_=>none
def rV (cx:Cx) (st:St) (op:Op) (K:SV->VC):VC:=
  let K1:C->VC:=fun c=>K (.s (.one c))
  match op with
  | .pick c a b=>match bY st.env c with
    | .lit true=>K (ev st.env a)
    | .lit false=>K (ev st.env b)
    | .d .bool g => .ite g (K (ev st.env a)) (K (ev st.env b))
    | _ => .ff
  | .unOp op _ x=>Ee op (bY st.env x) K1
  | .convert s t x=>match look cx.τ s,look cx.τ t with
    | some _,some dst=>v7 dst (bY st.env x) K1
    | _,_ => .ff
  | .extract t i=>match ev st.env t with
    | .gH vs=>match vs[i]? with
      | some v=>K (.s v)
      | none => .ff
    | _ => .ff
  | .nilCheck x=>match AW st (bY st.env x) with
    | true=>K1 (bY st.env x)
    | false => .ff
  | .makeInterface t x=>match Nat.beq t cx.eT,bY st.env x with
    | true, .d (.int .i64) n=>K1 (.d .err (.no n))
    | _,_ => .ff
  | .typeAssert x _ t true=>match Nat.beq t cx.eT,bY st.env x with
    | true, .d .err e=>K (.gH [.one (.d (.int .i64) e.num), .one (.d .bool e.AP)])
    | _,_ => .ff
  | .index t x i=>match look cx.τ t with
    | some .str=>tq (bY st.env x) (bY st.env i) K1
    | _ => .ff
  | .binOp op t x y _=>match bY st.env x with
    | .d (.int k) a=>match GP cx.wr op k (bY st.env y) with
      | some b=>kE (k.wrap (a + b)) fun x=>K1 (.d (.int k) x)
      | none=>nn op (.d (.int k) a) (bY st.env y) false K1
    | .d .str a=>nn op (.d .str a) (bY st.env y) false K1
    | .d .err e=>match look cx.τ t with
      | some .err=>nn op (.d .err e) (bY st.env y) (Operand.Co y) K1
      | _ => .ff
    | x1=>match look cx.τ t with
      | some .bool=>nn op x1 (bY st.env y) false K1
      | some (.prod u v)=>match iu t cx.eqs,kv (.prod u v) (kC st.env x),kv (.prod u v) (kC st.env y) with
        | true,some p,some q=>qV op (rT (.prod u v) p q) K1
        | _,_,_ => .ff
      | some (.slice _)=>tt st op x1 (bY st.env y) K1
      | _=>match iu t cx.ir with
        | true=>AX st op x1 (bY st.env y) K1
        | false => .ff
  | .call c=>match c.callee,c.args.toList,c.argTypes.toList with
   | .builtin .len,[x],[t]=>match look cx.τ t with
    | some .str=>match bY st.env x with
      | .d .str s=>rU st (.d .str s) K1
      | _ => .ff
    | some (.slice _)=>match bY st.env x with
      | .d .str _ => .ff
      | x=>rU st x K1
    | _ => .ff
   | _,_,_ => .ff
  | _ => .ff
section
variable {eT:TypeId} {X:Ext} {P:Program} {cx:Cx}
theorem mE {t:Ty} {xs:List (D t)} {A:aD} {w:World} {v:Value} (h:VR eT (.slice t) xs A w v):∃a c,v = .slice a xs.length c/\xs.length<=aH:=by
 have h:=VR.one rfl h
 obtain ⟨u,hu,hl,h⟩:=h
 simp at hu;subst hu
 rcases h with ⟨rfl,_,_,rfl⟩ | ⟨b,o,cap,rfl,_⟩
 ·exact ⟨_,_,rfl,by simp [aH]⟩
 ·exact ⟨_,_,rfl,hl⟩
theorem oB {n:Nat} (h:n<=aH):IntKind.i64.min<=(n:Int)/\(n:Int)<=IntKind.i64.max:=by
 rw [kP];unfold aK;unfold aH at h;omega
theorem cw {t:TypeId} {ty:Ty} (hok:TyOK P cx) (h:look cx.τ t=some ty):∃m i d,Fit P t ty i d/\bj (fits P m) ty d=true:=by
 obtain ⟨n,hn⟩:=hok.fit t ty h
 obtain ⟨m,i,d,_,hf,hs⟩:=ft hn
 exact ⟨m,i,d,hf,hs⟩
theorem Ej {t:TypeId} (hok:TyOK P cx) (h:look cx.τ t=some .bool):P.underlying t=some .bool:=by
 obtain ⟨m,i,d,hf,hs⟩:=cw hok h
 cases d <;> simp [bj] at hs
 exact hf.dG
theorem pU {t:TypeId} (hok:TyOK P cx) (h:look cx.τ t=some .str):P.underlying t=some .string:=by
 obtain ⟨m,i,d,hf,hs⟩:=cw hok h
 cases d <;> simp [bj] at hs
 exact hf.dG
theorem F0 {t:TypeId} (hok:TyOK P cx) (h:look cx.τ t=some .err):∃ms,P.underlying t=some (.interface ms):=by
 obtain ⟨m,i,d,hf,hs⟩:=cw hok h
 cases d <;> simp [bj] at hs
 exact ⟨_,hf.dG⟩
theorem cW {t:TypeId} {e:Ty} (hok:TyOK P cx) (h:look cx.τ t=some (.slice e)):∃te i d,P.underlying t=some (.slice te)/\Fit P te e i d:=by
 obtain ⟨m,i,d,hf,hs⟩:=cw hok h
 cases d <;> simp [bj] at hs
 obtain ⟨m',i',d',_,hf',_⟩:=ft hs
 exact ⟨_,_,_,hf.dG,hf'⟩
theorem bM.get {S:aX} {xs:List bx} {vs:List Value} (h:bM eT S xs vs):∀{i:Nat} {x:bx},xs[i]?=some x->∃v,vs[i]?=some v/\dM eT S x v:=by
 induction h with
 | nil=>intro i x h;simp at h
 | cons h1 _ ih=>
  intro i x h
  cases i with
  | zero=>simp at h;subst h;exact ⟨_,rfl,h1⟩
  | succ i=>simp at h;simpa using ih h
theorem Cq {O:aD} {st:St} {loc:Nat->Loc} {w:World} {x:C} {K:C->VC} {v:Value} {t:TypeId}
  (g:Good cx.eT X (aB O st loc w)) (ht:(P.underlying t=some .string/\∃s,x = .d .str s)\/(∃te,P.underlying t=some (.slice te))/\∀s,x≠.d .str s)
  (hx:CR cx.eT (aB O st loc w) x v) (h:(rU st x K).holds) :
  ∃c u,(K c).holds/\CR cx.eT (aB O st loc w) c u/\∀ty w',(Builtin.len_ #[t] ty #[v]).run P w' = .ok u w':=by
 have fin:∀(te:TypeId) (n:Nat) (a:Option Addr) (c:Nat),P.underlying t=some (.slice te)->n<=aH->(K (.d (.int .i64) n)).holds->v = .slice a n c->
   ∃c u,(K c).holds/\CR cx.eT (aB O st loc w) c u/\∀ty w',(Builtin.len_ #[t] ty #[v]).run P w' = .ok u w':=by
  intro te n a c hu hn hk hv
  subst hv
  exact ⟨_,_,hk,bB.2 ⟨rfl,oB hn⟩,fun ty w'=>by simp [Builtin.len_,run_underlying hu,goInt]⟩
 unfold rU at h
 split at h
 ·rename_i s
  obtain ⟨rfl,hl⟩:=eh.1 hx
  rcases ht with ⟨hu,_⟩ | ⟨_,hn⟩
  ·exact ⟨_,_,h hl,bB.2 ⟨rfl,oB hl⟩,fun ty w'=>by
    simp [Builtin.len_,run_underlying hu,goInt];rfl⟩
  ·exact (hn s rfl).elim
 ·rename_i t' xs
  rcases ht with ⟨_,s,e⟩ | ⟨⟨te,hu⟩,_⟩
  ·cases e
  ·obtain ⟨a,c,hv,hl⟩:=mE hx
   exact fin te _ a c hu hl (h hl) hv
 ·rename_i t' xs n
  rcases ht with ⟨_,s,e⟩ | ⟨⟨te,hu⟩,_⟩
  ·cases e
  ·obtain ⟨a,c,hv,hl⟩:=mE hx.1
   exact fin te _ a c hu hl (h hl) hv
 ·rcases ht with ⟨_,s,e⟩ | ⟨⟨te,hu⟩,_⟩
  ·cases e
  ·exact fin te 0 none 0 hu (by simp [aH]) h hx
 ·rcases ht with ⟨_,s,e⟩ | ⟨⟨te,hu⟩,_⟩
  ·cases e
  ·obtain ⟨a,rfl⟩:=hx
   exact fin te 0 a 0 hu (by simp [aH]) h rfl
 ·rename_i n
  rcases ht with ⟨_,s,e⟩ | ⟨⟨te,hu⟩,_⟩
  ·cases e
  ·split at h
   ·rename_i t' xs hob
    rcases (g.obj n _ hob).2 with ⟨rfl,⟨a,hv⟩,_⟩ | ⟨b,vs,T,cap,hv,_,_,_,_,hl,_⟩
    ·exact fin te 0 a 0 hu (by simp [aH]) (h (by simp)) ((hx.2 _ _ hob).trans hv)
    ·exact fin te _ _ _ hu hl (h hl) ((hx.2 _ _ hob).trans hv)
   ·exact h.elim
 ·rename_i n
  rcases ht with ⟨_,s,e⟩ | ⟨⟨te,hu⟩,_⟩
  ·cases e
  ·split at h
   ·rename_i e xs hob
    obtain ⟨hb,a,c,hv⟩:=Ei (X.deep.1 (g.obj n _ hob).2) (hx.2 _ _ hob)
    exact fin te _ a c hu hb (h hb) hv
   ·exact h.elim
 ·rename_i n i
  rcases ht with ⟨_,s,e⟩ | ⟨⟨te,hu⟩,_⟩
  ·cases e
  ·split at h
   ·rename_i e xs hob
    split at h
    ·rename_i s hs
     obtain ⟨hi,h⟩:=h
     obtain ⟨c0,hr⟩:=qT hs (X.deep.1 (g.obj n _ hob).2) hi (hx.2 _ _ hob)
     rw [dX (List.getElem?_eq_getElem hi)] at h
     obtain ⟨a,c,hv,hl⟩:=mE (VR.bt rfl hr)
     exact fin te _ a c hu hl (h hl) hv
    ·exact h.elim
   ·exact h.elim
 ·exact h.elim
end
end Go.Vg

namespace Go.Vg
open Go.RowKit
section
variable {X:Ext} {P:Program} {cx:Cx}
theorem GQ {l:List UInt8} {i:Nat} {c:UInt8} (h:l[i]?=some c):(⟨l.toArray⟩:ByteArray)[i]?=some c:=by
 have hi:i < l.length:=by
  rcases Nat.lt_or_ge i l.length with h' | h'
  ·exact h'
  ·rw [List.getElem?_eq_none h'] at h;cases h
 have hi':i < (⟨l.toArray⟩:ByteArray).size:=hi
 rw [getElem?_pos _ i hi']
 rw [List.getElem?_eq_getElem hi] at h
 cases h
 rfl
theorem z7 {O:aD} {st:St} {loc:Nat->Loc} {w:World} {c:C} {v:Value} (g:Good cx.eT X (aB O st loc w)) (hp:AW st c=true) (hc:CR cx.eT (aB O st loc w) c v) :
  ∃a,v = .pointer (some a):=by
 unfold AW at hp
 split at hp
 ·obtain ⟨b,o,us,h,_⟩:=hc;exact ⟨_,h⟩
 ·split at hp
  ·rename_i n _ T cs h
   obtain ⟨b,_,h2⟩:=hc.2 T cs h
   exact ⟨_,h2⟩
  ·cases hp
 ·split at hp
  ·rename_i t xs h
   obtain ⟨_,b,vs,T,h1,_⟩:=g.obj _ _ h
   exact ⟨_,(hc.2 _ _ h).trans h1⟩
  ·cases hp
 ·split at hp
  ·rename_i k t x h
   obtain ⟨_,h1⟩:=g.obj _ _ h
   obtain ⟨a,h2⟩:=X.ptr (by simp) h1
   exact ⟨a,(hc.2 _ h rfl).trans h2⟩
  ·cases hp
 ·cases hp
theorem gy {S:aX} {c:C} {n:Int} {v:Value} (h:kX c=some n) (hc:CR cx.eT S c v):∃k,v = .int k n/\k.min<=n/\n<=k.max:=by
 unfold kX at h
 split at h
 ·cases h;exact ⟨_,bB.1 hc⟩
 ·cases h
theorem yw {S:aX} {x i:C} {K:C->VC} {vx vi:Value} {t:TypeId} (hu:P.underlying t=some .string) (hx:CR cx.eT S x vx) (hi:CR cx.eT S i vi)
  (h:(tq x i K).holds):∃c u,(K c).holds/\CR cx.eT S c u/\∀w,(Instr.index t vx vi).run P w = .ok u w:=by
 unfold tq at h
 split at h
 ·rename_i s i' hi'
  obtain ⟨rfl,hl⟩:=eh.1 hx
  obtain ⟨k,rfl,_⟩:=gy hi' hi
  obtain ⟨⟨h0,h1⟩,h2⟩:=h
  have hlt:i'.toNat < s.length:=by omega
  have hs:s[i'.toNat]?=some s[i'.toNat]:=List.getElem?_eq_getElem hlt
  rw [FZ hs] at h2
  refine ⟨_,_,h2,bB.2 ⟨rfl,?_⟩,fun w => ?_⟩
  ·have:=s[i'.toNat].toNat_lt
   simp [IntKind.min,IntKind.max,IntKind.signed,IntKind.bits]
   omega
  ·simp [Instr.index,asIntOf,run_underlying hu,h0,GQ hs]
 ·exact h.elim
theorem oC {t:TypeId} {ty:Ty} {i:TypeInfo} {d:TypeDesc} {f:TypeId->Ty->Bool} (h:Fit P t ty i d) (hs:bj f ty d=true) (ho:ty.one=true) {cs:Array Value} {off:Nat} {v:Value} (hv:cs[off]?=some v) (w:World) :
  (part t cs off).run P w = .ok v w:=by
 have hagg:(isAgg t).run P w = .ok false w:=by
  have:(match d with | .struct _=>true | .array _ _=>true | _=>false) = !ty.one:=by
   cases ty <;> cases d <;> first | rfl | exact absurd hs (by simp [bj])
  cases d <;> simp_all [isAgg,run_underlying h.dG]
 simp [part,hagg,hv]
theorem Cr {A:aD} {w0:World} {t:TypeId} {ty:Ty} {i:TypeInfo} {d:TypeDesc} {f:TypeId->Ty->Bool} (h:Fit P t ty i d) (hs:bj f ty d=true) {x y:D ty} {r:Bool} (he:rT ty x y=some r) (ho:ty.one=true)
  {u v:Value} (hx:R cx.eT ty x A w0 [u]) (hy:R cx.eT ty y A w0 [v]) (k:Nat) (w:World):(Op.equalIn (k + 1) t u v).run P w = .ok r w:=by
 cases ty <;> simp only [rT,Option.some.injEq,reduceCtorEq,Ty.one,Bool.false_eq_true] at he ho
 case bool=>
  cases hx;cases hy;subst he
  have hu:P.underlying t=some .bool:=by rw [h.dG];cases d <;> simp [bj] at hs <;> rfl
  exact run_equalIn_bool' w k t x y hu
 case int kk=>
  obtain ⟨hx,_⟩:=hx;obtain ⟨hy,_⟩:=hy;cases hx;cases hy;subst he
  have hu:P.underlying t=some (.int kk):=by rw [h.dG];cases d <;> simp [bj] at hs;subst hs;rfl
  rw [run_equalIn_int w k t kk kk x y hu]
  congr 1
 case str=>
  obtain ⟨hx,_⟩:=hx;obtain ⟨hy,_⟩:=hy;cases hx;cases hy;subst he
  have hu:P.underlying t=some .string:=by rw [h.dG];cases d <;> simp [bj] at hs <;> rfl
  rw [run_equalIn_string w k t _ _ hu,toList_mk,toList_mk]
theorem wg {A:aD} {w0:World} {n k:Nat} {xs ys:Array Value}:∀{fs:List Field} {off:Nat} {ty:Ty} {x y:D ty} {r:Bool} {us vs:List Value},bR (fits P n) fs off ty=true->(∀f∈fs,(f.name != "_")=true)->
  rT ty x y=some r->R cx.eT ty x A w0 us->R cx.eT ty y A w0 vs->(∀(j:Nat) u,us[j]?=some u->xs[off + j]?=some u)->(∀(j:Nat) u,vs[j]?=some u->ys[off + j]?=some u)->
  ∀w,(Op.eqFields (k + 1) xs ys fs).run P w = .ok r w:=by
 intro fs
 induction fs with
 | nil=>
  intro off ty x y r us vs hf hn he hx hy h1 h2 w
  cases ty <;> simp [bR] at hf
  simp [rT] at he
  subst he
  simp [Op.eqFields]
 | cons f fs ih=>
  intro off ty x y r us vs hf hn he hx hy h1 h2 w
  cases ty <;> simp only [bR,Bool.false_eq_true] at hf
  rename_i a b
  simp only [Bool.and_eq_true] at hf
  obtain ⟨⟨⟨ho,hfa⟩,_⟩,hr⟩:=hf
  have ho:=Nat.eq_of_beq_eq_true ho
  obtain ⟨m,i,d,_,hfit,hs⟩:=ft hfa
  obtain ⟨u1,u2,rfl,x1,x2⟩:=hx
  obtain ⟨v1,v2,rfl,y1,y2⟩:=hy
  simp only [rT] at he
  split at he
  ·rename_i p q hone hp hq
   cases he
   have hne:(f.name≠ "_"):=by simpa using hn f (by simp)
   have l1:u1.length=1:=by rw [x1.length,Ty.il hone]
   have l2:v1.length=1:=by rw [y1.length,Ty.il hone]
   obtain ⟨u,rfl⟩:=List.length_eq_one_iff.1 l1
   obtain ⟨v,rfl⟩:=List.length_eq_one_iff.1 l2
   have hu:xs[f.offset]?=some u:=by rw [ho];exact h1 0 u rfl
   have hv:ys[f.offset]?=some v:=by rw [ho];exact h2 0 v rfl
   simp only [Op.eqFields,if_pos hne,Sem.run_bind,oC hfit hs hone hu,oC hfit hs hone hv,Result.andThen_ok,Cr hfit hs hp hone x1 y1]
   cases p
   ·simp
   ·simp only [Bool.not_true,Bool.false_eq_true,if_false,Bool.true_and]
    have hsz:=Ty.il hone
    exact ih hr (fun g hg=>hn g (by simp [hg])) hq x2 y2 (fun j u hj=>by rw [hsz,Nat.add_assoc];exact h1 (1 + j) u (by rw [Nat.add_comm];simpa using hj))
     (fun j u hj=>by rw [hsz,Nat.add_assoc];exact h2 (1 + j) u (by rw [Nat.add_comm];simpa using hj)) w
  ·cases he
theorem wh (hok:TyOK P cx) {S:aX} {op:BinOp} {t:TypeId} {a b:Ty} {x y:D (.prod a b)} {K:C->VC} {u v:Value} (ht:look cx.τ t=some (.prod a b)) (hq:iu t cx.eqs=true)
  (hx:VR cx.eT (.prod a b) x S.A S.w u) (hy:VR cx.eT (.prod a b) y S.A S.w v) (h:(qV op (rT (.prod a b) x y) K).holds) (xo yo:Operand) :
  ∃c r,(K c).holds/\CR cx.eT S c r/\∀w,(do eqGuard op t xo yo u v;binOp op t u v:Sem Value).run P w = .ok r w:=by
 unfold qV at h
 split at h
 ·rename_i r hr
  unfold VR at hx hy
  simp only [Ty.one,Bool.false_eq_true,if_false] at hx hy
  obtain ⟨xs,rfl,hx⟩:=hx
  obtain ⟨ys,rfl,hy⟩:=hy
  have hb:=hok.eqs t hq
  unfold AV at hb
  simp only [Bool.and_eq_true,Bool.not_eq_true'] at hb
  obtain ⟨⟨b1,b2⟩,b3⟩:=hb
  obtain ⟨m,i,d,hfit,hs⟩:=cw hok ht
  have hd:∃fs,d = .struct fs/\bR (fits P m) fs.toList 0 (.prod a b)=true:=by
   cases d <;> simp [bj] at hs
   exact ⟨_,rfl,hs⟩
  obtain ⟨fs,rfl,hff⟩:=hd
  rw [hfit.dG] at b3
  have hfo:P.fieldsOf t=fs:=by simp [Program.fieldsOf,hfit.dG]
  have heq:∀w,(Op.equalIn 10000 t (.agg xs) (.agg ys)).run P w = .ok r w:=fun w=>by
   rw [run_equalIn_agg w 9999 t xs ys (by rw [hfo];exact hfit.dG) b1,hfo]
   exact wg hff (fun f hf=>by simpa using (List.all_eq_true.1 b3) f hf) hr hx hy (fun j u hj=>by rw [Nat.zero_add];simpa using hj) (fun j u hj=>by rw [Nat.zero_add];simpa using hj) w
  split at h
  ·exact ⟨_,_,h,b6.2 rfl,fun w=>by simp only [Sem.run_bind,run_eqGuard_agg w _ t xo yo xs ys b2,Result.andThen_ok,run_eql_struct,heq]⟩
  ·exact ⟨_,_,h,b6.2 rfl,fun w=>by simp only [Sem.run_bind,run_eqGuard_agg w _ t xo yo xs ys b2,Result.andThen_ok,run_neq_struct,heq]⟩
  ·exact h.elim
 ·exact h.elim
theorem jR (w:World) (t:TypeId) (a b:Option Addr):(binOp .eql t (.pointer a) (.pointer b)).run P w=((Op.equalIn 10000 t (.pointer a) (.pointer b)).run P w).andThen fun b w' => .ok (.bool b) w':=by
 simp only [binOp]
 simp [Op.equal,Op.maxDepth]
theorem jS (w:World) (t:TypeId) (a b:Option Addr):(binOp .neq t (.pointer a) (.pointer b)).run P w=((Op.equalIn 10000 t (.pointer a) (.pointer b)).run P w).andThen fun b w' => .ok (.bool (!b)) w':=by
 simp only [binOp]
 simp [Op.equal,Op.maxDepth]
theorem hU {t e:TypeId} (hu:P.underlying t=some (.pointer e)) (d:Nat) (a:Option Addr) (w:World):(Op.equalIn (d + 1) t (.pointer a) (.pointer none)).run P w = .ok a.isNone w:=by
 cases a <;> simp [Op.equalIn,run_underlying hu]
theorem hY (w:World) (op:BinOp) (t:TypeId) (x y:Operand) (a b:Option Addr):(eqGuard op t x y (.pointer a) (.pointer b)).run P w = .ok () w:=by
 cases op <;> simp [eqGuard]
theorem Cs (hok:TyOK P cx) {O:aD} {st:St} {loc:Nat->Loc} {w0:World} (g:Good cx.eT X (aB O st loc w0)) {op:BinOp} {t:TypeId} {x y:C} {K:C->VC} {u v:Value} (hq:iu t cx.ir=true)
  (hx:CR cx.eT (aB O st loc w0) x u) (hy:CR cx.eT (aB O st loc w0) y v) (h:(AX st op x y K).holds) (xo yo:Operand) :
  ∃c r,(K c).holds/\CR cx.eT (aB O st loc w0) c r/\∀w,(do eqGuard op t xo yo u v;binOp op t u v:Sem Value).run P w = .ok r w:=by
 have hb:=hok.ir t hq
 unfold we at hb
 have hu:∃e,P.underlying t=some (.pointer e):=by
  split at hb
  ·exact ⟨_,by assumption⟩
  ·cases hb
 obtain ⟨e,hu⟩:=hu
 unfold AX at h
 split at h
 ·have hv:v = .pointer none:=hy
  subst hv
  split at h
  ·have hu':u = .pointer none:=hx
   subst hu'
   split at h
   ·exact ⟨_, .bool true,h,rfl,fun w=>by simp only [Sem.run_bind,hY,Result.andThen_ok,jR,jS,hU hu 9999];rfl⟩
   ·exact ⟨_, .bool false,h,rfl,fun w=>by simp only [Sem.run_bind,hY,Result.andThen_ok,jR,jS,hU hu 9999];rfl⟩
   ·exact h.elim
  ·split at h
   ·rename_i hp
    obtain ⟨a,rfl⟩:=z7 g hp hx
    split at h
    ·exact ⟨_, .bool false,h,rfl,fun w=>by simp only [Sem.run_bind,hY,Result.andThen_ok,jR,jS,hU hu 9999];rfl⟩
    ·exact ⟨_, .bool true,h,rfl,fun w=>by simp only [Sem.run_bind,hY,Result.andThen_ok,jR,jS,hU hu 9999];rfl⟩
    ·exact h.elim
   ·exact h.elim
 ·exact h.elim
theorem wi {O:aD} {st:St} {loc:Nat->Loc} {w0:World} (g:Good cx.eT X (aB O st loc w0)) {x:C} {n:Nat} {u:Value} (h:qW st x=some n) (hx:CR cx.eT (aB O st loc w0) x u) :
  ∃a c,u = .slice a n c/\(0 < n->a.isNone=false):=by
 have dat:∀{t:Ty} {xs:List (D t)},VR cx.eT (.slice t) xs (aB O st loc w0).A (aB O st loc w0).w u->∃a c,u = .slice a xs.length c/\(0 < xs.length->a.isNone=false):=by
  intro t xs hv
  obtain ⟨v,hv',hl,hr⟩:=VR.one rfl hv
  simp at hv';subst hv'
  rcases hr with ⟨rfl,a,c,rfl⟩ | ⟨b,o,cap,rfl,_⟩
  ·exact ⟨a,c,rfl,fun h=>by simp at h⟩
  ·exact ⟨_,_,rfl,fun _=>rfl⟩
 unfold qW at h
 split at h
 ·cases h;exact dat hx
 ·cases h;exact dat hx.1
 ·split at h
  ·rename_i t xs hob
   cases h
   rcases (g.obj _ _ hob).2 with ⟨rfl,⟨a,ha⟩,_⟩ | ⟨b,vs,T,cap,h1,_⟩
   ·exact ⟨a,0,(hx.2 _ _ hob).trans ha,fun h=>by simp at h⟩
   ·exact ⟨_,_,(hx.2 _ _ hob).trans h1,fun _=>rfl⟩
  ·cases h
 ·cases h
  obtain ⟨a,rfl⟩:=hx
  exact ⟨a,0,rfl,fun h=>by omega⟩
 ·cases h
theorem rW (w:World) (t:TypeId) (a b:Option Addr) (l c l' c':Nat):(binOp .eql t (.slice a l c) (.slice b l' c')).run P w=((Op.equalIn 10000 t (.slice a l c) (.slice b l' c')).run P w).andThen fun b w' => .ok (.bool b) w':=by
 simp only [binOp]
 simp [Op.equal,Op.maxDepth]
theorem rX (w:World) (t:TypeId) (a b:Option Addr) (l c l' c':Nat):(binOp .neq t (.slice a l c) (.slice b l' c')).run P w=((Op.equalIn 10000 t (.slice a l c) (.slice b l' c')).run P w).andThen fun b w' => .ok (.bool (!b)) w':=by
 simp only [binOp]
 simp [Op.equal,Op.maxDepth]
theorem fR {t e:TypeId} (hu:P.underlying t=some (.slice e)) (d:Nat) (a:Option Addr) (l c:Nat) (w:World):(Op.equalIn (d + 1) t (.slice a l c) (.slice none 0 0)).run P w = .ok a.isNone w:=by
 cases a <;> simp [Op.equalIn,run_underlying hu]
theorem iV (w:World) (op:BinOp) (t:TypeId) (x y:Operand) (a b:Option Addr) (l c l' c':Nat):(eqGuard op t x y (.slice a l c) (.slice b l' c')).run P w = .ok () w:=by
 cases op <;> simp [eqGuard]
theorem yx {O:aD} {st:St} {loc:Nat->Loc} {w0:World} (g:Good cx.eT X (aB O st loc w0)) {op:BinOp} {t te:TypeId} {x y:C} {K:C->VC} {u v:Value} (hu:P.underlying t=some (.slice te))
  (hx:CR cx.eT (aB O st loc w0) x u) (hy:CR cx.eT (aB O st loc w0) y v) (h:(tt st op x y K).holds) (xo yo:Operand) :
  ∃c r,(K c).holds/\CR cx.eT (aB O st loc w0) c r/\∀w,(do eqGuard op t xo yo u v;binOp op t u v:Sem Value).run P w = .ok r w:=by
 unfold tt at h
 split at h
 ·have hv:v = .slice none 0 0:=hy
  subst hv
  split at h
  ·have hu':u = .slice none 0 0:=hx
   subst hu'
   split at h
   ·exact ⟨_, .bool true,h,rfl,fun w=>by simp only [Sem.run_bind,iV,Result.andThen_ok,rW,fR hu 9999];rfl⟩
   ·exact ⟨_, .bool false,h,rfl,fun w=>by simp only [Sem.run_bind,iV,Result.andThen_ok,rX,fR hu 9999];rfl⟩
   ·exact h.elim
  ·split at h
   ·rename_i n hn
    obtain ⟨a,c,rfl,hz⟩:=wi g hn hx
    split at h
    ·exact ⟨_, .bool a.isNone,h a.isNone hz,b6.2 rfl,fun w=>by simp only [Sem.run_bind,iV,Result.andThen_ok,rW,fR hu 9999]⟩
    ·exact ⟨_, .bool (!a.isNone),h a.isNone hz,b6.2 rfl,fun w=>by simp only [Sem.run_bind,iV,Result.andThen_ok,rX,fR hu 9999]⟩
    ·exact h.elim
   ·exact h.elim
 ·exact h.elim
theorem oD (hok:TyOK P cx) {O:aD} {st:St} {loc:Nat->Loc} {w:World} {a:Act} (g:Good cx.eT X (aB O st loc w)) (he:dz cx.eT (aB O st loc w) st.env a)
  {o:Oper} {K:SV->VC} (h:(rV cx st o.op K).holds) :
  ∃sv v,(K sv).holds/\bX cx.eT (aB O st loc w) sv v/\∀w',(execOp a.eval o).run P w' = .ok (.value v) w':=by
 have one:∀{s:Sem Value} {K:SV->VC},(∃c u,(K (.s (.one c))).holds/\CR cx.eT (aB O st loc w) c u/\∀w',s.run P w' = .ok u w')->
   ∃sv v,(K sv).holds/\bX cx.eT (aB O st loc w) sv v/\∀w',(do pure (.value (<-s)):Sem Next).run P w' = .ok (.value v) w':=by
  rintro s K ⟨c,u,h1,h2,h3⟩
  exact ⟨_,u,h1,h2,fun w'=>by simp [h3]⟩
 unfold rV at h
 simp only at h
 split at h
 ·rename_i c x y hop
  have hc:=aZ he c
  have hgo:∀b,a.eval c = .bool b->∀w',(execOp a.eval o).run P w' = .ok (.value (if b then a.eval x else a.eval y)) w':=by
   intro b hb w';simp [execOp,hop,hb,asBool]
  split at h
  ·rename_i hl;rw [hl] at hc
   exact ⟨_,_,h,fX he x,fun w'=>by rw [hgo true hc];simp⟩
  ·rename_i hl;rw [hl] at hc
   exact ⟨_,_,h,fX he y,fun w'=>by rw [hgo false hc];simp⟩
  ·rename_i b hl;rw [hl] at hc
   have hc:=b6.1 hc
   cases b
   ·exact ⟨_,_,h.2 rfl,fX he y,fun w'=>by rw [hgo false hc];simp⟩
   ·exact ⟨_,_,h.1 rfl,fX he x,fun w'=>by rw [hgo true hc];simp⟩
  ·exact h.elim
 ·rename_i op t x hop
  have:=one (Eg (P:=P) (aZ he x) h)
  simpa [execOp,hop] using this
 ·rename_i s t x hop
  split at h
  ·rename_i ts td hs hd
   obtain ⟨m,i,d,hf,_⟩:=cw hok hs
   obtain ⟨m',i',d',hf',hs'⟩:=cw hok hd
   have:=one (AU (P:=P) hf.dG hf'.dG (fun k e=>by subst e;cases d' <;> simp [bj] at hs';rw [hs']) (aZ he x) h)
   simpa [execOp,hop] using this
  ·exact h.elim
 ·rename_i t i hop
  have ht:=fX he t
  split at h
  ·rename_i vs hl
   rw [hl] at ht
   obtain ⟨us,hus,hr⟩:=ht
   split at h
   ·rename_i v hv
    obtain ⟨u,hu,hru⟩:=hr.get hv
    exact ⟨_,u,h,hru,fun w'=>by simp [execOp,hop,hus,Instr.extract,hu]⟩
   ·exact h.elim
  ·exact h.elim
 ·rename_i x hop
  have hx:=aZ he x
  split at h
  ·rename_i hp
   obtain ⟨p,hp'⟩:=z7 g hp hx
   exact ⟨_,_,h,hx,fun w'=>by simp [execOp,hop,hp']⟩
  ·exact h.elim
 ·rename_i t x hop
  have hx:=aZ he x
  split at h
  ·rename_i n ht hl
   rw [hl] at hx
   obtain ⟨hv,hrn⟩:=bB.1 hx
   have ht:=Nat.eq_of_beq_eq_true ht
   refine ⟨_, .iface cx.eT (.int .i64 n),h,(gw (S:=aB O st loc w) (e:=.no n)).2 ⟨rfl,hrn⟩,fun w' => ?_⟩
   simp [execOp,hop,hv,Instr.makeInterface,ht,run_underlying hok.hP]
  ·exact h.elim
 ·rename_i x xt t hop
  have hx:=aZ he x
  split at h
  ·rename_i e ht hl
   rw [hl] at hx
   have hx:=gw.1 hx
   have ht:=Nat.eq_of_beq_eq_true ht
   subst ht
   obtain ⟨i,hi,hz⟩:=hok.eD
   have hzv:∀w',(zeroValue cx.eT).run P w' = .ok (.int .i64 0) w':=fun w'=>by simp [zeroValue,typeInfo,hi,hz]
   have hnum:∀n:Int,n=0->(IntKind.i64.min<=n/\n<=IntKind.i64.max):=fun n hn=>by subst hn;rw [kP];simp [aK]
   cases e with
   | nil=>
    refine ⟨_, .tuple #[.int .i64 0, .bool false],h,⟨[.int .i64 0, .bool false],rfl, .cons (bB.2 ⟨rfl,hnum 0 rfl⟩) (.cons (b6.2 rfl) .nil)⟩,fun w' => ?_⟩
    simp [execOp,hop,show a.eval x=_ from hx,Instr.typeAssert,run_underlying hok.hP,hzv]
   | no n=>
    obtain ⟨hx,r1,r2⟩:=hx
    refine ⟨_, .tuple #[.int .i64 n, .bool true],h,⟨[.int .i64 n, .bool true],rfl, .cons (bB.2 ⟨rfl,r1,r2⟩) (.cons (b6.2 rfl) .nil)⟩,fun w' => ?_⟩
    simp [execOp,hop,show a.eval x=_ from hx,Instr.typeAssert,run_underlying hok.hP]
   | other=>
    obtain ⟨t',u,hv,hne⟩:=hx
    refine ⟨_, .tuple #[.int .i64 0, .bool false],h,⟨[.int .i64 0, .bool false],rfl, .cons (bB.2 ⟨rfl,hnum 0 rfl⟩) (.cons (b6.2 rfl) .nil)⟩,fun w' => ?_⟩
    simp [execOp,hop,hv,Instr.typeAssert,run_underlying hok.hP,hzv,hne]
  ·exact h.elim
 ·rename_i t x i hop
  split at h
  ·rename_i ht
   have:=one (yw (P:=P) (pU hok ht) (aZ he x) (aZ he i) h)
   simpa [execOp,hop] using this
  ·exact h.elim
 ·rename_i op t x y ty' hop
  have hx:=aZ he x
  have hy:=aZ he y
  have fin:∀{c:C} {ny:Bool},(∀b,gv c=some b->P.underlying t=some .bool)->(∀e,c = .d .err e->∃ms,P.underlying t=some (.interface ms))->
    CR cx.eT (aB O st loc w) c (a.eval x)->(ny=true->Operand.Co y=true)->(nn op c (bY st.env y) ny fun c=>K (.s (.one c))).holds->
    ∃sv v,(K sv).holds/\bX cx.eT (aB O st loc w) sv v/\∀w',(execOp a.eval o).run P w' = .ok (.value v) w':=by
   intro c ny h1 h2 h3 h4 h5
   have:=one (Cp (P:=P) (xo:=x) (yo:=y) h1 h2 h3 hy h4 h5)
   simpa [execOp,hop] using this
  split at h
  ·rename_i k a0 hl;rw [hl] at hx
   split at h
   ·rename_i b hb
    unfold GP at hb
    split at hb
    ·rename_i k' b' _ hy'
     split at hb
     ·rename_i hkk
      cases hb
      have hkk:k=k':=by simpa using hkk
      subst hkk
      rw [hy'] at hy
      obtain ⟨e1,_⟩:=bB.1 hx
      obtain ⟨e2,_⟩:=bB.1 hy
      have hI:CR cx.eT (aB O st loc w) (.d (.int k) (k.wrap (a0 + b))) (.int k (k.wrap (a0 + b))):=bB.2 ⟨rfl,iU k _⟩
      refine ⟨.s (.one (.d (.int k) (k.wrap (a0 + b)))), .int k (k.wrap (a0 + b)),cR h,hI,fun w' => ?_⟩
      simp [execOp,hop,e1,e2,eqGuard,binOp,Op.intArith]
     ·cases hb
    ·cases hb
   ·exact fin (by simp [gv]) (by simp) hx (by simp) h
  ·rename_i hl;rw [hl] at hx
   exact fin (by simp [gv]) (by simp) hx (by simp) h
  ·rename_i hl;rw [hl] at hx
   split at h
   ·rename_i ht
    exact fin (by simp [gv]) (fun _ _=>F0 hok ht) hx (fun h=>h) h
   ·exact h.elim
  ·rename_i hne
   split at h
   ·rename_i ht
    exact fin (fun _ _=>Ej hok ht) (fun e he'=>(hne e he').elim) hx (by simp) h
   ·rename_i u v ht
    split at h
    ·rename_i p q hm hp hq
     have:=one (wh (P:=P) hok ht hm (fv hp (fL he x)) (fv hq (fL he y)) h x y)
     simpa [execOp,hop] using this
    ·exact h.elim
   ·rename_i e ht
    obtain ⟨te,_,_,hu,_⟩:=cW hok ht
    have:=one (yx (P:=P) g hu hx hy h x y)
    simpa [execOp,hop] using this
   ·split at h
    ·rename_i hm
     have:=one (Cs (P:=P) hok g hm hx hy h x y)
     simpa [execOp,hop] using this
    ·exact h.elim
 ·rename_i cl hop
  split at h
  case h_2=>exact h.elim
  rename_i x t hcal harg hty
  have hx:=aZ he x
  have hop:o.op = .call {callee:=.builtin .len,args:=#[x],argTypes:=#[t]}:=by
   obtain ⟨cal,args,tys⟩:=cl
   simp only at hcal harg hty
   have h1:args = #[x]:=Array.toList_inj.1 harg
   have h2:tys = #[t]:=Array.toList_inj.1 hty
   rw [hop,hcal,h1,h2]
  have fin:∀{c:C},((P.underlying t=some .string/\∃s,c = .d .str s)\/(∃te,P.underlying t=some (.slice te))/\∀s,c≠.d .str s)->
    CR cx.eT (aB O st loc w) c (a.eval x)->(rU st c fun c=>K (.s (.one c))).holds->
    ∃sv v,(K sv).holds/\bX cx.eT (aB O st loc w) sv v/\∀w',(execOp a.eval o).run P w' = .ok (.value v) w':=by
   intro c h1 h2 h3
   obtain ⟨c,u,k1,k2,k3⟩:=Cq (P:=P) g h1 h2 h3
   exact ⟨_,u,k1,k2,fun w'=>by simp [execOp,hop,resolve,invoke,builtin,k3]⟩
  split at h
  ·rename_i ht
   split at h
   ·rename_i s hl;rw [hl] at hx
    exact fin (.inl ⟨pU hok ht,s,rfl⟩) hx h
   ·exact h.elim
  ·rename_i e ht
   obtain ⟨te,i,d,hu,_⟩:=cW hok ht
   split at h
   ·exact h.elim
   ·rename_i hne
    exact fin (.inr ⟨⟨te,hu⟩,fun s e=>hne s e⟩) hx h
  ·exact h.elim
 ·exact h.elim
end
end Go.Vg

namespace Go.Vg
open Go.RowKit
def oE:Ty->Nat->Option Ty
 | .prod a _,0=>some a
 | .prod _ b,f + 1=>oE b f
 | _,_=>none
def tu (st:St) (n:Nat) (p:XP) (e:Ty) (i:Int) (K:C->VC):VC:=
 match look st.aC n with
 | some (.ext 0 (.slice e') xs)=>match p with
  | .top=>match Ty.beq e' e with
   | true => .and (0<=i/\i < List.length xs) (K (.xd n (.el e' i.toNat 0)))
   | false => .ff
  | .row k=>match spot e' with
   | some s=>match Ty.beq s.t e with
    | true => .and (k < List.length xs/\0<=i/\i < (s.get (nth e' xs k)).length) (K (.xd n (.cell k i.toNat)))
    | false => .ff
   | none => .ff
  | _ => .ff
 | _ => .ff
def qX (st:St) (n:Nat) (p:XP) (ty:Ty) (K:SV->VC):VC:=
 match look st.aC n with
 | some (.ext 0 (.slice e') xs)=>match p with
  | .el e i o=>match Ty.beq e' e,spot e' with
   | true,some s=>match Nat.beq o s.off && Ty.beq ty (.slice s.t) with
    | true => .and (i < List.length xs) (K (.s (.one (.xd n (.row i)))))
    | false=>match ty.cd with
     | true => .and (i < List.length xs) (match zZ e' (nth e' xs i) o ty with
      | some z=>K (.s (.one (.d ty z)))
      | none => .ff)
     | false => .ff
   | _,_ => .ff
  | .cell i j=>match spot e' with
   | some s=>match Ty.beq s.t ty with
    | true => .and (i < List.length xs/\j < (s.get (nth e' xs i)).length) (K (.s (.one (.d s.t (nth s.t (s.get (nth e' xs i)) j)))))
    | false => .ff
   | none => .ff
  | _ => .ff
 | _ => .ff
def AY (cx:Cx) (st:St) (t:TypeId) (x:C) (i:Int) (K:C->VC):VC:=
 match look cx.τ t with
 | some (.slice e)=>match tp e x with
  | some xs => .and (0<=i/\i < xs.length) (K (.iR e (nth e xs i.toNat)))
  | none=>match x with
   | .aQ n=>match look st.aC n with
    | some (.aQ e' xs)=>match Ty.beq e' e with
     | true => .and (0<=i/\i < xs.length) (K (.fq n e' i.toNat 0))
     | false => .ff
    | _ => .ff
   | .xd n p=>tu st n p e i K
   | _ => .ff
 | _=>match look cx.qU t with
  | some (len,te)=>match look cx.τ te,x with
   | some e, .im n=>match look st.aC n with
    | some (.arr e' xs)=>match Ty.beq e' e with
     | true => .and (0<=i/\i < len/\i < xs.length) (K (.fq n e' i.toNat 0))
     | false => .ff
    | _ => .ff
   | _,_ => .ff
  | none => .ff
def tw (cx:Cx) (st:St) (t:TypeId) (x:C) (f:Nat) (K:C->VC):VC:=
 match look cx.τ t with
 | some ty=>match e9 ty f,x with
  | some _, .iR u y=>match h:Ty.beq u ty with
   | true=>match comp ty (bo h y) f with
    | some ⟨u',z⟩=>K (.iR u' z)
    | none => .ff
   | false => .ff
  | some off, .ref n o=>match look st.aC n with
   | some (.cells _ _)=>K (.ref n (o + off))
   | _ => .ff
  | some off, .fq n u i o=>match look st.aC n with
   | some (.aQ u' _)=>match Ty.beq u' u with
    | true=>K (.fq n u i (o + off))
    | false => .ff
   | some (.arr u' _)=>match Ty.beq u' u with
    | true=>K (.fq n u i (o + off))
    | false => .ff
   | _ => .ff
  | some off, .xd n (.el e i o)=>match look st.aC n with
   | some (.ext 0 _ _)=>K (.xd n (.el e i (o + off)))
   | _ => .ff
  | _,_ => .ff
 | none => .ff
def wj (u:Ty) (xs:List (D u)) (i o:Nat) (ty:Ty) (K:SV->VC):VC:=
 .and (i < xs.length) (match zZ u (nth u xs i) o ty with
  | some z=>K (.s (.one (.d ty z)))
  | none => .ff)
def oF (cx:Cx) (st:St) (t:TypeId) (x:C) (K:SV->VC):VC:=
 match look cx.τ t with
 | some ty=>match x with
  | .iR u y=>match h:Ty.beq u ty with
   | true=>K (.s (.one (.d ty (bo h y))))
   | false => .ff
  | .ref n o=>match look st.aC n with
   | some (.cells _ cs)=>match ty.one with
    | true=>match cs[o]? with
     | some c=>K (.s (.one c))
     | none => .ff
    | false=>match Nat.ble (o + ty.size) cs.length with
     | true=>K (.s (.agg ((cs.drop o).take ty.size)))
     | false => .ff
   | _ => .ff
  | .fq n u i o=>match look st.aC n with
   | some (.aQ u' xs)=>match Ty.beq u' u with
    | true=>wj u' xs i o ty K
    | false => .ff
   | some (.arr u' xs)=>match Ty.beq u' u with
    | true=>wj u' xs i o ty K
    | false => .ff
   | _ => .ff
  | .xd n p=>qX st n p ty K
  | _ => .ff
 | none => .ff
def iW (st:St) (x:Option Operand) (dflt:Int):Option Int:=
 match x with
 | none=>some dflt
 | some o=>kX (bY st.env o)
def tx (cx:Cx) (st:St) (t:TypeId) (x:C) (lo hi:Option Operand) (K:C->VC):VC:=
 match look cx.τ t with
 | some .str=>match x with
  | .d .str s=>match iW st lo 0,iW st hi s.length with
   | some l,some h => .and (0<=l/\l<=h/\h<=s.length) (K (.d .str ((s.take h.toNat).drop l.toNat)))
   | _,_ => .ff
  | _ => .ff
 | some (.slice e)=>match tp e x with
  | some xs=>match iW st lo 0,iW st hi xs.length with
   | some l,some h => .and (0<=l/\l<=h/\h<=xs.length) (K (.d (.slice e) ((xs.take h.toNat).drop l.toNat)))
   | _,_ => .ff
  | none=>match x with
   | .aQ n=>match look st.aC n with
    | some (.aQ e' xs)=>match Ty.beq e' e,iW st lo 0,iW st hi xs.length with
     | true,some l,some h => .and (0<=l/\l<=h/\h<=xs.length) (K (.iP n e' l.toNat (h.toNat - l.toNat)))
     | _,_,_ => .ff
    | _ => .ff
   | _ => .ff
 | _ => .ff
def iX (cx:Cx) (st:St) (op:Op) (K:SV->VC):VC:=
 let K1:C->VC:=fun c=>K (.s (.one c))
 match op with
 | .indexAddr t x i=>match kX (bY st.env i) with
  | some i=>AY cx st t (bY st.env x) i K1
  | none => .ff
 | .fieldAddr t x f=>tw cx st t (bY st.env x) f K1
 | .load t x=>oF cx st t (bY st.env x) K
 | .slice t x lo hi none=>tx cx st t (bY st.env x) lo hi K1
 | op=>rV cx st op K
section
variable {X:Ext} {P:Program} {cx:Cx}
theorem qY {S:aX} {e:Ty} {c:C} {xs:List (D e)} {v:Value} (h:tp e c=some xs) (hc:CR cx.eT S c v):VR cx.eT (.slice e) xs S.A S.w v:=by
 unfold tp at h
 split at h
 ·split at h
  ·rename_i hb;cases h;exact fu hb _ hc
  ·cases h
 ·split at h
  ·rename_i hb;cases h;exact fu hb _ hc.1
  ·cases h
 ·cases h
  rw [show v=_ from hc]
  exact VR.bt rfl R.kb
 ·cases h
  obtain ⟨a,rfl⟩:=hc
  exact VR.bt rfl ⟨_,rfl,by simp, .inl ⟨rfl,a,0,rfl⟩⟩
 ·cases h
theorem cA {t:TypeId} {ty:Ty} {i:TypeInfo} {d:TypeDesc} (h:Fit P t ty i d) (w:World):(sizeOf t).run P w = .ok ty.size w:=by
 simp [sizeOf,typeInfo,h.info,h.size]
theorem z8 {t:TypeId} {ty:Ty} {i:TypeInfo} {d:TypeDesc} {f:TypeId->Ty->Bool} (h:Fit P t ty i d) (hs:bj f ty d=true) (w:World) :
  (isAgg t).run P w = .ok (!ty.one) w:=by
 have:(match d with | .struct _=>true | .array _ _=>true | _=>false) = !ty.one:=by
  cases ty <;> cases d <;> first | rfl | exact absurd hs (by simp [bj])
 cases d <;> simp_all [isAgg,run_underlying h.dG]
theorem cM {t:TypeId} {ty:Ty} {i:TypeInfo} {d:TypeDesc} {f:TypeId->Ty->Bool} (h:Fit P t ty i d) (hs:bj f ty d=true) {b o:Nat} {us:List Value} (hl:us.length=ty.size)
  (w0:World) (hc0:∀j v,us[j]?=some v->w0.cell? ⟨b,o + j,none⟩=some v) :
  ∃v,(∀w,Below w0.heap.size w0 w->(Instr.loadAt t (.pointer (some ⟨b,o,none⟩))).run P w = .ok v w)/\(if ty.one then us = [v] else v = .agg us.toArray):=by
 by_cases ho:ty.one=true
 ·have h1:=Ty.il ho
  match us,hl with
  | [v],_=>
   refine ⟨v,fun w hb => ?_,by rw [if_pos ho]⟩
   have:=iT hb (hc0 0 v rfl)
   simp only [Nat.add_zero] at this
   simp [Instr.loadAt,Instr.sureAddr,loadVar,z8 h hs,ho,this]
  | [],hl=>rw [h1] at hl;cases hl
  | _ :: _ :: _,hl=>rw [h1] at hl;simp at hl
 ·refine ⟨.agg us.toArray,fun w hb => ?_,by rw [if_neg ho]⟩
  have hc':∀j v,us[j]?=some v->w.cell? ((⟨b,o,none⟩:Addr).add j)=some v:=by
   intro j v hj;rw [Addr.add_lit];exact iT hb (hc0 j v hj)
  have:=run_loadCells_list (P:=P) w ⟨b,o,none⟩ us hc'
  rw [hl] at this
  simp [Instr.loadAt,Instr.sureAddr,loadVar,z8 h hs,ho,cA h,this]
theorem gP {ty:Ty} {x:D ty} {A:aD} {w:World} {us:List Value} {v:Value} (hr:R cx.eT ty x A w us) (hv:if ty.one then us = [v] else v = .agg us.toArray):VR cx.eT ty x A w v:=by
 unfold VR
 split
 ·rename_i h;rw [if_pos h] at hv;rw [<-hv];exact hr
 ·rename_i h;rw [if_neg h] at hv;exact ⟨_,hv,by simpa using hr⟩
theorem nq {e:Ty} {xs:List (D e)} {A:aD} {w:World} {v:Value} (h:VR cx.eT (.slice e) xs A w v) {i:Nat} (hi:i < xs.length) :
  ∃b o cap,v = .slice (some ⟨b,o,none⟩) xs.length cap/\∃us,R cx.eT e xs[i] A w us/\Row A w b (o + i * e.size) us:=by
 obtain ⟨u,hu,hl,h⟩:=VR.one rfl h
 simp at hu;subst hu
 rcases h with ⟨rfl,_⟩ | ⟨b,o,cap,rfl,hc,h⟩
 ·simp at hi
 ·exact ⟨b,o,cap,rfl,h i xs[i] (List.getElem?_eq_getElem hi)⟩
theorem jU {t te:TypeId} (hu:P.underlying t=some (.slice te)) {size:Nat} (hs:∀w,(sizeOf te).run P w = .ok size w) {b o len cap:Nat} {k:IntKind} {i:Int} (h0:0<=i) (h1:i < len) (w:World) :
  (Instr.indexAt t (.slice (some ⟨b,o,none⟩) len cap) (.int k i)).run P w = .ok (.pointer (some ⟨b,o + i.toNat * size,none⟩)) w:=by
 simp [Instr.indexAt,asIntOf,run_underlying hu,h0,h1,hs,Addr.add_lit]
theorem rY {t te:TypeId} {n:Nat} (hu:P.underlying t=some (.array n te)) {size:Nat} (hs:∀w,(sizeOf te).run P w = .ok size w) {b o:Nat} {k:IntKind} {i:Int} (h0:0<=i) (h1:i < n) (w:World) :
  (Instr.indexAt t (.pointer (some ⟨b,o,none⟩)) (.int k i)).run P w = .ok (.pointer (some ⟨b,o + i.toNat * size,none⟩)) w:=by
 simp [Instr.indexAt,Instr.sureAddr,asIntOf,run_underlying hu,h0,h1,hs,Addr.add_lit]
theorem yy {O:aD} {st:St} {loc:Nat->Loc} {w:World} (g:Good cx.eT X (aB O st loc w)) {t te:TypeId} {n:Nat} {p:XP} {e:Ty} {i:Int} {k:IntKind} {K:C->VC} {vx:Value}
  (hu:P.underlying t=some (.slice te)) (hsz:∀w,(sizeOf te).run P w = .ok e.size w) (hx:CR cx.eT (aB O st loc w) (.xd n p) vx) (h:(tu st n p e i K).holds) :
  ∃c u,(K c).holds/\CR cx.eT (aB O st loc w) c u/\∀w',(Instr.indexAt t vx (.int k i)).run P w' = .ok u w':=by
 unfold tu at h
 split at h
 ·rename_i e' xs hob
  have hd:=X.deep.1 (g.obj n _ hob).2
  split at h
  ·split at h
   ·rename_i hb
    have:=Ty.eq_of_beq hb
    subst this
    obtain ⟨⟨h0,h1⟩,h⟩:=h
    obtain ⟨e1,s,he,hs⟩:=lG hd
    cases he
    obtain ⟨d⟩:=mC hs hd (by omega)
    obtain ⟨hs',hl⟩:=hx.2 _ _ hob
    have hl:=d.lv.symm.trans hl
    simp at hl
    obtain ⟨rfl,rfl⟩:=hl
    refine ⟨_,_,h,⟨hx.1,fun t' x' _=>⟨d.b,_,_,d.hs,by rw [<-d.tv];exact d.lv,rfl⟩⟩,fun w' => ?_⟩
    rw [d.tv,jU hu hsz h0 h1]
    simp
   ·exact h.elim
  ·rename_i kk
   split at h
   ·rename_i s hs
    split at h
    ·rename_i hb
     have:=Ty.eq_of_beq hb
     subst this
     obtain ⟨⟨hk,h0,h1⟩,h⟩:=h
     have hv:=hx.2 _ _ hob
     obtain ⟨c0,hr⟩:=qT hs hd hk hv
     have hi:i.toNat < (s.get xs[kk]).length:=by rw [dX (List.getElem?_eq_getElem hk)] at h1;omega
     obtain ⟨b,o,cap,rfl,us,hus,hrow⟩:=nq (cx:=cx) (VR.bt rfl (qS (kW hs).1 hr)) hi
     obtain ⟨top,hs',hl,hget⟩:=hv
     refine ⟨_,_,h,⟨hx.1,fun t' x' _=>⟨top,hs',b,o,_,_,hl,hget,rfl⟩⟩,fun w' => ?_⟩
     rw [dX (List.getElem?_eq_getElem hk)] at h1
     rw [jU hu hsz h0 h1,(kW hs).2,Nat.mul_one]
    ·exact h.elim
   ·exact h.elim
  ·exact h.elim
 ·exact h.elim
theorem tY (hok:TyOK P cx) {O:aD} {st:St} {loc:Nat->Loc} {w:World} (g:Good cx.eT X (aB O st loc w)) {t:TypeId} {x:C} {i:Int} {k:IntKind} {K:C->VC} {vx:Value}
  (hx:CR cx.eT (aB O st loc w) x vx) (h:(AY cx st t x i K).holds) :
  ∃c u,(K c).holds/\CR cx.eT (aB O st loc w) c u/\∀w',(Instr.indexAt t vx (.int k i)).run P w' = .ok u w':=by
 unfold AY at h
 split at h
 ·rename_i e ht
  obtain ⟨te,ii,dd,hu,hf⟩:=cW hok ht
  split at h
  ·rename_i xs hr
   obtain ⟨⟨h0,h1⟩,h2⟩:=h
   have hi:i.toNat < xs.length:=by omega
   obtain ⟨b,o,cap,rfl,us,hus,hrow⟩:=nq (qY hr hx) hi
   rw [dX (List.getElem?_eq_getElem hi)] at h2
   exact ⟨_,_,h2,⟨b,_,us,rfl,hus,hrow⟩,fun w'=>jU hu (cA hf) h0 h1 w'⟩
  ·split at h
   ·rename_i n
    split at h
    ·rename_i e' xs hob
     split at h
     ·rename_i hb
      have:=Ty.eq_of_beq hb
      subst this
      obtain ⟨⟨h0,h1⟩,h2⟩:=h
      rcases (g.obj _ _ hob).2 with ⟨rfl,_,_⟩ | ⟨b,vs,T,cap,hv,cX,_⟩
      ·simp at h1;omega
      rw [hx.2 _ _ hob,hv]
      refine ⟨_,_,h2,⟨hx.1,fun _=>⟨b,cX,rfl⟩⟩,fun w' => ?_⟩
      rw [jU hu (cA hf) h0 h1 w']
      simp
     ·exact h.elim
    ·exact h.elim
   ·exact yy g hu (cA hf) hx h
   ·exact h.elim
 ·split at h
  ·rename_i len te ht
   have hu:=hok.arr t len te ht
   split at h
   ·rename_i e n he
    obtain ⟨m,ii,dd,hf,_⟩:=cw hok he
    split at h
    ·rename_i e' xs hob
     split at h
     ·rename_i hb
      have:=Ty.eq_of_beq hb
      subst this
      obtain ⟨⟨h0,h1,h3⟩,h2⟩:=h
      obtain ⟨_,b,vs,T,hv,cX,_⟩:=g.obj _ _ hob
      rw [hx.2 _ _ hob,hv]
      refine ⟨_,_,h2,⟨hx.1,fun _=>⟨b,cX,rfl⟩⟩,fun w' => ?_⟩
      rw [rY hu (cA hf) h0 h1 w']
      simp
     ·exact h.elim
    ·exact h.elim
   ·exact h.elim
  ·exact h.elim
theorem Ct {f:TypeId->Ty->Bool}:∀{fs:List Field} {off:Nat} {ty:Ty} {k o:Nat},bR f fs off ty=true->e9 ty k=some o->
  ∃fd u,fs[k]?=some fd/\fd.offset=off + o/\f fd.type u=true/\0 < u.size:=by
 intro fs
 induction fs with
 | nil=>intro off ty k o h h';cases ty <;> simp [bR] at h;cases k <;> simp [e9] at h'
 | cons g gs ih=>
  intro off ty k o h h'
  cases ty <;> simp only [bR,Bool.false_eq_true] at h
  rename_i a b
  simp only [Bool.and_eq_true] at h
  obtain ⟨⟨⟨h1,h2⟩,h3⟩,h4⟩:=h
  cases k with
  | zero=>
   simp [e9] at h'
   exact ⟨g,a,rfl,by have:=Nat.eq_of_beq_eq_true h1;omega,h2,gO h3⟩
  | succ k=>
   simp only [e9] at h'
   split at h'
   ·rename_i o' ho'
    cases h'
    obtain ⟨fd,u,k1,k2,k3,k4⟩:=ih h4 ho'
    exact ⟨fd,u,by simpa using k1,by omega,k3,k4⟩
   ·cases h'
theorem Ek:∀{t:Ty} {x:D t} {k:Nat} {u:Ty} {z:D u} {o:Nat} {A:aD} {w:World} {vs:List Value},comp t x k=some ⟨u,z⟩->e9 t k=some o->R cx.eT t x A w vs->
  ∃us,R cx.eT u z A w us/\∀j v,us[j]?=some v->vs[o + j]?=some v:=by
 intro t
 induction t with
 | prod a b iha ihb=>
  intro x k u z o A w vs h h' hr
  obtain ⟨u1,u2,rfl,r1,r2⟩:=hr
  cases k with
  | zero=>
   simp [comp] at h;simp [e9] at h'
   obtain ⟨rfl,h⟩:=h
   cases h
   subst h'
   refine ⟨u1,r1,fun j v hj => ?_⟩
   rw [Nat.zero_add,List.getElem?_append_left (by
    rcases Nat.lt_or_ge j u1.length with h | h
    ·exact h
    ·rw [List.getElem?_eq_none h] at hj;cases hj)]
   exact hj
  | succ k=>
   simp only [comp] at h
   simp only [e9] at h'
   split at h'
   ·rename_i o' ho'
    cases h'
    obtain ⟨us,k1,k2⟩:=ihb h ho' r2
    refine ⟨us,k1,fun j v hj => ?_⟩
    have:=k2 j v hj
    rw [Nat.add_assoc,List.getElem?_append_right (by rw [r1.length];omega),r1.length]
    rw [show a.size + (o' + j) - a.size=o' + j from by omega]
    exact this
   ·cases h'
 | _=>intro x k u z o A w vs h;cases k <;> simp [comp] at h
theorem jV {t:TypeId} {ty:Ty} {k off:Nat} (hok:TyOK P cx) (ht:look cx.τ t=some ty) (ho:e9 ty k=some off) {b o:Nat} (w:World) :
  (Instr.fieldAt t (.pointer (some ⟨b,o,none⟩)) k).run P w = .ok (.pointer (some ⟨b,o + off,none⟩)) w:=by
 obtain ⟨m,i,d,hf,hs⟩:=cw hok ht
 have:∃fs,d = .struct fs/\bR (fits P m) fs.toList 0 ty=true:=by
  cases ty <;> (try (cases k <;> simp [e9] at ho;done))
  cases d <;> simp [bj] at hs
  exact ⟨_,rfl,hs⟩
 obtain ⟨fs,rfl,hff⟩:=this
 obtain ⟨fd,u,h1,h2,h3,h4⟩:=Ct hff ho
 obtain ⟨m',i',d',_,hf',_⟩:=ft h3
 have h1':fs[k]?=some fd:=by rw [<-Array.getElem?_toList];exact h1
 have hne:u.size≠0:=by omega
 simp [Instr.fieldAt,run_underlying hf.dG,h1',Instr.sureAddr,fieldPlace,cA hf',hne,Addr.add_lit,h2]
theorem qo (hok:TyOK P cx) {O:aD} {st:St} {loc:Nat->Loc} {w:World} {t:TypeId} {x:C} {f:Nat} {K:C->VC} {vx:Value}
  (hx:CR cx.eT (aB O st loc w) x vx) (h:(tw cx st t x f K).holds) :
  ∃c u,(K c).holds/\CR cx.eT (aB O st loc w) c u/\∀w',(Instr.fieldAt t vx f).run P w' = .ok u w':=by
 unfold tw at h
 split at h
 ·rename_i ty ht
  split at h
  ·rename_i off u y ho
   split at h
   ·rename_i hb
    split at h
    ·rename_i u' z hz
     obtain ⟨b,o,us,rfl,hr,hrow⟩:=hx
     obtain ⟨us',k1,k2⟩:=Ek hz ho (fW hb y hr)
     refine ⟨_,_,h,⟨b,o + off,us',rfl,k1,fun j v hj => ?_⟩,fun w'=>jV hok ht ho w'⟩
     have:=hrow _ _ (k2 j v hj)
     rw [Nat.add_assoc];exact this
    ·exact h.elim
   ·exact h.elim
  ·rename_i off n o ho
   split at h
   ·rename_i T cs hob
    obtain ⟨b,h1,rfl⟩:=hx.2 _ _ hob
    exact ⟨_,_,h,⟨hx.1,fun T' cs' _=>⟨b,h1,rfl⟩⟩,fun w'=>jV hok ht ho w'⟩
   ·exact h.elim
  ·rename_i off n u i o ho
   have fin:(∃xs,look st.aC n=some (.aQ u xs)\/look st.aC n=some (.arr u xs))->(K (.fq n u i (o + off))).holds->
     ∃c u,(K c).holds/\CR cx.eT (aB O st loc w) c u/\∀w',(Instr.fieldAt t vx f).run P w' = .ok u w':=by
    intro hl hk
    obtain ⟨b,h1,rfl⟩:=hx.2 hl
    exact ⟨_,_,hk,⟨hx.1,fun _=>⟨b,h1,rfl⟩⟩,fun w'=>by rw [jV hok ht ho w'];simp [Nat.add_assoc]⟩
   split at h
   ·rename_i u' xs hob
    split at h
    ·rename_i hb;have:=Ty.eq_of_beq hb;subst this;exact fin ⟨_, .inl hob⟩ h
    ·exact h.elim
   ·rename_i u' xs hob
    split at h
    ·rename_i hb;have:=Ty.eq_of_beq hb;subst this;exact fin ⟨_, .inr hob⟩ h
    ·exact h.elim
   ·exact h.elim
  ·rename_i off n e i o ho
   split at h
   ·rename_i t' x' hob
    obtain ⟨b,k,c,hs',hl,rfl⟩:=hx.2 _ _ hob
    exact ⟨_,_,h,⟨hx.1,fun t'' x'' _=>⟨b,k,c,hs',hl,rfl⟩⟩,fun w'=>by rw [jV hok ht ho w'];simp [Nat.add_assoc]⟩
   ·exact h.elim
  ·exact h.elim
 ·exact h.elim
theorem wk {O:aD} {st:St} {loc:Nat->Loc} {w:World} (g:Good cx.eT X (aB O st loc w)) {t:TypeId} {ty:Ty} {ii:TypeInfo} {dd:TypeDesc} {f:TypeId->Ty->Bool} (hf:Fit P t ty ii dd) (hsf:bj f ty dd=true)
  {n:Nat} {p:XP} {K:SV->VC} {vx:Value} (hx:CR cx.eT (aB O st loc w) (.xd n p) vx) (h:(qX st n p ty K).holds) :
  ∃c u,(K c).holds/\bX cx.eT (aB O st loc w) c u/\∀w',Below w.heap.size w w'->(Instr.loadAt t vx).run P w' = .ok u w':=by
 unfold qX at h
 split at h
 ·rename_i e' xs hob
  have hd:=X.deep.1 (g.obj n _ hob).2
  have hv:=hx.2 _ _ hob
  split at h
  ·rename_i e i o
   split at h
   ·rename_i s hb hs
    have:=Ty.eq_of_beq hb
    subst this
    have cells:∀(hi:i < List.length xs),∃b c k us hs' top,(loc n).v = .tuple (top :: hs').toArray/\hs'[i]?=some k/\us[s.off]?=some k/\R 0 e' xs[i] (iS c) w us/\vx = .pointer (some ⟨b,i * e'.size + o,none⟩)/\
      ∀j u,us[o + j]?=some u->w.cell? ⟨b,i * e'.size + o + j,none⟩=some u:=by
     intro hi
     obtain ⟨d⟩:=mC hs hd (by omega)
     obtain ⟨b,k0,c0,hs',hl,hvx⟩:=hv
     have hl:=d.lv.symm.trans hl
     simp at hl
     obtain ⟨ht,rfl⟩:=hl
     rw [d.tv] at ht
     simp at ht
     obtain ⟨c,k,us,k1,k2,k3,k4,k5⟩:=d.rows.row i _ (List.getElem?_eq_getElem hi)
     refine ⟨b,c,k,us,d.hs,d.top,d.lv,k2,k3,k4,hvx,fun j u hj => ?_⟩
     rw [<-ht.1,cell_of_row w d.b _ d.vs d.T (0,0) d.heap,Nat.add_assoc]
     exact k5 _ _ hj
    split at h
    ·rename_i hb2
     simp only [Bool.and_eq_true] at hb2
     have ho:=Nat.eq_of_beq_eq_true hb2.1
     have hty:=Ty.eq_of_beq hb2.2
     subst hty
     subst ho
     obtain ⟨hi,h⟩:=h
     obtain ⟨b,c,k,us,hs',top,hl,k2,k3,k4,hvx,hcell⟩:=cells hi
     obtain ⟨v',r1,r2⟩:=cM hf hsf (b:=b) (o:=i * e'.size + s.off) (us:=[k]) rfl w (by
      intro j u hj
      cases j with
      | zero=>simp at hj;subst hj;exact hcell 0 _ k3
      | succ j=>simp at hj)
     simp [Ty.one] at r2
     subst r2
     subst hvx
     exact ⟨_,_,h,⟨hx.1,fun t' x' _=>⟨top,hs',hl,k2⟩⟩,r1⟩
    ·split at h
     ·rename_i hpl
      obtain ⟨hi,h⟩:=h
      rw [dX (List.getElem?_eq_getElem hi)] at h
      split at h
      ·rename_i z hz
       obtain ⟨b,c,k,us,hs',top,hl,k2,k3,k4,hvx,hcell⟩:=cells hi
       have hz':=z1 hz k4
       obtain ⟨v',r1,r2⟩:=cM hf hsf (b:=b) (o:=i * e'.size + o) (us:=(us.drop o).take ty.size) hz'.length w (by
        intro j u hj
        rw [List.getElem?_take] at hj
        split at hj
        ·rw [List.getElem?_drop] at hj;exact hcell j _ hj
        ·cases hj)
       subst hvx
       exact ⟨_,v',h,gP (en hpl hz') r2,r1⟩
      ·exact h.elim
     ·exact h.elim
   ·exact h.elim
  ·rename_i i j
   split at h
   ·rename_i s hs
    split at h
    ·rename_i hb
     have:=Ty.eq_of_beq hb
     subst this
     obtain ⟨⟨hi,hj⟩,h⟩:=h
     obtain ⟨top,hs',b,o,k0,c0,hl,hget,hvx⟩:=hv
     obtain ⟨c,hr⟩:=qT hs hd hi ⟨top,hs',hl,hget⟩
     rw [dX (List.getElem?_eq_getElem hi)] at h hj
     rw [dX (List.getElem?_eq_getElem hj)] at h
     obtain ⟨b',o',cap',hv',us,hus,hrow⟩:=nq (cx:=cx) (VR.bt rfl (qS (kW hs).1 hr)) hj
     simp at hv'
     obtain ⟨⟨rfl,rfl⟩,_,_⟩:=hv'
     rw [(kW hs).2,Nat.mul_one] at hrow
     obtain ⟨v',r1,r2⟩:=cM hf hsf (b:=b) (o:=o + j) hus.length w (fun j' v' hj'=>(hrow j' v' hj').1)
     subst hvx
     exact ⟨_,v',h,gP (en (kW hs).1 hus) r2,r1⟩
    ·exact h.elim
   ·exact h.elim
  ·exact h.elim
 ·exact h.elim
theorem nr (hok:TyOK P cx) {O:aD} {st:St} {loc:Nat->Loc} {w:World} (g:Good cx.eT X (aB O st loc w)) {t:TypeId} {x:C} {K:SV->VC} {vx:Value}
  (hx:CR cx.eT (aB O st loc w) x vx) (h:(oF cx st t x K).holds) :
  ∃c u,(K c).holds/\bX cx.eT (aB O st loc w) c u/\∀w',Below w.heap.size w w'->(Instr.loadAt t vx).run P w' = .ok u w':=by
 unfold oF at h
 split at h
 ·rename_i ty ht
  obtain ⟨m,i,d,hf,hs⟩:=cw hok ht
  have elem:∀{n:Nat} {u':Ty} {xs:List (D u')} {ix o b:Nat} {vs:Array Value} {T:TypeId},vx = .pointer (some ⟨b,ix * u'.size + o,none⟩)->w.heap[b]?=some (.cells vs T (0,0))->
    fr cx.eT (aB O st loc w) u' xs vs->(wj u' xs ix o ty K).holds->∃c u,(K c).holds/\bX cx.eT (aB O st loc w) c u/\∀w',Below w.heap.size w w'->(Instr.loadAt t vx).run P w' = .ok u w':=by
   intro n u' xs ix o b vs T hv hb he h
   obtain ⟨hlt,h⟩:=h
   have hget:=List.getElem?_eq_getElem hlt
   rw [dX hget] at h
   obtain ⟨us,hr,hus⟩:=he _ _ hget
   split at h
   ·rename_i z hz
    have hz':=z1 hz hr
    have hlen:=hz'.length
    obtain ⟨v,h1,h2⟩:=cM hf hs (b:=b) (o:=ix * u'.size + o) (us:=(us.drop o).take ty.size) hlen w (by
     intro j v hj
     rw [List.getElem?_take] at hj
     split at hj
     ·rw [List.getElem?_drop] at hj
      have:=hus _ _ hj
      rw [show ix * u'.size + o + j=ix * u'.size + (o + j) from by omega,cell_of_row w b _ vs T (0,0) hb]
      exact this
     ·cases hj)
    subst hv
    exact ⟨_,v,h,gP hz' h2,h1⟩
   ·exact h.elim
  split at h
  ·rename_i u y
   split at h
   ·rename_i hb
    obtain ⟨b,o,us,rfl,hr,hrow⟩:=hx
    have hr:=fW hb y hr
    obtain ⟨v,h1,h2⟩:=cM hf hs hr.length w (fun j v hj=>(hrow j v hj).1)
    exact ⟨_,v,h,gP hr h2,h1⟩
   ·exact h.elim
  ·rename_i n o
   split at h
   ·rename_i T cs hob
    obtain ⟨b0,hb0,rfl⟩:=hx.2 _ _ hob
    obtain ⟨_,b,vs,hv,cX,hheap,hcs⟩:=g.obj _ _ hob
    rw [hb0] at hv
    cases hv
    have cell:∀j v,vs[j]?=some v->w.cell? ⟨b0,j,none⟩=some v:=by
     intro j v hj
     rw [cell_of_row w b0 j vs.toArray T (0,0) hheap]
     simpa using hj
    split at h
    ·rename_i ho
     split at h
     ·rename_i c hc
      obtain ⟨v,hv,hcr,hov⟩:=hcs.get hc
      have hl:[v].length=ty.size:=by rw [Ty.il ho];rfl
      obtain ⟨v',h1,h2⟩:=cM hf hs (b:=b0) (o:=o) hl w (by
       intro j u hj
       cases j with
       | zero=>simp at hj;subst hj;exact cell _ _ hv
       | succ j=>simp at hj)
      rw [if_pos ho] at h2
      simp at h2;subst h2
      exact ⟨_,_,h,hcr,h1⟩
     ·exact h.elim
    ·rename_i ho
     split at h
     ·rename_i hle
      have hle:=Nat.le_of_ble_eq_true hle
      have hlen:=hcs.length
      have hl:((vs.drop o).take ty.size).length=ty.size:=by
       simp only [List.length_take,List.length_drop];omega
      obtain ⟨v',h1,h2⟩:=cM hf hs (b:=b0) (o:=o) hl w (by
       intro j u hj
       rw [List.getElem?_take] at hj
       split at hj
       ·rw [List.getElem?_drop] at hj;exact cell _ _ hj
       ·cases hj)
      rw [if_neg (by simp [ho])] at h2
      exact ⟨_,_,h,⟨_,h2,(hcs.drop o).take _⟩,h1⟩
     ·exact h.elim
   ·exact h.elim
  ·rename_i n u ix o
   split at h
   ·rename_i u' xs hob
    split at h
    ·rename_i hb
     have:=Ty.eq_of_beq hb
     subst this
     obtain ⟨b,hb1,hv⟩:=hx.2 ⟨_, .inl hob⟩
     rcases (g.obj _ _ hob).2 with ⟨_,_,cX⟩ | ⟨b',vs,T,cap,_,cX,hheap,_,_,_,he⟩
     ·rw [cX] at hb1;cases hb1
     rw [cX] at hb1
     cases hb1
     exact elem (n:=n) hv hheap he h
    ·exact h.elim
   ·rename_i u' xs hob
    split at h
    ·rename_i hb
     have:=Ty.eq_of_beq hb
     subst this
     obtain ⟨b,hb1,hv⟩:=hx.2 ⟨_, .inr hob⟩
     obtain ⟨_,b',vs,T,_,cX,hheap,_,he⟩:=g.obj _ _ hob
     rw [cX] at hb1
     cases hb1
     exact elem (n:=n) hv hheap he h
    ·exact h.elim
   ·exact h.elim
  ·exact wk g hf hs hx h
  ·exact h.elim
 ·exact h.elim
theorem AZ {S:aX} {st:St} {a:Act} (he:dz cx.eT S st.env a) {x:Option Operand} {dflt r:Int} (h:iW st x dflt=some r) :
  (x=none/\r=dflt)\/∃o k,x=some o/\a.eval o = .int k r:=by
 cases x with
 | none=>simp [iW] at h;exact .inl ⟨rfl,h.symm⟩
 | some o=>
  obtain ⟨k,hk,_⟩:=gy h (aZ he o)
  exact .inr ⟨o,k,rfl,hk⟩
theorem iY {isSlice:Bool} {len cap:Nat} {lo hi:Option Value} {l h:Int} (hlo:(lo=none/\l=0)\/∃k,lo=some (.int k l)) (hhi:(hi=none/\h=len)\/∃k,hi=some (.int k h))
  (h0:0<=l) (h1:l<=h) (h2:h<=len) (h3:len<=cap) (w:World):(Instr.sliceBounds isSlice len cap lo hi none).run P w = .ok (l.toNat,h.toNat,cap) w:=by
 have hb:∀(k:IntKind) (n:Int) (y:Nat) (code:BoundsCode),0<=n->n<=y->(Instr.sliceBound (.int k n) y code).run P w = .ok n.toNat w:=by
  intro k n y code hn hy
  simp [Instr.sliceBound,asIntOf,hn,hy]
 have e1:(h.toNat:Int)=h:=Int.toNat_of_nonneg (by omega)
 rcases hlo with ⟨rfl,rfl⟩ | ⟨kl,rfl⟩ <;> rcases hhi with ⟨rfl,rfl⟩ | ⟨kh,rfl⟩
 ·simp [Instr.sliceBounds]
 ·simp [Instr.sliceBounds,hb kh h cap _ (by omega) (by omega)]
 ·simp [Instr.sliceBounds,hb kl l len _ h0 (by omega)]
 ·simp [Instr.sliceBounds,hb kh h cap _ (by omega) (by omega),hb kl l h.toNat _ h0 (by omega)]
theorem Cu {e:Ty} {xs:List (D e)} {A:aD} {w:World} {v:Value} {t te:TypeId} (hu:P.underlying t=some (.slice te)) (hs:∀w,(sizeOf te).run P w = .ok e.size w)
  (hv:VR cx.eT (.slice e) xs A w v) {lo hi:Option Value} {l h:Int} (hlo:(lo=none/\l=0)\/∃k,lo=some (.int k l)) (hhi:(hi=none/\h=xs.length)\/∃k,hi=some (.int k h))
  (h0:0<=l) (h1:l<=h) (h2:h<=xs.length) :
  ∃u,(∀w',(Instr.sliceAt t v lo hi none).run P w' = .ok u w')/\VR cx.eT (.slice e) ((xs.take h.toNat).drop l.toNat) A w u:=by
 obtain ⟨u,hu',hl,hr⟩:=VR.one rfl hv
 simp at hu';subst hu'
 have hlen:((xs.take h.toNat).drop l.toNat).length=h.toNat - l.toNat:=by
  simp only [List.length_drop,List.length_take];omega
 rcases hr with ⟨rfl,a,c,rfl⟩ | ⟨b,o,cap,rfl,hc,hr⟩
 ·simp at h2
  have:h=0:=by omega
  have:l=0:=by omega
  have hsome:(∃u,(∀w',(Instr.sliceAt t (.slice a 0 c) lo hi none).run P w' = .ok (.slice u 0 c) w')):=by
   have hb:=fun w'=>iY (P:=P) (isSlice:=true) (len:=0) (cap:=c) hlo (by simpa using hhi) h0 h1 (by simpa using h2) (Nat.zero_le _) w'
   cases a with
   | none=>
    refine ⟨none,fun w' => ?_⟩
    simp [Instr.sliceAt,Instr.slice,run_underlying hu,hb,hs]
    omega
   | some a=>
    refine ⟨some a,fun w' => ?_⟩
    simp [Instr.sliceAt,Instr.slice,run_underlying hu,hb,hs,Addr.add, *]
  obtain ⟨u,hsome⟩:=hsome
  refine ⟨.slice u 0 c,hsome,?_⟩
  exact VR.bt rfl (by rw [show (([]:List (D e)).take h.toNat).drop l.toNat = [] from by simp];exact ⟨_,rfl,by simp, .inl ⟨rfl,u,c,rfl⟩⟩)
 ·have hb:=fun w'=>iY (P:=P) (isSlice:=true) (len:=xs.length) (cap:=cap) hlo hhi h0 h1 h2 hc w'
  refine ⟨.slice (if cap=l.toNat then some ⟨b,o,none⟩ else some ⟨b,o + l.toNat * e.size,none⟩) (h.toNat - l.toNat) (cap - l.toNat),fun w' => ?_,VR.bt rfl ⟨_,rfl,by omega,?_⟩⟩
  ·simp [Instr.sliceAt,Instr.slice,run_underlying hu,hb,hs,Addr.add_lit]
  ·rw [hlen]
   by_cases cL:cap=l.toNat
   ·refine .inr ⟨b,o,cap - l.toNat,by rw [if_pos cL],by omega,fun i y hy => ?_⟩
    have:i < ((xs.take h.toNat).drop l.toNat).length:=by
     rcases Nat.lt_or_ge i ((xs.take h.toNat).drop l.toNat).length with hh | hh
     ·exact hh
     ·rw [List.getElem?_eq_none hh] at hy;cases hy
    omega
   ·refine .inr ⟨b,o + l.toNat * e.size,cap - l.toNat,by rw [if_neg cL],by omega,fun i y hy => ?_⟩
    rw [List.getElem?_drop,List.getElem?_take] at hy
    split at hy
    ·obtain ⟨us,k1,k2⟩:=hr _ _ hy
     refine ⟨us,k1,?_⟩
     rw [show o + l.toNat * e.size + i * e.size=o + (l.toNat + i) * e.size from by rw [Nat.add_mul];omega]
     exact k2
    ·cases hy
theorem F1 {t te:TypeId} {size:Nat} (hu:P.underlying t=some (.slice te)) (hs:∀w,(sizeOf te).run P w = .ok size w) {b len cap:Nat} (hc:len<=cap)
  {lo hi:Option Value} {l h:Int} (hlo:(lo=none/\l=0)\/∃k,lo=some (.int k l)) (hhi:(hi=none/\h=len)\/∃k,hi=some (.int k h)) (h0:0<=l) (h1:l<=h) (h2:h<=len) (w':World) :
  (Instr.sliceAt t (.slice (some ⟨b,0,none⟩) len cap) lo hi none).run P w' = .ok (.slice (if cap=l.toNat then some ⟨b,0,none⟩ else some ⟨b,l.toNat * size,none⟩) (h.toNat - l.toNat) (cap - l.toNat)) w':=by
 have hb:=fun w'=>iY (P:=P) (isSlice:=true) (len:=len) (cap:=cap) hlo hhi h0 h1 h2 hc w'
 simp [Instr.sliceAt,Instr.slice,run_underlying hu,hb,hs,Addr.add_lit]
theorem El {t te:TypeId} {size:Nat} (hu:P.underlying t=some (.slice te)) (hs:∀w,(sizeOf te).run P w = .ok size w) {a:Option Addr}
  {lo hi:Option Value} {l h:Int} (hlo:(lo=none/\l=0)\/∃k,lo=some (.int k l)) (hhi:(hi=none/\h=0)\/∃k,hi=some (.int k h)) (h0:0<=l) (h1:l<=h) (h2:h<=0) :
  ∃u,∀w',(Instr.sliceAt t (.slice a 0 0) lo hi none).run P w' = .ok (.slice u 0 0) w':=by
 have:h=0:=by omega
 have:l=0:=by omega
 have hb:=fun w'=>iY (P:=P) (isSlice:=true) (len:=0) (cap:=0) hlo (by simpa using hhi) h0 h1 (by simpa using h2) (Nat.zero_le _) w'
 cases a with
 | none=>
  refine ⟨none,fun w' => ?_⟩
  simp [Instr.sliceAt,Instr.slice,run_underlying hu,hb,hs]
  omega
 | some a=>
  refine ⟨some a,fun w' => ?_⟩
  simp [Instr.sliceAt,Instr.slice,run_underlying hu,hb,hs,Addr.add, *]
theorem qp (hok:TyOK P cx) {O:aD} {st:St} {loc:Nat->Loc} {w:World} {a:Act} (g:Good cx.eT X (aB O st loc w)) (he:dz cx.eT (aB O st loc w) st.env a) {t:TypeId} {x:C} {lo hi:Option Operand} {K:C->VC} {vx:Value}
  (hx:CR cx.eT (aB O st loc w) x vx) (h:(tx cx st t x lo hi K).holds) :
  ∃c u,(K c).holds/\CR cx.eT (aB O st loc w) c u/\∀w',(Instr.sliceAt t vx (lo.map a.eval) (hi.map a.eval) none).run P w' = .ok u w':=by
 have conv:∀{x:Option Operand} {dflt r:Int},iW st x dflt=some r->(x.map a.eval=none/\r=dflt)\/∃k,x.map a.eval=some (.int k r):=by
  intro x dflt r hr
  rcases AZ he hr with ⟨rfl,h⟩ | ⟨o,k,rfl,h⟩
  ·exact .inl ⟨rfl,h⟩
  ·exact .inr ⟨k,by simp [h]⟩
 unfold tx at h
 split at h
 ·rename_i ht
  have hu:=pU hok ht
  split at h
  ·rename_i s
   obtain ⟨rfl,hl⟩:=eh.1 hx
   split at h
   ·rename_i l hh e1 e2
    obtain ⟨⟨h0,h1,h2⟩,h⟩:=h
    refine ⟨_, .string ⟨((s.take hh.toNat).drop l.toNat).toArray⟩,h,eh.2 ⟨rfl,?_⟩,fun w' => ?_⟩
    ·simp only [List.length_drop,List.length_take];omega
    ·have hb:=iY (P:=P) (isSlice:=false) (len:=s.length) (cap:=s.length) (conv e1) (conv e2) h0 h1 h2 (Nat.le_refl _) w'
     have hsz:(⟨s.toArray⟩:ByteArray).size=s.length:=rfl
     simp only [Instr.sliceAt,Sem.run_bind,run_underlying hu,Result.andThen_ok,Instr.slice,Option.isSome_none,Bool.false_eq_true,if_false,hsz,hb,Sem.run_pure]
     congr 2
     have:(⟨s.toArray⟩:ByteArray).extract l.toNat hh.toNat=⟨(s.toArray).extract l.toNat hh.toNat⟩:=by
      apply ByteArray.ext
      simp
     rw [this]
     congr 1
     apply Array.toList_inj.1
     simp [List.extract_eq_take_drop,List.drop_take]
   ·exact h.elim
  ·exact h.elim
 ·rename_i e ht
  obtain ⟨te,ii,dd,hu,hf⟩:=cW hok ht
  split at h
  ·rename_i xs hr
   split at h
   ·rename_i l hh e1 e2
    obtain ⟨⟨h0,h1,h2⟩,h⟩:=h
    obtain ⟨u,k1,k2⟩:=Cu hu (cA hf) (qY hr hx) (conv e1) (conv e2) h0 h1 h2
    exact ⟨_,u,h,k2,k1⟩
   ·exact h.elim
  ·split at h
   ·rename_i n
    split at h
    ·rename_i e' xs hob
     split at h
     ·rename_i l hh hb e1 e2
      have:=Ty.eq_of_beq hb
      subst this
      obtain ⟨⟨h0,h1,h2⟩,h⟩:=h
      have hv:=hx.2 _ _ hob
      rcases (g.obj _ _ hob).2 with ⟨rfl,⟨a0,ha⟩,_⟩ | ⟨b,vs,T,cap,hv2,cX,_,_,hc,_⟩
      ·obtain ⟨u,hr⟩:=El (P:=P) hu (cA hf) (a:=a0) (conv e1) (conv e2) h0 h1 (by simpa using h2)
       rw [hv,ha]
       refine ⟨_,_,h,⟨hx.1,fun xs' _ => .inl ⟨?_,_,_,rfl⟩⟩,hr⟩
       simp at h2;omega
      ·rw [hv,hv2]
       refine ⟨_,_,h,⟨hx.1,fun xs' _ => ?_⟩,fun w'=>F1 (P:=P) hu (cA hf) hc (conv e1) (conv e2) h0 h1 h2 w'⟩
       by_cases cL:cap=l.toNat
       ·exact .inl ⟨by omega,_,_,by rw [show hh.toNat - l.toNat=0 by omega]⟩
       ·exact .inr ⟨b,_,cX,by rw [if_neg cL]⟩
     ·exact h.elim
    ·exact h.elim
   ·exact h.elim
 ·exact h.elim
theorem wm (hok:TyOK P cx) {O:aD} {st:St} {loc:Nat->Loc} {w:World} {a:Act} (g:Good cx.eT X (aB O st loc w)) (he:dz cx.eT (aB O st loc w) st.env a)
  {o:Oper} {K:SV->VC} (h:(iX cx st o.op K).holds) :
  ∃sv v,(K sv).holds/\bX cx.eT (aB O st loc w) sv v/\(execOp a.eval o).run P w = .ok (.value v) w:=by
 unfold iX at h
 simp only at h
 split at h
 ·rename_i t x i hop
  split at h
  ·rename_i n hn
   obtain ⟨k,hk,_⟩:=gy hn (aZ he i)
   obtain ⟨c,u,h1,h2,h3⟩:=tY (P:=P) hok g (k:=k) (aZ he x) h
   exact ⟨_,u,h1,h2,by simp [execOp,hop,hk,h3]⟩
  ·exact h.elim
 ·rename_i t x f hop
  obtain ⟨c,u,h1,h2,h3⟩:=qo (P:=P) hok (aZ he x) h
  exact ⟨_,u,h1,h2,by simp [execOp,hop,h3]⟩
 ·rename_i t x hop
  obtain ⟨c,u,h1,h2,h3⟩:=nr (P:=P) hok g (aZ he x) h
  exact ⟨_,u,h1,h2,by simp [execOp,hop,h3 w (Below.refl _ _)]⟩
 ·rename_i t x lo hi hop
  obtain ⟨c,u,h1,h2,h3⟩:=qp (P:=P) hok g he (aZ he x) h
  exact ⟨_,u,h1,h2,by simp [execOp,hop,h3]⟩
 ·obtain ⟨sv,v,h1,h2,h3⟩:=oD (P:=P) hok g he h
  exact ⟨sv,v,h1,h2,h3 w⟩
end
end Go.Vg

namespace Go.Vg
open Go.RowKit
def jW:Ty->Bool
 | .cO=>false
 | .prod a b=>jW a && jW b
 | _=>true
def iH:Ty->List Ty
 | .prod a b=>iH a++iH b
 | .unit=>[]
 | t=>[t]
def c8:List Ty->List C->St->List C × St
 | .slice e :: ts, .dZ :: cs,st=>
  match c8 ts cs {st with aC:=(st.next, .tok e []) :: st.aC,next:=st.next + 1} with
  | (cs',st')=>(.app e [] st.next :: cs',st')
 | _ :: ts,c :: cs,st=>match c8 ts cs st with
  | (cs',st')=>(c :: cs',st')
 | [],cs,st=>(cs,st)
 | _,[],st=>([],st)
def GR (st:St):C->Bool
 | .any=>false
 | .d t _=>t.one
 | .aQ n=>match look st.aC n with
  | some (.aQ _ _)=>true
  | _=>false
 | .im n=>match look st.aC n with
  | some (.arr _ _)=>true
  | _=>false
 | .cn n=>match look st.aC n with
  | some (.ext (_ + 1) _ _)=>true
  | _=>false
 | .ref n _=>match look st.aC n with
  | some (.cells _ _)=>true
  | _=>false
 | .fq _ _ _ _=>false
 | .iP _ _ _ _=>false
 | .lit _=>true
 | .app _ _ _=>true
 | .dZ=>true
 | .c7=>true
 | .emp=>true
 | .iR _ _=>true
 | .fn _ _=>true
 | .xd _ _=>false
 | .kT _=>false
def pV (st:St) (ty:Ty) (v:bx):Option (List C):=
 match v with
 | .one (.d t x)=>match Ty.beq t ty with
  | true=>some (pT t x)
  | false=>none
 | .one (.lit b)=>match ty with
  | .bool=>some [.d .bool b]
  | _=>none
 | .one c=>match ty.one && GR st c with
  | true=>some [c]
  | false=>none
 | .agg cs=>match ty.one,Nat.beq cs.length ty.size with
  | false,true=>some cs
  | _,_=>none
def fresh (st:St) (oc:OC):St:={st with aC:=(st.next,oc) :: st.aC,next:=st.next + 1}
def pW (cx:Cx) (st:St) (x:Operand) (ty:TypeId) (K:SV->St->VC):VC:=
 match ev st.env x,look cx.τ ty with
 | .s (.one .dZ),some (.slice e)=>K (.s (.one (.app e [] st.next))) (fresh st (.tok e []))
 | v,_=>K v st
def Aa (cx:Cx) (st:St) (t:TypeId) (K:SV->St->VC):VC:=
 match look cx.τ t with
 | some ty=>match c8 (iH ty) (kV ty) st with
  | (cs,st')=>K (.s (.one (.ref st'.next 0))) (fresh st' (.cells t cs))
 | none=>match look cx.qU t with
  | some (n,te)=>match look cx.τ te with
   | some e=>match jW e with
    | true=>K (.s (.one (.im st.next))) (fresh st (.arr e (List.replicate n (bF e))))
    | false => .ff
   | none => .ff
  | none => .ff
def FH (cx:Cx) (st:St) (t:TypeId) (v:bx) (K:SV->St->VC):VC:=
 match look cx.τ t with
 | some ty=>match pV st ty v with
  | some cs0=>match c8 (iH ty) cs0 st with
   | (cs,st')=>K (.s (.one (.ref st'.next 0))) (fresh st' (.cells t cs))
  | none => .ff
 | none => .ff
section
variable {X:Ext} {P:Program} {cx:Cx}
def cu (O:aD) (w:World):Prop:=∀b off,O b off->b < w.heap.size
theorem fY (O:aD) (st:St) (loc:Nat->Loc) (w:World) (oc:OC) (m:Nat):(aB O (fresh st oc) loc w).ob m=if st.next=m then some oc else look st.aC m:=by
 simp only [aB,fresh,bm]
def bd (loc:Nat->Loc) (n:Nat) (l:Loc):Nat->Loc:=fun m=>if n=m then l else loc m
theorem cN {O:aD} {st:St} {loc:Nat->Loc} {w w':World} {oc:OC} {l:Loc} (g:Good cx.eT X (aB O st loc w)) (hO:cu O w)
  (hw:Below w.heap.size w w') (hl:∀b∈l.bs,w.heap.size<=b) :
  Tr (aB O st loc w) (aB O (fresh st oc) (bd loc st.next l) w')/\
   (OR cx.eT X (aB O (fresh st oc) (bd loc st.next l) w') l oc->Good cx.eT X (aB O (fresh st oc) (bd loc st.next l) w')):=
 Eb (S:=aB O st loc w) (S':=aB O (fresh st oc) (bd loc st.next l) w') g rfl hO (fun m=>fY O st _ w' oc m) (fun _=>rfl) rfl hw hl
theorem cu.tr {O:aD} {w w':World} (h:cu O w) (hs:w.heap.size<=w'.heap.size):cu O w':=fun b off hb=>Nat.lt_of_lt_of_le (h b off hb) hs
theorem rZ:∀{ts:List Ty} {cs:List C} {O:aD} {st:St} {loc:Nat->Loc} {w:World} {vs:List Value},Good cx.eT X (aB O st loc w)->cu O w->bZ cx.eT (aB O st loc w) cs vs->
  ∃loc',Good cx.eT X (aB O (c8 ts cs st).2 loc' w)/\Tr (aB O st loc w) (aB O (c8 ts cs st).2 loc' w)/\bZ cx.eT (aB O (c8 ts cs st).2 loc' w) (c8 ts cs st).1 vs/\(c8 ts cs st).2.env=st.env:=by
 intro ts
 induction ts with
 | nil=>intro cs O st loc w vs g _ h;exact ⟨loc,by simpa [c8] using g,by simpa [c8] using Tr.refl _,by simpa [c8] using h,by simp [c8]⟩
 | cons t ts ih=>
  intro cs O st loc w vs g hO h
  cases h with
  | nil=>
   have e:c8 (t :: ts) [] st=([],st):=by cases t <;> rfl
   rw [e]
   exact ⟨loc,g,Tr.refl _, .nil,rfl⟩
  | cons h1 h2 h3=>
   rename_i c v cs vs
   have plain:c8 (t :: ts) (c :: cs) st=((c :: (c8 ts cs st).1),(c8 ts cs st).2)->
     ∃loc',Good cx.eT X (aB O (c8 (t :: ts) (c :: cs) st).2 loc' w)/\Tr (aB O st loc w) (aB O (c8 (t :: ts) (c :: cs) st).2 loc' w)/\
      bZ cx.eT (aB O (c8 (t :: ts) (c :: cs) st).2 loc' w) (c8 (t :: ts) (c :: cs) st).1 (v :: vs)/\(c8 (t :: ts) (c :: cs) st).2.env=st.env:=by
    intro e
    rw [e]
    obtain ⟨loc',g',tr,hc,he⟩:=ih g hO h3
    exact ⟨loc',g',tr, .cons (h1.tr tr) h2 hc,he⟩
   by_cases hs:(∃e,t = .slice e)/\c = .dZ
   ·obtain ⟨⟨e,rfl⟩,rfl⟩:=hs
    obtain ⟨tr1,g1⟩:=cN (oc:=.tok e []) (l:=⟨.slice none 0 0,[]⟩) g hO (Below.refl _ w) (by simp)
    have g1:=g1 (.inl ⟨rfl,⟨none,rfl⟩,rfl⟩)
    obtain ⟨loc',g',tr,hc,he⟩:=ih g1 hO (h3.tr tr1)
    have e1:c8 (.slice e :: ts) (.dZ :: cs) st=(.app e [] st.next :: (c8 ts cs (fresh st (.tok e []))).1,(c8 ts cs (fresh st (.tok e []))).2):=rfl
    rw [e1]
    refine ⟨loc',g',tr1.trans tr, .cons (CR.tr tr ?_) h2 hc,he⟩
    rw [show v=_ from h1]
    refine ⟨VR.bt rfl R.kb,by simp [aB,fresh],fun ys hy => ?_⟩
    rw [fY,if_pos rfl] at hy
    cases hy
    exact ⟨Nat.le_refl _,fun _=>by simp [aB,bd]⟩
   ·apply plain
    cases t <;> (try rfl)
    cases c <;> (try rfl)
    exact (hs ⟨⟨_,rfl⟩,rfl⟩).elim
theorem F2 {O:aD} {st:St} {loc:Nat->Loc} {w:World} {c:C} {v:Value} (g:Good cx.eT X (aB O st loc w)) (h:GR st c=true) (hc:CR cx.eT (aB O st loc w) c v):v.oneCell'=true:=by
 unfold GR at h
 split at h
 ·cases h
 ·exact (VR.one h hc).fK v (by simp)
 ·split at h
  ·rename_i t xs hob
   rcases (g.obj _ _ hob).2 with ⟨_,⟨a,ha⟩,_⟩ | ⟨b,vs,T,cap,hl,_⟩
   ·rw [hc.2 _ _ hob,ha];rfl
   ·rw [hc.2 _ _ hob,hl];rfl
  ·cases h
 ·split at h
  ·rename_i t xs hob
   obtain ⟨_,b,vs,T,hl,_⟩:=g.obj _ _ hob
   rw [hc.2 _ _ hob,hl];rfl
  ·cases h
 ·split at h
  ·rename_i k t x hob
   obtain ⟨_,h1⟩:=g.obj _ _ hob
   rw [hc.2 _ hob rfl]
   cases k with
   | zero=>
    obtain ⟨e,rfl,b,es,b9,hm⟩:=X.map.1 h1
    rw [hm.lv];rfl
   | succ k=>
    obtain ⟨a,ha⟩:=X.ptr (by omega) h1
    rw [ha];rfl
  ·cases h
 ·split at h
  ·rename_i T cs hob
   obtain ⟨b,_,h2⟩:=hc.2 _ _ hob
   rw [h2];rfl
  ·cases h
 ·cases h
 ·cases h
 ·rw [show v=_ from hc];rfl
 ·exact (VR.one rfl hc.1).fK v (by simp)
 ·rw [show v=_ from hc];rfl
 ·rw [show v=_ from hc];rfl
 ·obtain ⟨a,rfl⟩:=hc;rfl
 ·obtain ⟨b,o,us,h,_⟩:=hc;rw [h];rfl
 ·rw [hc.1];rfl
 ·cases h
 ·cases h
theorem lI {O:aD} {st:St} {loc:Nat->Loc} {w:World} {ty:Ty} {v:bx} {cs:List C} {u:Value} (g:Good cx.eT X (aB O st loc w)) (h:pV st ty v=some cs) (hv:dM cx.eT (aB O st loc w) v u) :
  ∃us,u.cells.toList=us/\bZ cx.eT (aB O st loc w) cs us/\us.length=ty.size:=by
 unfold pV at h
 split at h
 ·split at h
  ·rename_i hb
   cases h
   have hr:=VR.cells (show VR cx.eT _ _ _ _ u from hv)
   exact ⟨_,rfl,yu hr,by rw [hr.length,Ty.eq_of_beq hb]⟩
  ·cases h
 ·split at h
  ·cases h
   rw [show u=_ from hv]
   exact ⟨_,rfl, .cons (b6.2 rfl) rfl .nil,rfl⟩
  ·cases h
 ·rename_i c _ _
  split at h
  ·rename_i h1
   simp only [Bool.and_eq_true] at h1
   cases h
   have:=F2 g h1.2 hv
   have hcell:u.cells.toList = [u]:=by cases u <;> simp_all [Value.cells,Value.oneCell']
   exact ⟨_,hcell, .cons hv this .nil,by rw [Ty.il h1.1];rfl⟩
  ·cases h
 ·split at h
  ·rename_i h1
   cases h
   obtain ⟨vs,rfl,hc⟩:=hv
   exact ⟨vs,by simp [Value.cells],hc,by rw [<-hc.length];exact Nat.eq_of_beq_eq_true h1⟩
  ·cases h
theorem qq {O:aD} {st:St} {loc:Nat->Loc} {w:World} {a:Act} (g:Good cx.eT X (aB O st loc w)) (hO:cu O w) (he:dz cx.eT (aB O st loc w) st.env a)
  {x:Operand} {ty:TypeId} {K:SV->St->VC} (h:(pW cx st x ty K).holds) :
  ∃sv st' loc',(K sv st').holds/\st'.env=st.env/\Good cx.eT X (aB O st' loc' w)/\Tr (aB O st loc w) (aB O st' loc' w)/\bX cx.eT (aB O st' loc' w) sv (a.eval x):=by
 have hx:=fX he x
 unfold pW at h
 split at h
 ·rename_i e hl _
  rw [hl] at hx
  obtain ⟨tr1,g1⟩:=cN (oc:=.tok e []) (l:=⟨.slice none 0 0,[]⟩) g hO (Below.refl _ w) (by simp)
  have g1:=g1 (.inl ⟨rfl,⟨none,rfl⟩,rfl⟩)
  refine ⟨_,_,_,h,rfl,g1,tr1,?_⟩
  rw [show a.eval x=_ from hx]
  refine ⟨VR.bt rfl R.kb,by simp [aB,fresh],fun ys hy => ?_⟩
  rw [fY,if_pos rfl] at hy
  cases hy
  exact ⟨Nat.le_refl _,fun _=>by simp [aB,bd]⟩
 ·exact ⟨_,_,_,h,rfl,g,Tr.refl _,hx⟩
theorem Cv {O:aD} {st:St} {loc:Nat->Loc} {w:World} {t:TypeId} {ts:List Ty} {cs:List C} {vs:List Value} (g:Good cx.eT X (aB O st loc w)) (hO:cu O w)
  (hc:bZ cx.eT (aB O st loc w) cs vs) {K:SV->St->VC} (h:(K (.s (.one (.ref (c8 ts cs st).2.next 0))) (fresh (c8 ts cs st).2 (.cells t (c8 ts cs st).1))).holds) :
  ∃sv st' loc',(K sv st').holds/\st'.env=st.env/\Good cx.eT X (aB O st' loc' (w.alloc (.cells vs.toArray t)))/\
   Tr (aB O st loc w) (aB O st' loc' (w.alloc (.cells vs.toArray t)))/\bX cx.eT (aB O st' loc' (w.alloc (.cells vs.toArray t))) sv (.pointer (some ⟨w.heap.size,0,none⟩)):=by
 obtain ⟨loc',g',tr,hc',he⟩:=rZ (ts:=ts) g hO hc
 have hb:Below w.heap.size w (w.alloc (.cells vs.toArray t)):=(Below.refl _ w).alloc (Nat.le_refl _) _
 obtain ⟨tr1,g1⟩:=cN (oc:=.cells t (c8 ts cs st).1) (l:=⟨.pointer (some ⟨w.heap.size,0,none⟩),[w.heap.size]⟩) g' hO hb (by simp)
 have g1:=g1 ⟨w.heap.size,vs,rfl,rfl,heap_alloc_new w _,hc'.tr tr1⟩
 refine ⟨_,_,_,h,he,g1,tr.trans tr1,⟨by simp [aB,fresh],fun T cs' hy => ?_⟩⟩
 rw [fY,if_pos rfl] at hy
 exact ⟨w.heap.size,by simp [aB,bd],rfl⟩
theorem fw {S:aX}:∀{ty:Ty} {vs:List Value},cf ty vs=true->bZ cx.eT S (kV ty) vs:=by
 intro ty
 induction ty with
 | prod a b iha ihb=>
  intro vs h
  simp only [cf,Bool.and_eq_true] at h
  have:=(iha h.1).append (ihb h.2)
  rwa [List.take_append_drop] at this
 | unit=>intro vs h;cases vs <;> simp [cf] at h;exact .nil
 | bool=>
  intro vs h
  match vs,h with
  | [v],h=>
   cases v <;> simp [cf,Ty.one,zeroCell] at h
   subst h
   exact .cons rfl rfl .nil
 | int k=>
  intro vs h
  match vs,h with
  | [v],h=>
   cases v <;> simp [cf,Ty.one,zeroCell] at h
   obtain ⟨rfl,rfl⟩:=h
   exact .cons (bB.2 ⟨rfl,by cases k <;> simp [IntKind.min,IntKind.max,IntKind.signed,IntKind.bits]⟩) rfl .nil
 | str=>
  intro vs h
  match vs,h with
  | [v],h=>
   cases v <;> simp [cf,Ty.one,zeroCell] at h
   rename_i s
   subst h
   exact .cons (eh.2 ⟨rfl,by simp⟩) rfl .nil
 | err=>
  intro vs h
  match vs,h with
  | [v],h=>
   cases v <;> simp [cf,Ty.one,zeroCell] at h
   exact .cons (gw.2 rfl) rfl .nil
 | cO=>
  intro vs h
  match vs,h with
  | [v],h=>
   refine .cons trivial ?_ .nil
   cases v <;> simp [cf,Ty.one,zeroCell] at h <;> rfl
 | slice e _=>
  intro vs h
  match vs,h with
  | [v],h=>
   cases v <;> simp [cf,Ty.one,zeroCell] at h
   rename_i a l c
   cases a <;> simp at h
   obtain ⟨rfl,rfl⟩:=h
   exact .cons rfl rfl .nil
end
end Go.Vg

namespace Go.Vg
open Go.RowKit
def qZ:(t:Ty)->D t->Nat->(want:Ty)->D want->Option (D t)
 | .prod a b,x,off,want,y=>match (Nat.beq off 0 && Ty.beq want (.prod a b)) with
  | true=>match h:Ty.beq want (.prod a b) with
   | true=>some (bo h y)
   | false=>none
  | false=>match Nat.blt off a.size with
   | true=>match qZ a x.1 off want y with
    | some z=>some (z,x.2)
    | none=>none
   | false=>match qZ b x.2 (off - a.size) want y with
    | some z=>some (x.1,z)
    | none=>none
 | t,_,off,want,y=>match Nat.beq off 0 with
  | true=>match h:Ty.beq want t with
   | true=>some (bo h y)
   | false=>none
  | false=>none
def setObj (st:St) (n:Nat) (oc:OC):St:={st with aC:=ins st.aC n oc}
def tz (cx:Cx) (st:St) (t:TypeId) (x:C) (v:bx) (K:SV->St->VC):VC:=
 match look cx.τ t with
 | some ty=>match x with
  | .ref n o=>match pV st ty v with
   | some us0=>match c8 (iH ty) us0 st with
    | (us,st')=>match look st'.aC n with
     | some (.cells T cs)=>match Nat.ble (o + us.length) cs.length with
      | true=>K (.s (.one .any)) (setObj st' n (.cells T (cs.take o++us++cs.drop (o + us.length))))
      | false => .ff
     | _ => .ff
   | none => .ff
  | .fq n u i o=>match kv ty v,look st.aC n with
   | some z,some (.aQ u' xs)=>match Ty.beq u' u with
    | true => .and (i < xs.length) (match qZ u' (nth u' xs i) o ty z with
     | some y'=>K (.s (.one .any)) (setObj st n (.aQ u' (xs.set i y')))
     | none => .ff)
    | false => .ff
   | some z,some (.arr u' xs)=>match Ty.beq u' u with
    | true => .and (i < xs.length) (match qZ u' (nth u' xs i) o ty z with
     | some y'=>K (.s (.one .any)) (setObj st n (.arr u' (xs.set i y')))
     | none => .ff)
    | false => .ff
   | _,_ => .ff
  | _ => .ff
 | none => .ff
section
variable {X:Ext} {P:Program} {cx:Cx}
theorem run_store {t:TypeId} {ty:Ty} {i:TypeInfo} {d:TypeDesc} (h:Fit P t ty i d) {b o:Nat} {cur:Array Value} {T:TypeId} {v:Value} {us:List Value} (hv:v.cells.toList=us)
  (hl:us.length=ty.size) (h1:∀u∈us,u.oneCell'=true) {w:World} (hb:w.heap[b]?=some (.cells cur T (0,0))) (hfit:o + us.length<=cur.size) :
  (Instr.storeAt t (.pointer (some ⟨b,o,none⟩)) v).run P w = .ok () (w.setRow b (cur.toList.take o++us++cur.toList.drop (o + us.length)).toArray):=by
 have hs:v.cells.size=ty.size:=by rw [<-Array.length_toList,hv,hl]
 have:=run_storeCells_at P b o T us 0 cur w hb (by simpa using hfit) h1
 simp only [Nat.add_zero] at this
 simp [Instr.storeAt,Instr.sureAddr,storeVar,cA h,hs,hv,this]
theorem bZ.wo {eT:TypeId} {S:aX} {cs:List C} {vs:List Value} (h:bZ eT S cs vs):∀u∈vs,u.oneCell'=true:=by
 induction h with
 | nil=>intro u hu;simp at hu
 | cons _ h2 _ ih=>
  intro u hu
  rcases List.mem_cons.1 hu with rfl | hu
  ·exact h2
  ·exact ih u hu
theorem Em {eT:TypeId}:∀{t:Ty} {x:D t} {off:Nat} {want:Ty} {y:D want} {x':D t} {A:aD} {w:World} {vs us:List Value},qZ t x off want y=some x'->R eT t x A w vs->R eT want y A w us->
  off + us.length<=vs.length/\R eT t x' A w (vs.take off++us++vs.drop (off + us.length)):=by
 have one:∀{t:Ty} {x:D t} {off:Nat} {want:Ty} {y:D want} {x':D t} {A:aD} {w:World} {vs us:List Value},
   (match Nat.beq off 0 with | true=>(match h:Ty.beq want t with | true=>some (bo h y) | false=>none) | false=>none)=some x'->R eT t x A w vs->R eT want y A w us->
   off + us.length<=vs.length/\R eT t x' A w (vs.take off++us++vs.drop (off + us.length)):=by
  intro t x off want y x' A w vs us h hr hu
  split at h
  ·rename_i h0
   have h0:=Nat.eq_of_beq_eq_true h0
   subst h0
   split at h
   ·rename_i hb
    cases h
    have e:=fW hb y hu
    have hl:=e.length
    have hl2:=hr.length
    refine ⟨by omega,?_⟩
    rw [List.drop_of_length_le (by omega)]
    simpa using e
   ·cases h
  ·cases h
 intro t
 induction t with
 | prod a b iha ihb=>
  intro x off want y x' A w vs us h hr hu
  simp only [qZ] at h
  split at h
  ·rename_i hb0
   simp only [Bool.and_eq_true] at hb0
   have h0:=Nat.eq_of_beq_eq_true hb0.1
   subst h0
   split at h
   ·rename_i hb
    cases h
    have e:=fW hb y hu
    have hl:=e.length
    have hl2:=hr.length
    refine ⟨by omega,?_⟩
    rw [List.drop_of_length_le (by omega)]
    simpa using e
   ·cases h
  ·obtain ⟨u1,u2,rfl,r1,r2⟩:=hr
   have hl1:=r1.length
   split at h
   ·rename_i hlt
    have hlt:=gO hlt
    split at h
    ·rename_i z hz
     cases h
     obtain ⟨k1,k2⟩:=iha hz r1 hu
     refine ⟨by simp;omega,?_⟩
     rw [List.take_append_of_le_length (by omega),List.drop_append_of_le_length (by omega),<-List.append_assoc]
     exact ⟨_,_,rfl,k2,r2⟩
    ·cases h
   ·rename_i hlt
    have hlt:=zY hlt
    split at h
    ·rename_i z hz
     cases h
     obtain ⟨k1,k2⟩:=ihb hz r2 hu
     refine ⟨by simp;omega,?_⟩
     have e1:(u1++u2).take off=u1++u2.take (off - a.size):=by
      rw [List.take_append,List.take_of_length_le (by omega),hl1]
     have e2:(u1++u2).drop (off + us.length)=u2.drop (off - a.size + us.length):=by
      rw [List.drop_append,List.drop_of_length_le (by omega),List.nil_append,hl1,show off + us.length - a.size=off - a.size + us.length from by omega]
     rw [e1,e2,List.append_assoc,List.append_assoc,<-List.append_assoc (u2.take _)]
     exact ⟨_,_,rfl,r1,k2⟩
    ·cases h
 | unit=>intro x off want y x' A w vs us h hr hu;exact one (t:=.unit) h hr hu
 | bool=>intro x off want y x' A w vs us h hr hu;exact one (t:=.bool) h hr hu
 | int k=>intro x off want y x' A w vs us h hr hu;exact one (t:=.int k) h hr hu
 | str=>intro x off want y x' A w vs us h hr hu;exact one (t:=.str) h hr hu
 | err=>intro x off want y x' A w vs us h hr hu;exact one (t:=.err) h hr hu
 | cO=>intro x off want y x' A w vs us h hr hu;exact one (t:=.cO) h hr hu
 | slice e _=>intro x off want y x' A w vs us h hr hu;exact one (t:=.slice e) h hr hu
theorem db (vs uv:List Value) (p k:Nat) (h:p + uv.length<=vs.length) :
  (vs.take p++uv++vs.drop (p + uv.length))[k]?=if k < p then vs[k]? else if k < p + uv.length then uv[k - p]? else vs[k]?:=by
 have hl:(vs.take p).length=p:=by simp;omega
 rw [List.append_assoc,List.getElem?_append,hl]
 by_cases h1:k < p
 ·rw [if_pos h1,if_pos h1,List.getElem?_take,if_pos h1]
 ·rw [if_neg h1,if_neg h1,List.getElem?_append]
  by_cases h2:k < p + uv.length
  ·rw [if_pos (by omega),if_pos h2]
  ·rw [if_neg (by omega),if_neg h2,List.getElem?_drop,show p + uv.length + (k - p - uv.length)=k from by omega]
theorem aS {α:Type} {l:List α} {i:Nat} {x:α} (h:l[i]?=some x):i < l.length:=by
 rcases Nat.lt_or_ge i l.length with h' | h'
 ·exact h'
 ·rw [List.getElem?_eq_none h'] at h;cases h
theorem wq {eT:TypeId} {t:Ty} {xs:List (D t)} {A A':aD} {w w':World} {vs uv us:List Value} {ix o:Nat} {y':D t}
  (he:∀i y,xs[i]?=some y->∃us,R eT t y A w us/\∀j u,us[j]?=some u->vs[i * t.size + j]?=some u)
  (hf:∀b o v,¬ A b o->w.cell? ⟨b,o,none⟩=some v->w'.cell? ⟨b,o,none⟩=some v/\¬ A' b o)
  (hlt:ix < xs.length) (hus:us.length=t.size) (husv:∀j u,us[j]?=some u->vs[ix * t.size + j]?=some u)
  (k1:o + uv.length<=us.length) (k2:R eT t y' A w (us.take o++uv++us.drop (o + uv.length))) (htot:ix * t.size + o + uv.length<=vs.length) :
  ∀i y,(xs.set ix y')[i]?=some y->∃us,R eT t y A' w' us/\∀j u,us[j]?=some u->(vs.take (ix * t.size + o)++uv++vs.drop (ix * t.size + o + uv.length))[i * t.size + j]?=some u:=by
 intro i y hy
 by_cases e:ix=i
 ·subst e
  rw [List.getElem?_set_self hlt] at hy
  cases hy
  refine ⟨_,k2.frame hf,fun j v hj => ?_⟩
  rw [db _ _ _ _ k1] at hj
  rw [db _ _ _ _ htot]
  by_cases h1:j < o
  ·rw [if_pos h1] at hj
   rw [if_pos (by omega)]
   exact husv _ _ hj
  ·rw [if_neg h1] at hj
   rw [if_neg (by omega)]
   by_cases h2:j < o + uv.length
   ·rw [if_pos h2] at hj
    rw [if_pos (by omega),show ix * t.size + j - (ix * t.size + o)=j - o from by omega]
    exact hj
   ·rw [if_neg h2] at hj
    rw [if_neg (by omega)]
    exact husv _ _ hj
 ·rw [List.getElem?_set_ne e] at hy
  obtain ⟨us2,r2,c2⟩:=he _ _ hy
  refine ⟨us2,r2.frame hf,fun j v hj => ?_⟩
  have hj':j < t.size:=by have:=aS hj;rw [r2.length] at this;exact this
  have hold:=c2 j v hj
  rw [db _ _ _ _ htot]
  rcases Nat.lt_or_gt_of_ne e with hlt' | hgt
  ·have:(ix + 1) * t.size<=i * t.size:=Nat.mul_le_mul_right _ hlt'
   rw [Nat.add_mul] at this
   rw [if_neg (by omega),if_neg (by omega)]
   exact hold
  ·have:(i + 1) * t.size<=ix * t.size:=Nat.mul_le_mul_right _ hgt
   rw [Nat.add_mul] at this
   rw [if_pos (by omega)]
   exact hold
theorem iv (st:St) (n m:Nat) (oc:OC):look (setObj st n oc).aC m=if n=m then some oc else look st.aC m:=Ea _ _ _ _
theorem q0 {O:aD} {st:St} {loc:Nat->Loc} {w:World} {n b:Nat} {oc oc':OC} {cs':Array Value} (g:Good cx.eT X (aB O st loc w)) (hO:cu O w)
  (hob:look st.aC n=some oc) (cX:(loc n).bs = [b]) (hk:aM (loc n) (loc n) oc oc') (h0:oc.lo=0) (h0':oc'.lo=0) :
  Tr (aB O st loc w) (aB O (setObj st n oc') loc (w.setRow b cs'))/\
   (OR cx.eT X (aB O (setObj st n oc') loc (w.setRow b cs')) (loc n) oc'->Good cx.eT X (aB O (setObj st n oc') loc (w.setRow b cs'))):=by
 have hsz:(w.setRow b cs').heap.size=w.heap.size:=by simp [World.setRow]
 refine jw (S:=aB O st loc w) (S':=aB O (setObj st n oc') loc (w.setRow b cs')) (n:=n) (oc:=oc) (oc':=oc') (l':=loc n) g rfl hO hob
  (fun m=>iv st n m oc') (fun m => ?_) rfl (fun _=>hJ rfl) hk rfl rfl (by simp [aB,hsz]) ?_ ?_ ?_
 ·show loc m=_
  by_cases e:n=m
  ·rw [if_pos e,e]
  ·rw [if_neg e];rfl
 ·intro b' _ hb'
  exact setRow_other w b b' cs' (fun e=>hb' (by simp [aB,cX,e]))
 ·intro b' o v _ ho;rw [h0] at ho;omega
 ·intro b' hb';exact .inl ⟨hb',by omega⟩
theorem vA (hok:TyOK P cx) {O:aD} {st:St} {loc:Nat->Loc} {w:World} (g:Good cx.eT X (aB O st loc w)) (hO:cu O w)
  {t:TypeId} {x:C} {v:bx} {K:SV->St->VC} {vx vv:Value} (hx:CR cx.eT (aB O st loc w) x vx) (hv:dM cx.eT (aB O st loc w) v vv)
  (h:(tz cx st t x v K).holds) :
  ∃st' loc' w',(K (.s (.one .any)) st').holds/\st'.env=st.env/\Good cx.eT X (aB O st' loc' w')/\Tr (aB O st loc w) (aB O st' loc' w')/\(Instr.storeAt t vx vv).run P w = .ok () w':=by
 unfold tz at h
 split at h
 ·rename_i ty ht
  obtain ⟨m,ti,d,hf,hs⟩:=cw hok ht
  split at h
  ·rename_i n o
   split at h
   ·rename_i us0 hfl
    obtain ⟨uv,huv,hcr,huty⟩:=lI g hfl hv
    obtain ⟨loc1,g1,tr1,hcr1,henv⟩:=rZ (ts:=iH ty) g hO hcr
    split at h
    rename_i us st' hu
    rw [hu] at g1 tr1 hcr1 henv
    simp only at g1 tr1 hcr1 henv
    split at h
    ·rename_i T cs hob
     split at h
     ·rename_i hle
      have hle:=Nat.le_of_ble_eq_true hle
      have hx1:=CR.tr tr1 hx
      obtain ⟨b,hb1,rfl⟩:=hx1.2 _ _ hob
      obtain ⟨_,b',vs,hl,cX,hheap,hcs⟩:=g1.obj _ _ hob
      have hbb:b=b':=by
       have:=hb1.symm.trans hl
       cases this;rfl
      subst hbb
      have cL:=hcs.length
      have hul:=hcr1.length
      have hrun:=run_store hf (o:=o) huv huty hcr1.wo hheap (by simp;omega)
      have hst:=q0 (oc':=.cells T (cs.take o++us++cs.drop (o + us.length))) (cs':=(vs.toArray.toList.take o++uv++vs.toArray.toList.drop (o + uv.length)).toArray) g1 hO hob cX (by simp [aM]) rfl rfl
      refine ⟨_,_,_,h,by rw [<-henv];rfl,hst.2 ⟨b,vs.take o++uv++vs.drop (o + uv.length),hl,cX,?_,?_⟩,tr1.trans hst.1,hrun⟩
      ·have:=setRow_heap w b vs.toArray (vs.toArray.toList.take o++uv++vs.toArray.toList.drop (o + uv.length)).toArray T (0,0) hheap
       simpa [aB] using this
      ·have h5:bZ cx.eT (aB O st' loc1 w) (cs.take o++us++cs.drop (o + us.length)) (vs.take o++uv++vs.drop (o + uv.length)):=by
        rw [<-hul]
        exact ((hcs.take o).append hcr1).append (hcs.drop (o + us.length))
       exact h5.tr hst.1
     ·exact h.elim
    ·exact h.elim
   ·exact h.elim
  ·rename_i n u ix o
   have elem:∀{u':Ty} {xs:List (D u')} {z:D ty} {y':D u'} {b:Nat} {vs:Array Value} {T:TypeId} (oc':OC) (oc:OC),vx = .pointer (some ⟨b,ix * u'.size + o,none⟩)->look st.aC n=some oc->(loc n).bs = [b]->
     aM (loc n) (loc n) oc oc'->oc.lo=0->oc'.lo=0->w.heap[b]?=some (.cells vs T (0,0))->fr cx.eT (aB O st loc w) u' xs vs->xs.length * u'.size<=vs.size->∀(hlt:ix < xs.length),
     qZ u' xs[ix] o ty z=some y'->VR cx.eT ty z (aB O st loc w).A w vv->(K (.s (.one .any)) (setObj st n oc')).holds->
     (∀(vs':Array Value) (w':World),vs'.size=vs.size->w'.heap[b]?=some (.cells vs' T (0,0))->fr cx.eT (aB O (setObj st n oc') loc w') u' (xs.set ix y') vs'->OR cx.eT X (aB O (setObj st n oc') loc w') (loc n) oc')->
     ∃st' loc' w',(K (.s (.one .any)) st').holds/\st'.env=st.env/\Good cx.eT X (aB O st' loc' w')/\Tr (aB O st loc w) (aB O st' loc' w')/\(Instr.storeAt t vx vv).run P w = .ok () w':=by
    intro u' xs z y' b vs T oc' oc hvx hob cX hk hlo hlo' hheap he hsz hlt hy' hvr hh hor
    have hvr:=VR.cells hvr
    have hget:=List.getElem?_eq_getElem hlt
    obtain ⟨us,hr,hus⟩:=he _ _ hget
    obtain ⟨k1,k2⟩:=Em hy' hr hvr
    have hul:=hr.length
    have hfit:ix * u'.size + o + vv.cells.toList.length<=vs.size:=by
     have:(ix + 1) * u'.size<=xs.length * u'.size:=Nat.mul_le_mul_right _ hlt
     rw [Nat.add_mul] at this
     omega
    subst hvx
    have hrun:=run_store hf (b:=b) (o:=ix * u'.size + o) rfl hvr.length hvr.fK hheap hfit
    have hst:=q0 (oc':=oc') (cs':=(vs.toList.take (ix * u'.size + o)++vv.cells.toList++vs.toList.drop (ix * u'.size + o + vv.cells.toList.length)).toArray) g hO hob cX hk hlo hlo'
    refine ⟨_,_,_,hh,rfl,hst.2 (hor _ _ ?_ (setRow_heap w b vs _ T (0,0) hheap) ?_),hst.1,hrun⟩
    ·simp only [List.size_toArray,List.length_append,List.length_take,List.length_drop,Array.length_toList] at hfit ⊢
     omega
    ·intro i y hy
     have:=wq (vs:=vs.toList) (o:=o) (fun i y hy=>by
       obtain ⟨us,h1,h2⟩:=he i y hy
       exact ⟨us,h1,fun j u hj=>by rw [Array.getElem?_toList];exact h2 j u hj⟩)
      hst.1.cell hlt hul (fun j u hj=>by rw [Array.getElem?_toList];exact hus j u hj) k1 k2 (by rw [Array.length_toList];exact hfit) i y hy
     obtain ⟨us',h1,h2⟩:=this
     exact ⟨us',h1,fun j u hj=>by rw [List.getElem?_toArray];exact h2 j u hj⟩
   split at h
   ·rename_i z u' xs hz hob
    split at h
    ·rename_i hb
     have:=Ty.eq_of_beq hb
     subst this
     obtain ⟨hlt,h⟩:=h
     have hget:=List.getElem?_eq_getElem hlt
     rw [dX hget] at h
     split at h
     ·rename_i y' hy'
      obtain ⟨b,hb1,hvx⟩:=hx.2 ⟨_, .inl hob⟩
      rcases (g.obj _ _ hob).2 with ⟨_,_,cX⟩ | ⟨b',vs,T,cap,hl,cX,hheap,hvs,hcap,hbig,he⟩
      ·rw [cX] at hb1;cases hb1
      have hbb:b=b':=by rw [cX] at hb1;cases hb1;rfl
      subst hbb
      refine elem (.aQ u' (xs.set ix y')) _ hvx hob cX (by simp [aM]) rfl rfl hheap he (by rw [hvs];exact Nat.mul_le_mul_right _ hcap) hlt hy' (fv hz hv) h ?_
      intro vs' w' h1 h2 h3
      exact .inr ⟨b,vs',T,cap,by rw [List.length_set];exact hl,cX,h2,by rw [h1,hvs],by simpa using hcap,by simpa using hbig,h3⟩
     ·exact h.elim
    ·exact h.elim
   ·rename_i z u' xs hz hob
    split at h
    ·rename_i hb
     have:=Ty.eq_of_beq hb
     subst this
     obtain ⟨hlt,h⟩:=h
     have hget:=List.getElem?_eq_getElem hlt
     rw [dX hget] at h
     split at h
     ·rename_i y' hy'
      obtain ⟨b,hb1,hvx⟩:=hx.2 ⟨_, .inr hob⟩
      obtain ⟨_,b',vs,T,hl,cX,hheap,hvs,he⟩:=g.obj _ _ hob
      have hbb:b=b':=by rw [cX] at hb1;cases hb1;rfl
      subst hbb
      refine elem (.arr u' (xs.set ix y')) _ hvx hob cX (by simp [aM]) rfl rfl hheap he (by rw [hvs];exact Nat.le_refl _) hlt hy' (fv hz hv) h ?_
      intro vs' w' h1 h2 h3
      exact ⟨b,vs',T,hl,cX,h2,by rw [h1,hvs,List.length_set],h3⟩
     ·exact h.elim
    ·exact h.elim
   ·exact h.elim
  ·exact h.elim
 ·exact h.elim
end
end Go.Vg

namespace Go.Vg
open Go.RowKit
def mF (st:St) (ty:Ty):List (Nat × bx)->List C->Option (List C)
 | [],cs=>some cs
 | (i,v) :: rest,cs=>match e9 ty i,oE ty i with
  | some off,some u=>match pV st u v with
   | some us=>match Nat.beq us.length u.size && Nat.ble (off + us.length) cs.length with
    | true=>mF st ty rest (cs.take off++us++cs.drop (off + us.length))
    | false=>none
   | none=>none
  | _,_=>none
def iw (e:Ty):List bx->Option (List (D e))
 | []=>some []
 | v :: vs=>match kv e v,iw e vs with
  | some x,some xs=>some (x :: xs)
  | _,_=>none
def kQ:Nat->List (Nat × Operand)->Bool
 | _,[]=>true
 | k,(i,_) :: r=>Nat.beq i k && kQ (k + 1) r
def tA (cx:Cx) (st:St) (t:TypeId) (parts:List (Nat × Operand)) (K:SV->VC):VC:=
 match look cx.τ t with
 | some ty=>match ty.one with
  | true => .ff
  | false=>match mF st ty (parts.map fun p=>(p.1,kC st.env p.2)) (kV ty) with
   | some cs=>K (.s (.agg cs))
   | none => .ff
 | none => .ff
section
variable {X:Ext} {P:Program} {cx:Cx}
theorem En (off:Nat):∀(vs:List Value) (j:Nat) (cs:Array Value),off + j + vs.length<=cs.size->
  ((vs.zipIdx j).foldl (fun (cs:Array Value) p=>cs.setIfInBounds (off + p.2) p.1) cs).toList=cs.toList.take (off + j)++vs++cs.toList.drop (off + j + vs.length):=by
 intro vs
 induction vs with
 | nil=>intro j cs h;simp
 | cons v vs ih=>
  intro j cs h
  simp only [List.zipIdx_cons,List.foldl_cons]
  rw [ih (j + 1) _ (by simp at h ⊢;omega)]
  simp only [List.length_cons] at h
  apply List.ext_getElem?
  intro k
  have hl:off + (j + 1) + vs.length<=(cs.setIfInBounds (off + j) v).toList.length:=by simp;omega
  rw [db _ _ _ _ hl,show off + j + (v :: vs).length=off + j + (v :: vs).length from rfl,db cs.toList (v :: vs) (off + j) k (by simp;omega)]
  simp only [List.length_cons,Array.getElem?_toList,Array.getElem?_setIfInBounds]
  by_cases h1:k < off + j
  ·rw [if_pos (by omega),if_pos h1,if_neg (by omega)]
  ·by_cases h2:k=off + j
   ·subst h2
    rw [if_pos (by omega),if_pos rfl,if_pos (by omega),if_neg (by omega),if_pos (by omega)]
    simp
   ·rw [if_neg (by omega),if_neg h1]
    by_cases h3:k < off + (j + 1) + vs.length
    ·rw [if_pos h3,if_pos (by omega),show k - (off + j)=(k - (off + (j + 1))) + 1 from by omega]
     simp
    ·rw [if_neg h3,if_neg (by omega),if_neg (by omega)]
theorem tZ (place:Nat->Option (Nat × Nat)) (cells:Array Value) (i off size:Nat) (v:Value) (rest:List (Nat × Value)) (hp:place i=some (off,size)) (hs:v.cells.size=size) (hfit:off + v.cells.size<=cells.size) :
  Instr.fill place cells ((i,v) :: rest)=Instr.fill place (cells.toList.take off++v.cells.toList++cells.toList.drop (off + v.cells.toList.length)).toArray rest:=by
 have:(v.cells.zipIdx.foldl (fun (cs:Array Value) (p:Value × Nat)=>cs.setIfInBounds (off + p.2) p.1) cells)=(cells.toList.take off++v.cells.toList++cells.toList.drop (off + v.cells.toList.length)).toArray:=by
  rw [<-Array.foldl_toList,Array.toList_zipIdx]
  apply Array.toList_inj.1
  rw [En off v.cells.toList 0 cells (by simpa using hfit)]
  simp
 have hc:(v.cells.size≠size || off + v.cells.size > cells.size)=false:=by
  simp [hs];omega
 simp only [Instr.fill,hp,hc]
 simp only [Bool.false_eq_true,if_false]
 rw [<-this]
theorem A0 {f:TypeId->Ty->Bool}:∀{fs:List Field} {off:Nat} {ty u:Ty} {k o:Nat},bR f fs off ty=true->e9 ty k=some o->oE ty k=some u->
  ∃fd,fs[k]?=some fd/\fd.offset=off + o/\f fd.type u=true:=by
 intro fs
 induction fs with
 | nil=>intro off ty u k o h h';cases ty <;> simp [bR] at h;cases k <;> simp [e9] at h'
 | cons g gs ih=>
  intro off ty u k o h h' hc
  cases ty <;> simp only [bR,Bool.false_eq_true] at h
  rename_i a b
  simp only [Bool.and_eq_true] at h
  obtain ⟨⟨⟨h1,h2⟩,h3⟩,h4⟩:=h
  cases k with
  | zero=>
   simp [e9] at h'
   simp [oE] at hc
   subst hc
   exact ⟨g,rfl,by have:=Nat.eq_of_beq_eq_true h1;omega,h2⟩
  | succ k=>
   simp only [e9] at h'
   simp only [oE] at hc
   split at h'
   ·rename_i o' ho'
    cases h'
    obtain ⟨fd,k1,k2,k3⟩:=ih h4 ho' hc
    exact ⟨fd,by simpa using k1,by omega,k3⟩
   ·cases h'
theorem r4 {n:Nat}:∀{fs:List Field} {off:Nat} {ty:Ty},bR (fits P n) fs off ty=true->∀w,(fs.mapM fun f=>do pure (f.offset,<-sizeOf f.type):Sem (List (Nat × Nat))).run P w = .ok (fs.map fun f=>(f.offset,P.cellsOf f.type)) w:=by
 intro fs
 induction fs with
 | nil=>intro off ty h w;rfl
 | cons g gs ih=>
  intro off ty h w
  cases ty <;> simp only [bR,Bool.false_eq_true] at h
  simp only [Bool.and_eq_true] at h
  obtain ⟨⟨⟨h1,h2⟩,h3⟩,h4⟩:=h
  obtain ⟨m',i',d',_,hf',_⟩:=ft h2
  have hs:P.cellsOf g.type=i'.size:=by simp [Program.cellsOf,hf'.info]
  rw [List.mapM_cons]
  simp only [Sem.run_bind,cA hf',Result.andThen_ok,Sem.run_pure,ih h4,List.map_cons,hs,hf'.size]
theorem run_places {n:Nat} {fs:Array Field} {off:Nat} {ty:Ty} (h:bR (fits P n) fs.toList off ty=true) (w:World) :
  (fs.mapM fun f=>do pure (f.offset,<-sizeOf f.type):Sem (Array (Nat × Nat))).run P w = .ok (fs.map fun f=>(f.offset,P.cellsOf f.type)) w:=by
 rw [<-Array.toArray_toList (xs:=fs),List.mapM_toArray,Sem.run_map,r4 h]
 simp only [Result.andThen_ok,List.map_toArray]
inductive oG (eT:TypeId) (S:aX):List (Nat × bx)->List (Nat × Value)->Prop
 | nil:oG eT S [] []
 | cons {i v u ps qs}:dM eT S v u->oG eT S ps qs->oG eT S ((i,v) :: ps) ((i,u) :: qs)
theorem yz {O:aD} {st:St} {loc:Nat->Loc} {w:World} (g:Good cx.eT X (aB O st loc w)) {ty:Ty} {m:Nat} {fs:Array Field} (hff:bR (fits P m) fs.toList 0 ty=true)
  {places:Array (Nat × Nat)} (hpl:∀(k:Nat) (fd:Field) (u:Ty),fs[k]?=some fd->fits P m fd.type u=true->places[k]?=some (fd.offset,u.size)) :
  ∀{parts:List (Nat × bx)} {pv:List (Nat × Value)} {cs cs':List C} {cells:Array Value},mF st ty parts cs=some cs'->oG cx.eT (aB O st loc w) parts pv->
   bZ cx.eT (aB O st loc w) cs cells.toList->∃cells',Instr.fill (places[·]?) cells pv=some cells'/\bZ cx.eT (aB O st loc w) cs' cells'.toList:=by
 intro parts
 induction parts with
 | nil=>
  intro pv cs cs' cells h hp hc
  cases hp
  simp only [mF] at h
  cases h
  exact ⟨cells,rfl,hc⟩
 | cons p rest ih=>
  intro pv cs cs' cells h hp hc
  obtain ⟨i,v⟩:=p
  cases hp with
  | cons hv h2=>
   rename_i u pv
   simp only [mF] at h
   split at h
   ·rename_i off ut ho hcm
    split at h
    ·rename_i us hus
     split at h
     ·rename_i hb
      simp only [Bool.and_eq_true] at hb
      have hb1:=Nat.eq_of_beq_eq_true hb.1
      have hb2:=Nat.le_of_ble_eq_true hb.2
      obtain ⟨uv,huv,hcr,hlen⟩:=lI g hus hv
      have hul:=hcr.length
      obtain ⟨fd,hfd,hoff,hft⟩:=A0 hff ho hcm
      have hplace:=hpl i fd ut (by rw [<-Array.getElem?_toList];exact hfd) hft
      rw [hoff,Nat.zero_add] at hplace
      have cL:=hc.length
      have hsz:u.cells.size=ut.size:=by rw [<-Array.length_toList,huv,hlen]
      rw [tZ (places[·]?) cells i off ut.size u pv hplace hsz (by rw [<-Array.length_toList (xs:=cells),<-cL];omega)]
      refine ih h h2 ?_
      rw [huv,<-hul]
      simpa using ((hc.take off).append hcr).append (hc.drop (off + us.length))
     ·cases h
    ·cases h
   ·cases h
theorem ou (hok:TyOK P cx) {O:aD} {st:St} {loc:Nat->Loc} {w:World} {a:Act} (g:Good cx.eT X (aB O st loc w)) (he:dz cx.eT (aB O st loc w) st.env a)
  {t:TypeId} {parts:Array (Nat × Operand)} {K:SV->VC} (h:(tA cx st t parts.toList K).holds) :
  ∃sv v,(K sv).holds/\bX cx.eT (aB O st loc w) sv v/\∀w',(Instr.build t (parts.map fun (i,x)=>(i,a.eval x))).run P w' = .ok v w':=by
 unfold tA at h
 split at h
 ·rename_i ty ht
  obtain ⟨m,ti,d,hf,hs⟩:=cw hok ht
  split at h
  ·exact h.elim
  ·rename_i ho
   split at h
   ·rename_i cs hcs
    obtain ⟨z,hz,hzr⟩:=hf.zero
    have:∃fs,d = .struct fs/\bR (fits P m) fs.toList 0 ty=true:=by
     cases ty <;> simp [Ty.one] at ho <;> cases d <;> simp [bj] at hs
     ·exact ⟨_,rfl,hs⟩
     ·exact ⟨_,rfl,hs⟩
    obtain ⟨fs,rfl,hff⟩:=this
    have hsizes:∀(k:Nat) (fd:Field) (u:Ty),fs[k]?=some fd->fits P m fd.type u=true->(fs.map fun f=>(f.offset,P.cellsOf f.type))[k]?=some (fd.offset,u.size):=by
     intro k fd u hk hfu
     obtain ⟨m',i',d',_,hf',_⟩:=ft hfu
     simp [hk,Program.cellsOf,hf'.info,hf'.size]
    have hfor:oG cx.eT (aB O st loc w) (parts.toList.map fun p=>(p.1,kC st.env p.2)) (parts.toList.map fun p=>(p.1,a.eval p.2)):=by
     generalize parts.toList=l
     induction l with
     | nil=>exact .nil
     | cons p l ih=>exact .cons (fL he p.2) ih
    obtain ⟨cells',h1,h2⟩:=yz (P:=P) g hff hsizes hcs hfor (fw hzr)
    refine ⟨_, .agg cells',h,⟨cells'.toList,by simp,h2⟩,fun w' => ?_⟩
    have hmap:(fs.mapM fun f=>do pure (f.offset,<-sizeOf f.type):Sem (Array (Nat × Nat))).run P w' = .ok (fs.map fun f=>(f.offset,P.cellsOf f.type)) w':=run_places hff w'
    have hpl:(parts.map fun (i,x)=>(i,a.eval x)).toList=parts.toList.map fun p=>(p.1,a.eval p.2):=by simp
    have hzv:(zeroValue t).run P w' = .ok z w':=by simp [zeroValue,typeInfo,hf.info,hz]
    simp only [Instr.build,Sem.run_bind,hzv,Result.andThen_ok,run_underlying hf.dG,hmap,hpl,h1,Sem.run_pure]
   ·exact h.elim
 ·exact h.elim
end
end Go.Vg

namespace Go.Vg
open Go.RowKit
def oH (st:St) (e:Ty) (x:C):Option (List (D e)):=
 match tp e x with
 | some ys=>some ys
 | none=>match x with
  | .aQ m=>match look st.aC m with
   | some (.aQ e' ys)=>match h:Ty.beq (.slice e') (.slice e) with
    | true=>some (bo h (a:=.slice e') ys)
    | false=>none
   | _=>none
  | _=>none
def kY (l:List (Nat × OC)) (n:Nat):List (Nat × OC):=
 match l with
 | []=>[]
 | (m,x) :: r=>match Nat.beq m n with
  | true=>kY r n
  | false=>(m,x) :: kY r n
def aU (st:St) (n:Nat):St:={st with aC:=kY st.aC n}
def r5 (st:St) (e:Ty) (ys:List (D e)) (e':Ty) (xs:List (D e')) (n:Nat) (K:SV->St->VC):VC:=
 match h:Ty.beq (.slice e') (.slice e),look st.aC n with
 | true,some (.tok e'' zs)=>match h2:Ty.beq (.slice e'') (.slice e) with
  | true => .and (bo h2 (a:=.slice e'') zs=bo h (a:=.slice e') xs/\xs.length + ys.length<=1000000000)
    (K (.s (.one (.app e (bo h (a:=.slice e') xs++ys) n))) (setObj st n (.tok e (bo h (a:=.slice e') xs++ys))))
  | false => .ff
 | _,_ => .ff
def Eo (st:St) (e:Ty) (ys:List (D e)) (K:SV->St->VC):VC:=
 .and (ys.length<=1000000000) (K (.s (.one (.aQ st.next))) (fresh st (.aQ e ys)))
def Ep (st:St) (e:Ty) (ys:List (D e)) (K:SV->St->VC):VC:=
 .and (ys.length<=1000000000) (K (.s (.one (.app e ys (st.next + 1)))) (fresh (aU (fresh st (.aQ e ys)) st.next) (.tok e ys)))
def A4 (tk:Bool) (st:St) (e:Ty) (ys:List (D e)) (K:SV->St->VC):VC:=
 match tk with
 | true=>Ep st e ys K
 | false=>Eo st e ys K
def nt (cx:Cx) (tk:Bool) (st:St) (t:TypeId) (s x:C) (K:SV->St->VC):VC:=
 match look cx.τ t with
 | some (.slice e)=>match oH st e x with
  | some ys=>match s with
   | .dZ=>A4 tk st e ys K
   | .emp=>A4 tk st e ys K
   | .app e' xs n=>r5 st e ys e' xs n K
   | .aQ n=>match look st.aC n with
    | some (.aQ e' zs)=>r5 (fresh (aU st n) (.tok e' zs)) e ys e' zs st.next K
    | _ => .ff
   | _ => .ff
  | none => .ff
 | _ => .ff
section
variable {X:Ext} {P:Program} {cx:Cx}
theorem dU:∀t:Ty,(kV t).length=t.size:=by
 intro t
 induction t with
 | prod a b iha ihb=>simp [kV,Ty.size,iha,ihb]
 | _=>rfl
def cB (eT:TypeId) (e:Ty) (xs:List (D e)) (A:aD) (w:World) (cs:List Value):Prop:=
 ∀i y,xs[i]?=some y->∃us,R eT e y A w us/\∀j u,us[j]?=some u->cs[i * e.size + j]?=some u
theorem cB.cons {eT:TypeId} {e:Ty} {x:D e} {xs:List (D e)} {A:aD} {w:World} {us cs:List Value} (h:R eT e x A w us) (h':cB eT e xs A w cs):cB eT e (x :: xs) A w (us++cs):=by
 intro i y hy
 cases i with
 | zero=>
  simp at hy
  subst hy
  refine ⟨us,h,fun j u hj => ?_⟩
  rw [List.getElem?_append_left (by simpa using aS hj)]
  simpa using hj
 | succ i=>
  simp at hy
  obtain ⟨us',h1,h2⟩:=h' i y hy
  refine ⟨us',h1,fun j u hj => ?_⟩
  have hl:=h.length
  rw [Nat.add_mul,List.getElem?_append_right (by omega),show i * e.size + 1 * e.size + j - us.length=i * e.size + j from by omega]
  exact h2 j u hj
theorem cB.append {eT:TypeId} {e:Ty} {xs ys:List (D e)} {A:aD} {w:World} {cs ds:List Value} (h:cB eT e xs A w cs) (hl:cs.length=xs.length * e.size) (h':cB eT e ys A w ds) :
  cB eT e (xs++ys) A w (cs++ds):=by
 intro i y hy
 rw [List.getElem?_append] at hy
 split at hy
 ·rename_i hi
  obtain ⟨us,h1,h2⟩:=h i y hy
  refine ⟨us,h1,fun j u hj => ?_⟩
  have:=h2 j u hj
  rw [List.getElem?_append_left (aS this)]
  exact this
 ·rename_i hi
  obtain ⟨us,h1,h2⟩:=h' _ y hy
  refine ⟨us,h1,fun j u hj => ?_⟩
  have e1:i * e.size=cs.length + (i - xs.length) * e.size:=by
   rw [hl,<-Nat.add_mul,show xs.length + (i - xs.length)=i from by omega]
  rw [List.getElem?_append_right (by omega),show i * e.size + j - cs.length=(i - xs.length) * e.size + j from by omega]
  exact h2 j u hj
theorem cB.frame {eT:TypeId} {e:Ty} {xs:List (D e)} {A A':aD} {w w':World} {cs:List Value} (h:cB eT e xs A w cs)
  (hf:∀b o v,¬ A b o->w.cell? ⟨b,o,none⟩=some v->w'.cell? ⟨b,o,none⟩=some v/\¬ A' b o):cB eT e xs A' w' cs:=
 fun i y hy=>let ⟨us,h1,h2⟩:=h i y hy;⟨us,h1.frame hf,h2⟩
theorem vB {eT:TypeId} {e:Ty} {A:aD} {w:World} {b:Nat}:∀{xs:List (D e)} {o:Nat},(∀i y,xs[i]?=some y->∃us,R eT e y A w us/\Row A w b (o + i * e.size) us)->
  ∃cs,cs.length=xs.length * e.size/\Row A w b o cs/\cB eT e xs A w cs/\∀u∈cs,u.oneCell'=true:=by
 intro xs
 induction xs with
 | nil=>intro o _;exact ⟨[],by simp,fun j u h=>by simp at h,fun i y h=>by simp at h,by simp⟩
 | cons x xs ih=>
  intro o h
  obtain ⟨us,h1,h2⟩:=h 0 x rfl
  obtain ⟨cs,k1,k2,k3,k4⟩:=ih (o:=o + e.size) (fun i y hy=>by
   obtain ⟨us,r1,r2⟩:=h (i + 1) y (by simpa using hy)
   refine ⟨us,r1,?_⟩
   rw [show o + e.size + i * e.size=o + (i + 1) * e.size from by rw [Nat.add_mul];omega]
   exact r2)
  have hl:=h1.length
  refine ⟨us++cs,by simp [hl,k1,Nat.add_mul];omega,fun j u hj => ?_,cB.cons h1 k3,fun u hu => ?_⟩
  ·rw [List.getElem?_append] at hj
   split at hj
   ·have:=h2 j u hj
    simpa using this
   ·have:=k2 _ u hj
    rw [hl,show o + e.size + (j - e.size)=o + j from by omega] at this
    exact this
  ·rcases List.mem_append.1 hu with hu | hu
   ·exact h1.fK u hu
   ·exact k4 u hu
theorem vC {eT:TypeId} {e:Ty} {A:aD} {w:World} {b o:Nat} {xs:List (D e)} {cs:List Value} (h:cB eT e xs A w cs) (hr:Row A w b o cs) :
  ∀i y,xs[i]?=some y->∃us,R eT e y A w us/\Row A w b (o + i * e.size) us:=by
 intro i y hy
 obtain ⟨us,h1,h2⟩:=h i y hy
 refine ⟨us,h1,fun j u hj => ?_⟩
 rw [Nat.add_assoc]
 exact hr _ _ (h2 j u hj)
theorem me {eT:TypeId} {e:Ty} {xs:List (D e)} {A:aD} {w:World} {v:Value} (h:VR eT (.slice e) xs A w v) :
  xs.length<=aH/\((xs = []/\∃a c,v = .slice a 0 c)\/∃b o cap cs,v = .slice (some ⟨b,o,none⟩) xs.length cap/\xs.length<=cap/\cs.length=xs.length * e.size/\Row A w b o cs/\cB eT e xs A w cs/\∀u∈cs,u.oneCell'=true):=by
 obtain ⟨u,hu,hl,h⟩:=VR.one rfl h
 simp at hu;subst hu
 refine ⟨hl,?_⟩
 rcases h with h | ⟨b,o,cap,rfl,hc,h⟩
 ·exact .inl h
 ·obtain ⟨cs,k1,k2,k3,k4⟩:=vB h
  exact .inr ⟨b,o,cap,cs,rfl,hc,k1,k2,k3,k4⟩
theorem jy {eT:TypeId} {e:Ty} {xs:List (D e)} {A:aD} {w:World} {b o cap:Nat} {cs:List Value} (hb:xs.length<=aH) (hc:xs.length<=cap) (hr:Row A w b o cs) (h:cB eT e xs A w cs) :
  VR eT (.slice e) xs A w (.slice (some ⟨b,o,none⟩) xs.length cap):=
 VR.bt rfl ⟨_,rfl,hb, .inr ⟨b,o,cap,rfl,hc,vC h hr⟩⟩
def Src (eT:TypeId) (e:Ty) (ys:List (D e)) (A:aD) (w:World) (v:Value):Prop:=
 (ys = []/\∃a c,v = .slice a 0 c)\/∃b o cap cs,v = .slice (some ⟨b,o,none⟩) ys.length cap/\cs.length=ys.length * e.size/\(∀j u,cs[j]?=some u->w.cell? ⟨b,o + j,none⟩=some u)/\cB eT e ys A w cs/\∀u∈cs,u.oneCell'=true
theorem Src.Hu {eT:TypeId} {e:Ty} {ys:List (D e)} {A:aD} {w:World} {v:Value} (h:VR eT (.slice e) ys A w v):Src eT e ys A w v:=by
 rcases (me h).2 with h | ⟨b,o,cap,cs,h1,_,h3,h4,h5,h6⟩
 ·exact .inl h
 ·exact .inr ⟨b,o,cap,cs,h1,h3,fun j u hj=>(h4 j u hj).1,h5,h6⟩
theorem mf {S:aX} {e:Ty} {ys:List (D e)} {vs:Array Value} (h:fr cx.eT S e ys vs) (hl:ys.length * e.size<=vs.size) :
  ∃cs,cs=vs.toList.take (ys.length * e.size)/\cs.length=ys.length * e.size/\cB cx.eT e ys S.A S.w cs/\∀u∈cs,u.oneCell'=true:=by
 have hlen:(vs.toList.take (ys.length * e.size)).length=ys.length * e.size:=by simp;omega
 have hrow:cB cx.eT e ys S.A S.w (vs.toList.take (ys.length * e.size)):=by
  intro i y hy
  obtain ⟨us,h1,h2⟩:=h i y hy
  refine ⟨us,h1,fun j u hj => ?_⟩
  have hi:=aS hy
  have hj':=aS hj
  rw [h1.length] at hj'
  have:(i + 1) * e.size<=ys.length * e.size:=Nat.mul_le_mul_right _ hi
  rw [Nat.add_mul] at this
  rw [List.getElem?_take,if_pos (by omega),Array.getElem?_toList]
  exact h2 j u hj
 refine ⟨_,rfl,hlen,hrow,fun u hu => ?_⟩
 obtain ⟨k,hk,rfl⟩:=List.getElem_of_mem hu
 have hk':k < ys.length * e.size:=by omega
 have hpos:0 < e.size:=by
  rcases Nat.eq_zero_or_pos e.size with h0 | h0
  ·rw [h0] at hk';omega
  ·exact h0
 have hi:k / e.size < ys.length:=Nat.div_lt_of_lt_mul (by rw [Nat.mul_comm];exact hk')
 obtain ⟨us,h1,h2⟩:=hrow _ _ (List.getElem?_eq_getElem hi)
 have hjlt:k % e.size < us.length:=by rw [h1.length];exact Nat.mod_lt _ hpos
 have:=h2 _ _ (List.getElem?_eq_getElem hjlt)
 rw [show k / e.size * e.size + k % e.size=k from by rw [Nat.mul_comm];exact Nat.div_add_mod k e.size] at this
 rw [List.getElem?_eq_getElem hk] at this
 rw [Option.some.inj this]
 exact h1.fK _ (List.getElem_mem hjlt)
theorem nu {O:aD} {st:St} {loc:Nat->Loc} {w:World} (g:Good cx.eT X (aB O st loc w)) {e:Ty} {x:C} {ys:List (D e)} {v:Value} (h:oH st e x=some ys)
  (hx:CR cx.eT (aB O st loc w) x v):Src cx.eT e ys (aB O st loc w).A w v:=by
 unfold oH at h
 split at h
 ·rename_i zs hz
  cases h
  exact Src.Hu (qY hz hx)
 ·split at h
  ·rename_i m
   split at h
   ·rename_i e' zs hob
    split at h
    ·rename_i hb
     cases h
     have hee:e'=e:=by have:=Ty.eq_of_beq hb;cases this;rfl
     subst hee
     rcases (g.obj _ _ hob).2 with ⟨rfl,⟨a,ha⟩,_⟩ | ⟨b,vs,T,cap,hl,cX,hheap,hvs,hcap,_,he⟩
     ·exact .inl ⟨rfl,a,0,(hx.2 _ _ hob).trans ha⟩
     have hle:zs.length * e'.size<=vs.size:=by rw [hvs];exact Nat.mul_le_mul_right _ hcap
     obtain ⟨cs,hcs,k1,k2,k3⟩:=mf he hle
     refine .inr ⟨b,0,cap,cs,(hx.2 _ _ hob).trans hl,k1,fun j u hj => ?_,k2,k3⟩
     rw [Nat.zero_add,cell_of_row w b j vs T (0,0) hheap]
     subst hcs
     rw [List.getElem?_take] at hj
     split at hj
     ·simpa using hj
     ·cases hj
    ·cases h
   ·cases h
  ·cases h
theorem iZ {t te:TypeId} {ti:TypeInfo} {ty:TypeId} (ht:P.underlying t=some (.slice te)) (hi:P.info? te=some ti) {s:Value} {base:Option Addr} {n c:Nat} (hs:s = .slice base n c) (hnc:n<=c)
  {x:Value} (hx:∃a cap,x = .slice a 0 cap) (w:World):(Builtin.append_ #[t,t] ty #[s,x]).run P w = .ok s w:=by
 subst hs
 obtain ⟨a,cap,rfl⟩:=hx
 rcases a with _ | a
 ·cases base <;> simp [Builtin.append_,run_underlying ht,sizeOf,typeInfo,hi,Builtin.lenOf,hnc,Builtin.firstCells,storeCells]
 ·cases base <;> simp [Builtin.append_,run_underlying ht,sizeOf,typeInfo,hi,Builtin.lenOf,hnc,Builtin.firstCells,loadCells,loadCellsFrom,storeCells]
theorem kx {t te T:TypeId} {ti:TypeInfo} {ty:TypeId} (ht:P.underlying t=some (.slice te)) (hi:P.info? te=some ti) {g sLen sCap:Nat} {cur:Array Value} {w:World}
  (hg:w.heap[g]?=some (.cells cur T (0,0))) {a:Addr} {m c:Nat} {news:List Value} (hl:news.length=m * ti.size) (hnews:∀j u,news[j]?=some u->w.cell? (a.add j)=some u) (h1:∀u∈news,u.oneCell'=true)
  (hroom:sLen + m<=sCap) (hfit:sLen * ti.size + news.length<=cur.size) :
  (Builtin.append_ #[t,t] ty #[.slice (some ⟨g,0,none⟩) sLen sCap, .slice (some a) m c]).run P w =
   .ok (.slice (some ⟨g,0,none⟩) (sLen + m) sCap) (w.setRow g (cur.toList.take (sLen * ti.size)++news++cur.toList.drop (sLen * ti.size + news.length)).toArray):=by
 have hf:=run_firstCells_some (P:=P) w ti.size m a m c news hl hnews
 have hst:=run_storeCells_at P g (sLen * ti.size) T news 0 cur w hg (by simpa using hfit) h1
 simp only [Nat.add_zero] at hst
 simp [Builtin.append_,run_underlying ht,sizeOf,typeInfo,hi,Builtin.lenOf,hroom,hf,Addr.add_lit,hst]
theorem gz {w:World} {t te ty:TypeId} {ti:TypeInfo} {z:Value} (ht:P.underlying t=some (.slice te)) (hi:P.info? te=some ti) (hz:ti.zero=some z) (a0:Option Addr)
  {a:Addr} {n c:Nat} {news:List Value} (hl:news.length=n * ti.size) (hnews:∀j v,news[j]?=some v->w.cell? (a.add j)=some v)
  (h0:0 < n) (h63:(n:Int)<=9223372036854775807) (h48:n * ti.bytes<=140737488355328) :
  (Builtin.append_ #[t,t] ty #[.slice a0 0 0, .slice (some a) n c]).run P w =
   .ok (.slice (some ⟨w.heap.size,0,none⟩) n (grownCap w n 0 te)) (w.drew.alloc (.cells (news.toArray++Builtin.zeroCells z.cells (grownCap w n 0 te - n)) te)):=by
 cases a0 with
 | none=>exact run_append_nil (P:=P) w t ty te ti z ht hi hz a n c news hl hnews h0 h63 (by omega)
 | some b=>
  have:=run_append_grow (P:=P) w t ty te ti z ht hi hz b 0 0 [] (by simp) (fun j v hj=>by simp at hj) a n c news hl hnews (by omega) (by simpa using h63)
   (growslice_fits (by omega) (by simpa using h48))
  simpa using this
structure GS (P:Program) (t t' ty te:TypeId) (ti:TypeInfo) (z vx:Value) (m:Nat) (cs:List Value) (w:World):Prop where
 zero:m=0->∀base n c,n<=c->(Builtin.append_ #[t,t'] ty #[.slice base n c,vx]).run P w = .ok (.slice base n c) w
 emp:0 < m->m * ti.bytes<=140737488355328->(m:Int)<=9223372036854775807->∀a0,(Builtin.append_ #[t,t'] ty #[.slice a0 0 0,vx]).run P w =
  .ok (.slice (some ⟨w.heap.size,0,none⟩) m (grownCap w m 0 te)) (w.drew.alloc (.cells (cs.toArray++Builtin.zeroCells z.cells (grownCap w m 0 te - m)) te))
 room:0 < m->∀g sLen sCap cur T,w.heap[g]?=some (.cells cur T (0,0))->sLen + m<=sCap->sLen * ti.size + cs.length<=cur.size->
  (Builtin.append_ #[t,t'] ty #[.slice (some ⟨g,0,none⟩) sLen sCap,vx]).run P w =
   .ok (.slice (some ⟨g,0,none⟩) (sLen + m) sCap) (w.setRow g (cur.toList.take (sLen * ti.size)++cs++cur.toList.drop (sLen * ti.size + cs.length)).toArray)
 grow:0 < m->∀(b:Addr) sLen sCap (olds:List Value),olds.length=sLen * ti.size->(∀j u,olds[j]?=some u->w.cell? (b.add j)=some u)->sCap < sLen + m->
  ((sLen + m:Nat):Int)<=9223372036854775807->(sLen + m) * ti.bytes<=140737488355328->
  (Builtin.append_ #[t,t'] ty #[.slice (some b) sLen sCap,vx]).run P w = .ok (.slice (some ⟨w.heap.size,0,none⟩) (sLen + m) (grownCap w (sLen + m) sCap te))
   (w.drew.alloc (.cells (olds.toArray++cs.toArray++Builtin.zeroCells z.cells (grownCap w (sLen + m) sCap te - (sLen + m))) te))
def oI (P:Program) (eT t t' ty te:TypeId) (ti:TypeInfo) (z:Value) (e:Ty) (ys:List (D e)) (A:aD) (w:World) (vx:Value):Prop:=
 ∃cs,cs.length=ys.length * e.size/\cB eT e ys A w cs/\(∀u∈cs,u.oneCell'=true)/\GS P t t' ty te ti z vx ys.length cs w
theorem oI.Cw {eT t ty te:TypeId} {ti:TypeInfo} {td:TypeDesc} {z:Value} {e:Ty} (hu:P.underlying t=some (.slice te)) (hf:Fit P te e ti td) (hz:ti.zero=some z)
  {ys:List (D e)} {A:aD} {w:World} {vx:Value} (h:Src eT e ys A w vx):oI P eT t t ty te ti z e ys A w vx:=by
 rcases h with ⟨rfl,hx⟩ | ⟨b,o,cap,cs,rfl,cL,hcc,hrl,hone⟩
 ·exact ⟨[],by simp,fun i y hy=>by simp at hy,fun u hu=>by simp at hu,
   ⟨fun _ base n c hnc=>iZ hu hf.info rfl hnc hx w,fun h=>by simp at h,fun h=>by simp at h,fun h=>by simp at h⟩⟩
 ·have hnews:∀j u,cs[j]?=some u->w.cell? ((⟨b,o,none⟩:Addr).add j)=some u:=fun j u hj=>by rw [Addr.add_lit];exact hcc j u hj
  exact ⟨cs,cL,hrl,hone,fun h base n c hnc=>iZ hu hf.info rfl hnc ⟨_,_,by rw [h]⟩ w,
   fun h0 hb h63 a0=>gz hu hf.info hz a0 (by rw [cL,hf.size]) hnews h0 h63 hb,
   fun _ g sLen sCap cur T hg hroom hfit=>kx hu hf.info hg (by rw [cL,hf.size]) hnews hone hroom hfit,
   fun _ b' sLen sCap olds ho1 ho2 hlt h63 hb=>run_append_grow (P:=P) w t ty te ti z hu hf.info hz b' sLen sCap olds ho1 ho2 _ _ _ cs (by rw [cL,hf.size]) hnews hlt h63 (growslice_fits hlt hb)⟩
def bC (s:List UInt8):List Int:=s.map fun b=>(b.toNat:Int)
theorem qt (s:List UInt8):Lib.strCells ⟨s.toArray⟩=(bC s).map (Value.int .u8):=by simp [Lib.strCells,bC]
theorem oI.GU {eT t t' ty te:TypeId} {ti:TypeInfo} {td:TypeDesc} {z:Value} (hu:P.underlying t=some (.slice te)) (hu':P.underlying t'=some .string) (hf:Fit P te (.int .u8) ti td) (hz:ti.zero=some z)
  (s:List UInt8) (A:aD) (w:World):oI P eT t t' ty te ti z (.int .u8) (bC s) A w (.string ⟨s.toArray⟩):=by
 have hsz:(⟨s.toArray⟩:ByteArray).size=s.length:=by simp [ByteArray.size]
 have hbl:(bC s).length=s.length:=by simp [bC]
 have hti:ti.size=1:=hf.size
 have cL:(Lib.strCells ⟨s.toArray⟩).length=s.length:=by rw [Lib.strCells_length,hsz]
 refine ⟨Lib.strCells ⟨s.toArray⟩,by rw [cL,hbl];simp [Ty.size],fun i y hy => ?_,Lib.strCells_oneCell _,?_⟩
 ·refine ⟨[.int .u8 y],⟨rfl,?_⟩,fun j u hj => ?_⟩
  ·simp only [bC,List.getElem?_map,Option.map_eq_some_iff] at hy
   obtain ⟨b,_,rfl⟩:=hy
   have:=b.toNat_lt
   constructor
   ·show (0:Int)<=_;omega
   ·show _<=(255:Int);omega
  ·cases j with
   | zero=>
    simp at hj
    subst hj
    rw [qt]
    simp only [Ty.size,Nat.mul_one,Nat.add_zero,List.getElem?_map,hy,Option.map_some]
   | succ j=>simp at hj
 ·rw [hbl]
  refine ⟨fun h base n c hnc => ?_,fun h0 hb h63 a0 => ?_,fun _ g sLen sCap cur T hg hroom hfit => ?_,fun _ b' sLen sCap olds ho1 ho2 hlt h63 hb => ?_⟩
  ·have hs0:s = []:=List.eq_nil_of_length_eq_zero h
   subst hs0
   have hf0:=Lib.run_firstCells_string (P:=P) w ti.size ⟨#[]⟩
   have e0:(Lib.strCells ⟨#[]⟩) = []:=rfl
   rw [e0] at hf0
   have e1:(⟨#[]⟩:ByteArray).size=0:=rfl
   rw [e1] at hf0
   cases base <;> simp [Builtin.append_,run_underlying hu,run_underlying hu',sizeOf,typeInfo,hf.info,Builtin.lenOf,hnc,e1,hf0,storeCells]
  ·cases a0 with
   | none=>
    have hr:=run_append_nil_string (P:=P) w t t' ty te ti z hu hu' hf.info hz ⟨s.toArray⟩ (by rw [hsz];exact h0) (by rw [hsz];exact h63) (by rw [hsz];omega)
    rw [hsz] at hr
    rw [hr]
    simp [Lib.strCells]
   | some b=>
    have hr:=Lib.run_append_grow_string (P:=P) w t t' ty te ti z hu hu' hf.info hz b 0 0 [] (by simp) (fun j v hj=>by simp at hj) ⟨s.toArray⟩ (by rw [hsz];omega) (by rw [hsz];simpa using h63)
     (by rw [hsz];exact growslice_fits (by omega) (by simpa using hb))
    rw [hsz] at hr
    simpa using hr
  ·have hf0:=Lib.run_firstCells_string (P:=P) w ti.size ⟨s.toArray⟩
   have hst:=run_storeCells_at P g (sLen * ti.size) T (Lib.strCells ⟨s.toArray⟩) 0 cur w hg (by simpa using hfit) (Lib.strCells_oneCell _)
   simp only [Nat.add_zero] at hst
   rw [hsz] at hf0
   simp [Builtin.append_,run_underlying hu,run_underlying hu',sizeOf,typeInfo,hf.info,Builtin.lenOf,hsz,hroom,hf0,Addr.add_lit,hst]
  ·have hr:=Lib.run_append_grow_string (P:=P) w t t' ty te ti z hu hu' hf.info hz b' sLen sCap olds ho1 ho2 ⟨s.toArray⟩ (by rw [hsz];exact hlt) (by rw [hsz];exact h63)
    (by rw [hsz];exact growslice_fits hlt hb)
   rw [hsz] at hr
   exact hr
theorem ed {a:Ty} (h:Ty.beq a a=true) (x:D a):bo h x=x:=rfl
theorem cC {a:Ty} (h:Ty.beq (.slice a) (.slice a)=true) (x:List (D a)):bo h (a:=.slice a) (b:=.slice a) x=x:=rfl
theorem eE (O:aD) (st:St) (loc:Nat->Loc) (w:World) (n:Nat) (oc:OC) (m:Nat):(aB O (setObj st n oc) loc w).ob m=if n=m then some oc else look st.aC m:=iv st n m oc
theorem Ab {O:aD} {st:St} {loc:Nat->Loc} {w:World} (g:Good cx.eT X (aB O st loc w)) (hO:cu O w) {e:Ty} {xs ys:List (D e)} {n:Nat} {te:TypeId} {z:Array Value} {cap':Nat} {olds news:List Value}
  (hob:look st.aC n=some (.tok e xs)) (hz:z.size=e.size) (hlo:olds.length=xs.length * e.size) (hln:news.length=ys.length * e.size) (hro:cB cx.eT e xs (aB O st loc w).A w olds) (hrn:cB cx.eT e ys (aB O st loc w).A w news)
  (hle:xs.length + ys.length<=1000000000) (hcap:xs.length + ys.length<=cap') (hpos:0 < ys.length) :
  let w':=w.drew.alloc (.cells (olds.toArray++news.toArray++Builtin.zeroCells z (cap' - (xs.length + ys.length))) te)
  let v:=Value.slice (some ⟨w.heap.size,0,none⟩) (xs.length + ys.length) cap'
  let loc':=bd loc n ⟨v,[w.heap.size]⟩
  Good cx.eT X (aB O (setObj st n (.tok e (xs++ys))) loc' w')/\Tr (aB O st loc w) (aB O (setObj st n (.tok e (xs++ys))) loc' w')/\
   bX cx.eT (aB O (setObj st n (.tok e (xs++ys))) loc' w') (.s (.one (.app e (xs++ys) n))) v:=by
 intro w' v loc'
 have hb:Below w.heap.size w w':=(Below.refl _ w).drew.alloc (Nat.le_refl _) _
 have hheap:w'.heap[w.heap.size]?=some (.cells (olds.toArray++news.toArray++Builtin.zeroCells z (cap' - (xs.length + ys.length))) te (0,0)):=heap_alloc_new w.drew _
 have hsz:(olds.toArray++news.toArray++Builtin.zeroCells z (cap' - (xs.length + ys.length))).size=cap' * e.size:=by
  simp only [Array.size_append,List.size_toArray,size_zeroCells,hz,hlo,hln,<-Nat.add_mul]
  congr 1;omega
 have hn:=(g.obj n _ hob).1
 obtain ⟨tr1,g1⟩:=jw (S:=aB O st loc w) (S':=aB O (setObj st n (.tok e (xs++ys))) loc' w') (n:=n) (oc:=.tok e xs) (oc':=.tok e (xs++ys)) (l':=⟨v,[w.heap.size]⟩) g rfl hO hob
  (fun m=>eE O st loc' w' n _ m) (fun _=>rfl) rfl (fun h=>(h e xs rfl).elim)
  ⟨rfl,by simp,fun e1=>by rw [List.length_append] at e1;omega⟩ hb.os hb.output hb.size (fun b hlt _=>hb.block b hlt)
  (fun b o v _ _ hc=>iT hb hc) (fun b hb' => .inr (by simp at hb';subst hb';exact Nat.le_refl _))
 have hcell:∀j u,(olds++news)[j]?=some u->w'.cell? ⟨w.heap.size,j,none⟩=some u:=by
  intro j u hj
  rw [cell_of_row _ w.heap.size j _ te (0,0) hheap]
  have hl:=aS hj
  rw [Array.getElem?_append,if_pos (by simpa using hl)]
  simpa using hj
 have g1:=g1 (.inr ⟨w.heap.size,_,te,cap',by rw [List.length_append],rfl,hheap,hsz,by rw [List.length_append];exact hcap,by rw [List.length_append];unfold aH;omega,fun i y hy=>by
  obtain ⟨us,r1,r2⟩:=(hro.append hlo hrn).frame tr1.cell i y hy
  refine ⟨us,r1,fun j u hj => ?_⟩
  have:=r2 j u hj
  have hl:=aS this
  rw [Array.getElem?_append,if_pos (by simpa using hl)]
  simpa using this⟩)
 refine ⟨g1,tr1,?_,hn,fun zs hy => ?_⟩
 ·have hrows:=(hro.append hlo hrn).frame tr1.cell
  have:=jy (eT:=cx.eT) (b:=w.heap.size) (o:=0) (cap:=cap') (by rw [List.length_append];unfold aH;omega) (by rw [List.length_append];exact hcap) (cs:=olds++news) ?_ hrows
  ·rw [List.length_append] at this;exact this
  ·intro j u hj
   rw [Nat.zero_add]
   refine ⟨hcell j u hj,?_⟩
   rintro (hA | ⟨m,oc,h1,h2,h3⟩)
   ·have:=hO _ _ hA;omega
   ·by_cases e1:n=m
    ·rw [eE,if_pos e1] at h1
     cases h1
     have hl:=aS hj
     simp only [OC.lo,List.length_append,Nat.add_mul] at h3
     rw [List.length_append,hlo,hln] at hl
     omega
    ·rw [eE,if_neg e1] at h1
     simp only [aB,loc',bd,if_neg e1] at h2
     have:=(g.obj m oc h1).2.inside _ h2
     simp [aB] at this
 ·rw [eE,if_pos rfl] at hy
  cases hy
  exact ⟨Nat.le_refl _,fun _=>by simp [aB,loc',bd]⟩
theorem mg {O:aD} {st:St} {loc:Nat->Loc} {w:World} (g:Good cx.eT X (aB O st loc w)) (hO:cu O w)
  {t t' ty te:TypeId} {ti:TypeInfo} {td:TypeDesc} {z:Value} {e e':Ty} (hu:P.underlying t=some (.slice te)) (hf:Fit P te e ti td) (hz:ti.zero=some z) (hzs:z.cells.size=e.size)
  {ys:List (D e)} {xs:List (D e')} {n:Nat} {K:SV->St->VC} {vs vx:Value} (hs:CR cx.eT (aB O st loc w) (.app e' xs n) vs) (hsrc:oI P cx.eT t t' ty te ti z e ys (aB O st loc w).A w vx)
  (h:(r5 st e ys e' xs n K).holds) :
  ∃sv v st' loc' w',(K sv st').holds/\st'.env=st.env/\Good cx.eT X (aB O st' loc' w')/\Tr (aB O st loc w) (aB O st' loc' w')/\bX cx.eT (aB O st' loc' w') sv v/\
   (Builtin.append_ #[t,t'] ty #[vs,vx]).run P w = .ok v w':=by
 unfold r5 at h
 split at h
 ·rename_i e'' zs hb hob
  split at h
  ·rename_i hb2
   have h1:e'=e:=by have:=Ty.eq_of_beq hb;cases this;rfl
   subst h1
   have h2:e''=e':=by have:=Ty.eq_of_beq hb2;cases this;rfl
   subst h2
   rw [cC,cC] at h
   obtain ⟨⟨heq,hle⟩,h⟩:=h
   subst heq
   obtain ⟨hvr,hn,htok⟩:=hs
   have hvl:=(htok _ hob).2 rfl
   obtain ⟨cs,cL,hrl,hone,hR⟩:=hsrc
   have zero:ys = []->∃sv v st' loc' w',(K sv st').holds/\st'.env=st.env/\Good cx.eT X (aB O st' loc' w')/\Tr (aB O st loc w) (aB O st' loc' w')/\bX cx.eT (aB O st' loc' w') sv v/\
     (Builtin.append_ #[t,t'] ty #[vs,vx]).run P w = .ok v w':=by
    intro hy
    subst hy
    rw [List.append_nil] at h
    have hst:aB O (setObj st n (.tok e'' zs)) loc w=aB O st loc w:=by
     have:look (setObj st n (.tok e'' zs)).aC=look st.aC:=by
      funext m
      rw [iv]
      by_cases e1:n=m
      ·rw [if_pos e1,<-e1,hob]
      ·rw [if_neg e1]
     simp only [aB,this];rfl
    obtain ⟨a,c,hvs,cL⟩:=mE hvr
    have hnc:zs.length<=c:=by
     rcases (me hvr).2 with ⟨h1,h2⟩ | ⟨b,o,cap,cs,h1,h2,_⟩
     ·rw [h1];simp
     ·rw [hvs] at h1;cases h1;exact h2
    refine ⟨_,vs,_,loc,w,h,rfl,by rw [hst];exact g,by rw [hst];exact Tr.refl _,?_,by rw [hvs];exact hR.zero rfl _ _ _ hnc⟩
    rw [hst]
    exact ⟨hvr,hn,htok⟩
   ·by_cases hm:ys = []
    ·exact zero hm
    ·have hpos:0 < ys.length:=by cases ys with | nil=>exact (hm rfl).elim | cons=>simp
     have hbytes:(zs.length + ys.length) * ti.bytes<=140737488355328:=by have:=Nat.mul_le_mul hle hf.bytes;omega
     rcases (g.obj n _ hob).2 with ⟨hx0,⟨a0,hv0⟩,hbs0⟩ | ⟨g0,cur,T,cap0,hv0,hbs0,hheap0,hsz0,hcap0,_,_⟩
     ·have hv0':vs = .slice a0 0 0:=hvl.trans hv0
      subst hx0
      subst hv0'
      have hrun:=hR.emp hpos (by have:=hbytes;simp only [List.length_nil,Nat.zero_add] at this;omega) (by omega) a0
      have hc':ys.length<=grownCap w ys.length 0 te:=grownCap_ge w _ _ _
      obtain ⟨k1,k2,k3⟩:=Ab (te:=te) (cap':=grownCap w ys.length 0 te) (olds:=[]) g hO hob hzs (by simp) cL (fun i y hy=>by simp at hy) hrl hle (by simpa using hc') hpos
      refine ⟨_,_,_,_,_,h,rfl,k1,k2,k3,?_⟩
      rw [hrun]
      simp
     ·have hv0':vs = .slice (some ⟨g0,0,none⟩) zs.length cap0:=hvl.trans hv0
      obtain ⟨olds,ho1,ho2,ho3,ho4⟩:∃olds:List Value,olds.length=zs.length * e''.size/\(∀j u,olds[j]?=some u->w.cell? ⟨g0,j,none⟩=some u)/\cB cx.eT e'' zs (aB O st loc w).A w olds/\Row (aB O st loc w).A w g0 0 olds:=by
       rcases (me hvr).2 with ⟨h1,h2⟩ | ⟨b',o',cap',olds,h1,h2,h3,h4,h5,h6⟩
       ·exact ⟨[],by rw [h1];simp,fun j u hj=>by simp at hj,fun i y hy=>by rw [h1] at hy;simp at hy,fun j u hj=>by simp at hj⟩
       ·rw [hv0'] at h1
        cases h1
        exact ⟨olds,h3,fun j u hj=>by have:=(h4 j u hj).1;rwa [Nat.zero_add] at this,h5,h4⟩
      subst hv0'
      by_cases hroom:zs.length + ys.length<=cap0
      ·have hmul:(zs.length + ys.length) * e''.size<=cap0 * e''.size:=Nat.mul_le_mul_right _ hroom
       rw [Nat.add_mul] at hmul
       have hfit:zs.length * ti.size + cs.length<=cur.size:=by rw [hf.size,hsz0,cL];exact hmul
       have hrun:=hR.room hpos _ _ _ _ _ hheap0 hroom hfit
       rw [hf.size] at hrun hfit
       generalize hcur':(cur.toList.take (zs.length * e''.size)++cs++cur.toList.drop (zs.length * e''.size + cs.length)).toArray=cur' at hrun
       have hget:∀k,cur'[k]?=if k < zs.length * e''.size then cur[k]? else if k < zs.length * e''.size + cs.length then cs[k - zs.length * e''.size]? else cur[k]?:=by
        intro k
        rw [<-hcur',List.getElem?_toArray,db _ _ _ _ (by simpa using hfit)]
        simp
       have hsz':cur'.size=cur.size:=by
        rw [<-hcur'];simp only [List.size_toArray,List.length_append,List.length_take,List.length_drop,Array.length_toList];omega
       have hheap':=setRow_heap w g0 cur cur' T (0,0) hheap0
       obtain ⟨tr1,g1⟩:=jw (S:=aB O st loc w) (S':=aB O (setObj st n (.tok e'' (zs++ys))) (bd loc n ⟨.slice (some ⟨g0,0,none⟩) (zs.length + ys.length) cap0,[g0]⟩) (w.setRow g0 cur')) (n:=n)
        (oc:=.tok e'' zs) (oc':=.tok e'' (zs++ys)) (l':=⟨.slice (some ⟨g0,0,none⟩) (zs.length + ys.length) cap0,[g0]⟩) g rfl hO hob
        (fun m=>eE O st _ _ n _ m) (fun _=>rfl) rfl (fun h=>(h e'' zs rfl).elim) ⟨rfl,by simp,fun e1=>by rw [List.length_append] at e1;omega⟩ rfl rfl (by simp [aB,World.setRow])
        (fun b' _ hb'=>setRow_other w g0 b' cur' (fun e1=>hb' (by rw [hbs0];simp [e1])))
        (fun b' o' v' hb' ho' hc'=>by
         rw [hbs0] at hb'
         simp at hb'
         subst hb'
         simp only [aB] at hc' ⊢
         rw [cell_of_row w b' o' cur T (0,0) hheap0] at hc'
         rw [cell_of_row _ b' o' cur' T (0,0) hheap',hget,if_pos (show o' < zs.length * e''.size from ho')]
         exact hc')
        (fun b' hb' => .inl (by simp at hb';subst hb';exact ⟨by rw [hbs0];simp,by simp only [OC.lo,List.length_append,Nat.add_mul];omega⟩))
       have hcur:∀(j:Nat) (u:Value),(olds++cs)[j]?=some u->cur'[j]?=some u:=by
        intro j u hj
        rw [hget]
        rw [List.getElem?_append,ho1] at hj
        by_cases h3:j < zs.length * e''.size
        ·rw [if_pos h3]
         rw [if_pos h3] at hj
         have:=ho2 j u hj
         rwa [cell_of_row w g0 j cur T (0,0) hheap0] at this
        ·rw [if_neg h3] at hj
         have:=aS hj
         rw [if_neg h3,if_pos (by omega)]
         exact hj
       have g1:=g1 (.inr ⟨g0,cur',T,cap0,by rw [List.length_append],rfl,hheap',by rw [hsz',hsz0],by rw [List.length_append];exact hroom,by rw [List.length_append];unfold aH;omega,fun i y hy=>by
        obtain ⟨us,r1,r2⟩:=(ho3.append ho1 hrl).frame tr1.cell i y hy
        exact ⟨us,r1,fun j u hj=>hcur _ u (r2 j u hj)⟩⟩)
       refine ⟨_,_,_,_,_,h,rfl,g1,tr1,⟨?_,hn,fun zs' hy => ?_⟩,hrun⟩
       ·have hrows:=(ho3.append ho1 hrl).frame tr1.cell
        have:=jy (eT:=cx.eT) (b:=g0) (o:=0) (cap:=cap0) (by rw [List.length_append];unfold aH;omega) (by rw [List.length_append];exact hroom) (cs:=olds++cs) ?_ hrows
        ·rw [List.length_append] at this;exact this
        ·intro j u hj
         rw [Nat.zero_add]
         constructor
         ·show World.cell? (w.setRow g0 cur') _=_
          rw [cell_of_row _ g0 j cur' T (0,0) hheap',hget]
          rw [List.getElem?_append,ho1] at hj
          by_cases h3:j < zs.length * e''.size
          ·rw [if_pos h3]
           rw [if_pos h3] at hj
           have:=ho2 j u hj
           rwa [cell_of_row w g0 j cur T (0,0) hheap0] at this
          ·rw [if_neg h3] at hj
           have:=aS hj
           rw [if_neg h3,if_pos (by omega)]
           exact hj
         ·have hl:=aS hj
          rw [List.length_append,ho1] at hl
          rintro (hA | ⟨m',oc,h1,h2,h3⟩)
          ·exact g.out n _ g0 j hob (by rw [hbs0];simp) hA
          ·by_cases e1:n=m'
           ·rw [eE,if_pos e1] at h1
            cases h1
            simp only [OC.lo,List.length_append,Nat.add_mul] at h3
            omega
           ·rw [eE,if_neg e1] at h1
            simp only [aB,bd,if_neg e1] at h2
            exact e1 (g.apart n m' _ _ g0 hob h1 (by rw [hbs0];simp) h2)
       ·rw [eE,if_pos rfl] at hy
        cases hy
        exact ⟨Nat.le_refl _,fun _=>by simp [aB,bd]⟩
      ·have hrun:=hR.grow hpos ⟨g0,0,none⟩ zs.length cap0 olds (by rw [ho1,hf.size]) (fun j u hj=>by rw [Addr.add_lit,Nat.zero_add];exact ho2 j u hj) (by omega) (by omega) hbytes
       have hc':zs.length + ys.length<=grownCap w (zs.length + ys.length) cap0 te:=grownCap_ge w _ _ _
       obtain ⟨k1,k2,k3⟩:=Ab (te:=te) (cap':=grownCap w (zs.length + ys.length) cap0 te) g hO hob hzs ho1 cL ho3 hrl hle hc' hpos
       exact ⟨_,_,_,_,_,h,rfl,k1,k2,k3,hrun⟩
  ·exact h.elim
 ·exact h.elim
theorem fZ (l:List (Nat × OC)) (n m:Nat):look (kY l n) m=if n=m then none else look l m:=by
 induction l with
 | nil=>simp [kY,look]
 | cons p r ih=>
  obtain ⟨k,x⟩:=p
  simp only [kY]
  by_cases hk:k=n
  ·subst hk
   rw [Nat.beq_refl]
   simp only [look]
   rw [ih]
   by_cases h:k=m
   ·simp [h]
   ·rw [if_neg h,if_neg h];have:Nat.beq k m=false:=gM h
    rw [this]
  ·have hkb:Nat.beq k n=false:=gM hk
   simp only [hkb,look]
   by_cases h:k=m
   ·subst h;simp only [Nat.beq_refl];rw [if_neg (fun e=>hk e.symm)]
   ·have:Nat.beq k m=false:=gM h
    rw [this];exact ih
theorem lJ {O:aD} {st:St} {loc:Nat->Loc} {w:World} (g:Good cx.eT X (aB O st loc w)) (n:Nat) :
  Tr (aB O st loc w) (aB O (aU st n) loc w)/\Good cx.eT X (aB O (aU st n) loc w):=by
 have hob:∀m oc,look (aU st n).aC m=some oc->look st.aC m=some oc:=by
  intro m oc h
  simp only [aU] at h
  rw [fZ] at h
  split at h
  ·cases h
  ·exact h
 have hA:∀b o,(aB O (aU st n) loc w).A b o->(aB O st loc w).A b o:=by
  rintro b o (h | ⟨m,oc,h1,h2⟩)
  ·exact .inl h
  ·exact .inr ⟨m,oc,hob _ _ h1,h2⟩
 have ht:Tr (aB O st loc w) (aB O (aU st n) loc w):={
  O:=rfl
  next:=Nat.le_refl _
  os:=rfl
  output:=rfl
  size:=Nat.le_refl _
  own:=fun b h=>by obtain ⟨m,oc,h1,h2⟩:=h;exact .inl ⟨m,oc,hob _ _ h1,h2⟩
  cell:=fun b o v h1 h2=>⟨h2,fun h=>h1 (hA b o h)⟩
  block:=fun _ _ _=>rfl
  loc:=fun _ _ _=>hJ rfl
  kind:=fun m oc _ h=>⟨oc,hob _ _ h,by cases oc <;> simp [aM,aB]⟩}
 refine ⟨ht,⟨fun m oc h => ?_,fun m1 m2 oc1 oc2 b h1 h2 h3 h4 => ?_,fun m oc b off h1 h2 => ?_,g.iq.tr ht⟩⟩
 ·obtain ⟨h1,h2⟩:=g.obj m oc (hob _ _ h)
  exact ⟨h1,h2.tr ht fun _ _=>rfl⟩
 ·exact g.apart m1 m2 oc1 oc2 b (hob _ _ h1) (hob _ _ h2) h3 h4
 ·exact g.out m oc b off (hob _ _ h1) h2
theorem yA {O:aD} {st:St} {loc:Nat->Loc} {w:World} (g:Good cx.eT X (aB O st loc w)) {n:Nat} {e:Ty} {zs:List (D e)}
  (hob:look st.aC n=some (.aQ e zs)) {v:Value} (hv:CR cx.eT (aB O st loc w) (.aQ n) v):CR cx.eT (aB O (aU st n) loc w) (.d (.slice e) zs) v:=by
 obtain ⟨hn,hor⟩:=g.obj n _ hob
 obtain ⟨td,gd⟩:=lJ g n
 have hvl:=hv.2 _ _ hob
 rcases hor with ⟨rfl,⟨a,ha⟩,_⟩ | ⟨b,vs,T,cap,h1,h2,h3,h4,h5,h6,he⟩
 ·exact VR.bt rfl ⟨_,rfl,by simp, .inl ⟨rfl,a,0,hvl.trans ha⟩⟩
 ·refine VR.bt rfl ⟨_,rfl,h6, .inr ⟨b,0,cap,hvl.trans h1,h5,fun i y hy => ?_⟩⟩
  obtain ⟨us,r1,r2⟩:=he i y hy
  refine ⟨us,r1.frame td.cell,fun j u hj=>⟨?_,?_⟩⟩
  ·show w.cell? _=_
   rw [Nat.zero_add,cell_of_row w b _ vs T (0,0) h3];exact r2 j u hj
  ·rintro (hA' | ⟨m,oc,k1,k2,k3⟩)
   ·exact g.out n _ b _ hob (by rw [h2];simp) hA'
   ·simp only [aB,aU] at k1 k2
    rw [fZ] at k1
    split at k1
    ·cases k1
    ·rename_i h8;exact h8 (g.apart n m _ _ b hob k1 (by rw [h2];simp) k2)
theorem oJ {O:aD} {st:St} {loc:Nat->Loc} {w:World} (g:Good cx.eT X (aB O st loc w)) (_hO:cu O w) {n:Nat} {e:Ty} {zs:List (D e)} {v:Value}
  (hob:look st.aC n=some (.aQ e zs)) (hv:CR cx.eT (aB O st loc w) (.aQ n) v) :
  ∃loc',Tr (aB O st loc w) (aB O (fresh (aU st n) (.tok e zs)) loc' w)/\Good cx.eT X (aB O (fresh (aU st n) (.tok e zs)) loc' w)/\
   CR cx.eT (aB O (fresh (aU st n) (.tok e zs)) loc' w) (.app e zs st.next) v/\∀b o,(aB O (fresh (aU st n) (.tok e zs)) loc' w).A b o->(aB O st loc w).A b o:=by
 obtain ⟨hn,hor⟩:=g.obj n _ hob
 obtain ⟨td,gd⟩:=lJ g n
 have hvl:=hv.2 _ _ hob
 have hne:∀m oc,look st.aC m=some oc->st.next≠m:=fun m oc h e=>by have:=(g.obj m oc h).1;simp [aB] at this;omega
 have hob1:∀m,look (fresh (aU st n) (.tok e zs)).aC m=if st.next=m then some (.tok e zs) else if n=m then none else look st.aC m:=by
  intro m
  simp only [fresh,bm,aU,fZ]
 let loc':=bd loc st.next (loc n)
 have hl1:∀m,st.next≠m->loc' m=loc m:=fun m h=>by simp [loc',bd,h]
 have hlast:loc' st.next=loc n:=by simp [loc',bd]
 have hA:∀b o,(aB O (fresh (aU st n) (.tok e zs)) loc' w).A b o->(aB O st loc w).A b o:=by
  rintro b o (h | ⟨m,oc,h1,h2,h3⟩)
  ·exact .inl h
  ·simp only [aB] at h1 h2
   rw [hob1] at h1
   by_cases e1:st.next=m
   ·rw [if_pos e1] at h1;cases h1
    rw [<-e1,hlast] at h2
    exact .inr ⟨n,_,hob,h2,Nat.zero_le _⟩
   ·rw [if_neg e1] at h1;rw [hl1 m e1] at h2
    split at h1
    ·cases h1
    ·exact .inr ⟨m,oc,h1,h2,h3⟩
 have ht:Tr (aB O st loc w) (aB O (fresh (aU st n) (.tok e zs)) loc' w):={
  O:=rfl
  next:=by simp [aB,fresh,aU]
  os:=rfl
  output:=rfl
  size:=Nat.le_refl _
  own:=fun b h=>by
   obtain ⟨m,oc,h1,h2⟩:=h
   simp only [aB] at h1 h2
   rw [hob1] at h1
   by_cases e1:st.next=m
   ·rw [<-e1,hlast] at h2;exact .inl ⟨n,_,hob,h2⟩
   ·rw [if_neg e1] at h1;rw [hl1 m e1] at h2
    split at h1
    ·cases h1
    ·exact .inl ⟨m,oc,h1,h2⟩
  cell:=fun b o v h1 h2=>⟨h2,fun h=>h1 (hA b o h)⟩
  block:=fun _ _ _=>rfl
  loc:=fun m hm _=>hJ (hl1 m (by simp [aB] at hm;omega))
  kind:=fun m oc hm h=>by
   simp only [aB] at hm h
   rw [hob1,if_neg (by omega)] at h
   split at h
   ·cases h
   ·refine ⟨oc,h,?_⟩
    have:=hl1 m (by omega)
    cases oc <;> simp [aM,aB,this]}
 have hnw:st.next≠n:=by simp [aB] at hn;omega
 have key:OR cx.eT X (aB O (fresh (aU st n) (.tok e zs)) loc' w) (loc n) (.tok e zs):=by
  rcases hor with h | ⟨b,vs,T,cap,h1,h2,h3,h4,h5,h6,h7⟩
  ·exact .inl h
  ·exact .inr ⟨b,vs,T,cap,h1,h2,h3,h4,h5,h6,h7.tr ht⟩
 refine ⟨loc',ht,⟨fun m oc h => ?_,fun m1 m2 oc1 oc2 b h1 h2 h3 h4 => ?_,fun m oc b off h1 h2 => ?_,g.iq.tr ht⟩,?_,hA⟩
 ·simp only [aB] at h
  rw [hob1] at h
  by_cases e1:st.next=m
  ·rw [if_pos e1] at h;cases h
   subst e1
   refine ⟨by simp [aB,fresh,aU],?_⟩
   show OR _ _ _ (loc' st.next) _
   rw [hlast];exact key
  ·rw [if_neg e1] at h
   split at h
   ·cases h
   ·obtain ⟨k1,k2⟩:=g.obj m oc h
    refine ⟨by simp [aB,fresh,aU] at k1 ⊢;omega,?_⟩
    show OR _ _ _ (loc' m) _
    rw [hl1 m e1];exact k2.tr ht fun _ _=>rfl
 ·simp only [aB] at h1 h2 h3 h4
  rw [hob1] at h1 h2
  have one:∀m oc,st.next≠m->(if n=m then none else look st.aC m)=some oc->b∈(loc m).bs->b∈(loc n).bs->False:=by
   intro m oc e2 h5 h6 h7
   split at h5
   ·cases h5
   ·rename_i h8;exact h8 (g.apart n m _ _ b hob h5 h7 h6)
  by_cases e1:st.next=m1
  ·rw [<-e1,hlast] at h3
   by_cases e2:st.next=m2
   ·omega
   ·rw [if_neg e2] at h2;rw [hl1 m2 e2] at h4;exact (one m2 oc2 e2 h2 h4 h3).elim
  ·rw [if_neg e1] at h1;rw [hl1 m1 e1] at h3
   by_cases e2:st.next=m2
   ·rw [<-e2,hlast] at h4;exact (one m1 oc1 e1 h1 h3 h4).elim
   ·rw [if_neg e2] at h2;rw [hl1 m2 e2] at h4
    split at h1
    ·cases h1
    ·split at h2
     ·cases h2
     ·exact g.apart m1 m2 oc1 oc2 b h1 h2 h3 h4
 ·simp only [aB] at h1 h2
  rw [hob1] at h1
  by_cases e1:st.next=m
  ·rw [<-e1,hlast] at h2;exact g.out n _ b off hob h2
  ·rw [if_neg e1] at h1;rw [hl1 m e1] at h2
   split at h1
   ·cases h1
   ·exact g.out m oc b off h1 h2
 ·refine ⟨?_,by simp [aB,fresh,aU],fun ys hy => ?_⟩
  ·rcases hor with ⟨rfl,⟨a,ha⟩,_⟩ | ⟨b,vs,T,cap,h1,h2,h3,h4,h5,h6,he⟩
   ·exact VR.bt rfl ⟨_,rfl,by simp, .inl ⟨rfl,a,0,hvl.trans ha⟩⟩
   ·refine VR.bt rfl ⟨_,rfl,h6, .inr ⟨b,0,cap,hvl.trans h1,h5,fun i y hy => ?_⟩⟩
    obtain ⟨us,r1,r2⟩:=he i y hy
    refine ⟨us,r1.frame ht.cell,fun j u hj=>⟨?_,?_⟩⟩
    ·show w.cell? _=_
     rw [Nat.zero_add,cell_of_row w b _ vs T (0,0) h3];exact r2 j u hj
    ·rintro (hA' | ⟨m,oc,k1,k2,k3⟩)
     ·exact g.out n _ b _ hob (by rw [h2];simp) hA'
     ·simp only [aB] at k1 k2
      rw [hob1] at k1
      by_cases e1:st.next=m
      ·rw [if_pos e1] at k1;cases k1
       simp only [OC.lo] at k3
       have hi:=aS hy
       have hjl:=aS hj
       rw [r1.length] at hjl
       have:(i + 1) * e.size<=zs.length * e.size:=Nat.mul_le_mul_right _ hi
       rw [Nat.add_mul] at this
       omega
      ·rw [if_neg e1] at k1;rw [hl1 m e1] at k2
       split at k1
       ·cases k1
       ·rename_i h8;exact h8 (g.apart n m _ _ b hob k1 (by rw [h2];simp) k2)
  ·simp only [aB] at hy
   rw [hob1,if_pos rfl] at hy
   cases hy
   refine ⟨Nat.le_refl _,fun _ => ?_⟩
   show v=(loc' st.next).v
   rw [hlast];exact hvl
theorem Src.frame {eT:TypeId} {e:Ty} {ys:List (D e)} {A A':aD} {w:World} {v:Value} (h:Src eT e ys A w v) (hA:∀b o,A' b o->A b o):Src eT e ys A' w v:=by
 rcases h with h | ⟨b,o,cap,cs,h1,h2,h3,h4,h5⟩
 ·exact .inl h
 ·exact .inr ⟨b,o,cap,cs,h1,h2,h3,h4.frame fun b o v k1 k2=>⟨k2,fun k3=>k1 (hA b o k3)⟩,h5⟩
theorem oK {O:aD} {st:St} {loc:Nat->Loc} {w:World} (g:Good cx.eT X (aB O st loc w)) (hO:cu O w)
  {t ty te:TypeId} {ti:TypeInfo} {td:TypeDesc} {z:Value} {e:Ty} (hu:P.underlying t=some (.slice te)) (hf:Fit P te e ti td) (hz:ti.zero=some z) (hzs:z.cells.size=e.size)
  {ys:List (D e)} {a0:Option Addr} {vx:Value} (hsrc:Src cx.eT e ys (aB O st loc w).A w vx)
  (hle:ys.length<=1000000000) :
  ∃v loc' w',Good cx.eT X (aB O (fresh st (.aQ e ys)) loc' w')/\Tr (aB O st loc w) (aB O (fresh st (.aQ e ys)) loc' w')/\CR cx.eT (aB O (fresh st (.aQ e ys)) loc' w') (.aQ st.next) v/\
   (Builtin.append_ #[t,t] ty #[.slice a0 0 0,vx]).run P w = .ok v w':=by
 have nothing:ys = []->(∃a cap,vx = .slice a 0 cap)->∃v loc' w',Good cx.eT X (aB O (fresh st (.aQ e ys)) loc' w')/\Tr (aB O st loc w) (aB O (fresh st (.aQ e ys)) loc' w')/\CR cx.eT (aB O (fresh st (.aQ e ys)) loc' w') (.aQ st.next) v/\
   (Builtin.append_ #[t,t] ty #[.slice a0 0 0,vx]).run P w = .ok v w':=by
  intro hy hvx
  subst hy
  obtain ⟨tr1,g1⟩:=cN (oc:=.aQ e []) (l:=⟨.slice a0 0 0,[]⟩) g hO (Below.refl _ w) (by simp)
  have g1:=g1 (.inl ⟨rfl,⟨a0,rfl⟩,rfl⟩)
  refine ⟨.slice a0 0 0,_,w,g1,tr1,?_,iZ hu hf.info rfl (Nat.le_refl _) hvx w⟩
  refine ⟨by simp [aB,fresh],fun t ys hy => ?_⟩
  simp [aB,bd]
 rcases hsrc with ⟨rfl,hvx⟩ | ⟨b,o,cap,cs,hvx,cL,hcc,hrl,hone⟩
 ·exact nothing rfl hvx
 ·by_cases hm:ys = []
  ·exact nothing hm ⟨some ⟨b,o,none⟩,cap,by rw [hvx,hm];rfl⟩
  ·have hpos:0 < ys.length:=by cases ys with | nil=>exact (hm rfl).elim | cons=>simp
   subst hvx
   have hrun:=gz (P:=P) (w:=w) (t:=t) (ty:=ty) hu hf.info hz a0 (a:=⟨b,o,none⟩) (n:=ys.length) (c:=cap) (news:=cs) (by rw [cL,hf.size]) (fun j u hj=>by rw [Addr.add_lit];exact hcc j u hj) hpos (by omega)
    (by have:=Nat.mul_le_mul hle hf.bytes;omega)
   generalize hcapd:grownCap w ys.length 0 te=cap' at hrun
   have hcap':ys.length<=cap':=by rw [<-hcapd];exact grownCap_ge w _ _ _
   have hb:Below w.heap.size w (w.drew.alloc (.cells (cs.toArray++Builtin.zeroCells z.cells (cap' - ys.length)) te)):=(Below.refl _ w).drew.alloc (Nat.le_refl _) _
   obtain ⟨tr1,g1⟩:=cN (oc:=.aQ e ys) (l:=⟨.slice (some ⟨w.heap.size,0,none⟩) ys.length cap',[w.heap.size]⟩) g hO hb (by simp)
   have hheap:(w.drew.alloc (.cells (cs.toArray++Builtin.zeroCells z.cells (cap' - ys.length)) te)).heap[w.heap.size]?=some (.cells (cs.toArray++Builtin.zeroCells z.cells (cap' - ys.length)) te (0,0)):=heap_alloc_new w.drew _
   have hsz:(cs.toArray++Builtin.zeroCells z.cells (cap' - ys.length)).size=cap' * e.size:=by
    simp only [Array.size_append,List.size_toArray,size_zeroCells,hzs,cL,<-Nat.add_mul]
    congr 1;omega
   have g1:=g1 (.inr ⟨w.heap.size,_,te,cap',rfl,rfl,hheap,hsz,hcap',by unfold aH;omega,fun i y hy=>by
    obtain ⟨us,r1,r2⟩:=(hrl.frame tr1.cell) i y hy
    refine ⟨us,r1,fun j u hj => ?_⟩
    have:=r2 j u hj
    rw [Array.getElem?_append,if_pos (by simpa using aS this)]
    simpa using this⟩)
   refine ⟨_,_,_,g1,tr1,⟨by simp [aB,fresh],fun t zs hy => ?_⟩,hrun⟩
   simp [aB,bd]
theorem ua {O:aD} {st:St} {loc:Nat->Loc} {w:World} (g:Good cx.eT X (aB O st loc w)) (hO:cu O w)
  {t ty te:TypeId} {ti:TypeInfo} {td:TypeDesc} {z:Value} {e:Ty} (hu:P.underlying t=some (.slice te)) (hf:Fit P te e ti td) (hz:ti.zero=some z) (hzs:z.cells.size=e.size)
  {tk:Bool} {ys:List (D e)} {K:SV->St->VC} {a0:Option Addr} {vx:Value} (hsrc:Src cx.eT e ys (aB O st loc w).A w vx)
  (h:(A4 tk st e ys K).holds) :
  ∃sv v st' loc' w',(K sv st').holds/\st'.env=st.env/\Good cx.eT X (aB O st' loc' w')/\Tr (aB O st loc w) (aB O st' loc' w')/\bX cx.eT (aB O st' loc' w') sv v/\
   (Builtin.append_ #[t,t] ty #[.slice a0 0 0,vx]).run P w = .ok v w':=by
 cases tk with
 | false=>
  obtain ⟨hle,h⟩:=h
  obtain ⟨v,loc',w',g1,t1,c1,r1⟩:=oK (t:=t) (ty:=ty) (a0:=a0) g hO hu hf hz hzs hsrc hle
  exact ⟨_,v,_,loc',w',h,rfl,g1,t1,c1,r1⟩
 | true=>
  obtain ⟨hle,h⟩:=h
  obtain ⟨v,loc',w',g1,t1,c1,r1⟩:=oK (t:=t) (ty:=ty) (a0:=a0) g hO hu hf hz hzs hsrc hle
  obtain ⟨loc2,t2,g2,c2,_⟩:=oJ (e:=e) (zs:=ys) g1 (hO.tr t1.size) (by simp [fresh,bm]) c1
  exact ⟨_,v,_,loc2,w',h,rfl,g2,t1.trans t2,c2,r1⟩
theorem mG (hok:TyOK P cx) {O:aD} {st:St} {loc:Nat->Loc} {w:World} (g:Good cx.eT X (aB O st loc w)) (hO:cu O w)
  {tk:Bool} {t ty:TypeId} {s x:C} {K:SV->St->VC} {vs vx:Value} (hs:CR cx.eT (aB O st loc w) s vs) (hx:CR cx.eT (aB O st loc w) x vx)
  (h:(nt cx tk st t s x K).holds) :
  ∃sv v st' loc' w',(K sv st').holds/\st'.env=st.env/\Good cx.eT X (aB O st' loc' w')/\Tr (aB O st loc w) (aB O st' loc' w')/\bX cx.eT (aB O st' loc' w') sv v/\
   (Builtin.append_ #[t,t] ty #[vs,vx]).run P w = .ok v w':=by
 unfold nt at h
 split at h
 ·rename_i e ht
  obtain ⟨te,ti,td,hu,hf⟩:=cW hok ht
  obtain ⟨z,hz,hzr⟩:=hf.zero
  split at h
  ·rename_i ys hys
   have hsrc:=nu g hys hx
   have hzs:z.cells.size=e.size:=by rw [<-Array.length_toList];exact (fw (S:=aB O st loc w) (cx:=cx) hzr).length.symm.trans (dU e)
   split at h
   ·have hvs:vs = .slice none 0 0:=hs
    subst hvs
    exact ua g hO hu hf hz hzs hsrc h
   ·obtain ⟨a,rfl⟩:=hs
    exact ua g hO hu hf hz hzs hsrc h
   ·exact mg g hO hu hf hz hzs hs (oI.Cw hu hf hz hsrc) h
   ·rename_i n
    split at h
    ·rename_i e' zs hob
     obtain ⟨loc1,t1,g1,c1,hA⟩:=oJ g hO hob hs
     obtain ⟨sv,v,st',loc',w',k1,k2,k3,k4,k5,k6⟩:=mg (t:=t) (t':=t) (ty:=ty) g1 hO hu hf hz hzs c1 (oI.Cw hu hf hz (hsrc.frame hA)) h
     exact ⟨sv,v,st',loc',w',k1,k2,k3,t1.trans k4,k5,k6⟩
    ·exact h.elim
   ·exact h.elim
  ·exact h.elim
 ·exact h.elim
end
end Go.Vg

