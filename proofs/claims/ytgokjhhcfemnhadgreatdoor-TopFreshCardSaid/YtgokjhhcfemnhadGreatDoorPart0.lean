/- A part of the proof that the law TopFreshCard holds of the given program: facts that are used there. -/
import Derived.WalkKit
import Derived.Below
import Derived.Orders
import Derived.Lib.AppendStr
import Derived.Laws.Closers25b
import Derived.Laws.Strings
import Derived.Lib.Strings
import Derived.Laws.Cells
import Derived.Laws.CopyRow
import Derived.Laws.Append
import Derived.Laws.MakeOwn
import Derived.Laws.Tables
import Derived.Laws.AppendOwn
import Derived.Laws.OwnMore
set_option linter.unusedSimpArgs false
set_option linter.unusedVariables false
set_option linter.defProp false
noncomputable section
open List renaming length->ab,length_append->ae,length_take->ah,length_drop->ax,length_set->bb,size_toArray->bk,append_assoc->br,mem_cons->bz,take_append_drop->ca,take_of_length_le->cb,mem_cons_of_mem->cf,map_cons->cm,drop_of_length_le->cr,replicate->c8,length_cons->db,mem_append->di,take_append_of_le_length->dn,nil_append->dq,length_eq_one_iff->dw,append_nil->ec,length_nil->ee,flatten_cons->ef,drop_zero->eh,drop_append_of_le_length->ei,drop_append->ej,getElem_of_mem->et,getElem_mem->e4,replicate_succ->fa,mem_of_mem_take->fb,append_inj->fe
open Nat renaming beq->ad,add_mul->af,le_refl->ag,zero_add->al,mul_le_mul_right->aq,eq_of_beq_eq_true->ar,lt_of_lt_of_le->aw,ble->a7,mul_one->a8,add_zero->bj,le_of_ble_eq_true->bm,add_assoc->bq,beq_refl->bu,blt->b6,zero_le->cj,le_trans->cp,add_sub_cancel_left->cu,lt_or_ge->cy,mul_comm->de,zero_mul->dh,add_comm->dx,mul_le_mul->ed,eq_zero_or_pos->eu,div_lt_of_lt_mul->ew,div_add_mod->ey
open Array renaming length_toList->ai,toList_inj->c6,size_append->df,toArray_toList->dr,range->eg
open Go.Sem renaming run_bind->aj,run_pure->b7
open Go.Builtin renaming append_->ak,zeroCells->bc,lenOf->cn,len_->cw,firstCells->e5,copy_->fc
open Bool renaming and_eq_true->ao,false_eq_true->bh,not_true->eo
open Go.Op renaming equalIn->au,equal->bp,intArith->cc,unary->cd,bytesLess->ct,maxDepth->cz,eqFields->dv
open Go.Result renaming andThen_ok->av
open Go.Addr renaming add_lit->ay
open Go.IntKind renaming i64->az,max->bd,signed->bf,bits->bg,min->bo
open Go.Instr renaming sliceAt->ba,buildSlice->bt,fill->bx,slice->b4,loadAt->b8,indexAt->b9,sureAddr->cg,sliceBounds->ch,storeAt->ck,fieldAt->c7,typeAssert->dy,sliceBound->ep
open BitVec renaming ofInt->bw
open Go.Lib renaming strCells->b5,strCells_oneCell->e6,run_firstCells_string->e8,run_append_grow_string->e9
open Go.World renaming block_lt_of_cell?->cq,setRow->da
open Go.Value renaming cells->dj,oneCell'->dk,ownBlock->dm,slice->dz
open Option.some renaming injEq->dt,inj->ez
open Classical renaming not_not->du
open Int renaming tmod_nonneg->ek,natAbs_tmod->en
open Go.Program renaming cellsOf->er
open Option renaming map_some->e7
open Go.RowKit.Below renaming refl->fg
namespace Go.Vg
structure Below (B:Nat) (w w':World):Prop where
 os:w'.os=w.os
 output:w'.output=w.output
 size:w.heap.size<=w'.heap.size
 block:∀k,k<B->w'.heap[k]?=w.heap[k]?
def Below.of{B:Nat}{w w':World}(h:Go.RowKit.Below B w w'):Below B w w':=⟨h.os,h.output,h.size,h.block⟩
def Below.refl(B:Nat)(w:World):Below B w w:=⟨rfl,rfl,ag _,fun _ _=>rfl⟩
def Below.trans{B:Nat}{a b c:World}(h:Below B a b)(k:Below B b c):Below B a c:=
 ⟨k.os.trans h.os,k.output.trans h.output,cp h.size k.size,fun i hi=>(k.block i hi).trans (h.block i hi)⟩
def Below.mono{B B':Nat}{w w':World}(h:Below B w w')(hB:B'<=B):Below B' w w':=⟨h.os,h.output,h.size,fun k hk=>h.block k (aw hk hB)⟩
def Below.drew{B:Nat}{a w:World}(h:Below B a w):Below B a w.drew:=⟨h.os,h.output,h.size,h.block⟩
def Below.alloc{B:Nat}{a w:World}(h:Below B a w)(hB:B<=w.heap.size)(o:Obj):Below B a (w.alloc o):=h.trans (.of ((fg B w).alloc hB o))
def Below.cell{B:Nat}{w w':World}(h:Below B w w'){p:Addr}(hp:p.block<B):w'.cell? p=w.cell? p:=World.cell?_of_block (w:=w) (h.block p.block hp)
def Below.same{W w':World}(h:Below W.heap.size W w'){p:MemPlace}(hp:p.block<W.heap.size):W.sameAt w' p:=by
 cases p with
 |cell b o=>exact World.cell?_of_block (w:=W) (h.block b hp)
 |map b=>exact h.block b hp
def Below.frame{W w':World}(h:Below W.heap.size W w')(may:MemPlace->Prop):W.keptBut w' may:=by
 refine⟨h.os,h.output,fun i hi =>?_⟩;rw[h.block i hi];split <;> simp_all
inductive aL where
 |nil
 |no (n:Int)
 |other
inductive Ty where
 |bool|int (k:IntKind)|str|err|gC|unit
 |prod (a b:Ty)
 |slice (e:Ty)
@[reducible] def D:Ty->Type
 |.bool=>Bool
 |.int _=>Int
 |.str=>List UInt8
 |.err=>aL
 |.gC=>Unit
 |.unit=>Unit
 |.prod a b=>D a×D b
 |.slice e=>List (D e)
def Ty.beq:Ty->Ty->Bool
 |.bool,.bool=>true
 |.int k,.int k'=>decide (k=k')
 |.str,.str=>true
 |.err,.err=>true
 |.gC,.gC=>true
 |.unit,.unit=>true
 |.prod a b,.prod c d=>Ty.beq a c&&Ty.beq b d
 |.slice a,.slice b=>Ty.beq a b
 |_,_=>false
def Ty.eq_of_beq:∀{a b:Ty},Ty.beq a b=true->a=b:=by
 intro a;induction a with
 |prod a b iha ihb=>intro c h;cases c <;> simp[Ty.beq]at h;rw[iha h.1,ihb h.2]
 |slice a ih=>intro c h;cases c <;> simp[Ty.beq]at h;rw[ih h]
 |int k=>intro c h;cases c <;> simp[Ty.beq]at h;rw[h]
 |_=>intro c h;cases c <;> simp[Ty.beq]at h;rfl
def Ty.size:Ty->Nat
 |.unit=>0
 |.prod a b=>a.size+b.size
 |_=>1
def Ty.one:Ty->Bool
 |.unit|.prod _ _=>false
 |_=>true
def Ty.flat:Ty->Bool
 |.slice _=>false
 |.prod a b=>a.flat&&b.flat
 |_=>true
abbrev aI:=Nat->Nat->Prop
def aN:Nat:=9223372036854775807
def Gj:aN=9223372036854775807:=rfl
def Row(A:aI)(w:World)(b o:Nat)(us:List Value):Prop:=
 ∀j u,us[j]?=some u->w.cell? ⟨b,o+j,none⟩=some u/\¬A b (o+j)
section
variable(eT:TypeId)
def Rz:aL->Value->Prop
 |.nil,v=>v=.nilIface
 |.no n,v=>v=.iface eT (.int .i64 n)/\az.min<=n/\n<=az.max
 |.other,v=>∃t u,v=.iface t u/\t≠eT
def R:(t:Ty)->D t->aI->World->List Value->Prop
  |.bool,x,_,_,vs=>vs=[.bool x]
  |.int k,x,_,_,vs=>vs=[.int k x]/\k.min<=x/\x<=k.max
  |.str,x,_,_,vs=>vs=[.string ⟨x.toArray⟩]/\x.length<=aN
  |.err,x,_,_,vs=>∃v,vs=[v]/\Rz eT x v
  |.gC,_,_,_,_=>False
  |.unit,_,_,_,vs=>vs=[]
  |.prod a b,x,A,w,vs=>∃u1 u2,vs=u1++u2/\R a x.1 A w u1/\R b x.2 A w u2
  |.slice e,x,A,w,vs=>∃v,vs=[v]/\x.length<=aN/\
      ((x=[]/\∃a c,v=.slice a 0 c)\/
       ∃b o cap,v=.slice (some ⟨b,o,none⟩) x.length cap/\x.length<=cap/\
         ∀i y,x[i]?=some y->∃us,R e y A w us/\Row A w b (o+i*e.size) us)
def VR(t:Ty)(x:D t)(A:aI)(w:World)(v:Value):Prop:=
 if t.one then R eT t x A w [v]else ∃cs,v=.agg cs/\R eT t x A w cs.toList
variable{eT}
def R.length:∀{t:Ty} {x:D t} {A:aI} {w:World} {vs:List Value},R eT t x A w vs->vs.length=t.size:=by
 intro t;induction t with
 |prod a b iha ihb=>
  intro x A w vs h;obtain⟨u1,u2,rfl,h1,h2⟩:=h;simp[Ty.size,iha h1,ihb h2]
 |slice e _=>intro x A w vs h;obtain⟨v,rfl,_⟩:=h;rfl
 |err=>intro x A w vs h;obtain⟨v,rfl,_⟩:=h;rfl
 |int k=>intro x A w vs h;obtain⟨rfl,_⟩:=h;rfl
 |str=>intro x A w vs h;obtain⟨rfl,_⟩:=h;rfl
 |gC=>intro x A w vs h;exact h.elim
 |bool=>intro x A w vs h;cases h;rfl
 |unit=>intro x A w vs h;cases h;rfl
def R.lj:∀{t:Ty} {x:D t} {A:aI} {w:World} {vs:List Value},R eT t x A w vs->∀v∈vs,v.oneCell'=true:=by
 intro t;induction t with
 |prod a b iha ihb=>
  intro x A w vs h v hv;obtain⟨u1,u2,rfl,h1,h2⟩:=h;rcases di.1 hv with h|h
  ·exact iha h1 v h
  ·exact ihb h2 v h
 |slice e _=>
  intro x A w vs h v hv;obtain⟨u,rfl,_,h|⟨b,o,cap,h,_⟩⟩:=h
  ·obtain⟨_,_,rfl⟩:=h.2;simp at hv;rw[hv];rfl
  ·simp at hv;rw[hv,h];rfl
 |err=>
  intro x A w vs h v hv;obtain⟨u,rfl,h⟩:=h;simp at hv;subst hv;cases x with
  |nil=>rw[show v=_ from h];rfl
  |no n=>rw[show v=_ from h.1];rfl
  |other=>obtain⟨t,u,rfl,_⟩:=h;rfl
 |int k=>intro x A w vs h v hv;obtain⟨rfl,_⟩:=h;simp at hv;subst hv;rfl
 |str=>intro x A w vs h v hv;obtain⟨rfl,_⟩:=h;simp at hv;subst hv;rfl
 |gC=>intro x A w vs h;exact h.elim
 |bool=>intro x A w vs h v hv;cases h;simp at hv;subst hv;rfl
 |unit=>intro x A w vs h v hv;cases h;simp at hv
def R.frame:∀{t:Ty} {x:D t} {A A':aI} {w w':World} {vs:List Value},R eT t x A w vs->
  (∀b o v,¬A b o->w.cell? ⟨b,o,none⟩=some v->w'.cell? ⟨b,o,none⟩=some v/\¬A' b o)->R eT t x A' w' vs:=by
 intro t;induction t with
 |prod a b iha ihb=>
  intro x A A' w w' vs h hf;obtain⟨u1,u2,rfl,h1,h2⟩:=h;exact⟨u1,u2,rfl,iha h1 hf,ihb h2 hf⟩
 |slice e ih=>
  intro x A A' w w' vs h hf;obtain⟨v,rfl,hl,h⟩:=h;refine⟨v,rfl,hl,?_⟩;rcases h with h|⟨b,o,cap,rfl,hc,h⟩
  ·exact .inl h
  ·refine .inr ⟨b,o,cap,rfl,hc,fun i y hy =>?_⟩
   obtain⟨us,h1,h2⟩:=h i y hy;refine⟨us,ih h1 hf,fun j u hu =>?_⟩;have:=h2 j u hu;exact hf _ _ _ this.2 this.1
 |_=>intro x A A' w w' vs h _;exact h
def R.of_flat:∀{t:Ty} {x:D t} {A A':aI} {w w':World} {vs:List Value},t.flat=true->R eT t x A w vs->R eT t x A' w' vs:=by
 intro t;induction t with
 |prod a b iha ihb=>
  intro x A A' w w' vs hf h;simp[Ty.flat]at hf;obtain⟨u1,u2,rfl,h1,h2⟩:=h;exact⟨u1,u2,rfl,iha hf.1 h1,ihb hf.2 h2⟩
 |slice e ih=>intro x A A' w w' vs hf h;simp[Ty.flat]at hf
 |_=>intro x A A' w w' vs _ h;exact h
def Row.frame{A A':aI}{w w':World}{b o:Nat}{us:List Value}(h:Row A w b o us)
  (hf:∀b o v,¬A b o->w.cell? ⟨b,o,none⟩=some v->w'.cell? ⟨b,o,none⟩=some v/\¬A' b o):Row A' w' b o us:=
 fun j u hu=>hf _ _ _ (h j u hu).2 (h j u hu).1
def VR.frame{t:Ty}{x:D t}{A A':aI}{w w':World}{v:Value}(h:VR eT t x A w v)
  (hf:∀b o v,¬A b o->w.cell? ⟨b,o,none⟩=some v->w'.cell? ⟨b,o,none⟩=some v/\¬A' b o):VR eT t x A' w' v:=by
 unfold VR at h ⊢;split
 ·rename_i h1;rw[if_pos h1]at h;exact h.frame hf
 ·rename_i h1;rw[if_neg h1]at h;obtain⟨cs,rfl,h⟩:=h;exact⟨cs,rfl,h.frame hf⟩
def VR.of_flat{t:Ty}{x:D t}{A A':aI}{w w':World}{v:Value}(hfl:t.flat=true)(h:VR eT t x A w v):VR eT t x A' w' v:=by
 unfold VR at h ⊢;split
 ·rename_i h1;rw[if_pos h1]at h;exact h.of_flat hfl
 ·rename_i h1;rw[if_neg h1]at h;obtain⟨cs,rfl,h⟩:=h;exact⟨cs,rfl,h.of_flat hfl⟩
def VR.cells{t:Ty}{x:D t}{A:aI}{w:World}{v:Value}(h:VR eT t x A w v):R eT t x A w v.cells.toList:=by
 unfold VR at h;split at h
 ·rename_i h1
  have:=h.lj v (by simp);cases v <;> simp_all [dj,dk]
 ·obtain⟨cs,rfl,h⟩:=h;exact h
def VR.one{t:Ty}{x:D t}{A:aI}{w:World}{v:Value}(ht:t.one=true)(h:VR eT t x A w v):R eT t x A w [v]:=by
 unfold VR at h;rwa [if_pos ht]at h
def VR.cJ{t:Ty}{x:D t}{A:aI}{w:World}{v:Value}(ht:t.one=true)(h:R eT t x A w [v]):VR eT t x A w v:=by
 unfold VR;rwa [if_pos ht]
def Ty.oC{t:Ty}(h:t.one=true):t.size=1:=by cases t <;> simp_all [Ty.one,Ty.size]
end
inductive XP where
 |top
 |el (e:Ty) (i off:Nat)
 |row (i:Nat)
 |cell (i j:Nat)
inductive C where
 |xd (n:Nat) (p:XP)
 |lit (b:Bool)
 |d (t:Ty) (x:D t)
 |app (t:Ty) (xs:List (D t)) (n:Nat)
 |jO
 |gX
 |emp
 |aV (n:Nat)
 |oY (n:Nat) (t:Ty) (lo len:Nat)
 |oD (n:Nat)
 |eM (n:Nat)
 |ref (n off:Nat)
 |rC (n:Nat)
 |lM (n:Nat) (t:Ty) (i off:Nat)
 |oE (t:Ty) (x:D t)
 |fn (f:FuncId) (caps:List Nat)
 |any
inductive cP where
 |one (c:C)
 |agg (cs:List C)
inductive SV where
 |s (v:cP)
 |mP (vs:List cP)
inductive OC where
 |cells (T:TypeId) (cs:List C)
 |aV (t:Ty) (xs:List (D t))
 |arr (t:Ty) (xs:List (D t))
 |tok (t:Ty) (xs:List (D t))
 |ext (k:Nat) (t:Ty) (x:D t)
 |iter (cs:List C) (seen:List Int) (cl:Int)
def OC.VP:OC->Bool
 |.ext _ _ _=>true
 |.iter _ _ _=>true
 |_=>false
structure Loc where
 v:Value
 bs:List Nat
instance:Inhabited Loc:=⟨⟨.nilFunc,[]⟩⟩
def OC.lo:OC->Nat
 |.tok t xs=>xs.length*t.size
 |_=>0
structure St where
 env:List (Nat×SV)
 aF:List (Nat×OC)
 next:Nat
def look.{u}{α:Type u}(l:List (Nat×α))(n:Nat):Option α:=
 match l with
 |[]=>none
 |(m,x) :: r=>match ad m n with
  |true=>some x
  |false=>look r n
def ins{α:Type}(l:List (Nat×α))(n:Nat)(y:α):List (Nat×α):=
 match l with
 |[]=>[(n,y)]
 |(m,x) :: r=>match ad m n with
  |true=>(m,y) :: r
  |false=>(m,x) :: ins r n y
def nT{n m:Nat}(h:¬n=m):ad n m=false:=by
 rw[Bool.eq_false_iff];intro e;exact h (ar e)
def RA{α:Type}(l:List (Nat×α))(n m:Nat)(y:α):look (ins l n y) m=if n=m then some y else look l m:=by
 induction l with
 |nil=>
  simp only[ins,look];by_cases h:n=m
  ·subst h;simp[bu]
  ·rw[if_neg h];have:ad n m=false:=nT h
   rw[this]
 |cons p r ih=>
  obtain⟨k,x⟩:=p;simp only[ins];by_cases hk:k=n
  ·subst hk
   simp only[bu,look];by_cases h:k=m
   ·subst h;simp[bu]
   ·rw[if_neg h];have:ad k m=false:=nT h
    rw[this]
  ·have hkb:ad k n=false:=nT hk
   simp only[hkb,look];by_cases h:k=m
   ·subst h;simp only[bu];rw[if_neg (fun e=>hk e.symm)]
   ·have:ad k m=false:=nT h
    rw[this];exact ih
def cC.{u}{α:Type u}(l:List (Nat×α))(n m:Nat)(y:α):look ((n,y) :: l) m=if n=m then some y else look l m:=by
 simp only[look];by_cases h:n=m
 ·subst h;simp[bu]
 ·rw[if_neg h];have:ad n m=false:=nT h
  rw[this]
structure bI where
 O:aI
 ob:Nat->Option OC
 loc:Nat->Loc
 next:Nat
 w:World
def bI.A(S:bI):aI:=fun b off=>S.O b off\/∃n oc,S.ob n=some oc/\b∈(S.loc n).bs/\oc.lo<=off
def bI.owns(S:bI)(b:Nat):Prop:=∃n oc,S.ob n=some oc/\b∈(S.loc n).bs
def bI.fixed(S:bI)(n:Nat):Prop:=∀t ys,S.ob n≠some (.tok t ys)
def bI.Bl(S:bI)(n:Nat):Prop:=∀t x,S.ob n≠some (.ext 2 t x)
def oh{l l':Loc}{p:Prop}(h:l'=l):l'.v=l.v/\(p->l'=l):=⟨by rw[h],fun _=>h⟩
def Ty.fA:Ty->Bool
 |.bool|.int _|.str|.unit=>true
 |.prod a b=>a.fA&&b.fA
 |_=>false
structure nQ (e:Ty) where
 off:Nat
 t:Ty
 get:D e->List (D t)
 put:D e->List (D t)->D e
def spot:(e:Ty)->Option (nQ e)
 |.slice t=>match t.fA&&ad t.size 1 with
  |true=>some ⟨0,t,fun y=>y,fun _ ys=>ys⟩
  |false=>none
 |.prod a b=>match spot a with
  |some s=>match b.fA with
   |true=>some ⟨s.off,s.t,fun y=>s.get y.1,fun y ys=>(s.put y.1 ys,y.2)⟩
   |false=>none
  |none=>match a.fA,spot b with
   |true,some s=>some ⟨a.size+s.off,s.t,fun y=>s.get y.2,fun y ys=>(y.1,s.put y.2 ys)⟩
   |_,_=>none
 |_=>none
def oZ(c:Option Nat):aI:=fun b _=>some b≠c
structure jZ (e:Ty) (s:nQ e) (xs:List (D e)) (w:World) (b:Nat) (cs:List (Option Nat)) (hs:List Value) (vs:Array Value):Prop where
 hl:hs.length=xs.length
 cl:cs.length=xs.length
 inj:∀i j c:Nat,cs[i]?=some (some c)->cs[j]?=some (some c)->i=j
 yG:∀i c:Nat,cs[i]?=some (some c)->c≠b/\∃vs T,w.heap[c]?=some (.cells vs T (0,0))
 row:∀(i:Nat) (y:D e),xs[i]?=some y->∃c h us,cs[i]?=some c/\hs[i]?=some h/\us[s.off]?=some h/\R 0 e y (oZ c) w us/\∀j u,us[j]?=some u->vs[i*e.size+j]?=some u
def kC:(t:Ty)->D t->Loc->World->Prop
  |.slice e,xs,l,w=>∃s,spot e=some s/\∃top hs,l.v=.tuple (top :: hs).toArray/\
      ((xs=[]/\hs=[]/\(∃a,top=.slice a 0 0)/\l.bs=[])\/
       ∃b vs T cap cs,top=.slice (some ⟨b,0,none⟩) xs.length cap/\l.bs=b :: cs.filterMap id/\w.heap[b]?=some (.cells vs T (0,0))/\vs.size=cap*e.size/\xs.length<=cap/\xs.length<=aN/\
         jZ e s xs w b cs hs vs)
  |_,_,_,_=>False
def Oh:XP->Value->Value->Prop
 |.top,l,v=>∃hs:List Value,l=.tuple (v :: hs).toArray
 |.el e i off,l,v=>∃b k c,∃hs:List Value,l=.tuple ((.slice (some ⟨b,0,none⟩) k c) :: hs).toArray/\v=.pointer (some ⟨b,i*e.size+off,none⟩)
 |.row i,l,v=>∃t,∃hs:List Value,l=.tuple (t :: hs).toArray/\hs[i]?=some v
 |.cell i j,l,v=>∃t,∃hs:List Value,∃b o k c,l=.tuple (t :: hs).toArray/\hs[i]?=some (.slice (some ⟨b,o,none⟩) k c)/\v=.pointer (some ⟨b,o+j,none⟩)
@[reducible] def iV(e:Ty):Ty:=.prod .str (.prod e (.prod (.int .i64) .unit))
@[reducible] def ij(e:Ty):Ty:=.prod (.slice (iV e)) (.prod (.int .i64) .unit)
def T6:aI:=fun _ _=>False
structure Ab (e:Ty) (y:D (iV e)) (m:MapEntry) (w:World):Prop where
 key:m.key=.string ⟨y.1.toArray⟩/\y.1.length<=aN
 val:VR 0 e y.2.1 T6 w m.val
 born:y.2.2.1=(m.born:Int)
def jr(e:Ty):List (D (iV e))->List MapEntry->World->Prop
 |[],[],_=>True
 |y :: r,m :: ms,w=>Ab e y m w/\jr e r ms w
 |_,_,_=>False
structure Gk (e:Ty) (x:D (ij e)) (l:Loc) (w:World) (b:Nat) (es:Array MapEntry) (eY:Nat):Prop where
 fA:e.fA=true
 lv:l.v=.map (some b)
 bs:l.bs=[b]
 heap:w.heap[b]?=some (.map es eY)
 eY:x.2.1=(eY:Int)
 sW:jr e x.1 es.toList w
 aN:x.1.length<=aN
 old:∀y∈x.1,y.2.2.1<x.2.1
def sX(t:Ty)(x:D t)(l:Loc)(w:World):Prop:=∃e,∃h:t=ij e,∃b es eY,Gk e (h▸x) l w b es eY
@[reducible] def kv:Ty:=.prod (.slice (.int .u8)) (.prod (.int .i64) (.prod (.int .i64) .unit))
structure VQ (x:D kv) (l:Loc) (w:World) (b:Nat) (p v:Value):Prop where
 lv:l.v=.pointer (some ⟨b,0,none⟩)
 ptr:p=.pointer none\/p=.pointer (some ⟨b,0,none⟩)
 heap:w.heap[b]?=some (.cells #[p,v] x.2.1.toNat (0,0))
 row:w.ownsRow 0 x.2.2.1.toNat 1 v x.1.length (x.1.map (Value.int .u8))
 bs:l.bs=b :: v.ownBlock.toList
 ne:v.ownBlock≠some b
 u8:∀y∈x.1,0<=(y:Int)/\(y:Int)<=255
 cap:∀a n c,v=.slice (some a) n c->0<c
def uj(t:Ty)(x:D t)(l:Loc)(w:World):Prop:=∃h:t=kv,∃b p v,VQ (h▸x) l w b p v
def uj.inside{t:Ty}{x:D t}{l:Loc}{w:World}(h:uj t x l w):∀b∈l.bs,b<w.heap.size:=by
 obtain⟨rfl,b,p,v,h⟩:=h;intro k hk;rw[h.bs]at hk;rcases bz.1 hk with rfl|hk
 ·exact(Array.getElem?_eq_some_iff.1 h.heap).1
 ·rcases h.row.2 with⟨rfl,_⟩|⟨g,cap,cur,rfl,_,hg,_⟩
  ·simp[dm]at hk
  ·simp[dm]at hk
   subst hk;exact(Array.getElem?_eq_some_iff.1 hg).1
def uj.frame{t:Ty}{x:D t}{l:Loc}{w w':World}(h:uj t x l w)(hb:∀b∈l.bs,w'.heap[b]?=w.heap[b]?):uj t x l w':=by
 obtain⟨rfl,b,p,v,h⟩:=h;refine⟨rfl,b,p,v,h.lv,h.ptr,by rw[hb b (by rw[h.bs];simp)];exact h.heap,⟨h.row.1,?_⟩,h.bs,h.ne,h.u8,h.cap⟩;rcases h.row.2 with h1|⟨g,cap,cur,h1,h2,h3,h4⟩
 ·exact .inl h1
 ·exact .inr ⟨g,cap,cur,h1,h2,by rw[hb g (by rw[h.bs,h1];simp[dm])];exact h3,h4⟩
structure Ext where
 rel:Nat->(t:Ty)->D t->Loc->World->Prop
 inside:∀{k t x l w},rel k t x l w->∀b∈l.bs,b<w.heap.size
 ptr:∀{k t x l w},2<=k->rel k t x l w->∃a,l.v=.pointer (some a)
 deep:∀{t x l w},rel 0 t x l w↔kC t x l w
 map:∀{t x l w},rel 1 t x l w↔sX t x l w
 Oi:∀{t x l w},rel 2 t x l w↔uj t x l w
 frame:∀{k t x l w w'},rel k t x l w->(∀b∈l.bs,w'.heap[b]?=w.heap[b]?)->rel k t x l w'
 vV:World->Prop
 DP:List Nat
 Gl:∀{w},vV w->∀b∈DP,b<w.heap.size
 Bm:∀{w w'},vV w->(∀b∈DP,w'.heap[b]?=w.heap[b]?)->vV w'
section
variable(eT:TypeId)(X:Ext)
def CR(S:bI):C->Value->Prop
 |.lit b,v=>v=.bool b
 |.d t x,v=>VR eT t x S.A S.w v
 |.app t xs n,v=>VR eT (.slice t) xs S.A S.w v/\n<S.next/\
   ∀ys,S.ob n=some (.tok t ys)->xs.length<=ys.length/\(xs.length=ys.length->v=(S.loc n).v)
 |.jO,v=>v=.slice none 0 0
 |.gX,v=>v=.pointer none
 |.emp,v=>∃a,v=.slice a 0 0
 |.aV n,v=>n<S.next/\∀t xs,S.ob n=some (.aV t xs)->v=(S.loc n).v
 |.oY n t lo len,v=>n<S.next/\∀xs,S.ob n=some (.aV t xs)->(len=0/\∃a c,v=.slice a 0 c)\/∃b c,(S.loc n).bs=[b]/\v=.slice (some ⟨b,lo*t.size,none⟩) len c
 |.oD n,v=>n<S.next/\∀t xs,S.ob n=some (.arr t xs)->v=(S.loc n).v
 |.eM n,v=>n<S.next/\∀oc,S.ob n=some oc->oc.VP=true->v=(S.loc n).v
 |.xd n p,v=>n<S.next/\∀t x,S.ob n=some (.ext 0 t x)->Oh p (S.loc n).v v
 |.ref n off,v=>n<S.next/\∀T cs,S.ob n=some (.cells T cs)->∃b,(S.loc n).v=.pointer (some ⟨b,0,none⟩)/\v=.pointer (some ⟨b,off,none⟩)
 |.rC n,v=>n<S.next/\(v=.pointer none\/∀T cs,S.ob n=some (.cells T cs)->v=(S.loc n).v)
 |.lM n t i off,v=>n<S.next/\((∃xs,S.ob n=some (.aV t xs)\/S.ob n=some (.arr t xs))->∃b,(S.loc n).bs=[b]/\v=.pointer (some ⟨b,i*t.size+off,none⟩))
 |.oE t x,v=>∃b o us,v=.pointer (some ⟨b,o,none⟩)/\R eT t x S.A S.w us/\Row S.A S.w b o us
 |.fn f caps,v=>v=.func (.func f) #[] (caps.map fun n=>(S.loc n).v).toArray/\∀n∈caps,n<S.next/\S.fixed n
 |.any,_=>True
inductive eC (S:bI):List C->List Value->Prop
 |nil:eC S [] []
 |cons {c v cs vs}:CR eT S c v->v.oneCell'=true->eC S cs vs->eC S (c :: cs) (v :: vs)
def iv(S:bI):cP->Value->Prop
 |.one c,v=>CR eT S c v
 |.agg cs,v=>∃vs:List Value,v=.agg vs.toArray/\eC eT S cs vs
inductive cR (S:bI):List cP->List Value->Prop
 |nil:cR S [] []
 |cons {c v cs vs}:iv eT S c v->cR S cs vs->cR S (c :: cs) (v :: vs)
def dI(S:bI):SV->Value->Prop
 |.s x,v=>iv eT S x v
 |.mP xs,v=>∃vs:List Value,v=.tuple vs.toArray/\cR eT S xs vs
def kD(S:bI)(t:Ty)(xs:List (D t))(vs:Array Value):Prop:=
 ∀i y,xs[i]?=some y->∃us,R eT t y S.A S.w us/\∀j u,us[j]?=some u->vs[i*t.size+j]?=some u
def OR(S:bI)(l:Loc):OC->Prop
 |.cells T cs=>∃b,∃vs:List Value,l.v=.pointer (some ⟨b,0,none⟩)/\l.bs=[b]/\S.w.heap[b]?=some (.cells vs.toArray T (0,0))/\eC eT S cs vs
 |.aV t xs=>(xs=[]/\(∃a,l.v=.slice a 0 0)/\l.bs=[])\/∃b vs T cap,l.v=.slice (some ⟨b,0,none⟩) xs.length cap/\l.bs=[b]/\S.w.heap[b]?=some (.cells vs T (0,0))/\vs.size=cap*t.size/\
   xs.length<=cap/\xs.length<=aN/\kD eT S t xs vs
 |.arr t xs=>∃b vs T,l.v=.pointer (some ⟨b,0,none⟩)/\l.bs=[b]/\S.w.heap[b]?=some (.cells vs T (0,0))/\vs.size=xs.length*t.size/\kD eT S t xs vs
 |.tok t xs=>(xs=[]/\(∃a,l.v=.slice a 0 0)/\l.bs=[])\/∃b vs T cap,l.v=.slice (some ⟨b,0,none⟩) xs.length cap/\l.bs=[b]/\S.w.heap[b]?=some (.cells vs T (0,0))/\vs.size=cap*t.size/\
   xs.length<=cap/\xs.length<=aN/\kD eT S t xs vs
 |.ext k t x=>X.rel k t x l S.w
 |.iter cs seen cl=>∃b m c,∃sn:Array Nat,l.v=.pointer (some ⟨b,0,none⟩)/\l.bs=[b]/\S.w.heap[b]?=some (.mapIter (some m) c sn c)/\eC eT S cs [.map (some m)]/\cl=(c:Int)/\seen=sn.toList.map fun(n:Nat)=>(n:Int)
def rD(S:bI):Prop:=X.vV S.w/\∀b∈X.DP,¬S.owns b
structure Good (S:bI):Prop where
 obj:∀n oc,S.ob n=some oc->n<S.next/\OR eT X S (S.loc n) oc
 apart:∀n m oc oc' b,S.ob n=some oc->S.ob m=some oc'->b∈(S.loc n).bs->b∈(S.loc m).bs->n=m
 out:∀n oc b off,S.ob n=some oc->b∈(S.loc n).bs->¬S.O b off
 kT:rD X S
def aX(l l':Loc):OC->OC->Prop
 |.cells T _,.cells T' _=>T=T'
 |.aV t _,.aV t' _=>t=t'
 |.arr t _,.arr t' _=>t=t'
 |.ext k t _,.ext k' t' _=>k=k'/\t=t'
 |.iter _ _ _,.iter _ _ _=>True
 |.tok t xs,.tok t' ys=>t=t'/\xs.length<=ys.length/\(xs.length=ys.length->l'.v=l.v)
 |_,_=>False
structure Tr (S S':bI):Prop where
 O:S'.O=S.O
 next:S.next<=S'.next
 os:S'.w.os=S.w.os
 output:S'.w.output=S.w.output
 size:S.w.heap.size<=S'.w.heap.size
 own:∀b,S'.owns b->S.owns b\/S.w.heap.size<=b
 cell:∀b o v,¬S.A b o->S.w.cell? ⟨b,o,none⟩=some v->S'.w.cell? ⟨b,o,none⟩=some v/\¬S'.A b o
 block:∀b,b<S.w.heap.size->¬S.owns b->S'.w.heap[b]?=S.w.heap[b]?
 loc:∀n,n<S.next->S.fixed n->(S'.loc n).v=(S.loc n).v/\(S.Bl n->S'.loc n=S.loc n)
 kind:∀n oc',n<S.next->S'.ob n=some oc'->∃oc,S.ob n=some oc/\aX (S.loc n) (S'.loc n) oc oc'
variable{eT X}
def Tr.refl(S:bI):Tr S S:=
 ⟨rfl,ag _,rfl,rfl,ag _,fun _ h =>.inl h,fun _ _ _ h h'=>⟨h',h⟩,fun _ _ _=>rfl,fun _ _ _=>oh rfl,
  fun n oc' _ h=>⟨oc',h,by cases oc' <;> simp[aX]⟩⟩
def rD.tr{S S':bI}(t:Tr S S')(g:rD X S):rD X S':=
 ⟨X.Bm g.1 fun b hb=>t.block b (X.Gl g.1 b hb) (g.2 b hb),fun b hb h=>by
  rcases t.own b h with h|h
  ·exact g.2 b hb h
  ·have:=X.Gl g.1 b hb;omega⟩
def rD.sub{S S':bI}(g:rD X S)(hw:S'.w=S.w)(ho:∀b,S'.owns b->S.owns b):rD X S':=
 ⟨by rw[hw];exact g.1,fun b hb h=>g.2 b hb (ho b h)⟩
def Tr.fixed{S S':bI}(h:Tr S S'){n:Nat}(hn:n<S.next)(hf:S.fixed n):S'.fixed n:=by
 intro t ys e;obtain⟨oc,h1,h2⟩:=h.kind n _ hn e;cases oc <;> simp[aX]at h2;exact hf _ _ h1
def Tr.Bl{S S':bI}(h:Tr S S'){n:Nat}(hn:n<S.next)(hf:S.Bl n):S'.Bl n:=by
 intro t x e;obtain⟨oc,h1,h2⟩:=h.kind n _ hn e;cases oc <;> simp[aX]at h2;obtain⟨rfl,rfl⟩:=h2;exact hf _ _ h1
def Tr.trans{S S' S'':bI}(h:Tr S S')(k:Tr S' S''):Tr S S'' where
 O:=k.O.trans h.O
 next:=cp h.next k.next
 os:=k.os.trans h.os
 output:=k.output.trans h.output
 size:=cp h.size k.size
 own b hb:=by
  rcases k.own b hb with h1|h1
  ·exact h.own b h1
  ·exact .inr (cp h.size h1)
 cell b o v ha hc:=let⟨h1,h2⟩:=h.cell b o v ha hc;k.cell b o v h2 h1
 block b hb ho:=by
  rw[k.block b (aw hb h.size) (fun h1=>by
   rcases h.own b h1 with h2|h2
   ·exact ho h2
   ·omega),h.block b hb ho]
 loc n hn hf:=by
  obtain⟨a,b⟩:=h.loc n hn hf;obtain⟨c,d⟩:=k.loc n (aw hn h.next) (h.fixed hn hf);exact⟨c.trans a,fun hr=>(d (h.Bl hn hr)).trans (b hr)⟩
 kind n oc'' hn h'':=by
  obtain⟨oc',h1,k1⟩:=k.kind n oc'' (aw hn h.next) h'';obtain⟨oc,h2,k2⟩:=h.kind n oc' hn h1;refine⟨oc,h2,?_⟩;cases oc <;> cases oc' <;> simp[aX]at k2 <;> cases oc'' <;> simp[aX]at k1 ⊢
  all_goals (try(simp_all;done))
  rename_i t xs t' ys t'' zs;obtain⟨rfl,a1,a2⟩:=k2;obtain⟨rfl,b1,b2⟩:=k1;refine⟨rfl,by omega,fun e =>?_⟩;rw[b2 (by omega),a2 (by omega)]
def CR.tr{S S':bI}(h:Tr S S'):∀{c:C} {v:Value},CR eT S c v->CR eT S' c v:=by
 intro c v hc;cases c with
 |lit b=>exact hc
 |d t x=>exact VR.frame hc h.cell
 |app t xs n=>
  obtain⟨h1,h2,h3⟩:=hc;refine⟨VR.frame h1 h.cell,aw h2 h.next,fun ys hy =>?_⟩;obtain⟨oc,k1,k2⟩:=h.kind n _ h2 hy;cases oc <;> simp[aX]at k2;obtain⟨rfl,k3,k4⟩:=k2;obtain⟨m1,m2⟩:=h3 _ k1;exact⟨by omega,fun e=>by rw[m2 (by omega),k4 (by omega)]⟩
 |jO=>exact hc
 |gX=>exact hc
 |emp=>exact hc
 |aV n=>
  refine⟨aw hc.1 h.next,fun t xs e =>?_⟩;obtain⟨oc,k1,k2⟩:=h.kind n _ hc.1 e;cases oc <;> simp[aX]at k2;rw[(h.loc n hc.1 (fun t ys=>by rw[k1];simp)).1];exact hc.2 _ _ k1
 |oY n t lo len=>
  refine⟨aw hc.1 h.next,fun xs e =>?_⟩;obtain⟨oc,k1,k2⟩:=h.kind n _ hc.1 e;cases oc <;> simp[aX]at k2;subst k2;rw[(h.loc n hc.1 (fun t ys=>by rw[k1];simp)).2 (fun t x=>by rw[k1];simp)];exact hc.2 _ k1
 |oD n=>
  refine⟨aw hc.1 h.next,fun t xs e =>?_⟩;obtain⟨oc,k1,k2⟩:=h.kind n _ hc.1 e;cases oc <;> simp[aX]at k2;rw[(h.loc n hc.1 (fun t ys=>by rw[k1];simp)).1];exact hc.2 _ _ k1
 |eM n=>
  refine⟨aw hc.1 h.next,fun oc' e hx =>?_⟩;obtain⟨oc,k1,k2⟩:=h.kind n _ hc.1 e;have hx':oc.VP=true:=by cases oc <;> cases oc' <;> first|rfl|exact k2.elim|cases hx
  rw[(h.loc n hc.1 (fun t ys=>by rw[k1];intro e;cases e;cases hx')).1];exact hc.2 _ k1 hx'
 |xd n p=>
  refine⟨aw hc.1 h.next,fun t xs e =>?_⟩;obtain⟨oc,k1,k2⟩:=h.kind n _ hc.1 e;cases oc <;> simp[aX]at k2;obtain⟨rfl,rfl⟩:=k2;rw[(h.loc n hc.1 (fun t ys=>by rw[k1];simp)).1];exact hc.2 _ _ k1
 |ref n off=>
  refine⟨aw hc.1 h.next,fun T cs e =>?_⟩;obtain⟨oc,k1,k2⟩:=h.kind n _ hc.1 e;cases oc <;> simp[aX]at k2;rw[(h.loc n hc.1 (fun t ys=>by rw[k1];simp)).1];exact hc.2 _ _ k1
 |rC n=>
  refine⟨aw hc.1 h.next,?_⟩;rcases hc.2 with hn|hn
  ·exact .inl hn
  ·refine .inr fun T cs e =>?_
   obtain⟨oc,k1,k2⟩:=h.kind n _ hc.1 e;cases oc <;> simp[aX]at k2;rw[(h.loc n hc.1 (fun t ys=>by rw[k1];simp)).1];exact hn _ _ k1
 |lM n t i off=>
  refine⟨aw hc.1 h.next,fun⟨xs,e⟩ =>?_⟩;rcases e with e|e
  ·obtain⟨oc,k1,k2⟩:=h.kind n _ hc.1 e
   cases oc <;> simp[aX]at k2;rw[(h.loc n hc.1 (fun t ys=>by rw[k1];simp)).2 (fun t x=>by rw[k1];simp)];subst k2;exact hc.2 ⟨_,.inl k1⟩
  ·obtain⟨oc,k1,k2⟩:=h.kind n _ hc.1 e
   cases oc <;> simp[aX]at k2;rw[(h.loc n hc.1 (fun t ys=>by rw[k1];simp)).2 (fun t x=>by rw[k1];simp)];subst k2;exact hc.2 ⟨_,.inr k1⟩
 |oE t x=>
  obtain⟨b,o,us,rfl,h1,h2⟩:=hc;exact⟨b,o,us,rfl,h1.frame h.cell,h2.frame h.cell⟩
 |fn f caps=>
  obtain⟨rfl,h2⟩:=hc;refine⟨?_,fun n hn=>⟨aw (h2 n hn).1 h.next,h.fixed (h2 n hn).1 (h2 n hn).2⟩⟩;congr 2;exact List.map_congr_left fun n hn=>by rw[(h.loc n (h2 n hn).1 (h2 n hn).2).1]
 |any=>trivial
def eC.tr{S S':bI}(h:Tr S S'){cs:List C}{vs:List Value}(hc:eC eT S cs vs):eC eT S' cs vs:=by
 induction hc with
 |nil=>exact .nil
 |cons h1 h2 _ ih=>exact .cons (h1.tr h) h2 ih
def iv.tr{S S':bI}(h:Tr S S'){x:cP}{v:Value}(hc:iv eT S x v):iv eT S' x v:=by
 cases x with
 |one c=>exact CR.tr h hc
 |agg cs=>obtain⟨vs,rfl,h1⟩:=hc;exact⟨vs,rfl,h1.tr h⟩
def cR.tr{S S':bI}(h:Tr S S'){xs:List cP}{vs:List Value}(hc:cR eT S xs vs):cR eT S' xs vs:=by
 induction hc with
 |nil=>exact .nil
 |cons h1 _ ih=>exact .cons (h1.tr h) ih
def dI.tr{S S':bI}(h:Tr S S'){x:SV}{v:Value}(hc:dI eT S x v):dI eT S' x v:=by
 cases x with
 |s x=>exact iv.tr h hc
 |mP xs=>obtain⟨vs,rfl,h1⟩:=hc;exact⟨vs,rfl,h1.tr h⟩
def kD.tr{S S':bI}(h:Tr S S'){t:Ty}{xs:List (D t)}{vs:Array Value}(hc:kD eT S t xs vs):kD eT S' t xs vs:=
 fun i y hy=>let⟨us,h1,h2⟩:=hc i y hy;⟨us,h1.frame h.cell,h2⟩
def OR.tr{S S':bI}(h:Tr S S'){l:Loc}{oc:OC}(hb:∀b,b∈l.bs->S'.w.heap[b]?=S.w.heap[b]?)(ho:OR eT X S l oc):OR eT X S' l oc:=by
 cases oc with
 |cells T cs=>
  obtain⟨b,vs,h1,h2,h3,h4⟩:=ho;exact⟨b,vs,h1,h2,by rw[hb b (by simp[h2])];exact h3,h4.tr h⟩
 |aV t xs=>
  rcases ho with ho|⟨b,vs,T,cap,h1,h2,h3,h4,h5,h6,h7⟩
  ·exact .inl ho
  ·exact .inr ⟨b,vs,T,cap,h1,h2,by rw[hb b (by simp[h2])];exact h3,h4,h5,h6,h7.tr h⟩
 |arr t xs=>
  obtain⟨b,vs,T,h1,h2,h3,h4,h5⟩:=ho;exact⟨b,vs,T,h1,h2,by rw[hb b (by simp[h2])];exact h3,h4,h5.tr h⟩
 |tok t xs=>
  rcases ho with ho|⟨b,vs,T,cap,h1,h2,h3,h4,h5,h6,h7⟩
  ·exact .inl ho
  ·exact .inr ⟨b,vs,T,cap,h1,h2,by rw[hb b (by simp[h2])];exact h3,h4,h5,h6,h7.tr h⟩
 |ext k t x=>exact X.frame ho hb
 |iter cs seen cl=>
  obtain⟨b,m,c,sn,h1,h2,h3,h4,h5,h6⟩:=ho;exact⟨b,m,c,sn,h1,h2,by rw[hb b (by simp[h2])];exact h3,h4.tr h,h5,h6⟩
def OR.inside{S:bI}{l:Loc}{oc:OC}(ho:OR eT X S l oc):∀b∈l.bs,b<S.w.heap.size:=by
 intro b hb;have key:∀{b':Nat} {o:Obj},S.w.heap[b']?=some o->b'<S.w.heap.size:=fun h=>(Array.getElem?_eq_some_iff.1 h).1
 cases oc with
 |cells T cs=>obtain⟨b',vs,_,h2,h3,_⟩:=ho;rw[h2]at hb;simp at hb;subst hb;exact key h3
 |aV t xs=>
  rcases ho with⟨_,_,h⟩|⟨b',vs,T,cap,_,h2,h3,_⟩
  ·rw[h]at hb;simp at hb
  ·rw[h2]at hb;simp at hb;subst hb;exact key h3
 |arr t xs=>obtain⟨b',vs,T,_,h2,h3,_⟩:=ho;rw[h2]at hb;simp at hb;subst hb;exact key h3
 |tok t xs=>
  rcases ho with⟨_,_,h⟩|⟨b',vs,T,cap,_,h2,h3,_⟩
  ·rw[h]at hb;simp at hb
  ·rw[h2]at hb;simp at hb;subst hb;exact key h3
 |ext k t x=>exact X.inside ho b hb
 |iter cs seen cl=>obtain⟨b',m,c,sn,_,h2,h3,_⟩:=ho;rw[h2]at hb;simp at hb;subst hb;exact key h3
end
end Go.Vg

namespace Go.Vg
open Go.RowKit
inductive VC:Type 1 where
 |leaf (p:Prop)
 |and (p:Prop) (k:VC)
 |imp (p:Prop) (k:VC)
 |all (α:Type) (k:α->VC)
 |ite (c:Bool) (a b:VC)
 |both (a b:VC)
 |ff
def VC.holds:VC->Prop
 |.leaf p=>p
 |.and p k=>p/\k.holds
 |.imp p k=>p->k.holds
 |.all α k=>∀x:α,(k x).holds
 |.ite c a b=>(c=true->a.holds)/\(c=false->b.holds)
 |.both a b=>a.holds/\b.holds
 |.ff=>False
section
variable{eT:TypeId}{X:Ext}
def o1{w w':World}(h:Below w.heap.size w w'){b o:Nat}{v:Value}(hc:w.cell? ⟨b,o,none⟩=some v):w'.cell? ⟨b,o,none⟩=some v:=by
 rw[h.cell (p:=⟨b,o,none⟩) (cq w _ hc)];exact hc
def o3{S S':bI}(g:Good eT X S)(hO:S'.O=S.O)(hob:S'.ob=S.ob)(hloc:S'.loc=S.loc)(hn:S'.next=S.next)
  (hw:Below S.w.heap.size S.w S'.w):Tr S S'/\Good eT X S':=by
 have hA:S'.A=S.A:=by funext b o;simp[bI.A,hO,hob,hloc]
 have ht:Tr S S':={
  O:=hO
  next:=by rw[hn];exact ag _
  os:=hw.os
  output:=hw.output
  size:=hw.size
  own:=fun b h =>.inl (by simpa[bI.owns,hob,hloc]using h)
  cell:=fun b o v ha hc=>⟨o1 hw hc,by rw[hA];exact ha⟩
  block:=fun b hb _=>hw.block b hb
  loc:=fun n _ _=>oh (by rw[hloc])
  kind:=fun n oc' _ h=>⟨oc',by rw[<-hob];exact h,by cases oc' <;> simp[aX,hloc]⟩}
 refine⟨ht,⟨fun n oc h =>?_,fun n m oc oc' b h1 h2 h3 h4 =>?_,fun n oc b off h1 h2 =>?_,g.kT.tr ht⟩⟩
 ·rw[hob]at h
  obtain⟨h1,h2⟩:=g.obj n oc h;refine⟨by rw[hn];exact h1,?_⟩;rw[hloc];exact h2.tr ht fun b hb=>hw.block b (h2.inside b hb)
 ·rw[hob]at h1 h2;rw[hloc]at h3 h4;exact g.apart n m oc oc' b h1 h2 h3 h4
 ·rw[hob]at h1;rw[hloc]at h2;rw[hO];exact g.out n oc b off h1 h2
def RB{S S':bI}{oc:OC}{l:Loc}(g:Good eT X S)(hO:S'.O=S.O)(hOin:∀b off,S.O b off->b<S.w.heap.size)
  (hob:∀m,S'.ob m=if S.next=m then some oc else S.ob m)(hloc:∀m,S'.loc m=if S.next=m then l else S.loc m)(hn:S'.next=S.next+1)
  (hw:Below S.w.heap.size S.w S'.w)(hl:∀b∈l.bs,S.w.heap.size<=b):Tr S S'/\(OR eT X S' l oc->Good eT X S'):=by
 have hne:∀n oc',S.ob n=some oc'->S.next≠n:=fun n oc' h e=>by have:=(g.obj n oc' h).1;omega
 have ht:Tr S S':={
  O:=hO
  next:=by rw[hn];omega
  os:=hw.os
  output:=hw.output
  size:=hw.size
  own:=fun b h=>by
   obtain⟨n,oc',h1,h2⟩:=h;rw[hob]at h1;rw[hloc]at h2;by_cases e:S.next=n
   ·rw[if_pos e]at h2;exact .inr (hl b h2)
   ·rw[if_neg e]at h1 h2;exact .inl ⟨n,oc',h1,h2⟩
  cell:=fun b o v ha hc=>⟨o1 hw hc,fun h=>by
   rcases h with h|⟨n,oc',h1,h2,h3⟩
   ·rw[hO]at h;exact ha (.inl h)
   ·rw[hob]at h1;rw[hloc]at h2
    by_cases e:S.next=n
    ·rw[if_pos e]at h2
     have:=hl b h2;have:=cq S.w _ hc;simp at this;omega
    ·rw[if_neg e]at h1 h2;exact ha (.inr ⟨n,oc',h1,h2,h3⟩)⟩
  block:=fun b hb _=>hw.block b hb
  loc:=fun n hlt _=>oh (by rw[hloc,if_neg (by omega)])
  kind:=fun n oc' hlt h=>by
   rw[hob,if_neg (by omega)]at h;exact⟨oc',h,by cases oc' <;> simp[aX];rw[hloc,if_neg (by omega)]⟩}
 refine⟨ht,fun ho=>⟨fun n oc' h =>?_,fun n m oc1 oc2 b h1 h2 h3 h4 =>?_,fun n oc' b off h1 h2 =>?_,g.kT.tr ht⟩⟩
 ·rw[hob]at h
  rw[hloc];by_cases e:S.next=n
  ·rw[if_pos e]at h ⊢;cases h;exact⟨by omega,ho⟩
  ·rw[if_neg e]at h ⊢
   obtain⟨h1,h2⟩:=g.obj n oc' h;exact⟨by omega,h2.tr ht fun b hb=>hw.block b (h2.inside b hb)⟩
 ·rw[hob]at h1 h2;rw[hloc]at h3 h4
  by_cases e:S.next=n
  ·by_cases e':S.next=m
   ·omega
   ·rw[if_pos e]at h3;rw[if_neg e']at h2 h4
    have:=hl b h3;have:=(g.obj m oc2 h2).2.inside b h4;omega
  ·rw[if_neg e]at h1 h3
   by_cases e':S.next=m
   ·rw[if_pos e']at h4
    have:=hl b h4;have:=(g.obj n oc1 h1).2.inside b h3;omega
   ·rw[if_neg e']at h2 h4;exact g.apart n m oc1 oc2 b h1 h2 h3 h4
 ·rw[hob]at h1;rw[hloc]at h2;rw[hO]
  by_cases e:S.next=n
  ·rw[if_pos e]at h2
   intro hc;have:=hl b h2;have:=hOin b off hc;omega
  ·rw[if_neg e]at h1 h2;exact g.out n oc' b off h1 h2
def pI{S S':bI}{n:Nat}{oc oc':OC}{l':Loc}(g:Good eT X S)(hO:S'.O=S.O)(hOin:∀b off,S.O b off->b<S.w.heap.size)
  (hn0:S.ob n=some oc)(hob:∀m,S'.ob m=if n=m then some oc' else S.ob m)(hloc:∀m,S'.loc m=if n=m then l' else S.loc m)(hn:S'.next=S.next)
  (hl:(∀t ys,oc≠.tok t ys)->l'.v=(S.loc n).v/\((∀t x,oc≠.ext 2 t x)->l'=S.loc n))(hk:aX (S.loc n) l' oc oc')
  (hos:S'.w.os=S.w.os)(hout:S'.w.output=S.w.output)(hsize:S.w.heap.size<=S'.w.heap.size)
  (hb:∀b,b<S.w.heap.size->b∉(S.loc n).bs->S'.w.heap[b]?=S.w.heap[b]?)
  (hc:∀b o v,b∈(S.loc n).bs->o<oc.lo->S.w.cell? ⟨b,o,none⟩=some v->S'.w.cell? ⟨b,o,none⟩=some v)
  (hlo:∀b∈l'.bs,(b∈(S.loc n).bs/\oc.lo<=oc'.lo)\/S.w.heap.size<=b):Tr S S'/\(OR eT X S' l' oc'->Good eT X S'):=by
 have ht:Tr S S':={
  O:=hO
  next:=by rw[hn];exact ag _
  os:=hos
  output:=hout
  size:=hsize
  own:=fun b h=>by
   obtain⟨m,oc1,h1,h2⟩:=h;rw[hob]at h1;rw[hloc]at h2;by_cases e:n=m
   ·rw[if_pos e]at h2
    rcases hlo b h2 with h|h
    ·exact .inl ⟨n,oc,hn0,h.1⟩
    ·exact .inr h
   ·rw[if_neg e]at h1 h2;exact .inl ⟨m,oc1,h1,h2⟩
  cell:=fun b o v ha hcell=>by
   have hlt:=cq S.w _ hcell;simp only at hlt;constructor
   ·by_cases hm:b∈(S.loc n).bs
    ·refine hc b o v hm ?_ hcell
     apply Nat.lt_of_not_le;intro hle;exact ha (.inr ⟨n,oc,hn0,hm,hle⟩)
    ·rw[World.cell?_of_block (w:=S.w) (w':=S'.w) (a:=⟨b,o,none⟩) (hb b hlt hm)];exact hcell
   ·intro h
    rcases h with h|⟨m,oc1,h1,h2,h3⟩
    ·rw[hO]at h;exact ha (.inl h)
    ·rw[hob]at h1;rw[hloc]at h2
     by_cases e:n=m
     ·rw[if_pos e]at h1 h2
      cases h1;rcases hlo b h2 with h|h
      ·exact ha (.inr ⟨n,oc,hn0,h.1,by omega⟩)
      ·omega
     ·rw[if_neg e]at h1 h2;exact ha (.inr ⟨m,oc1,h1,h2,h3⟩)
  block:=fun b hlt ho=>hb b hlt fun hm=>ho ⟨n,oc,hn0,hm⟩
  loc:=fun m _ hf=>by
   rw[hloc];by_cases e:n=m
   ·rw[if_pos e,<-e]
    have hl':=hl fun t ys e'=>by subst e;subst e';exact hf t ys hn0
    exact⟨hl'.1,fun hr=>hl'.2 fun t x e'=>by subst e';exact hr t x hn0⟩
   ·rw[if_neg e];exact oh rfl
  kind:=fun m oc1 _ h=>by
   rw[hob]at h;rw[hloc];by_cases e:n=m
   ·rw[if_pos e]at h ⊢;cases h;subst e;exact⟨oc,hn0,hk⟩
   ·rw[if_neg e]at h ⊢;exact⟨oc1,h,by cases oc1 <;> simp[aX]⟩}
 refine⟨ht,fun ho=>⟨fun m oc1 h =>?_,fun m1 m2 oc1 oc2 b h1 h2 h3 h4 =>?_,fun m oc1 b off h1 h2 =>?_,g.kT.tr ht⟩⟩
 ·rw[hob]at h
  rw[hloc];by_cases e:n=m
  ·rw[if_pos e]at h ⊢;cases h;exact⟨by rw[hn,<-e];exact(g.obj n oc hn0).1,ho⟩
  ·rw[if_neg e]at h ⊢
   obtain⟨h1,h2⟩:=g.obj m oc1 h;refine⟨by omega,h2.tr ht fun b hbm=>hb b (h2.inside b hbm) fun hbn=>e (g.apart n m oc oc1 b hn0 h hbn hbm)⟩
 ·rw[hob]at h1 h2;rw[hloc]at h3 h4
  have key:∀m oc1,n≠m->S.ob m=some oc1->b∈l'.bs->b∈(S.loc m).bs->False:=by
   intro m oc1 e hm hbl hbm;rcases hlo b hbl with h|h
   ·exact e (g.apart n m oc oc1 b hn0 hm h.1 hbm)
   ·have:=(g.obj m oc1 hm).2.inside b hbm;omega
  by_cases e:n=m1
  ·by_cases e':n=m2
   ·omega
   ·rw[if_pos e]at h3;rw[if_neg e']at h2 h4;exact(key m2 oc2 e' h2 h3 h4).elim
  ·rw[if_neg e]at h1 h3
   by_cases e':n=m2
   ·rw[if_pos e']at h4;exact(key m1 oc1 e h1 h4 h3).elim
   ·rw[if_neg e']at h2 h4;exact g.apart m1 m2 oc1 oc2 b h1 h2 h3 h4
 ·rw[hob]at h1;rw[hloc]at h2;rw[hO]
  by_cases e:n=m
  ·rw[if_pos e]at h2
   rcases hlo b h2 with h|h
   ·exact g.out n oc b off hn0 h.1
   ·intro hc';have:=hOin b off hc';omega
  ·rw[if_neg e]at h1 h2;exact g.out m oc1 b off h1 h2
end
def mf{a b:Nat}(h:b6 a b=true):a<b:=bm h
def KH{a b:Nat}(h:b6 a b=false):¬a<b:=fun k=>by
 have:b6 a b=true:=Nat.ble_eq_true_of_le k;rw[this]at h;cases h
def zeroCell:Ty->Value->Bool
 |.bool,.bool b =>!b
 |.int k,.int k' n=>decide (k=k')&&decide (n=0)
 |.str,.string s=>ad s.size 0
 |.err,.nilIface=>true
 |.slice _,.slice none l c=>ad l 0&&ad c 0
 |.gC,.pointer none=>true
 |.gC,.map none=>true
 |.gC,.nilFunc=>true
 |.gC,.nilIface=>true
 |_,_=>false
def fB:Ty->List Value->Bool
 |.prod a b,vs=>fB a (vs.take a.size)&&fB b (vs.drop a.size)
 |.unit,vs=>vs.isEmpty
 |t,[v]=>t.one&&zeroCell t v
 |_,_=>false
def pJ(ty:Ty):Nat->List Value->Bool
 |0,vs=>vs.isEmpty
 |n+1,vs=>fB ty (vs.take ty.size)&&pJ ty n (vs.drop ty.size)
def dR(f:TypeId->Ty->Bool):List Field->Nat->Ty->Bool
 |[],_,.unit=>true
 |g :: gs,off,.prod a b=>ad g.offset off&&f g.type a&&b6 0 a.size&&dR f gs (off+a.size) b
 |_,_,_=>false
def cA(f:TypeId->Ty->Bool):Ty->TypeDesc->Bool
 |.bool,.bool=>true
 |.int k,.int k'=>decide (k=k')
 |.str,.string=>true
 |.err,.interface _=>true
 |.slice e,.slice te=>f te e
 |.gC,.struct _=>false
 |.gC,.array _ _=>false
 |.gC,_=>true
 |.prod a b,.struct fs=>dR f fs.toList 0 (.prod a b)
 |.unit,.struct fs=>dR f fs.toList 0 .unit
 |_,_=>false
def fits(P:Program):Nat->TypeId->Ty->Bool
 |0,_,_=>false
 |n+1,t,ty=>match P.info? t,P.underlying t with
  |some i,some d=>ad i.size ty.size&&a7 i.bytes 4096&&
    (match i.zero with|some z=>fB ty z.cells.toList|none=>false)&&cA (fits P n) ty d
  |_,_=>false
structure Fit (P:Program) (t:TypeId) (ty:Ty) (i:TypeInfo) (d:TypeDesc):Prop where
 info:P.info? t=some i
 iz:P.underlying t=some d
 size:i.size=ty.size
 bytes:i.bytes<=4096
 zero:∃z,i.zero=some z/\fB ty z.cells.toList=true
def kU{P:Program}{n:Nat}{t:TypeId}{ty:Ty}(h:fits P n t ty=true) :
  ∃m i d,n=m+1/\Fit P t ty i d/\cA (fits P m) ty d=true:=by
 cases n with
 |zero=>simp[fits]at h
 |succ m=>
  simp only[fits]at h;split at h
  ·rename_i i d hi hd
   simp only[ao]at h;obtain⟨⟨⟨h1,h2⟩,h3⟩,h4⟩:=h;refine⟨m,i,d,rfl,⟨hi,hd,ar h1,bm h2,?_⟩,h4⟩;split at h3
   ·rename_i z hz;exact⟨z,hz,h3⟩
   ·cases h3
  ·cases h
def bV:(t:Ty)->D t
 |.bool=>false
 |.int _=>0
 |.str=>[]
 |.err =>.nil
 |.gC=>()
 |.unit=>()
 |.prod a b=>(bV a,bV b)
 |.slice _=>[]
def rE:Ty->List C
 |.gC=>[.any]
 |.unit=>[]
 |.prod a b=>rE a++rE b
 |.slice _=>[.jO]
 |.bool=>[.lit false]
 |.int k=>[.d (.int k) 0]
 |.str=>[.d .str []]
 |.err=>[.d .err .nil]
def cF{a b:Ty}(h:Ty.beq a b=true)(x:D a):D b:=Ty.eq_of_beq h▸x
def mQ{eT:TypeId}{a b:Ty}(h:Ty.beq a b=true)(x:D a){A:aI}{w:World}{vs:List Value}(hr:R eT a x A w vs):R eT b (cF h x) A w vs:=by
 have:=Ty.eq_of_beq h;subst this;exact hr
def lN{eT:TypeId}{a b:Ty}(h:Ty.beq a b=true)(x:D a){A:aI}{w:World}{v:Value}(hr:VR eT a x A w v):VR eT b (cF h x) A w v:=by
 have:=Ty.eq_of_beq h;subst this;exact hr
def sh(want:Ty):C->Option (D want)
 |.lit b=>match h:Ty.beq .bool want with
  |true=>some (cF h (a:=.bool) b)
  |false=>none
 |.d t x=>match h:Ty.beq t want with
  |true=>some (cF h x)
  |false=>none
 |.app t xs _=>match h:Ty.beq (.slice t) want with
  |true=>some (cF h (a:=.slice t) xs)
  |false=>none
 |.jO=>match want with
  |.slice _=>some []
  |_=>none
 |.emp=>match want with
  |.slice _=>some []
  |_=>none
 |_=>none
def mI:(t:Ty)->List C->Option (D t×List C)
 |.prod a b,cs=>match mI a cs with
  |some (x,cs1)=>match mI b cs1 with
   |some (y,cs2)=>some ((x,y),cs2)
   |none=>none
  |none=>none
 |.unit,cs=>some ((),cs)
 |t,c :: cs=>match sh t c with
  |some x=>some (x,cs)
  |none=>none
 |_,[]=>none
def qO(want:Ty):cP->Option (D want)
 |.one c=>sh want c
 |.agg cs=>match want.one with
  |true=>none
  |false=>match mI want cs with
   |some (x,[])=>some x
   |_=>none
def xZ:(t:Ty)->D t->List C
 |.prod a b,x=>xZ a x.1++xZ b x.2
 |.unit,_=>[]
 |t,x=>[.d t x]
def KI:(t:Ty)->D t->Nat->(want:Ty)->Option (D want)
 |.prod a b,x,off,want=>match(ad off 0&&Ty.beq (.prod a b) want)with
  |true=>match h:Ty.beq (.prod a b) want with
   |true=>some (cF h (a:=.prod a b) x)
   |false=>none
  |false=>match b6 off a.size with
   |true=>KI a x.1 off want
   |false=>KI b x.2 (off-a.size) want
 |t,x,off,want=>match ad off 0 with
  |true=>match h:Ty.beq t want with
   |true=>some (cF h x)
   |false=>none
  |false=>none
def comp:(t:Ty)->D t->Nat->Option ((u:Ty)×D u)
 |.prod a _,x,0=>some ⟨a,x.1⟩
 |.prod _ b,x,f+1=>comp b x.2 f
 |_,_,_=>none
def la:Ty->Nat->Option Nat
 |.prod _ _,0=>some 0
 |.prod a b,f+1=>match la b f with
  |some o=>some (a.size+o)
  |none=>none
 |_,_=>none
section
variable{eT:TypeId}{X:Ext}
def R.qq{e:Ty}{A:aI}{w:World}:R eT (.slice e) [] A w [.slice none 0 0]:=
 ⟨_,rfl,by simp,.inl ⟨rfl,none,0,rfl⟩⟩
def pK{S:bI}{want:Ty}{c:C}{x:D want}{v:Value}(h:sh want c=some x)(hc:CR eT S c v):VR eT want x S.A S.w v:=by
 cases c <;> simp only[sh]at h
 case lit b=>
  split at h
  ·cases h
   rename_i hb;exact lN hb _ (VR.cJ rfl (show R eT .bool b _ _ _ from by rw[show v=_ from hc];rfl))
  ·cases h
 case d t y=>
  split at h
  ·cases h;rename_i hb;exact lN hb _ hc
  ·cases h
 case app t xs n=>
  split at h
  ·cases h;rename_i hb;exact lN hb _ hc.1
  ·cases h
 case jO=>
  cases want <;> simp at h;subst h;rw[show v=_ from hc];exact VR.cJ rfl R.qq
 case emp=>
  cases want <;> simp at h;subst h;obtain⟨a,rfl⟩:=hc;exact VR.cJ rfl ⟨_,rfl,by simp,.inl ⟨rfl,a,0,rfl⟩⟩
 all_goals cases h
def yH{t:Ty}{x:D t}{A:aI}{w:World}{v:Value}(ho:v.oneCell'=true)(h:VR eT t x A w v):t.one=true/\R eT t x A w [v]:=by
 unfold VR at h;split at h
 ·rename_i h1;exact⟨h1,h⟩
 ·obtain⟨cs,rfl,_⟩:=h;simp[dk]at ho
def DQ{S:bI}:∀{t:Ty} {cs cs':List C} {x:D t} {vs:List Value},mI t cs=some (x,cs')->eC eT S cs vs->
  ∃us vs',vs=us++vs'/\R eT t x S.A S.w us/\eC eT S cs' vs':=by
 have one:∀{t:Ty} {c:C} {cs cs':List C} {x:D t} {vs:List Value},(match sh t c with|some x=>some (x,cs)|none=>none)=some (x,cs')->eC eT S (c :: cs) vs->
   ∃us vs',vs=us++vs'/\R eT t x S.A S.w us/\eC eT S cs' vs':=by
  intro t c cs cs' x vs h hc;cases hc with
  |cons h1 h2 h3=>
   rename_i v vs0;split at h
   ·rename_i y hy
    cases h;exact⟨[v],vs0,rfl,(yH h2 (pK hy h1)).2,h3⟩
   ·cases h
 intro t;induction t with
 |prod a b iha ihb=>
  intro cs cs' x vs h hc;simp only[mI]at h;split at h
  ·rename_i y cs1 h1
   split at h
   ·rename_i z cs2 h2
    cases h;obtain⟨u1,v1,rfl,r1,k1⟩:=iha h1 hc;obtain⟨u2,v2,rfl,r2,k2⟩:=ihb h2 k1;exact⟨u1++u2,v2,by simp,⟨u1,u2,rfl,r1,r2⟩,k2⟩
   ·cases h
  ·cases h
 |unit=>
  intro cs cs' x vs h hc;simp only[mI]at h;cases h;exact⟨[],vs,rfl,rfl,hc⟩
 |bool=>intro cs cs' x vs h hc;cases cs with|nil=>simp[mI]at h|cons c cs=>exact one (t:=.bool) h hc
 |int k=>intro cs cs' x vs h hc;cases cs with|nil=>simp[mI]at h|cons c cs=>exact one (t:=.int k) h hc
 |str=>intro cs cs' x vs h hc;cases cs with|nil=>simp[mI]at h|cons c cs=>exact one (t:=.str) h hc
 |err=>intro cs cs' x vs h hc;cases cs with|nil=>simp[mI]at h|cons c cs=>exact one (t:=.err) h hc
 |gC=>intro cs cs' x vs h hc;cases cs with|nil=>simp[mI]at h|cons c cs=>exact one (t:=.gC) h hc
 |slice e _=>intro cs cs' x vs h hc;cases cs with|nil=>simp[mI]at h|cons c cs=>exact one (t:=.slice e) h hc
def lO{S:bI}{want:Ty}{c:cP}{x:D want}{v:Value}(h:qO want c=some x)(hc:iv eT S c v):VR eT want x S.A S.w v:=by
 cases c with
 |one c=>exact pK h hc
 |agg cs=>
  simp only[qO]at h;obtain⟨vs,rfl,hcs⟩:=hc;split at h
  ·cases h
  ·rename_i ho
   split at h
   ·rename_i y hy
    cases h;obtain⟨us,vs',rfl,r,k⟩:=DQ hy hcs;cases k;unfold VR;rw[if_neg (by simp[ho])];exact⟨_,rfl,by simpa using r⟩
   ·cases h
def eC.append{S:bI}{cs cs':List C}{vs vs':List Value}(h:eC eT S cs vs)(h':eC eT S cs' vs'):eC eT S (cs++cs') (vs++vs'):=by
 induction h with
 |nil=>exact h'
 |cons h1 h2 _ ih=>exact .cons h1 h2 ih
def eC.length{S:bI}{cs:List C}{vs:List Value}(h:eC eT S cs vs):cs.length=vs.length:=by
 induction h with
 |nil=>rfl
 |cons _ _ _ ih=>simp[ih]
def eC.get{S:bI}{cs:List C}{vs:List Value}(h:eC eT S cs vs):∀{j:Nat} {c:C},cs[j]?=some c->∃v,vs[j]?=some v/\CR eT S c v/\v.oneCell'=true:=by
 induction h with
 |nil=>intro j c h;simp at h
 |cons h1 h2 _ ih=>
  intro j c h;cases j with
  |zero=>simp at h;subst h;exact⟨_,rfl,h1,h2⟩
  |succ j=>simp at h;simpa using ih h
def eC.drop{S:bI}{cs:List C}{vs:List Value}(h:eC eT S cs vs):∀k,eC eT S (cs.drop k) (vs.drop k):=by
 induction h with
 |nil=>intro k;simp;exact .nil
 |cons h1 h2 h3 ih=>
  intro k;cases k with
  |zero=>exact .cons h1 h2 h3
  |succ k=>exact ih k
def eC.take{S:bI}{cs:List C}{vs:List Value}(h:eC eT S cs vs):∀k,eC eT S (cs.take k) (vs.take k):=by
 induction h with
 |nil=>intro k;simp;exact .nil
 |cons h1 h2 h3 ih=>
  intro k;cases k with
  |zero=>exact .nil
  |succ k=>exact .cons h1 h2 (ih k)
def Js{S:bI}:∀{t:Ty} {x:D t} {vs:List Value},R eT t x S.A S.w vs->eC eT S (xZ t x) vs:=by
 intro t;induction t with
 |prod a b iha ihb=>
  intro x vs h;obtain⟨u1,u2,rfl,h1,h2⟩:=h;exact(iha h1).append (ihb h2)
 |unit=>intro x vs h;cases h;exact .nil
 |slice e _=>
  intro x vs h;have ho:=h.lj;obtain⟨v,rfl,hr⟩:=id h;exact .cons (VR.cJ rfl h) (ho v (by simp)) .nil
 |err=>
  intro x vs h;have ho:=h.lj;obtain⟨v,rfl,hr⟩:=id h;exact .cons (VR.cJ rfl h) (ho v (by simp)) .nil
 |bool=>intro x vs h;cases h;exact .cons (VR.cJ rfl rfl) rfl .nil
 |int k=>intro x vs h;have h':=h;obtain⟨rfl,_⟩:=h;exact .cons (VR.cJ rfl h') rfl .nil
 |str=>intro x vs h;have h':=h;obtain⟨rfl,_⟩:=h;exact .cons (VR.cJ rfl h') rfl .nil
 |gC=>intro x vs h;exact h.elim
def KJ:∀{t:Ty} {x:D t} {off:Nat} {want:Ty} {y:D want} {A:aI} {w:World} {vs:List Value},KI t x off want=some y->R eT t x A w vs->
  R eT want y A w ((vs.drop off).take want.size):=by
 have one:∀{t:Ty} {x:D t} {off:Nat} {want:Ty} {y:D want} {A:aI} {w:World} {vs:List Value},
   (match ad off 0 with|true=>(match h:Ty.beq t want with|true=>some (cF h x)|false=>none)|false=>none)=some y->R eT t x A w vs->
   R eT want y A w ((vs.drop off).take want.size):=by
  intro t x off want y A w vs h hr;split at h
  ·rename_i h0
   have h0:=ar h0;subst h0;split at h
   ·rename_i hb
    cases h;have e:=mQ hb x hr;have hl:=e.length;simp only[eh];rw[cb (by omega)];exact e
   ·cases h
  ·cases h
 intro t;induction t with
 |prod a b iha ihb=>
  intro x off want y A w vs h hr;simp only[KI]at h;split at h
  ·rename_i hb0
   simp at hb0;split at h
   ·rename_i hb
    cases h;have e:=mQ hb x hr;have hl:=e.length;rw[hb0.1,eh,cb (by omega)];exact e
   ·cases h
  ·obtain⟨u1,u2,rfl,r1,r2⟩:=hr
   have hl1:=r1.length;have hl2:=r2.length;split at h
   ·rename_i hlt
    have hlt:off<a.size:=mf hlt;have:=iha h r1;have hlw:=this.length;simp only[ah,ax]at hlw;rw[ei (by omega),dn (by simp only[ax];omega)];exact this
   ·rename_i hlt
    have hlt:¬off<a.size:=KH hlt;have:=ihb h r2;rw[ej,cr (by omega),dq];rw[hl1];exact this
 |unit=>intro x off want y A w vs h hr;exact one (t:=.unit) h hr
 |bool=>intro x off want y A w vs h hr;exact one (t:=.bool) h hr
 |int k=>intro x off want y A w vs h hr;exact one (t:=.int k) h hr
 |str=>intro x off want y A w vs h hr;exact one (t:=.str) h hr
 |err=>intro x off want y A w vs h hr;exact one (t:=.err) h hr
 |gC=>intro x off want y A w vs h hr;exact one (t:=.gC) h hr
 |slice e _=>intro x off want y A w vs h hr;exact one (t:=.slice e) h hr
end
def aM(n:Int):Prop:=-9223372036854775808<=n/\n<=9223372036854775807
def rp(n:Int):(az.min<=n/\n<=az.max)↔aM n:=by
 unfold aM;simp[bo,bd,bf,bg]
def VS:IntKind->Int->Bool
 |.i8,n=>decide (-128<=n)&&decide (n<=127)
 |.i16,n=>decide (-32768<=n)&&decide (n<=32767)
 |.i32,n=>decide (-2147483648<=n)&&decide (n<=2147483647)
 |.i64,n=>decide (-9223372036854775808<=n)&&decide (n<=9223372036854775807)
 |.u8,n=>decide (0<=n)&&decide (n<=255)
 |.u16,n=>decide (0<=n)&&decide (n<=65535)
 |.u32,n=>decide (0<=n)&&decide (n<=4294967295)
 |.u64,n=>decide (0<=n)&&decide (n<=18446744073709551615)
def aL.isNil:aL->Bool
 |.nil=>true
 |_=>false
def aL.LS:aL->Bool
 |.no _=>true
 |_=>false
def aL.num:aL->Int
 |.no n=>n
 |_=>0
def RC(op:BinOp)(a b:Int):Option Bool:=
 match op with
 |.eql=>some (a == b)
 |.neq=>some (a != b)
 |.lss=>some (decide (a<b))
 |.leq=>some (decide (a<=b))
 |.gtr=>some (decide (a > b))
 |.geq=>some (decide (a>=b))
 |_=>none
def F6(op:BinOp)(k:IntKind)(a b:Int):Option Int:=
 match op with
 |.and=>some (k.wrap (bw k.bits a&&&bw k.bits b).toNat)
 |.or=>some (k.wrap (bw k.bits a ||| bw k.bits b).toNat)
 |.xor=>some (k.wrap (bw k.bits a^^^bw k.bits b).toNat)
 |.andNot=>some (k.wrap (bw k.bits a&&&~~~(bw k.bits b)).toNat)
 |_=>none
def RD(op:BinOp)(a b:List UInt8):Option Bool:=
 match op with
 |.eql=>some (a == b)
 |.neq=>some (!(a == b))
 |.lss=>some (ct a b)
 |.leq=>some (ct a b || a == b)
 |.gtr=>some (!(ct a b || a == b))
 |.geq=>some (!(ct a b))
 |_=>none
def qZ(r:Int)(K:Int->VC):VC:=.all Int fun x =>.imp (x=r) (K x)
def ia{r:Int}{K:Int->VC}(h:(qZ r K).holds):(K r).holds:=h r rfl
def arith(k:IntKind)(a b r:Int)(K:C->VC):VC:=
 match k with
 |.i64 =>.imp (aM a) (.imp (aM b) (.and (aM r) (K (.d (.int .i64) r))))
 |k=>qZ (k.wrap r) fun x=>K (.d (.int k) x)
def VT(op:BinOp)(k k':IntKind)(a b:Int)(K:C->VC):VC:=
 match op with
 |.shl =>.and (0<=b) (qZ (k.wrap (a*2^(min b.toNat k.bits))) fun x=>K (.d (.int k) x))
 |.shr =>.and (0<=b) (qZ (a.fdiv (2^(min b.toNat k.bits))) fun x=>K (.d (.int k) x))
 |op=>match decide (k=k')with
  |false =>.ff
  |true=>match op with
   |.add=>arith k a b (a+b) K
   |.sub=>arith k a b (a-b) K
   |.mul=>qZ (a*b) fun x=>arith k a b x K
   |.quo =>.and (b≠0) (qZ (a.tdiv b) fun x=>arith k a b x K)
   |.rem =>.and (b≠0) (qZ (a.tmod b) fun x=>K (.d (.int k) x))
   |op=>match RC op a b with
    |some r=>K (.d .bool r)
    |none=>match F6 op k a b with
     |some r=>qZ r fun x=>K (.d (.int k) x)
     |none =>.ff
def nv:C->Option Bool
 |.lit b=>some b
 |.d .bool b=>some b
 |_=>none
def Ac:C->Bool
 |.d .err .nil=>true
 |_=>false
def uk(op:BinOp)(x y:C)(ny:Bool)(K:C->VC):VC:=
 match x,y with
 |.d (.int k) a,.d (.int k') b=>VT op k k' a b K
 |.d .str a,.d .str b=>match op with
  |.add =>.and (a.length+b.length<=aN) (K (.d .str (a++b)))
  |op=>match RD op a b with
   |some r=>K (.d .bool r)
   |none =>.ff
 |.d .err e,y=>match ny&&Ac y with
  |false =>.ff
  |true=>match op with
   |.eql=>K (.d .bool e.isNil)
   |.neq=>K (.d .bool (!e.isNil))
   |_ =>.ff
 |x,y=>match nv x,nv y with
  |some a,some b=>match op with
   |.eql=>K (.d .bool (a == b))
   |.neq=>K (.d .bool (!(a == b)))
   |_ =>.ff
  |_,_ =>.ff
def RE(op:UnOp)(x:C)(K:C->VC):VC:=
 match op,x with
 |.not,.lit b=>match b with
  |true=>K (.lit false)
  |false=>K (.lit true)
 |.not,.d .bool b=>K (.d .bool (!b))
 |.neg,.d (.int k) a=>arith k 0 a (0-a) K
 |_,_ =>.ff
def VU(k k':IntKind):Bool:=decide (k'.min<=k.min)&&decide (k.max<=k'.max)
def Gm(dst:Ty)(x:C)(K:C->VC):VC:=
 match dst,x with
 |.int k',.d (.int k) a=>match VU k k' with
  |true=>K (.d (.int k') a)
  |false=>K (.d (.int k') (k'.wrap a))
 |_,_ =>.ff
def Gn:Value->C
 |.bool b =>.lit b
 |.int k n=>match VS k n with
  |true =>.d (.int k) n
  |false =>.any
 |.string s=>match a7 s.size aN with
  |true =>.d .str s.data.toList
  |false =>.any
 |.nilIface =>.d .err .nil
 |.slice none 0 0 =>.jO
 |.pointer none =>.gX
 |_ =>.any
def ev(env:List (Nat×SV)):Operand->SV
 |.tmp t=>match look env t with
  |some v=>v
  |none =>.s (.one .any)
 |.const v =>.s (.one (Gn v))
 |.func f =>.s (.one (.fn f []))
 |.global _ =>.s (.one .any)
def eA(env:List (Nat×SV))(x:Operand):C:=
 match ev env x with
 |.s (.one c)=>c
 |_ =>.any
def qX(env:List (Nat×SV))(x:Operand):cP:=
 match ev env x with
 |.s c=>c
 |_ =>.one .any
section
variable{eT:TypeId}{X:Ext}
def gA(eT:TypeId)(S:bI)(env:List (Nat×SV))(a:Act):Prop:=∀t sv,look env t=some sv->dI eT S sv (a.tmps.getD t undef)
def Jt{k:IntKind}{n:Int}(h:VS k n=true):k.min<=n/\n<=k.max:=by
 cases k <;> simp[VS,bo,bd,bf,bg]at h ⊢ <;> omega
def cS{S:bI}{k:IntKind}{n:Int}{v:Value}:CR eT S (.d (.int k) n) v↔v=.int k n/\k.min<=n/\n<=k.max:=by
 show VR eT (.int k) n S.A S.w v↔_;unfold VR R;simp[Ty.one]
def jE{S:bI}{s:List UInt8}{v:Value}:CR eT S (.d .str s) v↔v=.string ⟨s.toArray⟩/\s.length<=aN:=by
 show VR eT .str s S.A S.w v↔_;unfold VR R;simp[Ty.one]
def eP{S:bI}{b:Bool}{v:Value}:CR eT S (.d .bool b) v↔v=.bool b:=by
 show VR eT .bool b S.A S.w v↔_;unfold VR R;simp[Ty.one]
def nw{S:bI}{e:aL}{v:Value}:CR eT S (.d .err e) v↔Rz eT e v:=by
 show VR eT .err e S.A S.w v↔_;unfold VR R;simp[Ty.one]
def LU(S:bI)(v:Value):CR eT S (Gn v) v:=by
 unfold Gn;split
 ·rfl
 ·split
  ·rename_i h;exact cS.2 ⟨rfl,Jt h⟩
  ·trivial
 ·split
  ·rename_i s h;exact jE.2 ⟨by rw[dr],by have:=bm h;rw[ai];exact this⟩
  ·trivial
 ·exact nw.2 rfl
 ·rfl
 ·rfl
 ·trivial
def lk{S:bI}{env:List (Nat×SV)}{a:Act}(h:gA eT S env a)(x:Operand):dI eT S (ev env x) (a.eval x):=by
 cases x with
 |tmp t=>
  simp only[ev];split
  ·rename_i v hv;exact h t v hv
  ·trivial
 |const v=>exact LU S v
 |func f=>exact⟨rfl,fun n hn=>by simp at hn⟩
 |global g=>trivial
def bM{S:bI}{env:List (Nat×SV)}{a:Act}(h:gA eT S env a)(x:Operand):CR eT S (eA env x) (a.eval x):=by
 have:=lk h x;unfold eA;split
 ·rename_i c hc;rw[hc]at this;exact this
 ·trivial
def ll{S:bI}{env:List (Nat×SV)}{a:Act}(h:gA eT S env a)(x:Operand):iv eT S (qX env x) (a.eval x):=by
 have:=lk h x;unfold qX;split
 ·rename_i c hc;rw[hc]at this;exact this
 ·trivial
def o4(k:IntKind)(n:Int):k.min<=k.wrap n/\k.wrap n<=k.max:=wrap_within k n
def x4{k:IntKind}{n:Int}(h:k.min<=n/\n<=k.max):k.wrap n=n:=by
 cases k <;> simp[bo,bd,bf,bg]at h
 ·exact IntWalk.i8_in n h
 ·exact IntWalk.i16_in n h
 ·exact IntWalk.i32_in n h
 ·exact IntWalk.i64_in n h
 ·exact IntWalk.u8_in n h
 ·exact IntWalk.u16_in n h
 ·exact IntWalk.u32_in n h
 ·exact IntWalk.u64_in n h
def qt{S:bI}{k:IntKind}{a b r:Int}{K:C->VC}(ha:k.min<=a/\a<=k.max)(hb:k.min<=b/\b<=k.max)(h:(arith k a b r K).holds) :
  ∃c,(K c).holds/\CR eT S c (.int k (k.wrap r)):=by
 have key:∀k:IntKind,(K (.d (.int k) (k.wrap r))).holds->∃c,(K c).holds/\CR eT S c (.int k (k.wrap r)):=
  fun k h=>⟨_,h,cS.2 ⟨rfl,o4 k r⟩⟩
 cases k
 case i64=>
  obtain⟨h1,h2⟩:=h ((rp a).1 ha) ((rp b).1 hb);have hr:=(rp r).2 h1;rw[x4 hr];exact⟨_,h2,cS.2 ⟨rfl,hr⟩⟩
 all_goals exact key _ (ia h)
def LV{k:IntKind}{a b:Int}(ha:k.min<=a/\a<=k.max):k.min<=a.tmod b/\a.tmod b<=k.max:=by
 have h0:k.min<=0/\0<=k.max:=by cases k <;> simp[bo,bd,bf,bg]
 rcases Int.le_total 0 a with h|h
 ·have h1:=ek b h
  have h2:a.tmod b<=a:=by
   by_cases hb:b=0
   ·subst hb;simp
   ·have h3:=en a b
    have:(a.tmod b).natAbs<=a.natAbs:=by rw[h3];exact Nat.mod_le _ _
    omega
  omega
 ·have h1:(-a).tmod b= -(a.tmod b):=Int.neg_tmod a b
  have h2:=ek (a:=-a) b (by omega);have h3:=en a b;have:(a.tmod b).natAbs<=a.natAbs:=by rw[h3];exact Nat.mod_le _ _
  omega
def LW{k:IntKind}{a:Int}(n:Nat)(ha:k.min<=a/\a<=k.max):k.min<=a.fdiv (2^n)/\a.fdiv (2^n)<=k.max:=by
 have h0:k.min<=0/\0<=k.max:=by cases k <;> simp[bo,bd,bf,bg]
 have hp:(0:Int)<2^n:=Int.pow_pos (by decide);rw[Int.fdiv_eq_ediv_of_nonneg _ (Int.le_of_lt hp)];rcases Int.le_total 0 a with h|h
 ·have h1:=Int.ediv_nonneg h (Int.le_of_lt hp)
  have h2:=Int.ediv_le_self (2^n:Int) h;omega
 ·have h1:a / 2^n<=0:=by
   have:=Int.ediv_le_ediv hp h;simpa using this
  have h2:a<=a / 2^n:=by
   rw[Int.le_ediv_iff_mul_le hp];have:(1:Int)<=2^n:=hp;have:=Int.mul_le_mul_of_nonpos_left h this;omega
  omega
def RG{S:bI}{op:BinOp}{k k':IntKind}{a b:Int}{K:C->VC}{P:Program}(t:TypeId)(ha:k.min<=a/\a<=k.max)(hb:k'.min<=b/\b<=k'.max)
  (h:(VT op k k' a b K).holds):∃c v,(K c).holds/\CR eT S c v/\∀w,(binOp op t (.int k a) (.int k' b)).run P w=.ok v w:=by
 have cmp:∀r,RC op a b=some r->k=k'->(K (.d .bool r)).holds->∃c v,(K c).holds/\CR eT S c v/\∀w,(binOp op t (.int k a) (.int k' b)).run P w=.ok v w:=by
  intro r hr hk h9;subst hk;refine⟨_,_,h9,eP.2 rfl,fun w =>?_⟩;cases op <;> simp[RC]at hr <;> subst hr <;> simp[binOp,Op.intCmp]
 have bit:∀r,F6 op k a b=some r->k=k'->(K (.d (.int k) r)).holds->∃c v,(K c).holds/\CR eT S c v/\∀w,(binOp op t (.int k a) (.int k' b)).run P w=.ok v w:=by
  intro r hr hk h9;subst hk;have:k.min<=r/\r<=k.max:=by
   cases op <;> simp[F6]at hr <;> subst hr <;> exact o4 _ _
  refine⟨_,_,h9,cS.2 ⟨rfl,this⟩,fun w =>?_⟩;cases op <;> simp[F6]at hr <;> subst hr <;> simp[binOp,Op.intBits]
 have eqk:∀{v:VC},(match decide (k=k')with|false=>VC.ff|true=>v).holds->k=k'/\v.holds:=by
  intro v h;split at h
  ·exact h.elim
  ·rename_i hk;exact⟨by simpa using hk,h⟩
 cases op
 case shl=>
  obtain⟨h1,h2⟩:=h;refine⟨_,_,ia h2,cS.2 ⟨rfl,o4 k _⟩,fun w =>?_⟩;simp only[binOp,Op.shift,if_neg (Int.not_lt.2 h1),b7]
 case shr=>
  obtain⟨h1,h2⟩:=h;refine⟨_,_,ia h2,cS.2 ⟨rfl,LW _ ha⟩,fun w =>?_⟩;simp only[binOp,Op.shift,if_neg (Int.not_lt.2 h1),b7]
 case add=>
  obtain⟨hk,h9⟩:=eqk h;subst hk;obtain⟨c,h3,h4⟩:=qt (S:=S) (eT:=eT) ha hb h9;exact⟨c,_,h3,h4,fun w=>by simp[binOp,cc]⟩
 case sub=>
  obtain⟨hk,h9⟩:=eqk h;subst hk;obtain⟨c,h3,h4⟩:=qt (S:=S) (eT:=eT) ha hb h9;exact⟨c,_,h3,h4,fun w=>by simp[binOp,cc]⟩
 case mul=>
  obtain⟨hk,h9⟩:=eqk h;subst hk;obtain⟨c,h3,h4⟩:=qt (S:=S) (eT:=eT) ha hb (ia h9);exact⟨c,_,h3,h4,fun w=>by simp[binOp,cc]⟩
 case quo=>
  obtain⟨hk,h0,h9⟩:=eqk h;subst hk;obtain⟨c,h3,h4⟩:=qt (S:=S) (eT:=eT) ha hb (ia h9);exact⟨c,_,h3,h4,fun w=>by simp[binOp,Op.intDiv,h0]⟩
 case rem=>
  obtain⟨hk,h0,h9⟩:=eqk h;subst hk;exact⟨_,_,ia h9,cS.2 ⟨rfl,LV ha⟩,fun w=>by simp[binOp,Op.intDiv,h0]⟩
 case and=>obtain⟨hk,h9⟩:=eqk h;exact bit _ rfl hk (ia h9)
 case or=>obtain⟨hk,h9⟩:=eqk h;exact bit _ rfl hk (ia h9)
 case xor=>obtain⟨hk,h9⟩:=eqk h;exact bit _ rfl hk (ia h9)
 case andNot=>obtain⟨hk,h9⟩:=eqk h;exact bit _ rfl hk (ia h9)
 case eql=>obtain⟨hk,h9⟩:=eqk h;exact cmp _ rfl hk h9
 case neq=>obtain⟨hk,h9⟩:=eqk h;exact cmp _ rfl hk h9
 case lss=>obtain⟨hk,h9⟩:=eqk h;exact cmp _ rfl hk h9
 case leq=>obtain⟨hk,h9⟩:=eqk h;exact cmp _ rfl hk h9
 case gtr=>obtain⟨hk,h9⟩:=eqk h;exact cmp _ rfl hk h9
 case geq=>obtain⟨hk,h9⟩:=eqk h;exact cmp _ rfl hk h9
def toList_mk(l:List UInt8):(⟨l.toArray⟩:ByteArray).toList=l:=by
 rw[ByteArray.toList_eq]
end
section
variable{eT:TypeId}{X:Ext}
def Operand.Oj:Operand->Bool
 |.const _=>true
 |_=>false
def yI{S:bI}{c:C}{b:Bool}{v:Value}(h:nv c=some b)(hc:CR eT S c v):v=.bool b:=by
 unfold nv at h;split at h
 ·cases h;exact hc
 ·cases h;exact eP.1 hc
 ·cases h
def Gp{S:bI}{c:C}{v:Value}(h:Ac c=true)(hc:CR eT S c v):v=.nilIface:=by
 unfold Ac at h;split at h
 ·exact nw.1 hc
 ·cases h
def Ad{e:aL}{v:Value}(h:Rz eT e v):(e=.nil/\v=.nilIface)\/(e.isNil=false/\∃t u,v=.iface t u):=by
 cases e with
 |nil=>exact .inl ⟨rfl,h⟩
 |no n=>exact .inr ⟨rfl,_,_,h.1⟩
 |other=>obtain⟨t,u,h,_⟩:=h;exact .inr ⟨rfl,t,u,h⟩
def om{P:Program}{op:BinOp}{t:TypeId}{x y:Operand}{a b:Value}(ha:∀cs,a≠.agg cs)(hn:a≠.nilIface\/b≠.nilIface\/Operand.Oj y=true)(w:World) :
  (eqGuard op t x y a b).run P w=.ok () w:=by
 have key:∀o:BinOp,(o=.eql\/o=.neq)->(eqGuard o t x y a b).run P w=.ok () w:=by
  intro o ho;rcases ho with rfl|rfl
  all_goals
   unfold eqGuard;simp only[eo,bh,if_false];split
   ·rcases hn with hn|hn|hn
    ·exact(hn rfl).elim
    ·exact(hn rfl).elim
    ·cases y <;> simp[Operand.Oj]at hn
     simp
   ·rename_i cs _;exact(ha cs rfl).elim
   ·simp
 cases op
 case eql=>exact key _ (.inl rfl)
 case neq=>exact key _ (.inr rfl)
 all_goals simp[eqGuard]
def Gq{P:Program}{t:TypeId}(d:Nat)(hu:P.underlying t=some .bool)(a b:Bool)(w:World):(au (d+1) t (.bool a) (.bool b)).run P w=.ok (a == b) w:=by
 simp[au,run_underlying hu]
def Ae{P:Program}{t:TypeId}{ms:Array (String×TypeId)}(d:Nat)(hu:P.underlying t=some (.interface ms))(w:World):(au (d+1) t .nilIface .nilIface).run P w=.ok true w:=by
 simp[au,run_underlying hu]
def yD{P:Program}{t:TypeId}{ms:Array (String×TypeId)}(d:Nat)(hu:P.underlying t=some (.interface ms))(t':TypeId)(u:Value)(w:World):(au (d+1) t (.iface t' u) .nilIface).run P w=.ok false w:=by
 simp[au,run_underlying hu]
def LX{P:Program}{t:TypeId}(hu:P.underlying t=some .bool)(a b:Bool)(w:World):(bp t (.bool a) (.bool b)).run P w=.ok (a == b) w:=
 Gq 9999 hu a b w
def CX{P:Program}{t:TypeId}{ms:Array (String×TypeId)}(hu:P.underlying t=some (.interface ms))(w:World):(bp t .nilIface .nilIface).run P w=.ok true w:=
 Ae 9999 hu w
def Bn{P:Program}{t:TypeId}{ms:Array (String×TypeId)}(hu:P.underlying t=some (.interface ms))(t':TypeId)(u:Value)(w:World):(bp t (.iface t' u) .nilIface).run P w=.ok false w:=
 yD 9999 hu t' u w
def Ok{S:bI}{op:BinOp}{x y:C}{ny:Bool}{K:C->VC}{P:Program}{t:TypeId}{xo yo:Operand}{v1 v2:Value}
  (hb:∀b,nv x=some b->P.underlying t=some .bool)(he:∀e,x=.d .err e->∃ms,P.underlying t=some (.interface ms))
  (hx:CR eT S x v1)(hy:CR eT S y v2)(hny:ny=true->Operand.Oj yo=true)
  (h:(uk op x y ny K).holds):∃c v,(K c).holds/\CR eT S c v/\∀w,(do eqGuard op t xo yo v1 v2;binOp op t v1 v2:Sem Value).run P w=.ok v w:=by
 unfold uk at h;split at h
 ·rename_i k a k' b
  obtain⟨rfl,ha⟩:=cS.1 hx;obtain⟨rfl,hb'⟩:=cS.1 hy;obtain⟨c,v,h1,h2,h3⟩:=RG (P:=P) t ha hb' h;refine⟨c,v,h1,h2,fun w =>?_⟩;rw[aj,om (by simp) (.inl (by simp))];exact h3 w
 ·rename_i a b
  obtain⟨rfl,ha⟩:=jE.1 hx;obtain⟨rfl,hb'⟩:=jE.1 hy;have hg:∀w,(eqGuard op t xo yo (.string ⟨a.toArray⟩) (.string ⟨b.toArray⟩)).run P w=.ok () w:=fun w=>om (by simp) (.inl (by simp)) w
  have cmp:∀r,RD op a b=some r->(K (.d .bool r)).holds->
    ∃c v,(K c).holds/\CR eT S c v/\∀w,(do eqGuard op t xo yo (.string ⟨a.toArray⟩) (.string ⟨b.toArray⟩);binOp op t (.string ⟨a.toArray⟩) (.string ⟨b.toArray⟩):Sem Value).run P w=.ok v w:=by
   intro r hr h9;refine⟨_,_,h9,eP.2 rfl,fun w =>?_⟩;rw[aj,hg];cases op <;> simp only[RD,reduceCtorEq,dt]at hr <;> subst hr <;> simp[binOp,Op.stringOp]
  split at h
  ·obtain⟨h1,h2⟩:=h
   refine⟨_,_,h2,jE.2 ⟨rfl,by rw[ae];exact h1⟩,fun w =>?_⟩;rw[aj,hg];have hs:¬((((⟨a.toArray⟩:ByteArray).size+(⟨b.toArray⟩:ByteArray).size:Nat):Int) > az.max):=by
    show ¬(((a.length+b.length:Nat):Int) > az.max);have:az.max=9223372036854775807:=by simp[bd,bf,bg]
    rw[this];unfold aN at h1;omega
   simp only[av,binOp,Op.stringOp,if_neg hs,b7];congr 2
  ·split at h
   ·rename_i r hr;exact cmp r hr h
   ·exact h.elim
 ·rename_i e
  obtain⟨ms,hu⟩:=he e rfl;split at h
  ·exact h.elim
  ·rename_i hn
   simp only[ao]at hn;have hv2:=Gp hn.2 hy;subst hv2;have hyo:=hny hn.1;have hg:∀w,(eqGuard op t xo yo v1 .nilIface).run P w=.ok () w:=fun w=>om
    (by rcases Ad (nw.1 hx)with⟨_,rfl⟩|⟨_,_,_,rfl⟩ <;> simp) (.inr (.inr hyo)) w
   have heq:∀w,(bp t v1 .nilIface).run P w=.ok e.isNil w:=by
    intro w;rcases Ad (nw.1 hx)with⟨rfl,rfl⟩|⟨h1,t',u,rfl⟩
    ·exact CX hu w
    ·rw[h1];exact Bn hu t' u w
   have hnb:∀o,(o=BinOp.eql\/o=BinOp.neq)->∀w,(binOp o t v1 .nilIface).run P w=.ok (.bool (if o=.eql then e.isNil else !e.isNil)) w:=by
    intro o ho w;have hform:v1=.nilIface\/∃t' u,v1=.iface t' u:=by
     rcases Ad (nw.1 hx)with⟨_,h⟩|⟨_,t',u,h⟩
     ·exact .inl h
     ·exact .inr ⟨t',u,h⟩
    rcases ho with rfl|rfl <;> rcases hform with rfl|⟨t',u,rfl⟩ <;> simp[binOp,heq]
   split at h
   ·refine⟨_,_,h,eP.2 rfl,fun w =>?_⟩
    rw[aj,hg];simpa using hnb .eql (.inl rfl) w
   ·refine⟨_,_,h,eP.2 rfl,fun w =>?_⟩
    rw[aj,hg];simpa using hnb .neq (.inr rfl) w
   ·exact h.elim
 ·split at h
  ·rename_i a b ha hb'
   have hu:=hb a ha;have h1:=yI ha hx;have h2:=yI hb' hy;subst h1;subst h2;have hg:∀w,(eqGuard op t xo yo (.bool a) (.bool b)).run P w=.ok () w:=fun w=>om (by simp) (.inl (by simp)) w
   have heq:∀w,(bp t (.bool a) (.bool b)).run P w=.ok (a == b) w:=by
    intro w;exact LX hu a b w
   split at h
   ·refine⟨_,_,h,eP.2 rfl,fun w =>?_⟩
    rw[aj,hg];simp[binOp,heq]
   ·refine⟨_,_,h,eP.2 rfl,fun w =>?_⟩
    rw[aj,hg];simp[binOp,heq]
   ·exact h.elim
  ·exact h.elim
def RH{S:bI}{op:UnOp}{x:C}{K:C->VC}{P:Program}{v1:Value}(hx:CR eT S x v1)(h:(RE op x K).holds) :
  ∃c v,(K c).holds/\CR eT S c v/\∀w,(cd op v1).run P w=.ok v w:=by
 unfold RE at h;split at h
 ·rw[show v1=_ from hx]
  split at h
  ·exact⟨_,_,h,rfl,fun w=>by simp[cd]⟩
  ·exact⟨_,_,h,rfl,fun w=>by simp[cd]⟩
 ·rw[eP.1 hx]
  exact⟨_,_,h,eP.2 rfl,fun w=>by simp[cd]⟩
 ·rename_i k a
  obtain⟨rfl,ha⟩:=cS.1 hx;have h0:k.min<=0/\0<=k.max:=by cases k <;> simp[bo,bd,bf,bg]
  obtain⟨c,h3,h4⟩:=qt (S:=S) (eT:=eT) h0 ha h;exact⟨c,_,h3,h4,fun w=>by simp[cd,cc]⟩
 ·exact h.elim
def LY{S:bI}{dst:Ty}{x:C}{K:C->VC}{P:Program}{v1:Value}{sT dT:TypeId}{ds dd:TypeDesc}
  (hs:P.underlying sT=some ds)(hd:P.underlying dT=some dd)(hdd:∀k,dst=.int k->dd=.int k)
  (hx:CR eT S x v1)(h:(Gm dst x K).holds) :
  ∃c v,(K c).holds/\CR eT S c v/\∀w,(convert sT dT v1).run P w=.ok v w:=by
 unfold Gm at h;split at h
 ·rename_i k' k a
  have:=hdd k' rfl;subst this;obtain⟨rfl,ha⟩:=cS.1 hx;have hrun:∀w,(convert sT dT (.int k a)).run P w=.ok (.int k' (k'.wrap a)) w:=by
   intro w;cases ds <;> simp[convert,run_underlying hs,run_underlying hd,Conv.intToInt]
  split at h
  ·rename_i hk
   simp[VU]at hk;have:k'.min<=a/\a<=k'.max:=⟨Int.le_trans hk.1 ha.1,Int.le_trans ha.2 hk.2⟩;exact⟨_,_,h,cS.2 ⟨rfl,this⟩,fun w=>by rw[hrun,x4 this]⟩
  ·exact⟨_,_,h,cS.2 ⟨rfl,o4 k' a⟩,fun w=>hrun w⟩
 ·exact h.elim
end
def q7:∀{t:Ty},t.fA=true->t.flat=true:=by
 intro t;induction t with
 |prod a b iha ihb=>intro h;simp[Ty.fA]at h;simp[Ty.flat,iha h.1,ihb h.2]
 |slice e _=>intro h;simp[Ty.fA]at h
 |_=>intro _;rfl
def j0:∀{t:Ty} {e1 e2:TypeId} {x:D t} {A A':aI} {w w':World} {us:List Value},t.fA=true->R e1 t x A w us->R e2 t x A' w' us:=by
 intro t;induction t with
 |prod a b iha ihb=>
  intro e1 e2 x A A' w w' us h hr;simp[Ty.fA]at h;obtain⟨u1,u2,rfl,h1,h2⟩:=hr;exact⟨u1,u2,rfl,iha h.1 h1,ihb h.2 h2⟩
 |slice e _=>intro e1 e2 x A A' w w' us h;simp[Ty.fA]at h
 |err=>intro e1 e2 x A A' w w' us h;simp[Ty.fA]at h
 |gC=>intro e1 e2 x A A' w w' us h;simp[Ty.fA]at h
 |bool=>intro e1 e2 x A A' w w' us _ h;exact h
 |int k=>intro e1 e2 x A A' w w' us _ h;exact h
 |str=>intro e1 e2 x A A' w w' us _ h;exact h
 |unit=>intro e1 e2 x A A' w w' us _ h;exact h
def nx{t:Ty}{s:nQ (.slice t)}(h:spot (.slice t)=some s):t.fA=true/\t.size=1/\s=⟨0,t,fun y=>y,fun _ ys=>ys⟩:=by
 unfold spot at h;split at h
 ·rename_i hb
  simp only[ao]at hb;cases h;exact⟨hb.1,ar hb.2,rfl⟩
 ·cases h
def oP{a b:Ty}{s:nQ (.prod a b)}(h:spot (.prod a b)=some s) :
  (∃s',spot a=some s'/\b.fA=true/\s=⟨s'.off,s'.t,fun y=>s'.get y.1,fun y ys=>(s'.put y.1 ys,y.2)⟩)\/
  (∃s',a.fA=true/\spot b=some s'/\s=⟨a.size+s'.off,s'.t,fun y=>s'.get y.2,fun y ys=>(y.1,s'.put y.2 ys)⟩):=by
 rw[spot]at h;split at h
 ·rename_i s' hs
  split at h
  ·rename_i hb;cases h;exact .inl ⟨s',hs,hb,rfl⟩
  ·cases h
 ·split at h
  ·rename_i s' ha hs;cases h;exact .inr ⟨s',ha,hs,rfl⟩
  ·cases h
def rF:∀{e:Ty} {s:nQ e},spot e=some s->s.t.fA=true/\s.t.size=1:=by
 intro e;induction e with
 |slice t _=>intro s h;obtain⟨h1,h2,rfl⟩:=nx h;exact⟨h1,h2⟩
 |prod a b iha ihb=>
  intro s h;rcases oP h with⟨s',h1,_,rfl⟩|⟨s',_,h1,rfl⟩
  ·exact iha h1
  ·exact ihb h1
 |_=>intro s h;cases h
def tB:∀{e:Ty} {s:nQ e},spot e=some s->s.off<e.size:=by
 intro e;induction e with
 |slice t _=>intro s h;obtain⟨_,_,rfl⟩:=nx h;exact Nat.one_pos
 |prod a b iha ihb=>
  intro s h;simp only[Ty.size];rcases oP h with⟨s',h1,_,rfl⟩|⟨s',_,h1,rfl⟩
  ·have:=iha h1;simp only;omega
  ·have:=ihb h1;simp only;omega
 |_=>intro s h;cases h
def Gr:∀{e:Ty} {s:nQ e} {y:D e} {A:aI} {w:World} {us:List Value} {h:Value} {eT:TypeId},spot e=some s->R eT e y A w us->us[s.off]?=some h->R eT (.slice s.t) (s.get y) A w [h]:=by
 intro e;induction e with
 |slice t _=>
  intro s y A w us h eT hs hr hu;obtain⟨_,_,rfl⟩:=nx hs;obtain⟨v,rfl,h2⟩:=hr;simp at hu;subst hu;exact⟨v,rfl,h2⟩
 |prod a b iha ihb=>
  intro s y A w us h eT hs hr hu;obtain⟨u1,u2,rfl,r1,r2⟩:=hr;rcases oP hs with⟨s',h1,_,rfl⟩|⟨s',_,h1,rfl⟩
  ·have:=tB h1
   simp only at hu;rw[List.getElem?_append_left (by rw[r1.length];omega)]at hu;exact iha h1 r1 hu
  ·simp only at hu
   rw[List.getElem?_append_right (by rw[r1.length];omega),r1.length,cu]at hu;exact ihb h1 r2 hu
 |_=>intro s y A w us h eT hs;cases hs
def RI:∀{e:Ty} {s:nQ e} {y:D e} {ys:List (D s.t)} {A A':aI} {w w':World} {us:List Value} {h:Value} {eT:TypeId},spot e=some s->R eT e y A w us->us[s.off]?=some h->
  R eT (.slice s.t) ys A' w' [h]->R eT e (s.put y ys) A' w' us:=by
 intro e;induction e with
 |slice t _=>
  intro s y ys A A' w w' us h eT hs hr hu hy;obtain⟨_,_,rfl⟩:=nx hs;obtain⟨v,rfl,h2⟩:=hr;simp at hu;subst hu;exact hy
 |prod a b iha ihb=>
  intro s y ys A A' w w' us h eT hs hr hu hy;obtain⟨u1,u2,rfl,r1,r2⟩:=hr;rcases oP hs with⟨s',h1,hb,rfl⟩|⟨s',ha,h1,rfl⟩
  ·have:=tB h1
   simp only at hu;rw[List.getElem?_append_left (by rw[r1.length];omega)]at hu;exact⟨u1,u2,rfl,iha h1 r1 hu hy,r2.of_flat (q7 hb)⟩
  ·simp only at hu
   rw[List.getElem?_append_right (by rw[r1.length];omega),r1.length,cu]at hu;exact⟨u1,u2,rfl,r1.of_flat (q7 ha),ihb h1 r2 hu hy⟩
 |_=>intro s y ys A A' w w' us h eT hs;cases hs
def Af{t:Ty}{e1 e2:TypeId}{xs:List (D t)}{A:aI}{w:World}{us:List Value}(ht:t.fA=true)(h:R e1 (.slice t) xs A w us):R e2 (.slice t) xs A w us:=by
 obtain⟨v,rfl,hl,h⟩:=h;refine⟨v,rfl,hl,?_⟩;rcases h with h|⟨b,o,cap,h1,h2,h3⟩
 ·exact .inl h
 ·exact .inr ⟨b,o,cap,h1,h2,fun i y hy=>let⟨us,k1,k2⟩:=h3 i y hy;⟨us,j0 ht k1,k2⟩⟩
def KK:∀{e:Ty} {s:nQ e} {y:D e} {A:aI} {w:World} {us:List Value} {e1 e2:TypeId},spot e=some s->R e1 e y A w us->R e2 e y A w us:=by
 intro e;induction e with
 |slice t _=>intro s y A w us e1 e2 hs hr;exact Af (nx hs).1 hr
 |prod a b iha ihb=>
  intro s y A w us e1 e2 hs hr;obtain⟨u1,u2,rfl,r1,r2⟩:=hr;rcases oP hs with⟨s',h1,hb,rfl⟩|⟨s',ha,h1,rfl⟩
  ·exact⟨u1,u2,rfl,iha h1 r1,j0 hb r2⟩
  ·exact⟨u1,u2,rfl,j0 ha r1,ihb h1 r2⟩
 |_=>intro s y A w us e1 e2 hs;cases hs
def si{c:Option Nat}{w w':World}(h:∀b,c=some b->w'.heap[b]?=w.heap[b]?):∀b o v,¬oZ c b o->w.cell? ⟨b,o,none⟩=some v->w'.cell? ⟨b,o,none⟩=some v/\¬oZ c b o:=by
 intro b o v hn hc;refine⟨?_,hn⟩;have hb:c=some b:=by unfold oZ at hn;exact(du.1 hn).symm
 rw[World.cell?_of_block (w:=w) (w':=w') (a:=⟨b,o,none⟩) (h b hb)];exact hc
def fN{c:Nat}:∀{cs:List (Option Nat)},c∈cs.filterMap id↔∃i:Nat,cs[i]?=some (some c):=by
 intro cs;simp only[List.mem_filterMap,id];constructor
 ·rintro⟨x,hx,rfl⟩
  obtain⟨i,hi⟩:=List.getElem?_of_mem hx;exact⟨i,hi⟩
 ·rintro⟨i,hi⟩
  exact⟨some c,List.mem_of_getElem? hi,rfl⟩
def jZ.frame{e:Ty}{s:nQ e}{xs:List (D e)}{w w':World}{b:Nat}{cs:List (Option Nat)}{hs:List Value}{vs:Array Value}(h:jZ e s xs w b cs hs vs)
  (hb:∀i c:Nat,cs[i]?=some (some c)->w'.heap[c]?=w.heap[c]?):jZ e s xs w' b cs hs vs:=by
 refine⟨h.hl,h.cl,h.inj,fun i c hi =>?_,fun i y hy =>?_⟩
 ·rw[hb i c hi];exact h.yG i c hi
 ·obtain⟨c,k,us,h1,h2,h3,h4,h5⟩:=h.row i y hy
  exact⟨c,k,us,h1,h2,h3,h4.frame (si fun b' e'=>hb i b' (by rw[h1,e'])),h5⟩
def kC.frame{t:Ty}{x:D t}{l:Loc}{w w':World}(h:kC t x l w)(hb:∀b∈l.bs,w'.heap[b]?=w.heap[b]?):kC t x l w':=by
 cases t <;> try exact h.elim
 obtain⟨s,hs,top,hs',hv,h⟩:=h;refine⟨s,hs,top,hs',hv,?_⟩;rcases h with h|⟨b,vs,T,cap,cs,h1,h2,h3,h4,h5,h6,h7⟩
 ·exact .inl h
 ·refine .inr ⟨b,vs,T,cap,cs,h1,h2,by rw[hb b (by rw[h2];simp)];exact h3,h4,h5,h6,h7.frame fun i c hi=>hb c ?_⟩
  rw[h2];exact cf _ (fN.2 ⟨i,hi⟩)
def kC.inside{t:Ty}{x:D t}{l:Loc}{w:World}(h:kC t x l w):∀b∈l.bs,b<w.heap.size:=by
 cases t <;> try exact h.elim
 have key:∀{b':Nat} {o:Obj},w.heap[b']?=some o->b'<w.heap.size:=fun h=>(Array.getElem?_eq_some_iff.1 h).1
 obtain⟨s,hs,top,hs',hv,h⟩:=h;rcases h with⟨_,_,_,h⟩|⟨b,vs,T,cap,cs,h1,h2,h3,h4,h5,h6,h7⟩
 ·rw[h];simp
 ·rw[h2]
  intro b' hb';rcases bz.1 hb' with rfl|hb'
  ·exact key h3
  ·obtain⟨i,hi⟩:=fN.1 hb'
   obtain⟨_,vs',T',h⟩:=h7.yG i b' hi;exact key h
def kC.data{eT:TypeId}{e:Ty}{xs:List (D e)}{l:Loc}{w:World}{v:Value}{A:aI}(h:kC (.slice e) xs l w)(hv:Oh .top l.v v)(hA:∀b∈l.bs,∀o,¬A b o):VR eT (.slice e) xs A w v:=by
 obtain⟨s,hs,top,hs',hl,h⟩:=h;obtain⟨hs'',hl'⟩:=hv;rw[hl]at hl';simp at hl';obtain⟨rfl,rfl⟩:=hl';rcases h with⟨rfl,_,⟨a,rfl⟩,_⟩|⟨b,vs,T,cap,cs,h1,h2,h3,h4,h5,h6,h7⟩
 ·exact VR.cJ rfl ⟨_,rfl,by simp,.inl ⟨rfl,a,0,rfl⟩⟩
 ·refine VR.cJ rfl ⟨_,rfl,h6,.inr ⟨b,0,cap,h1,h5,fun i y hy =>?_⟩⟩
  obtain⟨c,k,us,k1,k2,k3,k4,k5⟩:=h7.row i y hy;refine⟨us,(KK hs k4).frame fun b' o' v' hn hc=>⟨hc,?_⟩,fun j u hj=>⟨?_,hA b (by rw[h2];simp) _⟩⟩
  ·have hb':c=some b':=by unfold oZ at hn;exact(du.1 hn).symm
   exact hA b' (by rw[h2];exact cf _ (fN.2 ⟨i,by rw[k1,hb']⟩)) o'
  ·rw[cell_of_row w b _ vs T (0,0) h3,al]
   exact k5 j u hj
def RJ{e:Ty}{xs:List (D e)}{l:Loc}{w:World}{v:Value}(h:kC (.slice e) xs l w)(hv:Oh .top l.v v):xs.length<=aN/\∃a c,v=.slice a xs.length c:=by
 obtain⟨s,hs,top,hs',hl,h⟩:=h;obtain⟨hs'',hl'⟩:=hv;rw[hl]at hl';simp at hl';obtain⟨rfl,rfl⟩:=hl';rcases h with⟨rfl,_,⟨a,rfl⟩,_⟩|⟨b,vs,T,cap,cs,h1,h2,h3,h4,h5,h6,h7⟩
 ·exact⟨by simp,a,0,rfl⟩
 ·exact⟨h6,_,cap,h1⟩
structure VV (e:Ty) (s:nQ e) (xs:List (D e)) (l:Loc) (w:World) where
 top:Value
 hs:List Value
 b:Nat
 vs:Array Value
 T:TypeId
 cap:Nat
 cs:List (Option Nat)
 lv:l.v=.tuple (top :: hs).toArray
 tv:top=.slice (some ⟨b,0,none⟩) xs.length cap
 lb:l.bs=b :: cs.filterMap id
 heap:w.heap[b]?=some (.cells vs T (0,0))
 size:vs.size=cap*e.size
 fit:xs.length<=cap
 aN:xs.length<=Go.Vg.aN
 rows:jZ e s xs w b cs hs vs
theorem tC{e:Ty}{s:nQ e}(hsp:spot e=some s){xs:List (D e)}{l:Loc}{w:World}(h:kC (.slice e) xs l w)(hne:0<xs.length):Nonempty (VV e s xs l w):=by
 obtain⟨s',hs,top,hs',hl,h⟩:=h;rw[hsp]at hs;cases hs;rcases h with⟨rfl,_⟩|⟨b,vs,T,cap,cs,h1,h2,h3,h4,h5,h6,h7⟩
 ·simp at hne
 ·exact⟨⟨top,hs',b,vs,T,cap,cs,hl,h1,h2,h3,h4,h5,h6,h7⟩⟩
def sj{t:Ty}{xs:D t}{l:Loc}{w:World}(h:kC t xs l w):∃e s,t=.slice e/\spot e=some s:=by
 cases t <;> try exact h.elim
 obtain⟨s,hs,_⟩:=h;exact⟨_,s,rfl,hs⟩
def Ag{e:Ty}{s:nQ e}(hsp:spot e=some s){xs:List (D e)}{l:Loc}{w:World}(h:kC (.slice e) xs l w){i:Nat}(hi:i<xs.length){v:Value}(hv:Oh (.row i) l.v v) :
  ∃c,R 0 (.slice s.t) (s.get xs[i]) (oZ c) w [v]:=by
 obtain⟨d⟩:=tC hsp h (by omega);obtain⟨t,hs'',hl',hget⟩:=hv;rw[d.lv]at hl';simp at hl';obtain⟨rfl,rfl⟩:=hl';obtain⟨c,k,us,k1,k2,k3,k4,k5⟩:=d.rows.row i _ (List.getElem?_eq_getElem hi);rw[hget]at k2;cases k2;exact⟨c,Gr hsp k4 k3⟩
abbrev aU:=List cP->St->(SV->St->VC)->VC
structure Cx:Type 1 where
 eT:TypeId
 τ:List (TypeId×Ty)
 Ah:List (TypeId×(Nat×TypeId))
 Γ:List (FuncId×(Bool×aU))
 N:Nat
 eqs:List TypeId:=[]
 oF:List TypeId:=[]
 hint:List Nat:=[]
 wr:Bool:=false
 qu:List (TypeId×(TypeId×TypeId)):=[]
 sk:List (TypeId×TypeId):=[]
def mF(n:Nat):List Nat->Bool
 |[]=>false
 |m :: r=>match ad m n with
  |true=>true
  |false=>mF n r
def LZ(P:Program)(t:TypeId):Bool:=
 !P.stoodInHeld t&&!P.eqGuardType P.depth t&&match P.underlying t with
 |some (.struct fs)=>fs.toList.all fun f=>f.name != "_"
 |_=>false
def Gs(P:Program)(t:TypeId):Bool:=
 match P.underlying t with
 |some (.pointer _)=>true
 |_=>false
def Bo:(t:Ty)->D t->D t->Option Bool
 |.bool,a,b=>some (a == b)
 |.int _,a,b=>some (decide ((a:Int)=b))
 |.str,a,b=>some (a == b)
 |.unit,_,_=>some true
 |.prod a b,x,y=>match a.one,Bo a x.1 y.1,Bo b x.2 y.2 with
  |true,some p,some q=>some (p&&q)
  |_,_,_=>none
 |_,_,_=>none
def aA(O:aI)(st:St)(loc:Nat->Loc)(w:World):bI:=⟨O,look st.aF,loc,st.next,w⟩
structure TyOK (P:Program) (cx:Cx):Prop where
 fit:∀t ty,look cx.τ t=some ty->∃n,fits P n t ty=true
 oq:P.underlying cx.eT=some (.int .i64)
 kE:∃i,P.info? cx.eT=some i/\i.zero=some (.int .i64 0)
 mixed:P.follows .mixedOrders=true
 eqs:∀t,mF t cx.eqs=true->LZ P t=true
 oF:∀t,mF t cx.oF=true->Gs P t=true
 arr:∀t n e,look cx.Ah t=some (n,e)->P.underlying t=some (.array n e)
 qu:∀t k e,look cx.qu t=some (k,e)->P.underlying t=some (.map k e)/\P.underlying k=some .string/\∃i cs,P.info? e=some i/\i.zero=some (.agg cs)
 sk:∀t e,look cx.sk t=some e->∃i,P.info? t=some i/\i.zero=some (.agg #[.pointer none,.slice none 0 0])
 um:∀t n te e,look cx.Ah t=some (n,te)->look cx.τ te=some e->∃i z,P.info? t=some i/\i.zero=some z/\pJ e n z.cells.toList=true
def rG:C->Option Int
 |.d (.int _) n=>some n
 |_=>none
def CY(want:Ty):C->Option (List (D want))
 |.d (.slice t) xs=>match h:Ty.beq (.slice t) (.slice want)with
  |true=>some (cF h (a:=.slice t) xs)
  |false=>none
 |.app t xs _=>match h:Ty.beq (.slice t) (.slice want)with
  |true=>some (cF h (a:=.slice t) xs)
  |false=>none
 |.jO=>some []
 |.emp=>some []
 |_=>none
def L0(st:St):C->Bool
 |.oE _ _=>true
 |.ref n _=>match look st.aF n with
  |some (.cells _ _)=>true
  |_=>false
 |.oD n=>match look st.aF n with
  |some (.arr _ _)=>true
  |_=>false
 |.eM n=>match look st.aF n with
  |some (.ext (_+2) _ _)=>true
  |_=>false
 |_=>false
def nth(t:Ty)(xs:List (D t))(i:Nat):D t:=xs.getD i (bV t)
def dQ(s:List UInt8)(i:Nat):UInt8:=s.getD i 0
def iA{t:Ty}{xs:List (D t)}{i:Nat}{y:D t}(h:xs[i]?=some y):nth t xs i=y:=by
 unfold nth;rw[List.getD_eq_getElem?_getD,h];rfl
def Ut{s:List UInt8}{i:Nat}{c:UInt8}(h:s[i]?=some c):dQ s i=c:=by
 unfold dQ;rw[List.getD_eq_getElem?_getD,h];rfl
def Bp(st:St)(x:C)(K:C->VC):VC:=
 match x with
 |.d .str s =>.imp (s.length<=aN) (K (.d (.int .i64) s.length))
 |.d (.slice _) xs =>.imp (xs.length<=aN) (K (.d (.int .i64) xs.length))
 |.app _ xs _ =>.imp (xs.length<=aN) (K (.d (.int .i64) xs.length))
 |.jO=>K (.d (.int .i64) 0)
 |.emp=>K (.d (.int .i64) 0)
 |.aV n=>match look st.aF n with
  |some (.aV _ xs) =>.imp (xs.length<=aN) (K (.d (.int .i64) xs.length))
  |_ =>.ff
 |.xd n .top=>match look st.aF n with
  |some (.ext 0 (.slice _) xs) =>.imp (ab xs<=aN) (K (.d (.int .i64) (ab xs)))
  |_ =>.ff
 |.xd n (.row i)=>match look st.aF n with
  |some (.ext 0 (.slice e) xs)=>match spot e with
   |some s =>.and (i<ab xs) (.imp ((s.get (nth e xs i)).length<=aN) (K (.d (.int .i64) (s.get (nth e xs i)).length)))
   |none =>.ff
  |_ =>.ff
 |_ =>.ff
def CZ(x i:C)(K:C->VC):VC:=
 match x,rG i with
 |.d .str s,some i =>.and (0<=i/\i<s.length) (K (.d (.int .u8) (dQ s i.toNat).toNat))
 |_,_ =>.ff
def Ai(op:BinOp)(r:Option Bool)(K:C->VC):VC:=
 match r with
 |some r=>match op with
  |.eql=>K (.d .bool r)
  |.neq=>K (.d .bool (!r))
  |_ =>.ff
 |none =>.ff
def L1(st:St)(op:BinOp)(x y:C)(K:C->VC):VC:=
 match y with
 |.gX=>match x with
  |.gX=>match op with
   |.eql=>K (.lit true)
   |.neq=>K (.lit false)
   |_ =>.ff
  |x=>match L0 st x with
   |true=>match op with
    |.eql=>K (.lit false)
    |.neq=>K (.lit true)
    |_ =>.ff
   |false =>.ff
 |_ =>.ff
def Aj(st:St)(x:C):Option Nat:=
 match x with
 |.d (.slice _) xs=>some xs.length
 |.app _ xs _=>some xs.length
 |.aV n=>match look st.aF n with
  |some (.aV _ xs)=>some xs.length
  |_=>none
 |.emp=>some 0
 |_=>none
def C0(st:St)(op:BinOp)(x y:C)(K:C->VC):VC:=
 match y with
 |.jO=>match x with
  |.jO=>match op with
   |.eql=>K (.lit true)
   |.neq=>K (.lit false)
   |_ =>.ff
  |x=>match Aj st x with
   |some n=>match op with
    |.eql =>.all Bool fun b =>.imp (0<n->b=false) (K (.d .bool b))
    |.neq =>.all Bool fun b =>.imp (0<n->b=false) (K (.d .bool (!b)))
    |_ =>.ff
   |none =>.ff
 |_ =>.ff
def VW(wr:Bool)(op:BinOp)(k:IntKind)(y:C):Option Int:=
 match wr,op,y with
 |true,.add,.d (.int k') b=>match decide (k=k')with
  |true=>some b
  |false=>none
 |_,_,_=>none
def Bq(cx:Cx)(st:St)(op:Op)(K:SV->VC):VC:=
  let K1:C->VC:=fun c=>K (.s (.one c))
  match op with
  |.pick c a b=>match eA st.env c with
    |.lit true=>K (ev st.env a)
    |.lit false=>K (ev st.env b)
    |.d .bool g =>.ite g (K (ev st.env a)) (K (ev st.env b))
    |_ =>.ff
  |.unOp op _ x=>RE op (eA st.env x) K1
  |.convert s t x=>match look cx.τ s,look cx.τ t with
    |some _,some dst=>Gm dst (eA st.env x) K1
    |_,_ =>.ff
  |.extract t i=>match ev st.env t with
    |.mP vs=>match vs[i]? with
      |some v=>K (.s v)
      |none =>.ff
    |_ =>.ff
  |.nilCheck x=>match L0 st (eA st.env x)with
    |true=>K1 (eA st.env x)
    |false =>.ff
  |.makeInterface t x=>match ad t cx.eT,eA st.env x with
    |true,.d (.int .i64) n=>K1 (.d .err (.no n))
    |_,_ =>.ff
  |.typeAssert x _ t true=>match ad t cx.eT,eA st.env x with
    |true,.d .err e=>K (.mP [.one (.d (.int .i64) e.num),.one (.d .bool e.LS)])
    |_,_ =>.ff
  |.index t x i=>match look cx.τ t with
    |some .str=>CZ (eA st.env x) (eA st.env i) K1
    |_ =>.ff
  |.binOp op t x y _=>match eA st.env x with
    |.d (.int k) a=>match VW cx.wr op k (eA st.env y)with
      |some b=>qZ (k.wrap (a+b)) fun x=>K1 (.d (.int k) x)
      |none=>uk op (.d (.int k) a) (eA st.env y) false K1
    |.d .str a=>uk op (.d .str a) (eA st.env y) false K1
    |.d .err e=>match look cx.τ t with
      |some .err=>uk op (.d .err e) (eA st.env y) (Operand.Oj y) K1
      |_ =>.ff
    |x1=>match look cx.τ t with
      |some .bool=>uk op x1 (eA st.env y) false K1
      |some (.prod u v)=>match mF t cx.eqs,qO (.prod u v) (qX st.env x),qO (.prod u v) (qX st.env y)with
        |true,some p,some q=>Ai op (Bo (.prod u v) p q) K1
        |_,_,_ =>.ff
      |some (.slice _)=>C0 st op x1 (eA st.env y) K1
      |_=>match mF t cx.oF with
        |true=>L1 st op x1 (eA st.env y) K1
        |false =>.ff
  |.call c=>match c.callee,c.args.toList,c.argTypes.toList with
   |.builtin .len,[x],[t]=>match look cx.τ t with
    |some .str=>match eA st.env x with
      |.d .str s=>Bp st (.d .str s) K1
      |_ =>.ff
    |some (.slice _)=>match eA st.env x with
      |.d .str _ =>.ff
      |x=>Bp st x K1
    |_ =>.ff
   |_,_,_ =>.ff
  |_ =>.ff
section
variable{eT:TypeId}{X:Ext}{P:Program}{cx:Cx}
def tD{t:Ty}{xs:List (D t)}{A:aI}{w:World}{v:Value}(h:VR eT (.slice t) xs A w v):∃a c,v=.slice a xs.length c/\xs.length<=aN:=by
 have h:=VR.one rfl h;obtain⟨u,hu,hl,h⟩:=h;simp at hu;subst hu;rcases h with⟨rfl,_,_,rfl⟩|⟨b,o,cap,rfl,_⟩
 ·exact⟨_,_,rfl,by simp[aN]⟩
 ·exact⟨_,_,rfl,hl⟩
def vW{n:Nat}(h:n<=aN):az.min<=(n:Int)/\(n:Int)<=az.max:=by
 rw[rp];unfold aM;unfold aN at h;omega
def fC{t:TypeId}{ty:Ty}(hok:TyOK P cx)(h:look cx.τ t=some ty):∃m i d,Fit P t ty i d/\cA (fits P m) ty d=true:=by
 obtain⟨n,hn⟩:=hok.fit t ty h;obtain⟨m,i,d,_,hf,hs⟩:=kU hn;exact⟨m,i,d,hf,hs⟩
def RL{t:TypeId}(hok:TyOK P cx)(h:look cx.τ t=some .bool):P.underlying t=some .bool:=by
 obtain⟨m,i,d,hf,hs⟩:=fC hok h;cases d <;> simp[cA]at hs;exact hf.iz
def x5{t:TypeId}(hok:TyOK P cx)(h:look cx.τ t=some .str):P.underlying t=some .string:=by
 obtain⟨m,i,d,hf,hs⟩:=fC hok h;cases d <;> simp[cA]at hs;exact hf.iz
def Uu{t:TypeId}(hok:TyOK P cx)(h:look cx.τ t=some .err):∃ms,P.underlying t=some (.interface ms):=by
 obtain⟨m,i,d,hf,hs⟩:=fC hok h;cases d <;> simp[cA]at hs;exact⟨_,hf.iz⟩
def hH{t:TypeId}{e:Ty}(hok:TyOK P cx)(h:look cx.τ t=some (.slice e)):∃te i d,P.underlying t=some (.slice te)/\Fit P te e i d:=by
 obtain⟨m,i,d,hf,hs⟩:=fC hok h;cases d <;> simp[cA]at hs;obtain⟨m',i',d',_,hf',_⟩:=kU hs;exact⟨_,_,_,hf.iz,hf'⟩
def cR.get{S:bI}{xs:List cP}{vs:List Value}(h:cR eT S xs vs):∀{i:Nat} {x:cP},xs[i]?=some x->∃v,vs[i]?=some v/\iv eT S x v:=by
 induction h with
 |nil=>intro i x h;simp at h
 |cons h1 _ ih=>
  intro i x h;cases i with
  |zero=>simp at h;subst h;exact⟨_,rfl,h1⟩
  |succ i=>simp at h;simpa using ih h
def Ol{O:aI}{st:St}{loc:Nat->Loc}{w:World}{x:C}{K:C->VC}{v:Value}{t:TypeId}
  (g:Good cx.eT X (aA O st loc w))(ht:(P.underlying t=some .string/\∃s,x=.d .str s)\/(∃te,P.underlying t=some (.slice te))/\∀s,x≠.d .str s)
  (hx:CR cx.eT (aA O st loc w) x v)(h:(Bp st x K).holds) :
  ∃c u,(K c).holds/\CR cx.eT (aA O st loc w) c u/\∀ty w',(cw #[t] ty #[v]).run P w'=.ok u w':=by
 have fin:∀(te:TypeId) (n:Nat) (a:Option Addr) (c:Nat),P.underlying t=some (.slice te)->n<=aN->(K (.d (.int .i64) n)).holds->v=.slice a n c->
   ∃c u,(K c).holds/\CR cx.eT (aA O st loc w) c u/\∀ty w',(cw #[t] ty #[v]).run P w'=.ok u w':=by
  intro te n a c hu hn hk hv;subst hv;exact⟨_,_,hk,cS.2 ⟨rfl,vW hn⟩,fun ty w'=>by simp[cw,run_underlying hu,goInt]⟩
 unfold Bp at h;split at h
 ·rename_i s
  obtain⟨rfl,hl⟩:=jE.1 hx;rcases ht with⟨hu,_⟩|⟨_,hn⟩
  ·exact⟨_,_,h hl,cS.2 ⟨rfl,vW hl⟩,fun ty w'=>by
    simp[cw,run_underlying hu,goInt];rfl⟩
  ·exact(hn s rfl).elim
 ·rename_i t' xs
  rcases ht with⟨_,s,e⟩|⟨⟨te,hu⟩,_⟩
  ·cases e
  ·obtain⟨a,c,hv,hl⟩:=tD hx
   exact fin te _ a c hu hl (h hl) hv
 ·rename_i t' xs n
  rcases ht with⟨_,s,e⟩|⟨⟨te,hu⟩,_⟩
  ·cases e
  ·obtain⟨a,c,hv,hl⟩:=tD hx.1
   exact fin te _ a c hu hl (h hl) hv
 ·rcases ht with⟨_,s,e⟩|⟨⟨te,hu⟩,_⟩
  ·cases e
  ·exact fin te 0 none 0 hu (by simp[aN]) h hx
 ·rcases ht with⟨_,s,e⟩|⟨⟨te,hu⟩,_⟩
  ·cases e
  ·obtain⟨a,rfl⟩:=hx
   exact fin te 0 a 0 hu (by simp[aN]) h rfl
 ·rename_i n
  rcases ht with⟨_,s,e⟩|⟨⟨te,hu⟩,_⟩
  ·cases e
  ·split at h
   ·rename_i t' xs hob
    rcases(g.obj n _ hob).2 with⟨rfl,⟨a,hv⟩,_⟩|⟨b,vs,T,cap,hv,_,_,_,_,hl,_⟩
    ·exact fin te 0 a 0 hu (by simp[aN]) (h (by simp)) ((hx.2 _ _ hob).trans hv)
    ·exact fin te _ _ _ hu hl (h hl) ((hx.2 _ _ hob).trans hv)
   ·exact h.elim
 ·rename_i n
  rcases ht with⟨_,s,e⟩|⟨⟨te,hu⟩,_⟩
  ·cases e
  ·split at h
   ·rename_i e xs hob
    obtain⟨hb,a,c,hv⟩:=RJ (X.deep.1 (g.obj n _ hob).2) (hx.2 _ _ hob);exact fin te _ a c hu hb (h hb) hv
   ·exact h.elim
 ·rename_i n i
  rcases ht with⟨_,s,e⟩|⟨⟨te,hu⟩,_⟩
  ·cases e
  ·split at h
   ·rename_i e xs hob
    split at h
    ·rename_i s hs
     obtain⟨hi,h⟩:=h;obtain⟨c0,hr⟩:=Ag hs (X.deep.1 (g.obj n _ hob).2) hi (hx.2 _ _ hob);rw[iA (List.getElem?_eq_getElem hi)]at h;obtain⟨a,c,hv,hl⟩:=tD (VR.cJ rfl hr);exact fin te _ a c hu hl (h hl) hv
    ·exact h.elim
   ·exact h.elim
 ·exact h.elim
end
section
variable{X:Ext}{P:Program}{cx:Cx}
def VX{l:List UInt8}{i:Nat}{c:UInt8}(h:l[i]?=some c):(⟨l.toArray⟩:ByteArray)[i]?=some c:=by
 have hi:i<l.length:=by
  rcases cy i l.length with h'|h'
  ·exact h'
  ·rw[List.getElem?_eq_none h']at h;cases h
 have hi':i<(⟨l.toArray⟩:ByteArray).size:=hi;rw[getElem?_pos _ i hi'];rw[List.getElem?_eq_getElem hi]at h;cases h;rfl
def KL{O:aI}{st:St}{loc:Nat->Loc}{w:World}{c:C}{v:Value}(g:Good cx.eT X (aA O st loc w))(hp:L0 st c=true)(hc:CR cx.eT (aA O st loc w) c v) :
  ∃a,v=.pointer (some a):=by
 unfold L0 at hp;split at hp
 ·obtain⟨b,o,us,h,_⟩:=hc;exact⟨_,h⟩
 ·split at hp
  ·rename_i n _ T cs h
   obtain⟨b,_,h2⟩:=hc.2 T cs h;exact⟨_,h2⟩
  ·cases hp
 ·split at hp
  ·rename_i t xs h
   obtain⟨_,b,vs,T,h1,_⟩:=g.obj _ _ h;exact⟨_,(hc.2 _ _ h).trans h1⟩
  ·cases hp
 ·split at hp
  ·rename_i k t x h
   obtain⟨_,h1⟩:=g.obj _ _ h;obtain⟨a,h2⟩:=X.ptr (by simp) h1;exact⟨a,(hc.2 _ h rfl).trans h2⟩
  ·cases hp
 ·cases hp
def nz{S:bI}{c:C}{n:Int}{v:Value}(h:rG c=some n)(hc:CR cx.eT S c v):∃k,v=.int k n/\k.min<=n/\n<=k.max:=by
 unfold rG at h;split at h
 ·cases h;exact⟨_,cS.1 hc⟩
 ·cases h
def Ju{S:bI}{x i:C}{K:C->VC}{vx vi:Value}{t:TypeId}(hu:P.underlying t=some .string)(hx:CR cx.eT S x vx)(hi:CR cx.eT S i vi)
  (h:(CZ x i K).holds):∃c u,(K c).holds/\CR cx.eT S c u/\∀w,(Instr.index t vx vi).run P w=.ok u w:=by
 unfold CZ at h;split at h
 ·rename_i s i' hi'
  obtain⟨rfl,hl⟩:=jE.1 hx;obtain⟨k,rfl,_⟩:=nz hi' hi;obtain⟨⟨h0,h1⟩,h2⟩:=h;have hlt:i'.toNat<s.length:=by omega
  have hs:s[i'.toNat]?=some s[i'.toNat]:=List.getElem?_eq_getElem hlt;rw[Ut hs]at h2;refine⟨_,_,h2,cS.2 ⟨rfl,?_⟩,fun w =>?_⟩
  ·have:=s[i'.toNat].toNat_lt
   simp[bo,bd,bf,bg];omega
  ·simp[Instr.index,asIntOf,run_underlying hu,h0,VX hs]
 ·exact h.elim
def vX{t:TypeId}{ty:Ty}{i:TypeInfo}{d:TypeDesc}{f:TypeId->Ty->Bool}(h:Fit P t ty i d)(hs:cA f ty d=true)(ho:ty.one=true){cs:Array Value}{off:Nat}{v:Value}(hv:cs[off]?=some v)(w:World) :
  (part t cs off).run P w=.ok v w:=by
 have hagg:(isAgg t).run P w=.ok false w:=by
  have:(match d with|.struct _=>true|.array _ _=>true|_=>false)= !ty.one:=by
   cases ty <;> cases d <;> first|rfl|exact absurd hs (by simp[cA])
  cases d <;> simp_all [isAgg,run_underlying h.iz]
 simp[part,hagg,hv]
def Om{A:aI}{w0:World}{t:TypeId}{ty:Ty}{i:TypeInfo}{d:TypeDesc}{f:TypeId->Ty->Bool}(h:Fit P t ty i d)(hs:cA f ty d=true){x y:D ty}{r:Bool}(he:Bo ty x y=some r)(ho:ty.one=true)
  {u v:Value}(hx:R cx.eT ty x A w0 [u])(hy:R cx.eT ty y A w0 [v])(k:Nat)(w:World):(au (k+1) t u v).run P w=.ok r w:=by
 cases ty <;> simp only[Bo,dt,reduceCtorEq,Ty.one,bh]at he ho
 case bool=>
  cases hx;cases hy;subst he;have hu:P.underlying t=some .bool:=by rw[h.iz];cases d <;> simp[cA]at hs <;> rfl
  exact run_equalIn_bool' w k t x y hu
 case int kk=>
  obtain⟨hx,_⟩:=hx;obtain⟨hy,_⟩:=hy;cases hx;cases hy;subst he;have hu:P.underlying t=some (.int kk):=by rw[h.iz];cases d <;> simp[cA]at hs;subst hs;rfl
  rw[run_equalIn_int w k t kk kk x y hu];congr 1
 case str=>
  obtain⟨hx,_⟩:=hx;obtain⟨hy,_⟩:=hy;cases hx;cases hy;subst he;have hu:P.underlying t=some .string:=by rw[h.iz];cases d <;> simp[cA]at hs <;> rfl
  rw[run_equalIn_string w k t _ _ hu,toList_mk,toList_mk]
def Gt{A:aI}{w0:World}{n k:Nat}{xs ys:Array Value}:∀{fs:List Field} {off:Nat} {ty:Ty} {x y:D ty} {r:Bool} {us vs:List Value},dR (fits P n) fs off ty=true->(∀f∈fs,(f.name != "_")=true)->
  Bo ty x y=some r->R cx.eT ty x A w0 us->R cx.eT ty y A w0 vs->(∀(j:Nat) u,us[j]?=some u->xs[off+j]?=some u)->(∀(j:Nat) u,vs[j]?=some u->ys[off+j]?=some u)->
  ∀w,(dv (k+1) xs ys fs).run P w=.ok r w:=by
 intro fs;induction fs with
 |nil=>
  intro off ty x y r us vs hf hn he hx hy h1 h2 w;cases ty <;> simp[dR]at hf;simp[Bo]at he;subst he;simp[dv]
 |cons f fs ih=>
  intro off ty x y r us vs hf hn he hx hy h1 h2 w;cases ty <;> simp only[dR,bh]at hf;rename_i a b;simp only[ao]at hf;obtain⟨⟨⟨ho,hfa⟩,_⟩,hr⟩:=hf;have ho:=ar ho;obtain⟨m,i,d,_,hfit,hs⟩:=kU hfa;obtain⟨u1,u2,rfl,x1,x2⟩:=hx;obtain⟨v1,v2,rfl,y1,y2⟩:=hy;simp only[Bo]at he;split at he
  ·rename_i p q hone hp hq
   cases he;have hne:(f.name≠ "_"):=by simpa using hn f (by simp)
   have l1:u1.length=1:=by rw[x1.length,Ty.oC hone]
   have l2:v1.length=1:=by rw[y1.length,Ty.oC hone]
   obtain⟨u,rfl⟩:=dw.1 l1;obtain⟨v,rfl⟩:=dw.1 l2;have hu:xs[f.offset]?=some u:=by rw[ho];exact h1 0 u rfl
   have hv:ys[f.offset]?=some v:=by rw[ho];exact h2 0 v rfl
   simp only[dv,if_pos hne,aj,vX hfit hs hone hu,vX hfit hs hone hv,av,Om hfit hs hp hone x1 y1];cases p
   ·simp
   ·simp only[eo,bh,if_false,Bool.true_and]
    have hsz:=Ty.oC hone;exact ih hr (fun g hg=>hn g (by simp[hg])) hq x2 y2 (fun j u hj=>by rw[hsz,bq];exact h1 (1+j) u (by rw[dx];simpa using hj))
     (fun j u hj=>by rw[hsz,bq];exact h2 (1+j) u (by rw[dx];simpa using hj)) w
  ·cases he
def Gu(hok:TyOK P cx){S:bI}{op:BinOp}{t:TypeId}{a b:Ty}{x y:D (.prod a b)}{K:C->VC}{u v:Value}(ht:look cx.τ t=some (.prod a b))(hq:mF t cx.eqs=true)
  (hx:VR cx.eT (.prod a b) x S.A S.w u)(hy:VR cx.eT (.prod a b) y S.A S.w v)(h:(Ai op (Bo (.prod a b) x y) K).holds)(xo yo:Operand) :
  ∃c r,(K c).holds/\CR cx.eT S c r/\∀w,(do eqGuard op t xo yo u v;binOp op t u v:Sem Value).run P w=.ok r w:=by
 unfold Ai at h;split at h
 ·rename_i r hr
  unfold VR at hx hy;simp only[Ty.one,bh,if_false]at hx hy;obtain⟨xs,rfl,hx⟩:=hx;obtain⟨ys,rfl,hy⟩:=hy;have hb:=hok.eqs t hq;unfold LZ at hb;simp only[ao,Bool.not_eq_true']at hb;obtain⟨⟨b1,b2⟩,b3⟩:=hb;obtain⟨m,i,d,hfit,hs⟩:=fC hok ht;have hd:∃fs,d=.struct fs/\dR (fits P m) fs.toList 0 (.prod a b)=true:=by
   cases d <;> simp[cA]at hs;exact⟨_,rfl,hs⟩
  obtain⟨fs,rfl,hff⟩:=hd;rw[hfit.iz]at b3;have hfo:P.fieldsOf t=fs:=by simp[Program.fieldsOf,hfit.iz]
  have heq:∀w,(au 10000 t (.agg xs) (.agg ys)).run P w=.ok r w:=fun w=>by
   rw[run_equalIn_agg w 9999 t xs ys (by rw[hfo];exact hfit.iz) b1,hfo];exact Gt hff (fun f hf=>by simpa using(List.all_eq_true.1 b3) f hf) hr hx hy (fun j u hj=>by rw[al];simpa using hj) (fun j u hj=>by rw[al];simpa using hj) w
  split at h
  ·exact⟨_,_,h,eP.2 rfl,fun w=>by simp only[aj,run_eqGuard_agg w _ t xo yo xs ys b2,av,run_eql_struct,heq]⟩
  ·exact⟨_,_,h,eP.2 rfl,fun w=>by simp only[aj,run_eqGuard_agg w _ t xo yo xs ys b2,av,run_neq_struct,heq]⟩
  ·exact h.elim
 ·exact h.elim
def p7(w:World)(t:TypeId)(a b:Option Addr):(binOp .eql t (.pointer a) (.pointer b)).run P w=((au 10000 t (.pointer a) (.pointer b)).run P w).andThen fun b w' =>.ok (.bool b) w':=by
 simp only[binOp];simp[bp,cz]
def p8(w:World)(t:TypeId)(a b:Option Addr):(binOp .neq t (.pointer a) (.pointer b)).run P w=((au 10000 t (.pointer a) (.pointer b)).run P w).andThen fun b w' =>.ok (.bool (!b)) w':=by
 simp only[binOp];simp[bp,cz]
def ot{t e:TypeId}(hu:P.underlying t=some (.pointer e))(d:Nat)(a:Option Addr)(w:World):(au (d+1) t (.pointer a) (.pointer none)).run P w=.ok a.isNone w:=by
 cases a <;> simp[au,run_underlying hu]
def ou(w:World)(op:BinOp)(t:TypeId)(x y:Operand)(a b:Option Addr):(eqGuard op t x y (.pointer a) (.pointer b)).run P w=.ok () w:=by
 cases op <;> simp[eqGuard]
def On(hok:TyOK P cx){O:aI}{st:St}{loc:Nat->Loc}{w0:World}(g:Good cx.eT X (aA O st loc w0)){op:BinOp}{t:TypeId}{x y:C}{K:C->VC}{u v:Value}(hq:mF t cx.oF=true)
  (hx:CR cx.eT (aA O st loc w0) x u)(hy:CR cx.eT (aA O st loc w0) y v)(h:(L1 st op x y K).holds)(xo yo:Operand) :
  ∃c r,(K c).holds/\CR cx.eT (aA O st loc w0) c r/\∀w,(do eqGuard op t xo yo u v;binOp op t u v:Sem Value).run P w=.ok r w:=by
 have hb:=hok.oF t hq;unfold Gs at hb;have hu:∃e,P.underlying t=some (.pointer e):=by
  split at hb
  ·exact⟨_,by assumption⟩
  ·cases hb
 obtain⟨e,hu⟩:=hu;unfold L1 at h;split at h
 ·have hv:v=.pointer none:=hy
  subst hv;split at h
  ·have hu':u=.pointer none:=hx
   subst hu';split at h
   ·exact⟨_,.bool true,h,rfl,fun w=>by simp only[aj,ou,av,p7,p8,ot hu 9999];rfl⟩
   ·exact⟨_,.bool false,h,rfl,fun w=>by simp only[aj,ou,av,p7,p8,ot hu 9999];rfl⟩
   ·exact h.elim
  ·split at h
   ·rename_i hp
    obtain⟨a,rfl⟩:=KL g hp hx;split at h
    ·exact⟨_,.bool false,h,rfl,fun w=>by simp only[aj,ou,av,p7,p8,ot hu 9999];rfl⟩
    ·exact⟨_,.bool true,h,rfl,fun w=>by simp only[aj,ou,av,p7,p8,ot hu 9999];rfl⟩
    ·exact h.elim
   ·exact h.elim
 ·exact h.elim
def Gv{O:aI}{st:St}{loc:Nat->Loc}{w0:World}(g:Good cx.eT X (aA O st loc w0)){x:C}{n:Nat}{u:Value}(h:Aj st x=some n)(hx:CR cx.eT (aA O st loc w0) x u) :
  ∃a c,u=.slice a n c/\(0<n->a.isNone=false):=by
 have dat:∀{t:Ty} {xs:List (D t)},VR cx.eT (.slice t) xs (aA O st loc w0).A (aA O st loc w0).w u->∃a c,u=.slice a xs.length c/\(0<xs.length->a.isNone=false):=by
  intro t xs hv;obtain⟨v,hv',hl,hr⟩:=VR.one rfl hv;simp at hv';subst hv';rcases hr with⟨rfl,a,c,rfl⟩|⟨b,o,cap,rfl,_⟩
  ·exact⟨a,c,rfl,fun h=>by simp at h⟩
  ·exact⟨_,_,rfl,fun _=>rfl⟩
 unfold Aj at h;split at h
 ·cases h;exact dat hx
 ·cases h;exact dat hx.1
 ·split at h
  ·rename_i t xs hob
   cases h;rcases(g.obj _ _ hob).2 with⟨rfl,⟨a,ha⟩,_⟩|⟨b,vs,T,cap,h1,_⟩
   ·exact⟨a,0,(hx.2 _ _ hob).trans ha,fun h=>by simp at h⟩
   ·exact⟨_,_,(hx.2 _ _ hob).trans h1,fun _=>rfl⟩
  ·cases h
 ·cases h
  obtain⟨a,rfl⟩:=hx;exact⟨a,0,rfl,fun h=>by omega⟩
 ·cases h
def Br(w:World)(t:TypeId)(a b:Option Addr)(l c l' c':Nat):(binOp .eql t (.slice a l c) (.slice b l' c')).run P w=((au 10000 t (.slice a l c) (.slice b l' c')).run P w).andThen fun b w' =>.ok (.bool b) w':=by
 simp only[binOp];simp[bp,cz]
def Bs(w:World)(t:TypeId)(a b:Option Addr)(l c l' c':Nat):(binOp .neq t (.slice a l c) (.slice b l' c')).run P w=((au 10000 t (.slice a l c) (.slice b l' c')).run P w).andThen fun b w' =>.ok (.bool (!b)) w':=by
 simp only[binOp];simp[bp,cz]
def mJ{t e:TypeId}(hu:P.underlying t=some (.slice e))(d:Nat)(a:Option Addr)(l c:Nat)(w:World):(au (d+1) t (.slice a l c) (.slice none 0 0)).run P w=.ok a.isNone w:=by
 cases a <;> simp[au,run_underlying hu]
def o5(w:World)(op:BinOp)(t:TypeId)(x y:Operand)(a b:Option Addr)(l c l' c':Nat):(eqGuard op t x y (.slice a l c) (.slice b l' c')).run P w=.ok () w:=by
 cases op <;> simp[eqGuard]
def Jv{O:aI}{st:St}{loc:Nat->Loc}{w0:World}(g:Good cx.eT X (aA O st loc w0)){op:BinOp}{t te:TypeId}{x y:C}{K:C->VC}{u v:Value}(hu:P.underlying t=some (.slice te))
  (hx:CR cx.eT (aA O st loc w0) x u)(hy:CR cx.eT (aA O st loc w0) y v)(h:(C0 st op x y K).holds)(xo yo:Operand) :
  ∃c r,(K c).holds/\CR cx.eT (aA O st loc w0) c r/\∀w,(do eqGuard op t xo yo u v;binOp op t u v:Sem Value).run P w=.ok r w:=by
 unfold C0 at h;split at h
 ·have hv:v=.slice none 0 0:=hy
  subst hv;split at h
  ·have hu':u=.slice none 0 0:=hx
   subst hu';split at h
   ·exact⟨_,.bool true,h,rfl,fun w=>by simp only[aj,o5,av,Br,mJ hu 9999];rfl⟩
   ·exact⟨_,.bool false,h,rfl,fun w=>by simp only[aj,o5,av,Bs,mJ hu 9999];rfl⟩
   ·exact h.elim
  ·split at h
   ·rename_i n hn
    obtain⟨a,c,rfl,hz⟩:=Gv g hn hx;split at h
    ·exact⟨_,.bool a.isNone,h a.isNone hz,eP.2 rfl,fun w=>by simp only[aj,o5,av,Br,mJ hu 9999]⟩
    ·exact⟨_,.bool (!a.isNone),h a.isNone hz,eP.2 rfl,fun w=>by simp only[aj,o5,av,Bs,mJ hu 9999]⟩
    ·exact h.elim
   ·exact h.elim
 ·exact h.elim
def vY(hok:TyOK P cx){O:aI}{st:St}{loc:Nat->Loc}{w:World}{a:Act}(g:Good cx.eT X (aA O st loc w))(he:gA cx.eT (aA O st loc w) st.env a)
  {o:Oper}{K:SV->VC}(h:(Bq cx st o.op K).holds) :
  ∃sv v,(K sv).holds/\dI cx.eT (aA O st loc w) sv v/\∀w',(execOp a.eval o).run P w'=.ok (.value v) w':=by
 have one:∀{s:Sem Value} {K:SV->VC},(∃c u,(K (.s (.one c))).holds/\CR cx.eT (aA O st loc w) c u/\∀w',s.run P w'=.ok u w')->
   ∃sv v,(K sv).holds/\dI cx.eT (aA O st loc w) sv v/\∀w',(do pure (.value (<-s)):Sem Next).run P w'=.ok (.value v) w':=by
  rintro s K ⟨c,u,h1,h2,h3⟩;exact⟨_,u,h1,h2,fun w'=>by simp[h3]⟩
 unfold Bq at h;simp only at h;split at h
 ·rename_i c x y hop
  have hc:=bM he c;have hgo:∀b,a.eval c=.bool b->∀w',(execOp a.eval o).run P w'=.ok (.value (if b then a.eval x else a.eval y)) w':=by
   intro b hb w';simp[execOp,hop,hb,asBool]
  split at h
  ·rename_i hl;rw[hl]at hc
   exact⟨_,_,h,lk he x,fun w'=>by rw[hgo true hc];simp⟩
  ·rename_i hl;rw[hl]at hc
   exact⟨_,_,h,lk he y,fun w'=>by rw[hgo false hc];simp⟩
  ·rename_i b hl;rw[hl]at hc
   have hc:=eP.1 hc;cases b
   ·exact⟨_,_,h.2 rfl,lk he y,fun w'=>by rw[hgo false hc];simp⟩
   ·exact⟨_,_,h.1 rfl,lk he x,fun w'=>by rw[hgo true hc];simp⟩
  ·exact h.elim
 ·rename_i op t x hop
  have:=one (RH (P:=P) (bM he x) h);simpa[execOp,hop]using this
 ·rename_i s t x hop
  split at h
  ·rename_i ts td hs hd
   obtain⟨m,i,d,hf,_⟩:=fC hok hs;obtain⟨m',i',d',hf',hs'⟩:=fC hok hd;have:=one (LY (P:=P) hf.iz hf'.iz (fun k e=>by subst e;cases d' <;> simp[cA]at hs';rw[hs']) (bM he x) h);simpa[execOp,hop]using this
  ·exact h.elim
 ·rename_i t i hop
  have ht:=lk he t;split at h
  ·rename_i vs hl
   rw[hl]at ht;obtain⟨us,hus,hr⟩:=ht;split at h
   ·rename_i v hv
    obtain⟨u,hu,hru⟩:=hr.get hv;exact⟨_,u,h,hru,fun w'=>by simp[execOp,hop,hus,Instr.extract,hu]⟩
   ·exact h.elim
  ·exact h.elim
 ·rename_i x hop
  have hx:=bM he x;split at h
  ·rename_i hp
   obtain⟨p,hp'⟩:=KL g hp hx;exact⟨_,_,h,hx,fun w'=>by simp[execOp,hop,hp']⟩
  ·exact h.elim
 ·rename_i t x hop
  have hx:=bM he x;split at h
  ·rename_i n ht hl
   rw[hl]at hx;obtain⟨hv,hrn⟩:=cS.1 hx;have ht:=ar ht;refine⟨_,.iface cx.eT (.int .i64 n),h,(nw (S:=aA O st loc w) (e:=.no n)).2 ⟨rfl,hrn⟩,fun w' =>?_⟩;simp[execOp,hop,hv,Instr.makeInterface,ht,run_underlying hok.oq]
  ·exact h.elim
 ·rename_i x xt t hop
  have hx:=bM he x;split at h
  ·rename_i e ht hl
   rw[hl]at hx;have hx:=nw.1 hx;have ht:=ar ht;subst ht;obtain⟨i,hi,hz⟩:=hok.kE;have hzv:∀w',(zeroValue cx.eT).run P w'=.ok (.int .i64 0) w':=fun w'=>by simp[zeroValue,typeInfo,hi,hz]
   have hnum:∀n:Int,n=0->(az.min<=n/\n<=az.max):=fun n hn=>by subst hn;rw[rp];simp[aM]
   cases e with
   |nil=>
    refine⟨_,.tuple #[.int .i64 0,.bool false],h,⟨[.int .i64 0,.bool false],rfl,.cons (cS.2 ⟨rfl,hnum 0 rfl⟩) (.cons (eP.2 rfl) .nil)⟩,fun w' =>?_⟩;simp[execOp,hop,show a.eval x=_ from hx,dy,run_underlying hok.oq,hzv]
   |no n=>
    obtain⟨hx,r1,r2⟩:=hx;refine⟨_,.tuple #[.int .i64 n,.bool true],h,⟨[.int .i64 n,.bool true],rfl,.cons (cS.2 ⟨rfl,r1,r2⟩) (.cons (eP.2 rfl) .nil)⟩,fun w' =>?_⟩;simp[execOp,hop,show a.eval x=_ from hx,dy,run_underlying hok.oq]
   |other=>
    obtain⟨t',u,hv,hne⟩:=hx;refine⟨_,.tuple #[.int .i64 0,.bool false],h,⟨[.int .i64 0,.bool false],rfl,.cons (cS.2 ⟨rfl,hnum 0 rfl⟩) (.cons (eP.2 rfl) .nil)⟩,fun w' =>?_⟩;simp[execOp,hop,hv,dy,run_underlying hok.oq,hzv,hne]
  ·exact h.elim
 ·rename_i t x i hop
  split at h
  ·rename_i ht
   have:=one (Ju (P:=P) (x5 hok ht) (bM he x) (bM he i) h);simpa[execOp,hop]using this
  ·exact h.elim
 ·rename_i op t x y ty' hop
  have hx:=bM he x;have hy:=bM he y;have fin:∀{c:C} {ny:Bool},(∀b,nv c=some b->P.underlying t=some .bool)->(∀e,c=.d .err e->∃ms,P.underlying t=some (.interface ms))->
    CR cx.eT (aA O st loc w) c (a.eval x)->(ny=true->Operand.Oj y=true)->(uk op c (eA st.env y) ny fun c=>K (.s (.one c))).holds->
    ∃sv v,(K sv).holds/\dI cx.eT (aA O st loc w) sv v/\∀w',(execOp a.eval o).run P w'=.ok (.value v) w':=by
   intro c ny h1 h2 h3 h4 h5;have:=one (Ok (P:=P) (xo:=x) (yo:=y) h1 h2 h3 hy h4 h5);simpa[execOp,hop]using this
  split at h
  ·rename_i k a0 hl;rw[hl]at hx
   split at h
   ·rename_i b hb
    unfold VW at hb;split at hb
    ·rename_i k' b' _ hy'
     split at hb
     ·rename_i hkk
      cases hb;have hkk:k=k':=by simpa using hkk
      subst hkk;rw[hy']at hy;obtain⟨e1,_⟩:=cS.1 hx;obtain⟨e2,_⟩:=cS.1 hy;have hI:CR cx.eT (aA O st loc w) (.d (.int k) (k.wrap (a0+b))) (.int k (k.wrap (a0+b))):=cS.2 ⟨rfl,o4 k _⟩;refine⟨.s (.one (.d (.int k) (k.wrap (a0+b)))),.int k (k.wrap (a0+b)),ia h,hI,fun w' =>?_⟩;simp[execOp,hop,e1,e2,eqGuard,binOp,cc]
     ·cases hb
    ·cases hb
   ·exact fin (by simp[nv]) (by simp) hx (by simp) h
  ·rename_i hl;rw[hl]at hx
   exact fin (by simp[nv]) (by simp) hx (by simp) h
  ·rename_i hl;rw[hl]at hx
   split at h
   ·rename_i ht
    exact fin (by simp[nv]) (fun _ _=>Uu hok ht) hx (fun h=>h) h
   ·exact h.elim
  ·rename_i hne
   split at h
   ·rename_i ht
    exact fin (fun _ _=>RL hok ht) (fun e he'=>(hne e he').elim) hx (by simp) h
   ·rename_i u v ht
    split at h
    ·rename_i p q hm hp hq
     have:=one (Gu (P:=P) hok ht hm (lO hp (ll he x)) (lO hq (ll he y)) h x y);simpa[execOp,hop]using this
    ·exact h.elim
   ·rename_i e ht
    obtain⟨te,_,_,hu,_⟩:=hH hok ht;have:=one (Jv (P:=P) g hu hx hy h x y);simpa[execOp,hop]using this
   ·split at h
    ·rename_i hm
     have:=one (On (P:=P) hok g hm hx hy h x y);simpa[execOp,hop]using this
    ·exact h.elim
 ·rename_i cl hop
  split at h
  case h_2=>exact h.elim
  rename_i x t hcal harg hty;have hx:=bM he x;have hop:o.op=.call {callee:=.builtin .len,args:=#[x],argTypes:=#[t]}:=by
   obtain⟨cal,args,tys⟩:=cl;simp only at hcal harg hty;have h1:args= #[x]:=c6.1 harg;have h2:tys= #[t]:=c6.1 hty;rw[hop,hcal,h1,h2]
  have fin:∀{c:C},((P.underlying t=some .string/\∃s,c=.d .str s)\/(∃te,P.underlying t=some (.slice te))/\∀s,c≠.d .str s)->
    CR cx.eT (aA O st loc w) c (a.eval x)->(Bp st c fun c=>K (.s (.one c))).holds->
    ∃sv v,(K sv).holds/\dI cx.eT (aA O st loc w) sv v/\∀w',(execOp a.eval o).run P w'=.ok (.value v) w':=by
   intro c h1 h2 h3;obtain⟨c,u,k1,k2,k3⟩:=Ol (P:=P) g h1 h2 h3;exact⟨_,u,k1,k2,fun w'=>by simp[execOp,hop,resolve,invoke,builtin,k3]⟩
  split at h
  ·rename_i ht
   split at h
   ·rename_i s hl;rw[hl]at hx
    exact fin (.inl ⟨x5 hok ht,s,rfl⟩) hx h
   ·exact h.elim
  ·rename_i e ht
   obtain⟨te,i,d,hu,_⟩:=hH hok ht;split at h
   ·exact h.elim
   ·rename_i hne
    exact fin (.inr ⟨⟨te,hu⟩,fun s e=>hne s e⟩) hx h
  ·exact h.elim
 ·exact h.elim
end
def vZ:Ty->Nat->Option Ty
 |.prod a _,0=>some a
 |.prod _ b,f+1=>vZ b f
 |_,_=>none
def C1(st:St)(n:Nat)(p:XP)(e:Ty)(i:Int)(K:C->VC):VC:=
 match look st.aF n with
 |some (.ext 0 (.slice e') xs)=>match p with
  |.top=>match Ty.beq e' e with
   |true =>.and (0<=i/\i<ab xs) (K (.xd n (.el e' i.toNat 0)))
   |false =>.ff
  |.row k=>match spot e' with
   |some s=>match Ty.beq s.t e with
    |true =>.and (k<ab xs/\0<=i/\i<(s.get (nth e' xs k)).length) (K (.xd n (.cell k i.toNat)))
    |false =>.ff
   |none =>.ff
  |_ =>.ff
 |_ =>.ff
def Ak(st:St)(n:Nat)(p:XP)(ty:Ty)(K:SV->VC):VC:=
 match look st.aF n with
 |some (.ext 0 (.slice e') xs)=>match p with
  |.el e i o=>match Ty.beq e' e,spot e' with
   |true,some s=>match ad o s.off&&Ty.beq ty (.slice s.t)with
    |true =>.and (i<ab xs) (K (.s (.one (.xd n (.row i)))))
    |false=>match ty.fA with
     |true =>.and (i<ab xs) (match KI e' (nth e' xs i) o ty with
      |some z=>K (.s (.one (.d ty z)))
      |none =>.ff)
     |false =>.ff
   |_,_ =>.ff
  |.cell i j=>match spot e' with
   |some s=>match Ty.beq s.t ty with
    |true =>.and (i<ab xs/\j<(s.get (nth e' xs i)).length) (K (.s (.one (.d s.t (nth s.t (s.get (nth e' xs i)) j)))))
    |false =>.ff
   |none =>.ff
  |_ =>.ff
 |_ =>.ff
def L2(cx:Cx)(st:St)(t:TypeId)(x:C)(i:Int)(K:C->VC):VC:=
 match look cx.τ t with
 |some (.slice e)=>match CY e x with
  |some xs =>.and (0<=i/\i<xs.length) (K (.oE e (nth e xs i.toNat)))
  |none=>match x with
   |.aV n=>match look st.aF n with
    |some (.aV e' xs)=>match Ty.beq e' e with
     |true =>.and (0<=i/\i<xs.length) (K (.lM n e' i.toNat 0))
     |false =>.ff
    |_ =>.ff
   |.xd n p=>C1 st n p e i K
   |_ =>.ff
 |_=>match look cx.Ah t with
  |some (len,te)=>match look cx.τ te,x with
   |some e,.oD n=>match look st.aF n with
    |some (.arr e' xs)=>match Ty.beq e' e with
     |true =>.and (0<=i/\i<len/\i<xs.length) (K (.lM n e' i.toNat 0))
     |false =>.ff
    |_ =>.ff
   |_,_ =>.ff
  |none =>.ff
def C2(cx:Cx)(st:St)(t:TypeId)(x:C)(f:Nat)(K:C->VC):VC:=
 match look cx.τ t with
 |some ty=>match la ty f,x with
  |some _,.oE u y=>match h:Ty.beq u ty with
   |true=>match comp ty (cF h y) f with
    |some ⟨u',z⟩=>K (.oE u' z)
    |none =>.ff
   |false =>.ff
  |some off,.ref n o=>match look st.aF n with
   |some (.cells _ _)=>K (.ref n (o+off))
   |_ =>.ff
  |some off,.lM n u i o=>match look st.aF n with
   |some (.aV u' _)=>match Ty.beq u' u with
    |true=>K (.lM n u i (o+off))
    |false =>.ff
   |some (.arr u' _)=>match Ty.beq u' u with
    |true=>K (.lM n u i (o+off))
    |false =>.ff
   |_ =>.ff
  |some off,.xd n (.el e i o)=>match look st.aF n with
   |some (.ext 0 _ _)=>K (.xd n (.el e i (o+off)))
   |_ =>.ff
  |_,_ =>.ff
 |none =>.ff
def Gw(u:Ty)(xs:List (D u))(i o:Nat)(ty:Ty)(K:SV->VC):VC:=
 .and (i<xs.length) (match KI u (nth u xs i) o ty with
  |some z=>K (.s (.one (.d ty z)))
  |none =>.ff)
def v7(cx:Cx)(st:St)(t:TypeId)(x:C)(K:SV->VC):VC:=
 match look cx.τ t with
 |some ty=>match x with
  |.oE u y=>match h:Ty.beq u ty with
   |true=>K (.s (.one (.d ty (cF h y))))
   |false =>.ff
  |.ref n o=>match look st.aF n with
   |some (.cells _ cs)=>match ty.one with
    |true=>match cs[o]? with
     |some c=>K (.s (.one c))
     |none =>.ff
    |false=>match a7 (o+ty.size) cs.length with
     |true=>K (.s (.agg ((cs.drop o).take ty.size)))
     |false =>.ff
   |_ =>.ff
  |.lM n u i o=>match look st.aF n with
   |some (.aV u' xs)=>match Ty.beq u' u with
    |true=>Gw u' xs i o ty K
    |false =>.ff
   |some (.arr u' xs)=>match Ty.beq u' u with
    |true=>Gw u' xs i o ty K
    |false =>.ff
   |_ =>.ff
  |.xd n p=>Ak st n p ty K
  |_ =>.ff
 |none =>.ff
def o6(st:St)(x:Option Operand)(dflt:Int):Option Int:=
 match x with
 |none=>some dflt
 |some o=>rG (eA st.env o)
def C3(cx:Cx)(st:St)(t:TypeId)(x:C)(lo hi:Option Operand)(K:C->VC):VC:=
 match look cx.τ t with
 |some .str=>match x with
  |.d .str s=>match o6 st lo 0,o6 st hi s.length with
   |some l,some h =>.and (0<=l/\l<=h/\h<=s.length) (K (.d .str ((s.take h.toNat).drop l.toNat)))
   |_,_ =>.ff
  |_ =>.ff
 |some (.slice e)=>match CY e x with
  |some xs=>match o6 st lo 0,o6 st hi xs.length with
   |some l,some h =>.and (0<=l/\l<=h/\h<=xs.length) (K (.d (.slice e) ((xs.take h.toNat).drop l.toNat)))
   |_,_ =>.ff
  |none=>match x with
   |.aV n=>match look st.aF n with
    |some (.aV e' xs)=>match Ty.beq e' e,o6 st lo 0,o6 st hi xs.length with
     |true,some l,some h =>.and (0<=l/\l<=h/\h<=xs.length) (K (.oY n e' l.toNat (h.toNat-l.toNat)))
     |_,_,_ =>.ff
    |_ =>.ff
   |_ =>.ff
 |_ =>.ff
def o7(cx:Cx)(st:St)(op:Op)(K:SV->VC):VC:=
 let K1:C->VC:=fun c=>K (.s (.one c))
 match op with
 |.indexAddr t x i=>match rG (eA st.env i)with
  |some i=>L2 cx st t (eA st.env x) i K1
  |none =>.ff
 |.fieldAddr t x f=>C2 cx st t (eA st.env x) f K1
 |.load t x=>v7 cx st t (eA st.env x) K
 |.slice t x lo hi none=>C3 cx st t (eA st.env x) lo hi K1
 |op=>Bq cx st op K
section
variable{X:Ext}{P:Program}{cx:Cx}
def Al{S:bI}{e:Ty}{c:C}{xs:List (D e)}{v:Value}(h:CY e c=some xs)(hc:CR cx.eT S c v):VR cx.eT (.slice e) xs S.A S.w v:=by
 unfold CY at h;split at h
 ·split at h
  ·rename_i hb;cases h;exact lN hb _ hc
  ·cases h
 ·split at h
  ·rename_i hb;cases h;exact lN hb _ hc.1
  ·cases h
 ·cases h
  rw[show v=_ from hc];exact VR.cJ rfl R.qq
 ·cases h
  obtain⟨a,rfl⟩:=hc;exact VR.cJ rfl ⟨_,rfl,by simp,.inl ⟨rfl,a,0,rfl⟩⟩
 ·cases h
def gv{t:TypeId}{ty:Ty}{i:TypeInfo}{d:TypeDesc}(h:Fit P t ty i d)(w:World):(sizeOf t).run P w=.ok ty.size w:=by
 simp[sizeOf,typeInfo,h.info,h.size]
def KM{t:TypeId}{ty:Ty}{i:TypeInfo}{d:TypeDesc}{f:TypeId->Ty->Bool}(h:Fit P t ty i d)(hs:cA f ty d=true)(w:World) :
  (isAgg t).run P w=.ok (!ty.one) w:=by
 have:(match d with|.struct _=>true|.array _ _=>true|_=>false)= !ty.one:=by
  cases ty <;> cases d <;> first|rfl|exact absurd hs (by simp[cA])
 cases d <;> simp_all [isAgg,run_underlying h.iz]
def gL{t:TypeId}{ty:Ty}{i:TypeInfo}{d:TypeDesc}{f:TypeId->Ty->Bool}(h:Fit P t ty i d)(hs:cA f ty d=true){b o:Nat}{us:List Value}(hl:us.length=ty.size)
  (w0:World)(hc0:∀j v,us[j]?=some v->w0.cell? ⟨b,o+j,none⟩=some v) :
  ∃v,(∀w,Below w0.heap.size w0 w->(b8 t (.pointer (some ⟨b,o,none⟩))).run P w=.ok v w)/\(if ty.one then us=[v]else v=.agg us.toArray):=by
 by_cases ho:ty.one=true
 ·have h1:=Ty.oC ho
  match us,hl with
  |[v],_=>
   refine⟨v,fun w hb =>?_,by rw[if_pos ho]⟩;have:=o1 hb (hc0 0 v rfl);simp only[bj]at this;simp[b8,cg,loadVar,KM h hs,ho,this]
  |[],hl=>rw[h1]at hl;cases hl
  |_ :: _ :: _,hl=>rw[h1]at hl;simp at hl
 ·refine⟨.agg us.toArray,fun w hb =>?_,by rw[if_neg ho]⟩
  have hc':∀j v,us[j]?=some v->w.cell? ((⟨b,o,none⟩:Addr).add j)=some v:=by
   intro j v hj;rw[ay];exact o1 hb (hc0 j v hj)
  have:=run_loadCells_list (P:=P) w ⟨b,o,none⟩ us hc';rw[hl]at this;simp[b8,cg,loadVar,KM h hs,ho,gv h,this]
def nU{ty:Ty}{x:D ty}{A:aI}{w:World}{us:List Value}{v:Value}(hr:R cx.eT ty x A w us)(hv:if ty.one then us=[v]else v=.agg us.toArray):VR cx.eT ty x A w v:=by
 unfold VR;split
 ·rename_i h;rw[if_pos h]at hv;rw[<-hv];exact hr
 ·rename_i h;rw[if_neg h]at hv;exact⟨_,hv,by simpa using hr⟩
def uo{e:Ty}{xs:List (D e)}{A:aI}{w:World}{v:Value}(h:VR cx.eT (.slice e) xs A w v){i:Nat}(hi:i<xs.length) :
  ∃b o cap,v=.slice (some ⟨b,o,none⟩) xs.length cap/\∃us,R cx.eT e xs[i] A w us/\Row A w b (o+i*e.size) us:=by
 obtain⟨u,hu,hl,h⟩:=VR.one rfl h;simp at hu;subst hu;rcases h with⟨rfl,_⟩|⟨b,o,cap,rfl,hc,h⟩
 ·simp at hi
 ·exact⟨b,o,cap,rfl,h i xs[i] (List.getElem?_eq_getElem hi)⟩
def p9{t te:TypeId}(hu:P.underlying t=some (.slice te)){size:Nat}(hs:∀w,(sizeOf te).run P w=.ok size w){b o len cap:Nat}{k:IntKind}{i:Int}(h0:0<=i)(h1:i<len)(w:World) :
  (b9 t (.slice (some ⟨b,o,none⟩) len cap) (.int k i)).run P w=.ok (.pointer (some ⟨b,o+i.toNat*size,none⟩)) w:=by
 simp[b9,asIntOf,run_underlying hu,h0,h1,hs,ay]
def Bt{t te:TypeId}{n:Nat}(hu:P.underlying t=some (.array n te)){size:Nat}(hs:∀w,(sizeOf te).run P w=.ok size w){b o:Nat}{k:IntKind}{i:Int}(h0:0<=i)(h1:i<n)(w:World) :
  (b9 t (.pointer (some ⟨b,o,none⟩)) (.int k i)).run P w=.ok (.pointer (some ⟨b,o+i.toNat*size,none⟩)) w:=by
 simp[b9,cg,asIntOf,run_underlying hu,h0,h1,hs,ay]
def Jw{O:aI}{st:St}{loc:Nat->Loc}{w:World}(g:Good cx.eT X (aA O st loc w)){t te:TypeId}{n:Nat}{p:XP}{e:Ty}{i:Int}{k:IntKind}{K:C->VC}{vx:Value}
  (hu:P.underlying t=some (.slice te))(hsz:∀w,(sizeOf te).run P w=.ok e.size w)(hx:CR cx.eT (aA O st loc w) (.xd n p) vx)(h:(C1 st n p e i K).holds) :
  ∃c u,(K c).holds/\CR cx.eT (aA O st loc w) c u/\∀w',(b9 t vx (.int k i)).run P w'=.ok u w':=by
 unfold C1 at h;split at h
 ·rename_i e' xs hob
  have hd:=X.deep.1 (g.obj n _ hob).2;split at h
  ·split at h
   ·rename_i hb
    have:=Ty.eq_of_beq hb;subst this;obtain⟨⟨h0,h1⟩,h⟩:=h;obtain⟨e1,s,he,hs⟩:=sj hd;cases he;obtain⟨d⟩:=tC hs hd (by omega);obtain⟨hs',hl⟩:=hx.2 _ _ hob;have hl:=d.lv.symm.trans hl;simp at hl;obtain⟨rfl,rfl⟩:=hl;refine⟨_,_,h,⟨hx.1,fun t' x' _=>⟨d.b,_,_,d.hs,by rw[<-d.tv];exact d.lv,rfl⟩⟩,fun w' =>?_⟩;rw[d.tv,p9 hu hsz h0 h1];simp
   ·exact h.elim
  ·rename_i kk
   split at h
   ·rename_i s hs
    split at h
    ·rename_i hb
     have:=Ty.eq_of_beq hb;subst this;obtain⟨⟨hk,h0,h1⟩,h⟩:=h;have hv:=hx.2 _ _ hob;obtain⟨c0,hr⟩:=Ag hs hd hk hv;have hi:i.toNat<(s.get xs[kk]).length:=by rw[iA (List.getElem?_eq_getElem hk)]at h1;omega
     obtain⟨b,o,cap,rfl,us,hus,hrow⟩:=uo (cx:=cx) (VR.cJ rfl (Af (rF hs).1 hr)) hi;obtain⟨top,hs',hl,hget⟩:=hv;refine⟨_,_,h,⟨hx.1,fun t' x' _=>⟨top,hs',b,o,_,_,hl,hget,rfl⟩⟩,fun w' =>?_⟩;rw[iA (List.getElem?_eq_getElem hk)]at h1;rw[p9 hu hsz h0 h1,(rF hs).2,a8]
    ·exact h.elim
   ·exact h.elim
  ·exact h.elim
 ·exact h.elim
def DR(hok:TyOK P cx){O:aI}{st:St}{loc:Nat->Loc}{w:World}(g:Good cx.eT X (aA O st loc w)){t:TypeId}{x:C}{i:Int}{k:IntKind}{K:C->VC}{vx:Value}
  (hx:CR cx.eT (aA O st loc w) x vx)(h:(L2 cx st t x i K).holds) :
  ∃c u,(K c).holds/\CR cx.eT (aA O st loc w) c u/\∀w',(b9 t vx (.int k i)).run P w'=.ok u w':=by
 unfold L2 at h;split at h
 ·rename_i e ht
  obtain⟨te,ii,dd,hu,hf⟩:=hH hok ht;split at h
  ·rename_i xs hr
   obtain⟨⟨h0,h1⟩,h2⟩:=h;have hi:i.toNat<xs.length:=by omega
   obtain⟨b,o,cap,rfl,us,hus,hrow⟩:=uo (Al hr hx) hi;rw[iA (List.getElem?_eq_getElem hi)]at h2;exact⟨_,_,h2,⟨b,_,us,rfl,hus,hrow⟩,fun w'=>p9 hu (gv hf) h0 h1 w'⟩
  ·split at h
   ·rename_i n
    split at h
    ·rename_i e' xs hob
     split at h
     ·rename_i hb
      have:=Ty.eq_of_beq hb;subst this;obtain⟨⟨h0,h1⟩,h2⟩:=h;rcases(g.obj _ _ hob).2 with⟨rfl,_,_⟩|⟨b,vs,T,cap,hv,hU,_⟩
      ·simp at h1;omega
      rw[hx.2 _ _ hob,hv];refine⟨_,_,h2,⟨hx.1,fun _=>⟨b,hU,rfl⟩⟩,fun w' =>?_⟩;rw[p9 hu (gv hf) h0 h1 w'];simp
     ·exact h.elim
    ·exact h.elim
   ·exact Jw g hu (gv hf) hx h
   ·exact h.elim
 ·split at h
  ·rename_i len te ht
   have hu:=hok.arr t len te ht;split at h
   ·rename_i e n he
    obtain⟨m,ii,dd,hf,_⟩:=fC hok he;split at h
    ·rename_i e' xs hob
     split at h
     ·rename_i hb
      have:=Ty.eq_of_beq hb;subst this;obtain⟨⟨h0,h1,h3⟩,h2⟩:=h;obtain⟨_,b,vs,T,hv,hU,_⟩:=g.obj _ _ hob;rw[hx.2 _ _ hob,hv];refine⟨_,_,h2,⟨hx.1,fun _=>⟨b,hU,rfl⟩⟩,fun w' =>?_⟩;rw[Bt hu (gv hf) h0 h1 w'];simp
     ·exact h.elim
    ·exact h.elim
   ·exact h.elim
  ·exact h.elim
def Oo{f:TypeId->Ty->Bool}:∀{fs:List Field} {off:Nat} {ty:Ty} {k o:Nat},dR f fs off ty=true->la ty k=some o->
  ∃fd u,fs[k]?=some fd/\fd.offset=off+o/\f fd.type u=true/\0<u.size:=by
 intro fs;induction fs with
 |nil=>intro off ty k o h h';cases ty <;> simp[dR]at h;cases k <;> simp[la]at h'
 |cons g gs ih=>
  intro off ty k o h h';cases ty <;> simp only[dR,bh]at h;rename_i a b;simp only[ao]at h;obtain⟨⟨⟨h1,h2⟩,h3⟩,h4⟩:=h;cases k with
  |zero=>
   simp[la]at h';exact⟨g,a,rfl,by have:=ar h1;omega,h2,mf h3⟩
  |succ k=>
   simp only[la]at h';split at h'
   ·rename_i o' ho'
    cases h';obtain⟨fd,u,k1,k2,k3,k4⟩:=ih h4 ho';exact⟨fd,u,by simpa using k1,by omega,k3,k4⟩
   ·cases h'
def RM:∀{t:Ty} {x:D t} {k:Nat} {u:Ty} {z:D u} {o:Nat} {A:aI} {w:World} {vs:List Value},comp t x k=some ⟨u,z⟩->la t k=some o->R cx.eT t x A w vs->
  ∃us,R cx.eT u z A w us/\∀j v,us[j]?=some v->vs[o+j]?=some v:=by
 intro t;induction t with
 |prod a b iha ihb=>
  intro x k u z o A w vs h h' hr;obtain⟨u1,u2,rfl,r1,r2⟩:=hr;cases k with
  |zero=>
   simp[comp]at h;simp[la]at h';obtain⟨rfl,h⟩:=h;cases h;subst h';refine⟨u1,r1,fun j v hj =>?_⟩;rw[al,List.getElem?_append_left (by
    rcases cy j u1.length with h|h
    ·exact h
    ·rw[List.getElem?_eq_none h]at hj;cases hj)]
   exact hj
  |succ k=>
   simp only[comp]at h;simp only[la]at h';split at h'
   ·rename_i o' ho'
    cases h';obtain⟨us,k1,k2⟩:=ihb h ho' r2;refine⟨us,k1,fun j v hj =>?_⟩;have:=k2 j v hj;rw[bq,List.getElem?_append_right (by rw[r1.length];omega),r1.length];rw[show a.size+(o'+j)-a.size=o'+j from by omega];exact this
   ·cases h'
 |_=>intro x k u z o A w vs h;cases k <;> simp[comp]at h
def qa{t:TypeId}{ty:Ty}{k off:Nat}(hok:TyOK P cx)(ht:look cx.τ t=some ty)(ho:la ty k=some off){b o:Nat}(w:World) :
  (c7 t (.pointer (some ⟨b,o,none⟩)) k).run P w=.ok (.pointer (some ⟨b,o+off,none⟩)) w:=by
 obtain⟨m,i,d,hf,hs⟩:=fC hok ht;have:∃fs,d=.struct fs/\dR (fits P m) fs.toList 0 ty=true:=by
  cases ty <;> (try(cases k <;> simp[la]at ho;done));cases d <;> simp[cA]at hs;exact⟨_,rfl,hs⟩
 obtain⟨fs,rfl,hff⟩:=this;obtain⟨fd,u,h1,h2,h3,h4⟩:=Oo hff ho;obtain⟨m',i',d',_,hf',_⟩:=kU h3;have h1':fs[k]?=some fd:=by rw[<-Array.getElem?_toList];exact h1
 have hne:u.size≠0:=by omega
 simp[c7,run_underlying hf.iz,h1',cg,fieldPlace,gv hf',hne,ay,h2]
def yJ(hok:TyOK P cx){O:aI}{st:St}{loc:Nat->Loc}{w:World}{t:TypeId}{x:C}{f:Nat}{K:C->VC}{vx:Value}
  (hx:CR cx.eT (aA O st loc w) x vx)(h:(C2 cx st t x f K).holds) :
  ∃c u,(K c).holds/\CR cx.eT (aA O st loc w) c u/\∀w',(c7 t vx f).run P w'=.ok u w':=by
 unfold C2 at h;split at h
 ·rename_i ty ht
  split at h
  ·rename_i off u y ho
   split at h
   ·rename_i hb
    split at h
    ·rename_i u' z hz
     obtain⟨b,o,us,rfl,hr,hrow⟩:=hx;obtain⟨us',k1,k2⟩:=RM hz ho (mQ hb y hr);refine⟨_,_,h,⟨b,o+off,us',rfl,k1,fun j v hj =>?_⟩,fun w'=>qa hok ht ho w'⟩;have:=hrow _ _ (k2 j v hj);rw[bq];exact this
    ·exact h.elim
   ·exact h.elim
  ·rename_i off n o ho
   split at h
   ·rename_i T cs hob
    obtain⟨b,h1,rfl⟩:=hx.2 _ _ hob;exact⟨_,_,h,⟨hx.1,fun T' cs' _=>⟨b,h1,rfl⟩⟩,fun w'=>qa hok ht ho w'⟩
   ·exact h.elim
  ·rename_i off n u i o ho
   have fin:(∃xs,look st.aF n=some (.aV u xs)\/look st.aF n=some (.arr u xs))->(K (.lM n u i (o+off))).holds->
     ∃c u,(K c).holds/\CR cx.eT (aA O st loc w) c u/\∀w',(c7 t vx f).run P w'=.ok u w':=by
    intro hl hk;obtain⟨b,h1,rfl⟩:=hx.2 hl;exact⟨_,_,hk,⟨hx.1,fun _=>⟨b,h1,rfl⟩⟩,fun w'=>by rw[qa hok ht ho w'];simp[bq]⟩
   split at h
   ·rename_i u' xs hob
    split at h
    ·rename_i hb;have:=Ty.eq_of_beq hb;subst this;exact fin ⟨_,.inl hob⟩ h
    ·exact h.elim
   ·rename_i u' xs hob
    split at h
    ·rename_i hb;have:=Ty.eq_of_beq hb;subst this;exact fin ⟨_,.inr hob⟩ h
    ·exact h.elim
   ·exact h.elim
  ·rename_i off n e i o ho
   split at h
   ·rename_i t' x' hob
    obtain⟨b,k,c,hs',hl,rfl⟩:=hx.2 _ _ hob;exact⟨_,_,h,⟨hx.1,fun t'' x'' _=>⟨b,k,c,hs',hl,rfl⟩⟩,fun w'=>by rw[qa hok ht ho w'];simp[bq]⟩
   ·exact h.elim
  ·exact h.elim
 ·exact h.elim
def Gx{O:aI}{st:St}{loc:Nat->Loc}{w:World}(g:Good cx.eT X (aA O st loc w)){t:TypeId}{ty:Ty}{ii:TypeInfo}{dd:TypeDesc}{f:TypeId->Ty->Bool}(hf:Fit P t ty ii dd)(hsf:cA f ty dd=true)
  {n:Nat}{p:XP}{K:SV->VC}{vx:Value}(hx:CR cx.eT (aA O st loc w) (.xd n p) vx)(h:(Ak st n p ty K).holds) :
  ∃c u,(K c).holds/\dI cx.eT (aA O st loc w) c u/\∀w',Below w.heap.size w w'->(b8 t vx).run P w'=.ok u w':=by
 unfold Ak at h;split at h
 ·rename_i e' xs hob
  have hd:=X.deep.1 (g.obj n _ hob).2;have hv:=hx.2 _ _ hob;split at h
  ·rename_i e i o
   split at h
   ·rename_i s hb hs
    have:=Ty.eq_of_beq hb;subst this;have cells:∀(hi:i<ab xs),∃b c k us hs' top,(loc n).v=.tuple (top :: hs').toArray/\hs'[i]?=some k/\us[s.off]?=some k/\R 0 e' xs[i] (oZ c) w us/\vx=.pointer (some ⟨b,i*e'.size+o,none⟩)/\
      ∀j u,us[o+j]?=some u->w.cell? ⟨b,i*e'.size+o+j,none⟩=some u:=by
     intro hi;obtain⟨d⟩:=tC hs hd (by omega);obtain⟨b,k0,c0,hs',hl,hvx⟩:=hv;have hl:=d.lv.symm.trans hl;simp at hl;obtain⟨ht,rfl⟩:=hl;rw[d.tv]at ht;simp at ht;obtain⟨c,k,us,k1,k2,k3,k4,k5⟩:=d.rows.row i _ (List.getElem?_eq_getElem hi);refine⟨b,c,k,us,d.hs,d.top,d.lv,k2,k3,k4,hvx,fun j u hj =>?_⟩;rw[<-ht.1,cell_of_row w d.b _ d.vs d.T (0,0) d.heap,bq];exact k5 _ _ hj
    split at h
    ·rename_i hb2
     simp only[ao]at hb2;have ho:=ar hb2.1;have hty:=Ty.eq_of_beq hb2.2;subst hty;subst ho;obtain⟨hi,h⟩:=h;obtain⟨b,c,k,us,hs',top,hl,k2,k3,k4,hvx,hcell⟩:=cells hi;obtain⟨v',r1,r2⟩:=gL hf hsf (b:=b) (o:=i*e'.size+s.off) (us:=[k]) rfl w (by
      intro j u hj;cases j with
      |zero=>simp at hj;subst hj;exact hcell 0 _ k3
      |succ j=>simp at hj)
     simp[Ty.one]at r2;subst r2;subst hvx;exact⟨_,_,h,⟨hx.1,fun t' x' _=>⟨top,hs',hl,k2⟩⟩,r1⟩
    ·split at h
     ·rename_i hpl
      obtain⟨hi,h⟩:=h;rw[iA (List.getElem?_eq_getElem hi)]at h;split at h
      ·rename_i z hz
       obtain⟨b,c,k,us,hs',top,hl,k2,k3,k4,hvx,hcell⟩:=cells hi;have hz':=KJ hz k4;obtain⟨v',r1,r2⟩:=gL hf hsf (b:=b) (o:=i*e'.size+o) (us:=(us.drop o).take ty.size) hz'.length w (by
        intro j u hj;rw[List.getElem?_take]at hj;split at hj
        ·rw[List.getElem?_drop]at hj;exact hcell j _ hj
        ·cases hj)
       subst hvx;exact⟨_,v',h,nU (j0 hpl hz') r2,r1⟩
      ·exact h.elim
     ·exact h.elim
   ·exact h.elim
  ·rename_i i j
   split at h
   ·rename_i s hs
    split at h
    ·rename_i hb
     have:=Ty.eq_of_beq hb;subst this;obtain⟨⟨hi,hj⟩,h⟩:=h;obtain⟨top,hs',b,o,k0,c0,hl,hget,hvx⟩:=hv;obtain⟨c,hr⟩:=Ag hs hd hi ⟨top,hs',hl,hget⟩;rw[iA (List.getElem?_eq_getElem hi)]at h hj;rw[iA (List.getElem?_eq_getElem hj)]at h;obtain⟨b',o',cap',hv',us,hus,hrow⟩:=uo (cx:=cx) (VR.cJ rfl (Af (rF hs).1 hr)) hj;simp at hv';obtain⟨⟨rfl,rfl⟩,_,_⟩:=hv';rw[(rF hs).2,a8]at hrow;obtain⟨v',r1,r2⟩:=gL hf hsf (b:=b) (o:=o+j) hus.length w (fun j' v' hj'=>(hrow j' v' hj').1);subst hvx;exact⟨_,v',h,nU (j0 (rF hs).1 hus) r2,r1⟩
    ·exact h.elim
   ·exact h.elim
  ·exact h.elim
 ·exact h.elim
def uq(hok:TyOK P cx){O:aI}{st:St}{loc:Nat->Loc}{w:World}(g:Good cx.eT X (aA O st loc w)){t:TypeId}{x:C}{K:SV->VC}{vx:Value}
  (hx:CR cx.eT (aA O st loc w) x vx)(h:(v7 cx st t x K).holds) :
  ∃c u,(K c).holds/\dI cx.eT (aA O st loc w) c u/\∀w',Below w.heap.size w w'->(b8 t vx).run P w'=.ok u w':=by
 unfold v7 at h;split at h
 ·rename_i ty ht
  obtain⟨m,i,d,hf,hs⟩:=fC hok ht;have elem:∀{n:Nat} {u':Ty} {xs:List (D u')} {ix o b:Nat} {vs:Array Value} {T:TypeId},vx=.pointer (some ⟨b,ix*u'.size+o,none⟩)->w.heap[b]?=some (.cells vs T (0,0))->
    kD cx.eT (aA O st loc w) u' xs vs->(Gw u' xs ix o ty K).holds->∃c u,(K c).holds/\dI cx.eT (aA O st loc w) c u/\∀w',Below w.heap.size w w'->(b8 t vx).run P w'=.ok u w':=by
   intro n u' xs ix o b vs T hv hb he h;obtain⟨hlt,h⟩:=h;have hget:=List.getElem?_eq_getElem hlt;rw[iA hget]at h;obtain⟨us,hr,hus⟩:=he _ _ hget;split at h
   ·rename_i z hz
    have hz':=KJ hz hr;have hlen:=hz'.length;obtain⟨v,h1,h2⟩:=gL hf hs (b:=b) (o:=ix*u'.size+o) (us:=(us.drop o).take ty.size) hlen w (by
     intro j v hj;rw[List.getElem?_take]at hj;split at hj
     ·rw[List.getElem?_drop]at hj
      have:=hus _ _ hj;rw[show ix*u'.size+o+j=ix*u'.size+(o+j)from by omega,cell_of_row w b _ vs T (0,0) hb];exact this
     ·cases hj)
    subst hv;exact⟨_,v,h,nU hz' h2,h1⟩
   ·exact h.elim
  split at h
  ·rename_i u y
   split at h
   ·rename_i hb
    obtain⟨b,o,us,rfl,hr,hrow⟩:=hx;have hr:=mQ hb y hr;obtain⟨v,h1,h2⟩:=gL hf hs hr.length w (fun j v hj=>(hrow j v hj).1);exact⟨_,v,h,nU hr h2,h1⟩
   ·exact h.elim
  ·rename_i n o
   split at h
   ·rename_i T cs hob
    obtain⟨b0,hb0,rfl⟩:=hx.2 _ _ hob;obtain⟨_,b,vs,hv,hU,hheap,hcs⟩:=g.obj _ _ hob;rw[hb0]at hv;cases hv;have cell:∀j v,vs[j]?=some v->w.cell? ⟨b0,j,none⟩=some v:=by
     intro j v hj;rw[cell_of_row w b0 j vs.toArray T (0,0) hheap];simpa using hj
    split at h
    ·rename_i ho
     split at h
     ·rename_i c hc
      obtain⟨v,hv,hcr,hov⟩:=hcs.get hc;have hl:[v].length=ty.size:=by rw[Ty.oC ho];rfl
      obtain⟨v',h1,h2⟩:=gL hf hs (b:=b0) (o:=o) hl w (by
       intro j u hj;cases j with
       |zero=>simp at hj;subst hj;exact cell _ _ hv
       |succ j=>simp at hj)
      rw[if_pos ho]at h2;simp at h2;subst h2;exact⟨_,_,h,hcr,h1⟩
     ·exact h.elim
    ·rename_i ho
     split at h
     ·rename_i hle
      have hle:=bm hle;have hlen:=hcs.length;have hl:((vs.drop o).take ty.size).length=ty.size:=by
       simp only[ah,ax];omega
      obtain⟨v',h1,h2⟩:=gL hf hs (b:=b0) (o:=o) hl w (by
       intro j u hj;rw[List.getElem?_take]at hj;split at hj
       ·rw[List.getElem?_drop]at hj;exact cell _ _ hj
       ·cases hj)
      rw[if_neg (by simp[ho])]at h2;exact⟨_,_,h,⟨_,h2,(hcs.drop o).take _⟩,h1⟩
     ·exact h.elim
   ·exact h.elim
  ·rename_i n u ix o
   split at h
   ·rename_i u' xs hob
    split at h
    ·rename_i hb
     have:=Ty.eq_of_beq hb;subst this;obtain⟨b,hb1,hv⟩:=hx.2 ⟨_,.inl hob⟩;rcases(g.obj _ _ hob).2 with⟨_,_,hU⟩|⟨b',vs,T,cap,_,hU,hheap,_,_,_,he⟩
     ·rw[hU]at hb1;cases hb1
     rw[hU]at hb1;cases hb1;exact elem (n:=n) hv hheap he h
    ·exact h.elim
   ·rename_i u' xs hob
    split at h
    ·rename_i hb
     have:=Ty.eq_of_beq hb;subst this;obtain⟨b,hb1,hv⟩:=hx.2 ⟨_,.inr hob⟩;obtain⟨_,b',vs,T,_,hU,hheap,_,he⟩:=g.obj _ _ hob;rw[hU]at hb1;cases hb1;exact elem (n:=n) hv hheap he h
    ·exact h.elim
   ·exact h.elim
  ·exact Gx g hf hs hx h
  ·exact h.elim
 ·exact h.elim
def L3{S:bI}{st:St}{a:Act}(he:gA cx.eT S st.env a){x:Option Operand}{dflt r:Int}(h:o6 st x dflt=some r) :
  (x=none/\r=dflt)\/∃o k,x=some o/\a.eval o=.int k r:=by
 cases x with
 |none=>simp[o6]at h;exact .inl ⟨rfl,h.symm⟩
 |some o=>
  obtain⟨k,hk,_⟩:=nz h (bM he o);exact .inr ⟨o,k,rfl,hk⟩
def o8{isSlice:Bool}{len cap:Nat}{lo hi:Option Value}{l h:Int}(hlo:(lo=none/\l=0)\/∃k,lo=some (.int k l))(hhi:(hi=none/\h=len)\/∃k,hi=some (.int k h))
  (h0:0<=l)(h1:l<=h)(h2:h<=len)(h3:len<=cap)(w:World):(ch isSlice len cap lo hi none).run P w=.ok (l.toNat,h.toNat,cap) w:=by
 have hb:∀(k:IntKind) (n:Int) (y:Nat) (code:BoundsCode),0<=n->n<=y->(ep (.int k n) y code).run P w=.ok n.toNat w:=by
  intro k n y code hn hy;simp[ep,asIntOf,hn,hy]
 have e1:(h.toNat:Int)=h:=Int.toNat_of_nonneg (by omega);rcases hlo with⟨rfl,rfl⟩|⟨kl,rfl⟩ <;> rcases hhi with⟨rfl,rfl⟩|⟨kh,rfl⟩
 ·simp[ch]
 ·simp[ch,hb kh h cap _ (by omega) (by omega)]
 ·simp[ch,hb kl l len _ h0 (by omega)]
 ·simp[ch,hb kh h cap _ (by omega) (by omega),hb kl l h.toNat _ h0 (by omega)]
def Oq{e:Ty}{xs:List (D e)}{A:aI}{w:World}{v:Value}{t te:TypeId}(hu:P.underlying t=some (.slice te))(hs:∀w,(sizeOf te).run P w=.ok e.size w)
  (hv:VR cx.eT (.slice e) xs A w v){lo hi:Option Value}{l h:Int}(hlo:(lo=none/\l=0)\/∃k,lo=some (.int k l))(hhi:(hi=none/\h=xs.length)\/∃k,hi=some (.int k h))
  (h0:0<=l)(h1:l<=h)(h2:h<=xs.length) :
  ∃u,(∀w',(ba t v lo hi none).run P w'=.ok u w')/\VR cx.eT (.slice e) ((xs.take h.toNat).drop l.toNat) A w u:=by
 obtain⟨u,hu',hl,hr⟩:=VR.one rfl hv;simp at hu';subst hu';have hlen:((xs.take h.toNat).drop l.toNat).length=h.toNat-l.toNat:=by
  simp only[ax,ah];omega
 rcases hr with⟨rfl,a,c,rfl⟩|⟨b,o,cap,rfl,hc,hr⟩
 ·simp at h2
  have:h=0:=by omega
  have:l=0:=by omega
  have hsome:(∃u,(∀w',(ba t (.slice a 0 c) lo hi none).run P w'=.ok (.slice u 0 c) w')):=by
   have hb:=fun w'=>o8 (P:=P) (isSlice:=true) (len:=0) (cap:=c) hlo (by simpa using hhi) h0 h1 (by simpa using h2) (cj _) w'
   cases a with
   |none=>
    refine⟨none,fun w' =>?_⟩;simp[ba,b4,run_underlying hu,hb,hs];omega
   |some a=>
    refine⟨some a,fun w' =>?_⟩;simp[ba,b4,run_underlying hu,hb,hs,Addr.add, *]
  obtain⟨u,hsome⟩:=hsome;refine⟨.slice u 0 c,hsome,?_⟩;exact VR.cJ rfl (by rw[show(([]:List (D e)).take h.toNat).drop l.toNat=[]from by simp];exact⟨_,rfl,by simp,.inl ⟨rfl,u,c,rfl⟩⟩)
 ·have hb:=fun w'=>o8 (P:=P) (isSlice:=true) (len:=xs.length) (cap:=cap) hlo hhi h0 h1 h2 hc w'
  refine⟨.slice (if cap=l.toNat then some ⟨b,o,none⟩else some ⟨b,o+l.toNat*e.size,none⟩) (h.toNat-l.toNat) (cap-l.toNat),fun w' =>?_,VR.cJ rfl ⟨_,rfl,by omega,?_⟩⟩
  ·simp[ba,b4,run_underlying hu,hb,hs,ay]
  ·rw[hlen]
   by_cases fT:cap=l.toNat
   ·refine .inr ⟨b,o,cap-l.toNat,by rw[if_pos fT],by omega,fun i y hy =>?_⟩
    have:i<((xs.take h.toNat).drop l.toNat).length:=by
     rcases cy i ((xs.take h.toNat).drop l.toNat).length with hh|hh
     ·exact hh
     ·rw[List.getElem?_eq_none hh]at hy;cases hy
    omega
   ·refine .inr ⟨b,o+l.toNat*e.size,cap-l.toNat,by rw[if_neg fT],by omega,fun i y hy =>?_⟩
    rw[List.getElem?_drop,List.getElem?_take]at hy;split at hy
    ·obtain⟨us,k1,k2⟩:=hr _ _ hy
     refine⟨us,k1,?_⟩;rw[show o+l.toNat*e.size+i*e.size=o+(l.toNat+i)*e.size from by rw[af];omega];exact k2
    ·cases hy
def Uv{t te:TypeId}{size:Nat}(hu:P.underlying t=some (.slice te))(hs:∀w,(sizeOf te).run P w=.ok size w){b len cap:Nat}(hc:len<=cap)
  {lo hi:Option Value}{l h:Int}(hlo:(lo=none/\l=0)\/∃k,lo=some (.int k l))(hhi:(hi=none/\h=len)\/∃k,hi=some (.int k h))(h0:0<=l)(h1:l<=h)(h2:h<=len)(w':World) :
  (ba t (.slice (some ⟨b,0,none⟩) len cap) lo hi none).run P w'=.ok (.slice (if cap=l.toNat then some ⟨b,0,none⟩else some ⟨b,l.toNat*size,none⟩) (h.toNat-l.toNat) (cap-l.toNat)) w':=by
 have hb:=fun w'=>o8 (P:=P) (isSlice:=true) (len:=len) (cap:=cap) hlo hhi h0 h1 h2 hc w'
 simp[ba,b4,run_underlying hu,hb,hs,ay]
def RN{t te:TypeId}{size:Nat}(hu:P.underlying t=some (.slice te))(hs:∀w,(sizeOf te).run P w=.ok size w){a:Option Addr}
  {lo hi:Option Value}{l h:Int}(hlo:(lo=none/\l=0)\/∃k,lo=some (.int k l))(hhi:(hi=none/\h=0)\/∃k,hi=some (.int k h))(h0:0<=l)(h1:l<=h)(h2:h<=0) :
  ∃u,∀w',(ba t (.slice a 0 0) lo hi none).run P w'=.ok (.slice u 0 0) w':=by
 have:h=0:=by omega
 have:l=0:=by omega
 have hb:=fun w'=>o8 (P:=P) (isSlice:=true) (len:=0) (cap:=0) hlo (by simpa using hhi) h0 h1 (by simpa using h2) (cj _) w'
 cases a with
 |none=>
  refine⟨none,fun w' =>?_⟩;simp[ba,b4,run_underlying hu,hb,hs];omega
 |some a=>
  refine⟨some a,fun w' =>?_⟩;simp[ba,b4,run_underlying hu,hb,hs,Addr.add, *]
def yK(hok:TyOK P cx){O:aI}{st:St}{loc:Nat->Loc}{w:World}{a:Act}(g:Good cx.eT X (aA O st loc w))(he:gA cx.eT (aA O st loc w) st.env a){t:TypeId}{x:C}{lo hi:Option Operand}{K:C->VC}{vx:Value}
  (hx:CR cx.eT (aA O st loc w) x vx)(h:(C3 cx st t x lo hi K).holds) :
  ∃c u,(K c).holds/\CR cx.eT (aA O st loc w) c u/\∀w',(ba t vx (lo.map a.eval) (hi.map a.eval) none).run P w'=.ok u w':=by
 have conv:∀{x:Option Operand} {dflt r:Int},o6 st x dflt=some r->(x.map a.eval=none/\r=dflt)\/∃k,x.map a.eval=some (.int k r):=by
  intro x dflt r hr;rcases L3 he hr with⟨rfl,h⟩|⟨o,k,rfl,h⟩
  ·exact .inl ⟨rfl,h⟩
  ·exact .inr ⟨k,by simp[h]⟩
 unfold C3 at h;split at h
 ·rename_i ht
  have hu:=x5 hok ht;split at h
  ·rename_i s
   obtain⟨rfl,hl⟩:=jE.1 hx;split at h
   ·rename_i l hh e1 e2
    obtain⟨⟨h0,h1,h2⟩,h⟩:=h;refine⟨_,.string ⟨((s.take hh.toNat).drop l.toNat).toArray⟩,h,jE.2 ⟨rfl,?_⟩,fun w' =>?_⟩
    ·simp only[ax,ah];omega
    ·have hb:=o8 (P:=P) (isSlice:=false) (len:=s.length) (cap:=s.length) (conv e1) (conv e2) h0 h1 h2 (ag _) w'
     have hsz:(⟨s.toArray⟩:ByteArray).size=s.length:=rfl;simp only[ba,aj,run_underlying hu,av,b4,Option.isSome_none,bh,if_false,hsz,hb,b7];congr 2;have:(⟨s.toArray⟩:ByteArray).extract l.toNat hh.toNat=⟨(s.toArray).extract l.toNat hh.toNat⟩:=by
      apply ByteArray.ext;simp
     rw[this];congr 1;apply c6.1;simp[List.extract_eq_take_drop,List.drop_take]
   ·exact h.elim
  ·exact h.elim
 ·rename_i e ht
  obtain⟨te,ii,dd,hu,hf⟩:=hH hok ht;split at h
  ·rename_i xs hr
   split at h
   ·rename_i l hh e1 e2
    obtain⟨⟨h0,h1,h2⟩,h⟩:=h;obtain⟨u,k1,k2⟩:=Oq hu (gv hf) (Al hr hx) (conv e1) (conv e2) h0 h1 h2;exact⟨_,u,h,k2,k1⟩
   ·exact h.elim
  ·split at h
   ·rename_i n
    split at h
    ·rename_i e' xs hob
     split at h
     ·rename_i l hh hb e1 e2
      have:=Ty.eq_of_beq hb;subst this;obtain⟨⟨h0,h1,h2⟩,h⟩:=h;have hv:=hx.2 _ _ hob;rcases(g.obj _ _ hob).2 with⟨rfl,⟨a0,ha⟩,_⟩|⟨b,vs,T,cap,hv2,hU,_,_,hc,_⟩
      ·obtain⟨u,hr⟩:=RN (P:=P) hu (gv hf) (a:=a0) (conv e1) (conv e2) h0 h1 (by simpa using h2)
       rw[hv,ha];refine⟨_,_,h,⟨hx.1,fun xs' _ =>.inl ⟨?_,_,_,rfl⟩⟩,hr⟩;simp at h2;omega
      ·rw[hv,hv2]
       refine⟨_,_,h,⟨hx.1,fun xs' _ =>?_⟩,fun w'=>Uv (P:=P) hu (gv hf) hc (conv e1) (conv e2) h0 h1 h2 w'⟩;by_cases fT:cap=l.toNat
       ·exact .inl ⟨by omega,_,_,by rw[show hh.toNat-l.toNat=0 by omega]⟩
       ·exact .inr ⟨b,_,hU,by rw[if_neg fT]⟩
     ·exact h.elim
    ·exact h.elim
   ·exact h.elim
 ·exact h.elim
def Gy(hok:TyOK P cx){O:aI}{st:St}{loc:Nat->Loc}{w:World}{a:Act}(g:Good cx.eT X (aA O st loc w))(he:gA cx.eT (aA O st loc w) st.env a)
  {o:Oper}{K:SV->VC}(h:(o7 cx st o.op K).holds) :
  ∃sv v,(K sv).holds/\dI cx.eT (aA O st loc w) sv v/\(execOp a.eval o).run P w=.ok (.value v) w:=by
 unfold o7 at h;simp only at h;split at h
 ·rename_i t x i hop
  split at h
  ·rename_i n hn
   obtain⟨k,hk,_⟩:=nz hn (bM he i);obtain⟨c,u,h1,h2,h3⟩:=DR (P:=P) hok g (k:=k) (bM he x) h;exact⟨_,u,h1,h2,by simp[execOp,hop,hk,h3]⟩
  ·exact h.elim
 ·rename_i t x f hop
  obtain⟨c,u,h1,h2,h3⟩:=yJ (P:=P) hok (bM he x) h;exact⟨_,u,h1,h2,by simp[execOp,hop,h3]⟩
 ·rename_i t x hop
  obtain⟨c,u,h1,h2,h3⟩:=uq (P:=P) hok g (bM he x) h;exact⟨_,u,h1,h2,by simp[execOp,hop,h3 w (Below.refl _ _)]⟩
 ·rename_i t x lo hi hop
  obtain⟨c,u,h1,h2,h3⟩:=yK (P:=P) hok g he (bM he x) h;exact⟨_,u,h1,h2,by simp[execOp,hop,h3]⟩
 ·obtain⟨sv,v,h1,h2,h3⟩:=vY (P:=P) hok g he h
  exact⟨sv,v,h1,h2,h3 w⟩
end
def qb:Ty->Bool
 |.gC=>false
 |.prod a b=>qb a&&qb b
 |_=>true
def oQ:Ty->List Ty
 |.prod a b=>oQ a++oQ b
 |.unit=>[]
 |t=>[t]
def iw:List Ty->List C->St->List C×St
 |.slice e :: ts,.jO :: cs,st=>
  match iw ts cs {st with aF:=(st.next,.tok e []) :: st.aF,next:=st.next+1}with
  |(cs',st')=>(.app e [] st.next :: cs',st')
 |_ :: ts,c :: cs,st=>match iw ts cs st with
  |(cs',st')=>(c :: cs',st')
 |[],cs,st=>(cs,st)
 |_,[],st=>([],st)
def VY(st:St):C->Bool
 |.any=>false
 |.d t _=>t.one
 |.aV n=>match look st.aF n with
  |some (.aV _ _)=>true
  |_=>false
 |.oD n=>match look st.aF n with
  |some (.arr _ _)=>true
  |_=>false
 |.eM n=>match look st.aF n with
  |some (.ext (_+1) _ _)=>true
  |_=>false
 |.ref n _=>match look st.aF n with
  |some (.cells _ _)=>true
  |_=>false
 |.lM _ _ _ _=>false
 |.oY _ _ _ _=>false
 |.lit _=>true
 |.app _ _ _=>true
 |.jO=>true
 |.gX=>true
 |.emp=>true
 |.oE _ _=>true
 |.fn _ _=>true
 |.xd _ _=>false
 |.rC _=>false
def x6(st:St)(ty:Ty)(v:cP):Option (List C):=
 match v with
 |.one (.d t x)=>match Ty.beq t ty with
  |true=>some (xZ t x)
  |false=>none
 |.one (.lit b)=>match ty with
  |.bool=>some [.d .bool b]
  |_=>none
 |.one c=>match ty.one&&VY st c with
  |true=>some [c]
  |false=>none
 |.agg cs=>match ty.one,ad cs.length ty.size with
  |false,true=>some cs
  |_,_=>none
def fresh(st:St)(oc:OC):St:={st with aF:=(st.next,oc) :: st.aF,next:=st.next+1}
def x7(cx:Cx)(st:St)(x:Operand)(ty:TypeId)(K:SV->St->VC):VC:=
 match ev st.env x,look cx.τ ty with
 |.s (.one .jO),some (.slice e)=>K (.s (.one (.app e [] st.next))) (fresh st (.tok e []))
 |v,_=>K v st
def KN(cx:Cx)(st:St)(t:TypeId)(K:SV->St->VC):VC:=
 match look cx.τ t with
 |some ty=>match iw (oQ ty) (rE ty) st with
  |(cs,st')=>K (.s (.one (.ref st'.next 0))) (fresh st' (.cells t cs))
 |none=>match look cx.Ah t with
  |some (n,te)=>match look cx.τ te with
   |some e=>match qb e with
    |true=>K (.s (.one (.oD st.next))) (fresh st (.arr e (c8 n (bV e))))
    |false =>.ff
   |none =>.ff
  |none =>.ff
def T7(cx:Cx)(st:St)(t:TypeId)(v:cP)(K:SV->St->VC):VC:=
 match look cx.τ t with
 |some ty=>match x6 st ty v with
  |some cs0=>match iw (oQ ty) cs0 st with
   |(cs,st')=>K (.s (.one (.ref st'.next 0))) (fresh st' (.cells t cs))
  |none =>.ff
 |none =>.ff
section
variable{X:Ext}{P:Program}{cx:Cx}
def eS(O:aI)(w:World):Prop:=∀b off,O b off->b<w.heap.size
def mR(O:aI)(st:St)(loc:Nat->Loc)(w:World)(oc:OC)(m:Nat):(aA O (fresh st oc) loc w).ob m=if st.next=m then some oc else look st.aF m:=by
 simp only[aA,fresh,cC]
def bT(loc:Nat->Loc)(n:Nat)(l:Loc):Nat->Loc:=fun m=>if n=m then l else loc m
def gM{O:aI}{st:St}{loc:Nat->Loc}{w w':World}{oc:OC}{l:Loc}(g:Good cx.eT X (aA O st loc w))(hO:eS O w)
  (hw:Below w.heap.size w w')(hl:∀b∈l.bs,w.heap.size<=b) :
  Tr (aA O st loc w) (aA O (fresh st oc) (bT loc st.next l) w')/\
   (OR cx.eT X (aA O (fresh st oc) (bT loc st.next l) w') l oc->Good cx.eT X (aA O (fresh st oc) (bT loc st.next l) w')):=
 RB (S:=aA O st loc w) (S':=aA O (fresh st oc) (bT loc st.next l) w') g rfl hO (fun m=>mR O st _ w' oc m) (fun _=>rfl) rfl hw hl
def eS.tr{O:aI}{w w':World}(h:eS O w)(hs:w.heap.size<=w'.heap.size):eS O w':=fun b off hb=>aw (h b off hb) hs
def Bu:∀{ts:List Ty} {cs:List C} {O:aI} {st:St} {loc:Nat->Loc} {w:World} {vs:List Value},Good cx.eT X (aA O st loc w)->eS O w->eC cx.eT (aA O st loc w) cs vs->
  ∃loc',Good cx.eT X (aA O (iw ts cs st).2 loc' w)/\Tr (aA O st loc w) (aA O (iw ts cs st).2 loc' w)/\eC cx.eT (aA O (iw ts cs st).2 loc' w) (iw ts cs st).1 vs/\(iw ts cs st).2.env=st.env:=by
 intro ts;induction ts with
 |nil=>intro cs O st loc w vs g _ h;exact⟨loc,by simpa[iw]using g,by simpa[iw]using Tr.refl _,by simpa[iw]using h,by simp[iw]⟩
 |cons t ts ih=>
  intro cs O st loc w vs g hO h;cases h with
  |nil=>
   have e:iw (t :: ts) [] st=([],st):=by cases t <;> rfl
   rw[e];exact⟨loc,g,Tr.refl _,.nil,rfl⟩
  |cons h1 h2 h3=>
   rename_i c v cs vs;have plain:iw (t :: ts) (c :: cs) st=((c :: (iw ts cs st).1),(iw ts cs st).2)->
     ∃loc',Good cx.eT X (aA O (iw (t :: ts) (c :: cs) st).2 loc' w)/\Tr (aA O st loc w) (aA O (iw (t :: ts) (c :: cs) st).2 loc' w)/\
      eC cx.eT (aA O (iw (t :: ts) (c :: cs) st).2 loc' w) (iw (t :: ts) (c :: cs) st).1 (v :: vs)/\(iw (t :: ts) (c :: cs) st).2.env=st.env:=by
    intro e;rw[e];obtain⟨loc',g',tr,hc,he⟩:=ih g hO h3;exact⟨loc',g',tr,.cons (h1.tr tr) h2 hc,he⟩
   by_cases hs:(∃e,t=.slice e)/\c=.jO
   ·obtain⟨⟨e,rfl⟩,rfl⟩:=hs
    obtain⟨tr1,g1⟩:=gM (oc:=.tok e []) (l:=⟨.slice none 0 0,[]⟩) g hO (Below.refl _ w) (by simp);have g1:=g1 (.inl ⟨rfl,⟨none,rfl⟩,rfl⟩);obtain⟨loc',g',tr,hc,he⟩:=ih g1 hO (h3.tr tr1);have e1:iw (.slice e :: ts) (.jO :: cs) st=(.app e [] st.next :: (iw ts cs (fresh st (.tok e []))).1,(iw ts cs (fresh st (.tok e []))).2):=rfl;rw[e1];refine⟨loc',g',tr1.trans tr,.cons (CR.tr tr ?_) h2 hc,he⟩;rw[show v=_ from h1];refine⟨VR.cJ rfl R.qq,by simp[aA,fresh],fun ys hy =>?_⟩;rw[mR,if_pos rfl]at hy;cases hy;exact⟨ag _,fun _=>by simp[aA,bT]⟩
   ·apply plain
    cases t <;> (try rfl);cases c <;> (try rfl);exact(hs ⟨⟨_,rfl⟩,rfl⟩).elim
def Uw{O:aI}{st:St}{loc:Nat->Loc}{w:World}{c:C}{v:Value}(g:Good cx.eT X (aA O st loc w))(h:VY st c=true)(hc:CR cx.eT (aA O st loc w) c v):v.oneCell'=true:=by
 unfold VY at h;split at h
 ·cases h
 ·exact(VR.one h hc).lj v (by simp)
 ·split at h
  ·rename_i t xs hob
   rcases(g.obj _ _ hob).2 with⟨_,⟨a,ha⟩,_⟩|⟨b,vs,T,cap,hl,_⟩
   ·rw[hc.2 _ _ hob,ha];rfl
   ·rw[hc.2 _ _ hob,hl];rfl
  ·cases h
 ·split at h
  ·rename_i t xs hob
   obtain⟨_,b,vs,T,hl,_⟩:=g.obj _ _ hob;rw[hc.2 _ _ hob,hl];rfl
  ·cases h
 ·split at h
  ·rename_i k t x hob
   obtain⟨_,h1⟩:=g.obj _ _ hob;rw[hc.2 _ hob rfl];cases k with
   |zero=>
    obtain⟨e,rfl,b,es,eY,hm⟩:=X.map.1 h1;rw[hm.lv];rfl
   |succ k=>
    obtain⟨a,ha⟩:=X.ptr (by omega) h1;rw[ha];rfl
  ·cases h
 ·split at h
  ·rename_i T cs hob
   obtain⟨b,_,h2⟩:=hc.2 _ _ hob;rw[h2];rfl
  ·cases h
 ·cases h
 ·cases h
 ·rw[show v=_ from hc];rfl
 ·exact(VR.one rfl hc.1).lj v (by simp)
 ·rw[show v=_ from hc];rfl
 ·rw[show v=_ from hc];rfl
 ·obtain⟨a,rfl⟩:=hc;rfl
 ·obtain⟨b,o,us,h,_⟩:=hc;rw[h];rfl
 ·rw[hc.1];rfl
 ·cases h
 ·cases h
def sq{O:aI}{st:St}{loc:Nat->Loc}{w:World}{ty:Ty}{v:cP}{cs:List C}{u:Value}(g:Good cx.eT X (aA O st loc w))(h:x6 st ty v=some cs)(hv:iv cx.eT (aA O st loc w) v u) :
  ∃us,u.cells.toList=us/\eC cx.eT (aA O st loc w) cs us/\us.length=ty.size:=by
 unfold x6 at h;split at h
 ·split at h
  ·rename_i hb
   cases h;have hr:=VR.cells (show VR cx.eT _ _ _ _ u from hv);exact⟨_,rfl,Js hr,by rw[hr.length,Ty.eq_of_beq hb]⟩
  ·cases h
 ·split at h
  ·cases h
   rw[show u=_ from hv];exact⟨_,rfl,.cons (eP.2 rfl) rfl .nil,rfl⟩
  ·cases h
 ·rename_i c _ _
  split at h
  ·rename_i h1
   simp only[ao]at h1;cases h;have:=Uw g h1.2 hv;have hcell:u.cells.toList=[u]:=by cases u <;> simp_all [dj,dk]
   exact⟨_,hcell,.cons hv this .nil,by rw[Ty.oC h1.1];rfl⟩
  ·cases h
 ·split at h
  ·rename_i h1
   cases h;obtain⟨vs,rfl,hc⟩:=hv;exact⟨vs,by simp[dj],hc,by rw[<-hc.length];exact ar h1⟩
  ·cases h
def yL{O:aI}{st:St}{loc:Nat->Loc}{w:World}{a:Act}(g:Good cx.eT X (aA O st loc w))(hO:eS O w)(he:gA cx.eT (aA O st loc w) st.env a)
  {x:Operand}{ty:TypeId}{K:SV->St->VC}(h:(x7 cx st x ty K).holds) :
  ∃sv st' loc',(K sv st').holds/\st'.env=st.env/\Good cx.eT X (aA O st' loc' w)/\Tr (aA O st loc w) (aA O st' loc' w)/\dI cx.eT (aA O st' loc' w) sv (a.eval x):=by
 have hx:=lk he x;unfold x7 at h;split at h
 ·rename_i e hl _
  rw[hl]at hx;obtain⟨tr1,g1⟩:=gM (oc:=.tok e []) (l:=⟨.slice none 0 0,[]⟩) g hO (Below.refl _ w) (by simp);have g1:=g1 (.inl ⟨rfl,⟨none,rfl⟩,rfl⟩);refine⟨_,_,_,h,rfl,g1,tr1,?_⟩;rw[show a.eval x=_ from hx];refine⟨VR.cJ rfl R.qq,by simp[aA,fresh],fun ys hy =>?_⟩;rw[mR,if_pos rfl]at hy;cases hy;exact⟨ag _,fun _=>by simp[aA,bT]⟩
 ·exact⟨_,_,_,h,rfl,g,Tr.refl _,hx⟩
def Ot{O:aI}{st:St}{loc:Nat->Loc}{w:World}{t:TypeId}{ts:List Ty}{cs:List C}{vs:List Value}(g:Good cx.eT X (aA O st loc w))(hO:eS O w)
  (hc:eC cx.eT (aA O st loc w) cs vs){K:SV->St->VC}(h:(K (.s (.one (.ref (iw ts cs st).2.next 0))) (fresh (iw ts cs st).2 (.cells t (iw ts cs st).1))).holds) :
  ∃sv st' loc',(K sv st').holds/\st'.env=st.env/\Good cx.eT X (aA O st' loc' (w.alloc (.cells vs.toArray t)))/\
   Tr (aA O st loc w) (aA O st' loc' (w.alloc (.cells vs.toArray t)))/\dI cx.eT (aA O st' loc' (w.alloc (.cells vs.toArray t))) sv (.pointer (some ⟨w.heap.size,0,none⟩)):=by
 obtain⟨loc',g',tr,hc',he⟩:=Bu (ts:=ts) g hO hc;have hb:Below w.heap.size w (w.alloc (.cells vs.toArray t)):=(Below.refl _ w).alloc (ag _) _;obtain⟨tr1,g1⟩:=gM (oc:=.cells t (iw ts cs st).1) (l:=⟨.pointer (some ⟨w.heap.size,0,none⟩),[w.heap.size]⟩) g' hO hb (by simp);have g1:=g1 ⟨w.heap.size,vs,rfl,rfl,heap_alloc_new w _,hc'.tr tr1⟩;refine⟨_,_,_,h,he,g1,tr.trans tr1,⟨by simp[aA,fresh],fun T cs' hy =>?_⟩⟩;rw[mR,if_pos rfl]at hy;exact⟨w.heap.size,by simp[aA,bT],rfl⟩
def kV{S:bI}:∀{ty:Ty} {vs:List Value},fB ty vs=true->eC cx.eT S (rE ty) vs:=by
 intro ty;induction ty with
 |prod a b iha ihb=>
  intro vs h;simp only[fB,ao]at h;have:=(iha h.1).append (ihb h.2)
  rwa [ca]at this
 |unit=>intro vs h;cases vs <;> simp[fB]at h;exact .nil
 |bool=>
  intro vs h
  match vs,h with
  |[v],h=>
   cases v <;> simp[fB,Ty.one,zeroCell]at h;subst h;exact .cons rfl rfl .nil
 |int k=>
  intro vs h
  match vs,h with
  |[v],h=>
   cases v <;> simp[fB,Ty.one,zeroCell]at h;obtain⟨rfl,rfl⟩:=h;exact .cons (cS.2 ⟨rfl,by cases k <;> simp[bo,bd,bf,bg]⟩) rfl .nil
 |str=>
  intro vs h
  match vs,h with
  |[v],h=>
   cases v <;> simp[fB,Ty.one,zeroCell]at h;rename_i s;subst h;exact .cons (jE.2 ⟨rfl,by simp⟩) rfl .nil
 |err=>
  intro vs h
  match vs,h with
  |[v],h=>
   cases v <;> simp[fB,Ty.one,zeroCell]at h;exact .cons (nw.2 rfl) rfl .nil
 |gC=>
  intro vs h
  match vs,h with
  |[v],h=>
   refine .cons trivial ?_ .nil;cases v <;> simp[fB,Ty.one,zeroCell]at h <;> rfl
 |slice e _=>
  intro vs h
  match vs,h with
  |[v],h=>
   cases v <;> simp[fB,Ty.one,zeroCell]at h;rename_i a l c;cases a <;> simp at h;obtain⟨rfl,rfl⟩:=h;exact .cons rfl rfl .nil
end
def Am:(t:Ty)->D t->Nat->(want:Ty)->D want->Option (D t)
 |.prod a b,x,off,want,y=>match(ad off 0&&Ty.beq want (.prod a b))with
  |true=>match h:Ty.beq want (.prod a b)with
   |true=>some (cF h y)
   |false=>none
  |false=>match b6 off a.size with
   |true=>match Am a x.1 off want y with
    |some z=>some (z,x.2)
    |none=>none
   |false=>match Am b x.2 (off-a.size) want y with
    |some z=>some (x.1,z)
    |none=>none
 |t,_,off,want,y=>match ad off 0 with
  |true=>match h:Ty.beq want t with
   |true=>some (cF h y)
   |false=>none
  |false=>none
def setObj(st:St)(n:Nat)(oc:OC):St:={st with aF:=ins st.aF n oc}
def x8(cx:Cx)(st:St)(t:TypeId)(x:C)(v:cP)(K:SV->St->VC):VC:=
 match look cx.τ t with
 |some ty=>match x with
  |.ref n o=>match x6 st ty v with
   |some us0=>match iw (oQ ty) us0 st with
    |(us,st')=>match look st'.aF n with
     |some (.cells T cs)=>match a7 (o+us.length) cs.length with
      |true=>K (.s (.one .any)) (setObj st' n (.cells T (cs.take o++us++cs.drop (o+us.length))))
      |false =>.ff
     |_ =>.ff
   |none =>.ff
  |.lM n u i o=>match qO ty v,look st.aF n with
   |some z,some (.aV u' xs)=>match Ty.beq u' u with
    |true =>.and (i<xs.length) (match Am u' (nth u' xs i) o ty z with
     |some y'=>K (.s (.one .any)) (setObj st n (.aV u' (xs.set i y')))
     |none =>.ff)
    |false =>.ff
   |some z,some (.arr u' xs)=>match Ty.beq u' u with
    |true =>.and (i<xs.length) (match Am u' (nth u' xs i) o ty z with
     |some y'=>K (.s (.one .any)) (setObj st n (.arr u' (xs.set i y')))
     |none =>.ff)
    |false =>.ff
   |_,_ =>.ff
  |_ =>.ff
 |none =>.ff
section
variable{X:Ext}{P:Program}{cx:Cx}
def run_store{t:TypeId}{ty:Ty}{i:TypeInfo}{d:TypeDesc}(h:Fit P t ty i d){b o:Nat}{cur:Array Value}{T:TypeId}{v:Value}{us:List Value}(hv:v.cells.toList=us)
  (hl:us.length=ty.size)(h1:∀u∈us,u.oneCell'=true){w:World}(hb:w.heap[b]?=some (.cells cur T (0,0)))(hfit:o+us.length<=cur.size) :
  (ck t (.pointer (some ⟨b,o,none⟩)) v).run P w=.ok () (w.setRow b (cur.toList.take o++us++cur.toList.drop (o+us.length)).toArray):=by
 have hs:v.cells.size=ty.size:=by rw[<-ai,hv,hl]
 have:=run_storeCells_at P b o T us 0 cur w hb (by simpa using hfit) h1;simp only[bj]at this;simp[ck,cg,storeVar,gv h,hs,hv,this]
def eC.Gz{eT:TypeId}{S:bI}{cs:List C}{vs:List Value}(h:eC eT S cs vs):∀u∈vs,u.oneCell'=true:=by
 induction h with
 |nil=>intro u hu;simp at hu
 |cons _ h2 _ ih=>
  intro u hu;rcases bz.1 hu with rfl|hu
  ·exact h2
  ·exact ih u hu
def RO{eT:TypeId}:∀{t:Ty} {x:D t} {off:Nat} {want:Ty} {y:D want} {x':D t} {A:aI} {w:World} {vs us:List Value},Am t x off want y=some x'->R eT t x A w vs->R eT want y A w us->
  off+us.length<=vs.length/\R eT t x' A w (vs.take off++us++vs.drop (off+us.length)):=by
 have one:∀{t:Ty} {x:D t} {off:Nat} {want:Ty} {y:D want} {x':D t} {A:aI} {w:World} {vs us:List Value},
   (match ad off 0 with|true=>(match h:Ty.beq want t with|true=>some (cF h y)|false=>none)|false=>none)=some x'->R eT t x A w vs->R eT want y A w us->
   off+us.length<=vs.length/\R eT t x' A w (vs.take off++us++vs.drop (off+us.length)):=by
  intro t x off want y x' A w vs us h hr hu;split at h
  ·rename_i h0
   have h0:=ar h0;subst h0;split at h
   ·rename_i hb
    cases h;have e:=mQ hb y hu;have hl:=e.length;have hl2:=hr.length;refine⟨by omega,?_⟩;rw[cr (by omega)];simpa using e
   ·cases h
  ·cases h
 intro t;induction t with
 |prod a b iha ihb=>
  intro x off want y x' A w vs us h hr hu;simp only[Am]at h;split at h
  ·rename_i hb0
   simp only[ao]at hb0;have h0:=ar hb0.1;subst h0;split at h
   ·rename_i hb
    cases h;have e:=mQ hb y hu;have hl:=e.length;have hl2:=hr.length;refine⟨by omega,?_⟩;rw[cr (by omega)];simpa using e
   ·cases h
  ·obtain⟨u1,u2,rfl,r1,r2⟩:=hr
   have hl1:=r1.length;split at h
   ·rename_i hlt
    have hlt:=mf hlt;split at h
    ·rename_i z hz
     cases h;obtain⟨k1,k2⟩:=iha hz r1 hu;refine⟨by simp;omega,?_⟩;rw[dn (by omega),ei (by omega),<-br];exact⟨_,_,rfl,k2,r2⟩
    ·cases h
   ·rename_i hlt
    have hlt:=KH hlt;split at h
    ·rename_i z hz
     cases h;obtain⟨k1,k2⟩:=ihb hz r2 hu;refine⟨by simp;omega,?_⟩;have e1:(u1++u2).take off=u1++u2.take (off-a.size):=by
      rw[List.take_append,cb (by omega),hl1]
     have e2:(u1++u2).drop (off+us.length)=u2.drop (off-a.size+us.length):=by
      rw[ej,cr (by omega),dq,hl1,show off+us.length-a.size=off-a.size+us.length from by omega]
     rw[e1,e2,br,br,<-br (u2.take _)];exact⟨_,_,rfl,r1,k2⟩
    ·cases h
 |unit=>intro x off want y x' A w vs us h hr hu;exact one (t:=.unit) h hr hu
 |bool=>intro x off want y x' A w vs us h hr hu;exact one (t:=.bool) h hr hu
 |int k=>intro x off want y x' A w vs us h hr hu;exact one (t:=.int k) h hr hu
 |str=>intro x off want y x' A w vs us h hr hu;exact one (t:=.str) h hr hu
 |err=>intro x off want y x' A w vs us h hr hu;exact one (t:=.err) h hr hu
 |gC=>intro x off want y x' A w vs us h hr hu;exact one (t:=.gC) h hr hu
 |slice e _=>intro x off want y x' A w vs us h hr hu;exact one (t:=.slice e) h hr hu
def iC(vs uv:List Value)(p k:Nat)(h:p+uv.length<=vs.length) :
  (vs.take p++uv++vs.drop (p+uv.length))[k]?=if k<p then vs[k]? else if k<p+uv.length then uv[k-p]? else vs[k]?:=by
 have hl:(vs.take p).length=p:=by simp;omega
 rw[br,List.getElem?_append,hl];by_cases h1:k<p
 ·rw[if_pos h1,if_pos h1,List.getElem?_take,if_pos h1]
 ·rw[if_neg h1,if_neg h1,List.getElem?_append]
  by_cases h2:k<p+uv.length
  ·rw[if_pos (by omega),if_pos h2]
  ·rw[if_neg (by omega),if_neg h2,List.getElem?_drop,show p+uv.length+(k-p-uv.length)=k from by omega]
def bG{α:Type}{l:List α}{i:Nat}{x:α}(h:l[i]?=some x):i<l.length:=by
 rcases cy i l.length with h'|h'
 ·exact h'
 ·rw[List.getElem?_eq_none h']at h;cases h
def GA{eT:TypeId}{t:Ty}{xs:List (D t)}{A A':aI}{w w':World}{vs uv us:List Value}{ix o:Nat}{y':D t}
  (he:∀i y,xs[i]?=some y->∃us,R eT t y A w us/\∀j u,us[j]?=some u->vs[i*t.size+j]?=some u)
  (hf:∀b o v,¬A b o->w.cell? ⟨b,o,none⟩=some v->w'.cell? ⟨b,o,none⟩=some v/\¬A' b o)
  (hlt:ix<xs.length)(hus:us.length=t.size)(husv:∀j u,us[j]?=some u->vs[ix*t.size+j]?=some u)
  (k1:o+uv.length<=us.length)(k2:R eT t y' A w (us.take o++uv++us.drop (o+uv.length)))(htot:ix*t.size+o+uv.length<=vs.length) :
  ∀i y,(xs.set ix y')[i]?=some y->∃us,R eT t y A' w' us/\∀j u,us[j]?=some u->(vs.take (ix*t.size+o)++uv++vs.drop (ix*t.size+o+uv.length))[i*t.size+j]?=some u:=by
 intro i y hy;by_cases e:ix=i
 ·subst e
  rw[List.getElem?_set_self hlt]at hy;cases hy;refine⟨_,k2.frame hf,fun j v hj =>?_⟩;rw[iC _ _ _ _ k1]at hj;rw[iC _ _ _ _ htot];by_cases h1:j<o
  ·rw[if_pos h1]at hj
   rw[if_pos (by omega)];exact husv _ _ hj
  ·rw[if_neg h1]at hj
   rw[if_neg (by omega)];by_cases h2:j<o+uv.length
   ·rw[if_pos h2]at hj
    rw[if_pos (by omega),show ix*t.size+j-(ix*t.size+o)=j-o from by omega];exact hj
   ·rw[if_neg h2]at hj
    rw[if_neg (by omega)];exact husv _ _ hj
 ·rw[List.getElem?_set_ne e]at hy
  obtain⟨us2,r2,c2⟩:=he _ _ hy;refine⟨us2,r2.frame hf,fun j v hj =>?_⟩;have hj':j<t.size:=by have:=bG hj;rw[r2.length]at this;exact this
  have hold:=c2 j v hj;rw[iC _ _ _ _ htot];rcases Nat.lt_or_gt_of_ne e with hlt'|hgt
  ·have:(ix+1)*t.size<=i*t.size:=aq _ hlt'
   rw[af]at this;rw[if_neg (by omega),if_neg (by omega)];exact hold
  ·have:(i+1)*t.size<=ix*t.size:=aq _ hgt
   rw[af]at this;rw[if_pos (by omega)];exact hold
def oG(st:St)(n m:Nat)(oc:OC):look (setObj st n oc).aF m=if n=m then some oc else look st.aF m:=RA _ _ _ _
def An{O:aI}{st:St}{loc:Nat->Loc}{w:World}{n b:Nat}{oc oc':OC}{cs':Array Value}(g:Good cx.eT X (aA O st loc w))(hO:eS O w)
  (hob:look st.aF n=some oc)(hU:(loc n).bs=[b])(hk:aX (loc n) (loc n) oc oc')(h0:oc.lo=0)(h0':oc'.lo=0) :
  Tr (aA O st loc w) (aA O (setObj st n oc') loc (w.setRow b cs'))/\
   (OR cx.eT X (aA O (setObj st n oc') loc (w.setRow b cs')) (loc n) oc'->Good cx.eT X (aA O (setObj st n oc') loc (w.setRow b cs'))):=by
 have hsz:(w.setRow b cs').heap.size=w.heap.size:=by simp[da]
 refine pI (S:=aA O st loc w) (S':=aA O (setObj st n oc') loc (w.setRow b cs')) (n:=n) (oc:=oc) (oc':=oc') (l':=loc n) g rfl hO hob
  (fun m=>oG st n m oc') (fun m =>?_) rfl (fun _=>oh rfl) hk rfl rfl (by simp[aA,hsz]) ?_ ?_ ?_
 ·show loc m=_
  by_cases e:n=m
  ·rw[if_pos e,e]
  ·rw[if_neg e];rfl
 ·intro b' _ hb'
  exact setRow_other w b b' cs' (fun e=>hb' (by simp[aA,hU,e]))
 ·intro b' o v _ ho;rw[h0]at ho;omega
 ·intro b' hb';exact .inl ⟨hb',by omega⟩
def vJ(hok:TyOK P cx){O:aI}{st:St}{loc:Nat->Loc}{w:World}(g:Good cx.eT X (aA O st loc w))(hO:eS O w)
  {t:TypeId}{x:C}{v:cP}{K:SV->St->VC}{vx vv:Value}(hx:CR cx.eT (aA O st loc w) x vx)(hv:iv cx.eT (aA O st loc w) v vv)
  (h:(x8 cx st t x v K).holds) :
  ∃st' loc' w',(K (.s (.one .any)) st').holds/\st'.env=st.env/\Good cx.eT X (aA O st' loc' w')/\Tr (aA O st loc w) (aA O st' loc' w')/\(ck t vx vv).run P w=.ok () w':=by
 unfold x8 at h;split at h
 ·rename_i ty ht
  obtain⟨m,ti,d,hf,hs⟩:=fC hok ht;split at h
  ·rename_i n o
   split at h
   ·rename_i us0 hfl
    obtain⟨uv,huv,hcr,huty⟩:=sq g hfl hv;obtain⟨loc1,g1,tr1,hcr1,henv⟩:=Bu (ts:=oQ ty) g hO hcr;split at h;rename_i us st' hu;rw[hu]at g1 tr1 hcr1 henv;simp only at g1 tr1 hcr1 henv;split at h
    ·rename_i T cs hob
     split at h
     ·rename_i hle
      have hle:=bm hle;have hx1:=CR.tr tr1 hx;obtain⟨b,hb1,rfl⟩:=hx1.2 _ _ hob;obtain⟨_,b',vs,hl,hU,hheap,hcs⟩:=g1.obj _ _ hob;have hbb:b=b':=by
       have:=hb1.symm.trans hl;cases this;rfl
      subst hbb;have fT:=hcs.length;have hul:=hcr1.length;have hrun:=run_store hf (o:=o) huv huty hcr1.Gz hheap (by simp;omega);have hst:=An (oc':=.cells T (cs.take o++us++cs.drop (o+us.length))) (cs':=(vs.toArray.toList.take o++uv++vs.toArray.toList.drop (o+uv.length)).toArray) g1 hO hob hU (by simp[aX]) rfl rfl;refine⟨_,_,_,h,by rw[<-henv];rfl,hst.2 ⟨b,vs.take o++uv++vs.drop (o+uv.length),hl,hU,?_,?_⟩,tr1.trans hst.1,hrun⟩
      ·have:=setRow_heap w b vs.toArray (vs.toArray.toList.take o++uv++vs.toArray.toList.drop (o+uv.length)).toArray T (0,0) hheap
       simpa[aA]using this
      ·have h5:eC cx.eT (aA O st' loc1 w) (cs.take o++us++cs.drop (o+us.length)) (vs.take o++uv++vs.drop (o+uv.length)):=by
        rw[<-hul];exact((hcs.take o).append hcr1).append (hcs.drop (o+us.length))
       exact h5.tr hst.1
     ·exact h.elim
    ·exact h.elim
   ·exact h.elim
  ·rename_i n u ix o
   have elem:∀{u':Ty} {xs:List (D u')} {z:D ty} {y':D u'} {b:Nat} {vs:Array Value} {T:TypeId} (oc':OC) (oc:OC),vx=.pointer (some ⟨b,ix*u'.size+o,none⟩)->look st.aF n=some oc->(loc n).bs=[b]->
     aX (loc n) (loc n) oc oc'->oc.lo=0->oc'.lo=0->w.heap[b]?=some (.cells vs T (0,0))->kD cx.eT (aA O st loc w) u' xs vs->xs.length*u'.size<=vs.size->∀(hlt:ix<xs.length),
     Am u' xs[ix] o ty z=some y'->VR cx.eT ty z (aA O st loc w).A w vv->(K (.s (.one .any)) (setObj st n oc')).holds->
     (∀(vs':Array Value) (w':World),vs'.size=vs.size->w'.heap[b]?=some (.cells vs' T (0,0))->kD cx.eT (aA O (setObj st n oc') loc w') u' (xs.set ix y') vs'->OR cx.eT X (aA O (setObj st n oc') loc w') (loc n) oc')->
     ∃st' loc' w',(K (.s (.one .any)) st').holds/\st'.env=st.env/\Good cx.eT X (aA O st' loc' w')/\Tr (aA O st loc w) (aA O st' loc' w')/\(ck t vx vv).run P w=.ok () w':=by
    intro u' xs z y' b vs T oc' oc hvx hob hU hk hlo hlo' hheap he hsz hlt hy' hvr hh hor;have hvr:=VR.cells hvr;have hget:=List.getElem?_eq_getElem hlt;obtain⟨us,hr,hus⟩:=he _ _ hget;obtain⟨k1,k2⟩:=RO hy' hr hvr;have hul:=hr.length;have hfit:ix*u'.size+o+vv.cells.toList.length<=vs.size:=by
     have:(ix+1)*u'.size<=xs.length*u'.size:=aq _ hlt;rw[af]at this;omega
    subst hvx;have hrun:=run_store hf (b:=b) (o:=ix*u'.size+o) rfl hvr.length hvr.lj hheap hfit;have hst:=An (oc':=oc') (cs':=(vs.toList.take (ix*u'.size+o)++vv.cells.toList++vs.toList.drop (ix*u'.size+o+vv.cells.toList.length)).toArray) g hO hob hU hk hlo hlo';refine⟨_,_,_,hh,rfl,hst.2 (hor _ _ ?_ (setRow_heap w b vs _ T (0,0) hheap) ?_),hst.1,hrun⟩
    ·simp only[bk,ae,ah,ax,ai]at hfit ⊢
     omega
    ·intro i y hy
     have:=GA (vs:=vs.toList) (o:=o) (fun i y hy=>by
       obtain⟨us,h1,h2⟩:=he i y hy;exact⟨us,h1,fun j u hj=>by rw[Array.getElem?_toList];exact h2 j u hj⟩)
      hst.1.cell hlt hul (fun j u hj=>by rw[Array.getElem?_toList];exact hus j u hj) k1 k2 (by rw[ai];exact hfit) i y hy
     obtain⟨us',h1,h2⟩:=this;exact⟨us',h1,fun j u hj=>by rw[List.getElem?_toArray];exact h2 j u hj⟩
   split at h
   ·rename_i z u' xs hz hob
    split at h
    ·rename_i hb
     have:=Ty.eq_of_beq hb;subst this;obtain⟨hlt,h⟩:=h;have hget:=List.getElem?_eq_getElem hlt;rw[iA hget]at h;split at h
     ·rename_i y' hy'
      obtain⟨b,hb1,hvx⟩:=hx.2 ⟨_,.inl hob⟩;rcases(g.obj _ _ hob).2 with⟨_,_,hU⟩|⟨b',vs,T,cap,hl,hU,hheap,hvs,hcap,hbig,he⟩
      ·rw[hU]at hb1;cases hb1
      have hbb:b=b':=by rw[hU]at hb1;cases hb1;rfl
      subst hbb;refine elem (.aV u' (xs.set ix y')) _ hvx hob hU (by simp[aX]) rfl rfl hheap he (by rw[hvs];exact aq _ hcap) hlt hy' (lO hz hv) h ?_;intro vs' w' h1 h2 h3;exact .inr ⟨b,vs',T,cap,by rw[bb];exact hl,hU,h2,by rw[h1,hvs],by simpa using hcap,by simpa using hbig,h3⟩
     ·exact h.elim
    ·exact h.elim
   ·rename_i z u' xs hz hob
    split at h
    ·rename_i hb
     have:=Ty.eq_of_beq hb;subst this;obtain⟨hlt,h⟩:=h;have hget:=List.getElem?_eq_getElem hlt;rw[iA hget]at h;split at h
     ·rename_i y' hy'
      obtain⟨b,hb1,hvx⟩:=hx.2 ⟨_,.inr hob⟩;obtain⟨_,b',vs,T,hl,hU,hheap,hvs,he⟩:=g.obj _ _ hob;have hbb:b=b':=by rw[hU]at hb1;cases hb1;rfl
      subst hbb;refine elem (.arr u' (xs.set ix y')) _ hvx hob hU (by simp[aX]) rfl rfl hheap he (by rw[hvs];exact ag _) hlt hy' (lO hz hv) h ?_;intro vs' w' h1 h2 h3;exact⟨b,vs',T,hl,hU,h2,by rw[h1,hvs,bb],h3⟩
     ·exact h.elim
    ·exact h.elim
   ·exact h.elim
  ·exact h.elim
 ·exact h.elim
end
def tE(st:St)(ty:Ty):List (Nat×cP)->List C->Option (List C)
 |[],cs=>some cs
 |(i,v) :: rest,cs=>match la ty i,vZ ty i with
  |some off,some u=>match x6 st u v with
   |some us=>match ad us.length u.size&&a7 (off+us.length) cs.length with
    |true=>tE st ty rest (cs.take off++us++cs.drop (off+us.length))
    |false=>none
   |none=>none
  |_,_=>none
def oH(e:Ty):List cP->Option (List (D e))
 |[]=>some []
 |v :: vs=>match qO e v,oH e vs with
  |some x,some xs=>some (x :: xs)
  |_,_=>none
def rq:Nat->List (Nat×Operand)->Bool
 |_,[]=>true
 |k,(i,_) :: r=>ad i k&&rq (k+1) r
def C4(cx:Cx)(st:St)(t:TypeId)(parts:List (Nat×Operand))(K:SV->VC):VC:=
 match look cx.τ t with
 |some ty=>match ty.one with
  |true =>.ff
  |false=>match tE st ty (parts.map fun p=>(p.1,qX st.env p.2)) (rE ty)with
   |some cs=>K (.s (.agg cs))
   |none =>.ff
 |none =>.ff
section
variable{X:Ext}{P:Program}{cx:Cx}
def RP(off:Nat):∀(vs:List Value) (j:Nat) (cs:Array Value),off+j+vs.length<=cs.size->
  ((vs.zipIdx j).foldl (fun(cs:Array Value) p=>cs.setIfInBounds (off+p.2) p.1) cs).toList=cs.toList.take (off+j)++vs++cs.toList.drop (off+j+vs.length):=by
 intro vs;induction vs with
 |nil=>intro j cs h;simp
 |cons v vs ih=>
  intro j cs h;simp only[List.zipIdx_cons,List.foldl_cons];rw[ih (j+1) _ (by simp at h ⊢;omega)];simp only[db]at h;apply List.ext_getElem?;intro k;have hl:off+(j+1)+vs.length<=(cs.setIfInBounds (off+j) v).toList.length:=by simp;omega
  rw[iC _ _ _ _ hl,show off+j+(v :: vs).length=off+j+(v :: vs).length from rfl,iC cs.toList (v :: vs) (off+j) k (by simp;omega)];simp only[db,Array.getElem?_toList,Array.getElem?_setIfInBounds];by_cases h1:k<off+j
  ·rw[if_pos (by omega),if_pos h1,if_neg (by omega)]
  ·by_cases h2:k=off+j
   ·subst h2
    rw[if_pos (by omega),if_pos rfl,if_pos (by omega),if_neg (by omega),if_pos (by omega)];simp
   ·rw[if_neg (by omega),if_neg h1]
    by_cases h3:k<off+(j+1)+vs.length
    ·rw[if_pos h3,if_pos (by omega),show k-(off+j)=(k-(off+(j+1)))+1 from by omega]
     simp
    ·rw[if_neg h3,if_neg (by omega),if_neg (by omega)]
def DS(place:Nat->Option (Nat×Nat))(cells:Array Value)(i off size:Nat)(v:Value)(rest:List (Nat×Value))(hp:place i=some (off,size))(hs:v.cells.size=size)(hfit:off+v.cells.size<=cells.size) :
  bx place cells ((i,v) :: rest)=bx place (cells.toList.take off++v.cells.toList++cells.toList.drop (off+v.cells.toList.length)).toArray rest:=by
 have:(v.cells.zipIdx.foldl (fun(cs:Array Value) (p:Value×Nat)=>cs.setIfInBounds (off+p.2) p.1) cells)=(cells.toList.take off++v.cells.toList++cells.toList.drop (off+v.cells.toList.length)).toArray:=by
  rw[<-Array.foldl_toList,Array.toList_zipIdx];apply c6.1;rw[RP off v.cells.toList 0 cells (by simpa using hfit)];simp
 have hc:(v.cells.size≠size || off+v.cells.size > cells.size)=false:=by
  simp[hs];omega
 simp only[bx,hp,hc];simp only[bh,if_false];rw[<-this]
def L4{f:TypeId->Ty->Bool}:∀{fs:List Field} {off:Nat} {ty u:Ty} {k o:Nat},dR f fs off ty=true->la ty k=some o->vZ ty k=some u->
  ∃fd,fs[k]?=some fd/\fd.offset=off+o/\f fd.type u=true:=by
 intro fs;induction fs with
 |nil=>intro off ty u k o h h';cases ty <;> simp[dR]at h;cases k <;> simp[la]at h'
 |cons g gs ih=>
  intro off ty u k o h h' hc;cases ty <;> simp only[dR,bh]at h;rename_i a b;simp only[ao]at h;obtain⟨⟨⟨h1,h2⟩,h3⟩,h4⟩:=h;cases k with
  |zero=>
   simp[la]at h';simp[vZ]at hc;subst hc;exact⟨g,rfl,by have:=ar h1;omega,h2⟩
  |succ k=>
   simp only[la]at h';simp only[vZ]at hc;split at h'
   ·rename_i o' ho'
    cases h';obtain⟨fd,k1,k2,k3⟩:=ih h4 ho' hc;exact⟨fd,by simpa using k1,by omega,k3⟩
   ·cases h'
def Bv{n:Nat}:∀{fs:List Field} {off:Nat} {ty:Ty},dR (fits P n) fs off ty=true->∀w,(fs.mapM fun f=>do pure (f.offset,<-sizeOf f.type):Sem (List (Nat×Nat))).run P w=.ok (fs.map fun f=>(f.offset,P.cellsOf f.type)) w:=by
 intro fs;induction fs with
 |nil=>intro off ty h w;rfl
 |cons g gs ih=>
  intro off ty h w;cases ty <;> simp only[dR,bh]at h;simp only[ao]at h;obtain⟨⟨⟨h1,h2⟩,h3⟩,h4⟩:=h;obtain⟨m',i',d',_,hf',_⟩:=kU h2;have hs:P.cellsOf g.type=i'.size:=by simp[er,hf'.info]
  rw[List.mapM_cons];simp only[aj,gv hf',av,b7,ih h4,cm,hs,hf'.size]
def run_places{n:Nat}{fs:Array Field}{off:Nat}{ty:Ty}(h:dR (fits P n) fs.toList off ty=true)(w:World) :
  (fs.mapM fun f=>do pure (f.offset,<-sizeOf f.type):Sem (Array (Nat×Nat))).run P w=.ok (fs.map fun f=>(f.offset,P.cellsOf f.type)) w:=by
 rw[<-dr (xs:=fs),List.mapM_toArray,Sem.run_map,Bv h];simp only[av,List.map_toArray]
inductive v8 (eT:TypeId) (S:bI):List (Nat×cP)->List (Nat×Value)->Prop
 |nil:v8 eT S [] []
 |cons {i v u ps qs}:iv eT S v u->v8 eT S ps qs->v8 eT S ((i,v) :: ps) ((i,u) :: qs)
def Jy{O:aI}{st:St}{loc:Nat->Loc}{w:World}(g:Good cx.eT X (aA O st loc w)){ty:Ty}{m:Nat}{fs:Array Field}(hff:dR (fits P m) fs.toList 0 ty=true)
  {places:Array (Nat×Nat)}(hpl:∀(k:Nat) (fd:Field) (u:Ty),fs[k]?=some fd->fits P m fd.type u=true->places[k]?=some (fd.offset,u.size)) :
  ∀{parts:List (Nat×cP)} {pv:List (Nat×Value)} {cs cs':List C} {cells:Array Value},tE st ty parts cs=some cs'->v8 cx.eT (aA O st loc w) parts pv->
   eC cx.eT (aA O st loc w) cs cells.toList->∃cells',bx (places[·]?) cells pv=some cells'/\eC cx.eT (aA O st loc w) cs' cells'.toList:=by
 intro parts;induction parts with
 |nil=>
  intro pv cs cs' cells h hp hc;cases hp;simp only[tE]at h;cases h;exact⟨cells,rfl,hc⟩
 |cons p rest ih=>
  intro pv cs cs' cells h hp hc;obtain⟨i,v⟩:=p;cases hp with
  |cons hv h2=>
   rename_i u pv;simp only[tE]at h;split at h
   ·rename_i off ut ho hcm
    split at h
    ·rename_i us hus
     split at h
     ·rename_i hb
      simp only[ao]at hb;have hb1:=ar hb.1;have hb2:=bm hb.2;obtain⟨uv,huv,hcr,hlen⟩:=sq g hus hv;have hul:=hcr.length;obtain⟨fd,hfd,hoff,hft⟩:=L4 hff ho hcm;have hplace:=hpl i fd ut (by rw[<-Array.getElem?_toList];exact hfd) hft;rw[hoff,al]at hplace;have fT:=hc.length;have hsz:u.cells.size=ut.size:=by rw[<-ai,huv,hlen]
      rw[DS (places[·]?) cells i off ut.size u pv hplace hsz (by rw[<-ai (xs:=cells),<-fT];omega)];refine ih h h2 ?_;rw[huv,<-hul];simpa using((hc.take off).append hcr).append (hc.drop (off+us.length))
     ·cases h
    ·cases h
   ·cases h
def vK(hok:TyOK P cx){O:aI}{st:St}{loc:Nat->Loc}{w:World}{a:Act}(g:Good cx.eT X (aA O st loc w))(he:gA cx.eT (aA O st loc w) st.env a)
  {t:TypeId}{parts:Array (Nat×Operand)}{K:SV->VC}(h:(C4 cx st t parts.toList K).holds) :
  ∃sv v,(K sv).holds/\dI cx.eT (aA O st loc w) sv v/\∀w',(Instr.build t (parts.map fun(i,x)=>(i,a.eval x))).run P w'=.ok v w':=by
 unfold C4 at h;split at h
 ·rename_i ty ht
  obtain⟨m,ti,d,hf,hs⟩:=fC hok ht;split at h
  ·exact h.elim
  ·rename_i ho
   split at h
   ·rename_i cs hcs
    obtain⟨z,hz,hzr⟩:=hf.zero;have:∃fs,d=.struct fs/\dR (fits P m) fs.toList 0 ty=true:=by
     cases ty <;> simp[Ty.one]at ho <;> cases d <;> simp[cA]at hs
     ·exact⟨_,rfl,hs⟩
     ·exact⟨_,rfl,hs⟩
    obtain⟨fs,rfl,hff⟩:=this;have hsizes:∀(k:Nat) (fd:Field) (u:Ty),fs[k]?=some fd->fits P m fd.type u=true->(fs.map fun f=>(f.offset,P.cellsOf f.type))[k]?=some (fd.offset,u.size):=by
     intro k fd u hk hfu;obtain⟨m',i',d',_,hf',_⟩:=kU hfu;simp[hk,er,hf'.info,hf'.size]
    have hfor:v8 cx.eT (aA O st loc w) (parts.toList.map fun p=>(p.1,qX st.env p.2)) (parts.toList.map fun p=>(p.1,a.eval p.2)):=by
     generalize parts.toList=l;induction l with
     |nil=>exact .nil
     |cons p l ih=>exact .cons (ll he p.2) ih
    obtain⟨cells',h1,h2⟩:=Jy (P:=P) g hff hsizes hcs hfor (kV hzr);refine⟨_,.agg cells',h,⟨cells'.toList,by simp,h2⟩,fun w' =>?_⟩;have hmap:(fs.mapM fun f=>do pure (f.offset,<-sizeOf f.type):Sem (Array (Nat×Nat))).run P w'=.ok (fs.map fun f=>(f.offset,P.cellsOf f.type)) w':=run_places hff w';have hpl:(parts.map fun(i,x)=>(i,a.eval x)).toList=parts.toList.map fun p=>(p.1,a.eval p.2):=by simp
    have hzv:(zeroValue t).run P w'=.ok z w':=by simp[zeroValue,typeInfo,hf.info,hz]
    simp only[Instr.build,aj,hzv,av,run_underlying hf.iz,hmap,hpl,h1,b7]
   ·exact h.elim
 ·exact h.elim
end
def wa(st:St)(e:Ty)(x:C):Option (List (D e)):=
 match CY e x with
 |some ys=>some ys
 |none=>match x with
  |.aV m=>match look st.aF m with
   |some (.aV e' ys)=>match h:Ty.beq (.slice e') (.slice e)with
    |true=>some (cF h (a:=.slice e') ys)
    |false=>none
   |_=>none
  |_=>none
def rH(l:List (Nat×OC))(n:Nat):List (Nat×OC):=
 match l with
 |[]=>[]
 |(m,x) :: r=>match ad m n with
  |true=>rH r n
  |false=>(m,x) :: rH r n
def bC(st:St)(n:Nat):St:={st with aF:=rH st.aF n}
def Bw(st:St)(e:Ty)(ys:List (D e))(e':Ty)(xs:List (D e'))(n:Nat)(K:SV->St->VC):VC:=
 match h:Ty.beq (.slice e') (.slice e),look st.aF n with
 |true,some (.tok e'' zs)=>match h2:Ty.beq (.slice e'') (.slice e)with
  |true =>.and (cF h2 (a:=.slice e'') zs=cF h (a:=.slice e') xs/\xs.length+ys.length<=1000000000)
    (K (.s (.one (.app e (cF h (a:=.slice e') xs++ys) n))) (setObj st n (.tok e (cF h (a:=.slice e') xs++ys))))
  |false =>.ff
 |_,_ =>.ff
def RQ(st:St)(e:Ty)(ys:List (D e))(K:SV->St->VC):VC:=
 .and (ys.length<=1000000000) (K (.s (.one (.aV st.next))) (fresh st (.aV e ys)))
def RR(st:St)(e:Ty)(ys:List (D e))(K:SV->St->VC):VC:=
 .and (ys.length<=1000000000) (K (.s (.one (.app e ys (st.next+1)))) (fresh (bC (fresh st (.aV e ys)) st.next) (.tok e ys)))
def L5(tk:Bool)(st:St)(e:Ty)(ys:List (D e))(K:SV->St->VC):VC:=
 match tk with
 |true=>RR st e ys K
 |false=>RQ st e ys K
def ur(cx:Cx)(tk:Bool)(st:St)(t:TypeId)(s x:C)(K:SV->St->VC):VC:=
 match look cx.τ t with
 |some (.slice e)=>match wa st e x with
  |some ys=>match s with
   |.jO=>L5 tk st e ys K
   |.emp=>L5 tk st e ys K
   |.app e' xs n=>Bw st e ys e' xs n K
   |.aV n=>match look st.aF n with
    |some (.aV e' zs)=>Bw (fresh (bC st n) (.tok e' zs)) e ys e' zs st.next K
    |_ =>.ff
   |_ =>.ff
  |none =>.ff
 |_ =>.ff
section
variable{X:Ext}{P:Program}{cx:Cx}
def iU:∀t:Ty,(rE t).length=t.size:=by
 intro t;induction t with
 |prod a b iha ihb=>simp[rE,Ty.size,iha,ihb]
 |_=>rfl
def gw(eT:TypeId)(e:Ty)(xs:List (D e))(A:aI)(w:World)(cs:List Value):Prop:=
 ∀i y,xs[i]?=some y->∃us,R eT e y A w us/\∀j u,us[j]?=some u->cs[i*e.size+j]?=some u
def gw.cons{eT:TypeId}{e:Ty}{x:D e}{xs:List (D e)}{A:aI}{w:World}{us cs:List Value}(h:R eT e x A w us)(h':gw eT e xs A w cs):gw eT e (x :: xs) A w (us++cs):=by
 intro i y hy;cases i with
 |zero=>
  simp at hy;subst hy;refine⟨us,h,fun j u hj =>?_⟩;rw[List.getElem?_append_left (by simpa using bG hj)];simpa using hj
 |succ i=>
  simp at hy;obtain⟨us',h1,h2⟩:=h' i y hy;refine⟨us',h1,fun j u hj =>?_⟩;have hl:=h.length;rw[af,List.getElem?_append_right (by omega),show i*e.size+1*e.size+j-us.length=i*e.size+j from by omega];exact h2 j u hj
def gw.append{eT:TypeId}{e:Ty}{xs ys:List (D e)}{A:aI}{w:World}{cs ds:List Value}(h:gw eT e xs A w cs)(hl:cs.length=xs.length*e.size)(h':gw eT e ys A w ds) :
  gw eT e (xs++ys) A w (cs++ds):=by
 intro i y hy;rw[List.getElem?_append]at hy;split at hy
 ·rename_i hi
  obtain⟨us,h1,h2⟩:=h i y hy;refine⟨us,h1,fun j u hj =>?_⟩;have:=h2 j u hj;rw[List.getElem?_append_left (bG this)];exact this
 ·rename_i hi
  obtain⟨us,h1,h2⟩:=h' _ y hy;refine⟨us,h1,fun j u hj =>?_⟩;have e1:i*e.size=cs.length+(i-xs.length)*e.size:=by
   rw[hl,<-af,show xs.length+(i-xs.length)=i from by omega]
  rw[List.getElem?_append_right (by omega),show i*e.size+j-cs.length=(i-xs.length)*e.size+j from by omega];exact h2 j u hj
def gw.frame{eT:TypeId}{e:Ty}{xs:List (D e)}{A A':aI}{w w':World}{cs:List Value}(h:gw eT e xs A w cs)
  (hf:∀b o v,¬A b o->w.cell? ⟨b,o,none⟩=some v->w'.cell? ⟨b,o,none⟩=some v/\¬A' b o):gw eT e xs A' w' cs:=
 fun i y hy=>let⟨us,h1,h2⟩:=h i y hy;⟨us,h1.frame hf,h2⟩
def FQ{eT:TypeId}{e:Ty}{A:aI}{w:World}{b:Nat}:∀{xs:List (D e)} {o:Nat},(∀i y,xs[i]?=some y->∃us,R eT e y A w us/\Row A w b (o+i*e.size) us)->
  ∃cs,cs.length=xs.length*e.size/\Row A w b o cs/\gw eT e xs A w cs/\∀u∈cs,u.oneCell'=true:=by
 intro xs;induction xs with
 |nil=>intro o _;exact⟨[],by simp,fun j u h=>by simp at h,fun i y h=>by simp at h,by simp⟩
 |cons x xs ih=>
  intro o h;obtain⟨us,h1,h2⟩:=h 0 x rfl;obtain⟨cs,k1,k2,k3,k4⟩:=ih (o:=o+e.size) (fun i y hy=>by
   obtain⟨us,r1,r2⟩:=h (i+1) y (by simpa using hy);refine⟨us,r1,?_⟩;rw[show o+e.size+i*e.size=o+(i+1)*e.size from by rw[af];omega];exact r2)
  have hl:=h1.length;refine⟨us++cs,by simp[hl,k1,af];omega,fun j u hj =>?_,gw.cons h1 k3,fun u hu =>?_⟩
  ·rw[List.getElem?_append]at hj
   split at hj
   ·have:=h2 j u hj
    simpa using this
   ·have:=k2 _ u hj
    rw[hl,show o+e.size+(j-e.size)=o+j from by omega]at this;exact this
  ·rcases di.1 hu with hu|hu
   ·exact h1.lj u hu
   ·exact k4 u hu
def FR{eT:TypeId}{e:Ty}{A:aI}{w:World}{b o:Nat}{xs:List (D e)}{cs:List Value}(h:gw eT e xs A w cs)(hr:Row A w b o cs) :
  ∀i y,xs[i]?=some y->∃us,R eT e y A w us/\Row A w b (o+i*e.size) us:=by
 intro i y hy;obtain⟨us,h1,h2⟩:=h i y hy;refine⟨us,h1,fun j u hj =>?_⟩;rw[bq];exact hr _ _ (h2 j u hj)
def sY{eT:TypeId}{e:Ty}{xs:List (D e)}{A:aI}{w:World}{v:Value}(h:VR eT (.slice e) xs A w v) :
  xs.length<=aN/\((xs=[]/\∃a c,v=.slice a 0 c)\/∃b o cap cs,v=.slice (some ⟨b,o,none⟩) xs.length cap/\xs.length<=cap/\cs.length=xs.length*e.size/\Row A w b o cs/\gw eT e xs A w cs/\∀u∈cs,u.oneCell'=true):=by
 obtain⟨u,hu,hl,h⟩:=VR.one rfl h;simp at hu;subst hu;refine⟨hl,?_⟩;rcases h with h|⟨b,o,cap,rfl,hc,h⟩
 ·exact .inl h
 ·obtain⟨cs,k1,k2,k3,k4⟩:=FQ h
  exact .inr ⟨b,o,cap,cs,rfl,hc,k1,k2,k3,k4⟩
def pL{eT:TypeId}{e:Ty}{xs:List (D e)}{A:aI}{w:World}{b o cap:Nat}{cs:List Value}(hb:xs.length<=aN)(hc:xs.length<=cap)(hr:Row A w b o cs)(h:gw eT e xs A w cs) :
  VR eT (.slice e) xs A w (.slice (some ⟨b,o,none⟩) xs.length cap):=
 VR.cJ rfl ⟨_,rfl,hb,.inr ⟨b,o,cap,rfl,hc,FR h hr⟩⟩
def Src(eT:TypeId)(e:Ty)(ys:List (D e))(A:aI)(w:World)(v:Value):Prop:=
 (ys=[]/\∃a c,v=.slice a 0 c)\/∃b o cap cs,v=.slice (some ⟨b,o,none⟩) ys.length cap/\cs.length=ys.length*e.size/\(∀j u,cs[j]?=some u->w.cell? ⟨b,o+j,none⟩=some u)/\gw eT e ys A w cs/\∀u∈cs,u.oneCell'=true
def Src.WJ{eT:TypeId}{e:Ty}{ys:List (D e)}{A:aI}{w:World}{v:Value}(h:VR eT (.slice e) ys A w v):Src eT e ys A w v:=by
 rcases(sY h).2 with h|⟨b,o,cap,cs,h1,_,h3,h4,h5,h6⟩
 ·exact .inl h
 ·exact .inr ⟨b,o,cap,cs,h1,h3,fun j u hj=>(h4 j u hj).1,h5,h6⟩
def qc{S:bI}{e:Ty}{ys:List (D e)}{vs:Array Value}(h:kD cx.eT S e ys vs)(hl:ys.length*e.size<=vs.size) :
  ∃cs,cs=vs.toList.take (ys.length*e.size)/\cs.length=ys.length*e.size/\gw cx.eT e ys S.A S.w cs/\∀u∈cs,u.oneCell'=true:=by
 have hlen:(vs.toList.take (ys.length*e.size)).length=ys.length*e.size:=by simp;omega
 have hrow:gw cx.eT e ys S.A S.w (vs.toList.take (ys.length*e.size)):=by
  intro i y hy;obtain⟨us,h1,h2⟩:=h i y hy;refine⟨us,h1,fun j u hj =>?_⟩;have hi:=bG hy;have hj':=bG hj;rw[h1.length]at hj';have:(i+1)*e.size<=ys.length*e.size:=aq _ hi;rw[af]at this;rw[List.getElem?_take,if_pos (by omega),Array.getElem?_toList];exact h2 j u hj
 refine⟨_,rfl,hlen,hrow,fun u hu =>?_⟩;obtain⟨k,hk,rfl⟩:=et hu;have hk':k<ys.length*e.size:=by omega
 have hpos:0<e.size:=by
  rcases eu e.size with h0|h0
  ·rw[h0]at hk';omega
  ·exact h0
 have hi:k / e.size<ys.length:=ew (by rw[de];exact hk');obtain⟨us,h1,h2⟩:=hrow _ _ (List.getElem?_eq_getElem hi);have hjlt:k % e.size<us.length:=by rw[h1.length];exact Nat.mod_lt _ hpos
 have:=h2 _ _ (List.getElem?_eq_getElem hjlt);rw[show k / e.size*e.size+k % e.size=k from by rw[de];exact ey k e.size]at this;rw[List.getElem?_eq_getElem hk]at this;rw[ez this];exact h1.lj _ (e4 hjlt)
def uu{O:aI}{st:St}{loc:Nat->Loc}{w:World}(g:Good cx.eT X (aA O st loc w)){e:Ty}{x:C}{ys:List (D e)}{v:Value}(h:wa st e x=some ys)
  (hx:CR cx.eT (aA O st loc w) x v):Src cx.eT e ys (aA O st loc w).A w v:=by
 unfold wa at h;split at h
 ·rename_i zs hz
  cases h;exact Src.WJ (Al hz hx)
 ·split at h
  ·rename_i m
   split at h
   ·rename_i e' zs hob
    split at h
    ·rename_i hb
     cases h;have hee:e'=e:=by have:=Ty.eq_of_beq hb;cases this;rfl
     subst hee;rcases(g.obj _ _ hob).2 with⟨rfl,⟨a,ha⟩,_⟩|⟨b,vs,T,cap,hl,hU,hheap,hvs,hcap,_,he⟩
     ·exact .inl ⟨rfl,a,0,(hx.2 _ _ hob).trans ha⟩
     have hle:zs.length*e'.size<=vs.size:=by rw[hvs];exact aq _ hcap
     obtain⟨cs,hcs,k1,k2,k3⟩:=qc he hle;refine .inr ⟨b,0,cap,cs,(hx.2 _ _ hob).trans hl,k1,fun j u hj =>?_,k2,k3⟩;rw[al,cell_of_row w b j vs T (0,0) hheap];subst hcs;rw[List.getElem?_take]at hj;split at hj
     ·simpa using hj
     ·cases hj
    ·cases h
   ·cases h
  ·cases h
def o9{t te:TypeId}{ti:TypeInfo}{ty:TypeId}(ht:P.underlying t=some (.slice te))(hi:P.info? te=some ti){s:Value}{base:Option Addr}{n c:Nat}(hs:s=.slice base n c)(hnc:n<=c)
  {x:Value}(hx:∃a cap,x=.slice a 0 cap)(w:World):(ak #[t,t] ty #[s,x]).run P w=.ok s w:=by
 subst hs;obtain⟨a,cap,rfl⟩:=hx;rcases a with _|a
 ·cases base <;> simp[ak,run_underlying ht,sizeOf,typeInfo,hi,cn,hnc,e5,storeCells]
 ·cases base <;> simp[ak,run_underlying ht,sizeOf,typeInfo,hi,cn,hnc,e5,loadCells,loadCellsFrom,storeCells]
def qP{t te T:TypeId}{ti:TypeInfo}{ty:TypeId}(ht:P.underlying t=some (.slice te))(hi:P.info? te=some ti){g sLen sCap:Nat}{cur:Array Value}{w:World}
  (hg:w.heap[g]?=some (.cells cur T (0,0))){a:Addr}{m c:Nat}{news:List Value}(hl:news.length=m*ti.size)(hnews:∀j u,news[j]?=some u->w.cell? (a.add j)=some u)(h1:∀u∈news,u.oneCell'=true)
  (hroom:sLen+m<=sCap)(hfit:sLen*ti.size+news.length<=cur.size) :
  (ak #[t,t] ty #[.slice (some ⟨g,0,none⟩) sLen sCap,.slice (some a) m c]).run P w=
   .ok (.slice (some ⟨g,0,none⟩) (sLen+m) sCap) (w.setRow g (cur.toList.take (sLen*ti.size)++news++cur.toList.drop (sLen*ti.size+news.length)).toArray):=by
 have hf:=run_firstCells_some (P:=P) w ti.size m a m c news hl hnews;have hst:=run_storeCells_at P g (sLen*ti.size) T news 0 cur w hg (by simpa using hfit) h1;simp only[bj]at hst;simp[ak,run_underlying ht,sizeOf,typeInfo,hi,cn,hroom,hf,ay,hst]
def nA{w:World}{t te ty:TypeId}{ti:TypeInfo}{z:Value}(ht:P.underlying t=some (.slice te))(hi:P.info? te=some ti)(hz:ti.zero=some z)(a0:Option Addr)
  {a:Addr}{n c:Nat}{news:List Value}(hl:news.length=n*ti.size)(hnews:∀j v,news[j]?=some v->w.cell? (a.add j)=some v)
  (h0:0<n)(h63:(n:Int)<=9223372036854775807)(h48:n*ti.bytes<=140737488355328) :
  (ak #[t,t] ty #[.slice a0 0 0,.slice (some a) n c]).run P w=
   .ok (.slice (some ⟨w.heap.size,0,none⟩) n (grownCap w n 0 te)) (w.drew.alloc (.cells (news.toArray++bc z.cells (grownCap w n 0 te-n)) te)):=by
 cases a0 with
 |none=>exact run_append_nil (P:=P) w t ty te ti z ht hi hz a n c news hl hnews h0 h63 (by omega)
 |some b=>
  have:=run_append_grow (P:=P) w t ty te ti z ht hi hz b 0 0 [] (by simp) (fun j v hj=>by simp at hj) a n c news hl hnews (by omega) (by simpa using h63)
   (growslice_fits (by omega) (by simpa using h48))
  simpa using this
structure VZ (P:Program) (t t' ty te:TypeId) (ti:TypeInfo) (z vx:Value) (m:Nat) (cs:List Value) (w:World):Prop where
 zero:m=0->∀base n c,n<=c->(ak #[t,t'] ty #[.slice base n c,vx]).run P w=.ok (.slice base n c) w
 emp:0<m->m*ti.bytes<=140737488355328->(m:Int)<=9223372036854775807->∀a0,(ak #[t,t'] ty #[.slice a0 0 0,vx]).run P w=
  .ok (.slice (some ⟨w.heap.size,0,none⟩) m (grownCap w m 0 te)) (w.drew.alloc (.cells (cs.toArray++bc z.cells (grownCap w m 0 te-m)) te))
 room:0<m->∀g sLen sCap cur T,w.heap[g]?=some (.cells cur T (0,0))->sLen+m<=sCap->sLen*ti.size+cs.length<=cur.size->
  (ak #[t,t'] ty #[.slice (some ⟨g,0,none⟩) sLen sCap,vx]).run P w=
   .ok (.slice (some ⟨g,0,none⟩) (sLen+m) sCap) (w.setRow g (cur.toList.take (sLen*ti.size)++cs++cur.toList.drop (sLen*ti.size+cs.length)).toArray)
 grow:0<m->∀(b:Addr) sLen sCap (olds:List Value),olds.length=sLen*ti.size->(∀j u,olds[j]?=some u->w.cell? (b.add j)=some u)->sCap<sLen+m->
  ((sLen+m:Nat):Int)<=9223372036854775807->(sLen+m)*ti.bytes<=140737488355328->
  (ak #[t,t'] ty #[.slice (some b) sLen sCap,vx]).run P w=.ok (.slice (some ⟨w.heap.size,0,none⟩) (sLen+m) (grownCap w (sLen+m) sCap te))
   (w.drew.alloc (.cells (olds.toArray++cs.toArray++bc z.cells (grownCap w (sLen+m) sCap te-(sLen+m))) te))
def wb(P:Program)(eT t t' ty te:TypeId)(ti:TypeInfo)(z:Value)(e:Ty)(ys:List (D e))(A:aI)(w:World)(vx:Value):Prop:=
 ∃cs,cs.length=ys.length*e.size/\gw eT e ys A w cs/\(∀u∈cs,u.oneCell'=true)/\VZ P t t' ty te ti z vx ys.length cs w
def wb.Ou{eT t ty te:TypeId}{ti:TypeInfo}{td:TypeDesc}{z:Value}{e:Ty}(hu:P.underlying t=some (.slice te))(hf:Fit P te e ti td)(hz:ti.zero=some z)
  {ys:List (D e)}{A:aI}{w:World}{vx:Value}(h:Src eT e ys A w vx):wb P eT t t ty te ti z e ys A w vx:=by
 rcases h with⟨rfl,hx⟩|⟨b,o,cap,cs,rfl,fT,hcc,hrl,hone⟩
 ·exact⟨[],by simp,fun i y hy=>by simp at hy,fun u hu=>by simp at hu,
   ⟨fun _ base n c hnc=>o9 hu hf.info rfl hnc hx w,fun h=>by simp at h,fun h=>by simp at h,fun h=>by simp at h⟩⟩
 ·have hnews:∀j u,cs[j]?=some u->w.cell? ((⟨b,o,none⟩:Addr).add j)=some u:=fun j u hj=>by rw[ay];exact hcc j u hj
  exact⟨cs,fT,hrl,hone,fun h base n c hnc=>o9 hu hf.info rfl hnc ⟨_,_,by rw[h]⟩ w,
   fun h0 hb h63 a0=>nA hu hf.info hz a0 (by rw[fT,hf.size]) hnews h0 h63 hb,
   fun _ g sLen sCap cur T hg hroom hfit=>qP hu hf.info hg (by rw[fT,hf.size]) hnews hone hroom hfit,
   fun _ b' sLen sCap olds ho1 ho2 hlt h63 hb=>run_append_grow (P:=P) w t ty te ti z hu hf.info hz b' sLen sCap olds ho1 ho2 _ _ _ cs (by rw[fT,hf.size]) hnews hlt h63 (growslice_fits hlt hb)⟩
def bJ(s:List UInt8):List Int:=s.map fun b=>(b.toNat:Int)
def yM(s:List UInt8):b5 ⟨s.toArray⟩=(bJ s).map (Value.int .u8):=by simp[b5,bJ]
def wb.V0{eT t t' ty te:TypeId}{ti:TypeInfo}{td:TypeDesc}{z:Value}(hu:P.underlying t=some (.slice te))(hu':P.underlying t'=some .string)(hf:Fit P te (.int .u8) ti td)(hz:ti.zero=some z)
  (s:List UInt8)(A:aI)(w:World):wb P eT t t' ty te ti z (.int .u8) (bJ s) A w (.string ⟨s.toArray⟩):=by
 have hsz:(⟨s.toArray⟩:ByteArray).size=s.length:=by simp[ByteArray.size]
 have hbl:(bJ s).length=s.length:=by simp[bJ]
 have hti:ti.size=1:=hf.size;have fT:(b5 ⟨s.toArray⟩).length=s.length:=by rw[Lib.strCells_length,hsz]
 refine⟨b5 ⟨s.toArray⟩,by rw[fT,hbl];simp[Ty.size],fun i y hy =>?_,e6 _,?_⟩
 ·refine⟨[.int .u8 y],⟨rfl,?_⟩,fun j u hj =>?_⟩
  ·simp only[bJ,List.getElem?_map,Option.map_eq_some_iff]at hy
   obtain⟨b,_,rfl⟩:=hy;have:=b.toNat_lt;constructor
   ·show(0:Int)<=_;omega
   ·show _<=(255:Int);omega
  ·cases j with
   |zero=>
    simp at hj;subst hj;rw[yM];simp only[Ty.size,a8,bj,List.getElem?_map,hy,e7]
   |succ j=>simp at hj
 ·rw[hbl]
  refine⟨fun h base n c hnc =>?_,fun h0 hb h63 a0 =>?_,fun _ g sLen sCap cur T hg hroom hfit =>?_,fun _ b' sLen sCap olds ho1 ho2 hlt h63 hb =>?_⟩
  ·have hs0:s=[]:=List.eq_nil_of_length_eq_zero h
   subst hs0;have hf0:=e8 (P:=P) w ti.size ⟨#[]⟩;have e0:(b5 ⟨#[]⟩)=[]:=rfl;rw[e0]at hf0;have e1:(⟨#[]⟩:ByteArray).size=0:=rfl;rw[e1]at hf0;cases base <;> simp[ak,run_underlying hu,run_underlying hu',sizeOf,typeInfo,hf.info,cn,hnc,e1,hf0,storeCells]
  ·cases a0 with
   |none=>
    have hr:=run_append_nil_string (P:=P) w t t' ty te ti z hu hu' hf.info hz ⟨s.toArray⟩ (by rw[hsz];exact h0) (by rw[hsz];exact h63) (by rw[hsz];omega);rw[hsz]at hr;rw[hr];simp[b5]
   |some b=>
    have hr:=e9 (P:=P) w t t' ty te ti z hu hu' hf.info hz b 0 0 [] (by simp) (fun j v hj=>by simp at hj) ⟨s.toArray⟩ (by rw[hsz];omega) (by rw[hsz];simpa using h63)
     (by rw[hsz];exact growslice_fits (by omega) (by simpa using hb))
    rw[hsz]at hr;simpa using hr
  ·have hf0:=e8 (P:=P) w ti.size ⟨s.toArray⟩
   have hst:=run_storeCells_at P g (sLen*ti.size) T (b5 ⟨s.toArray⟩) 0 cur w hg (by simpa using hfit) (e6 _);simp only[bj]at hst;rw[hsz]at hf0;simp[ak,run_underlying hu,run_underlying hu',sizeOf,typeInfo,hf.info,cn,hsz,hroom,hf0,ay,hst]
  ·have hr:=e9 (P:=P) w t t' ty te ti z hu hu' hf.info hz b' sLen sCap olds ho1 ho2 ⟨s.toArray⟩ (by rw[hsz];exact hlt) (by rw[hsz];exact h63)
    (by rw[hsz];exact growslice_fits hlt hb)
   rw[hsz]at hr;exact hr
def jP{a:Ty}(h:Ty.beq a a=true)(x:D a):cF h x=x:=rfl
def gx{a:Ty}(h:Ty.beq (.slice a) (.slice a)=true)(x:List (D a)):cF h (a:=.slice a) (b:=.slice a) x=x:=rfl
def kG(O:aI)(st:St)(loc:Nat->Loc)(w:World)(n:Nat)(oc:OC)(m:Nat):(aA O (setObj st n oc) loc w).ob m=if n=m then some oc else look st.aF m:=oG st n m oc
def KO{O:aI}{st:St}{loc:Nat->Loc}{w:World}(g:Good cx.eT X (aA O st loc w))(hO:eS O w){e:Ty}{xs ys:List (D e)}{n:Nat}{te:TypeId}{z:Array Value}{cap':Nat}{olds news:List Value}
  (hob:look st.aF n=some (.tok e xs))(hz:z.size=e.size)(hlo:olds.length=xs.length*e.size)(hln:news.length=ys.length*e.size)(hro:gw cx.eT e xs (aA O st loc w).A w olds)(hrn:gw cx.eT e ys (aA O st loc w).A w news)
  (hle:xs.length+ys.length<=1000000000)(hcap:xs.length+ys.length<=cap')(hpos:0<ys.length) :
  let w':=w.drew.alloc (.cells (olds.toArray++news.toArray++bc z (cap'-(xs.length+ys.length))) te)
  let v:=dz (some ⟨w.heap.size,0,none⟩) (xs.length+ys.length) cap'
  let loc':=bT loc n ⟨v,[w.heap.size]⟩
  Good cx.eT X (aA O (setObj st n (.tok e (xs++ys))) loc' w')/\Tr (aA O st loc w) (aA O (setObj st n (.tok e (xs++ys))) loc' w')/\
   dI cx.eT (aA O (setObj st n (.tok e (xs++ys))) loc' w') (.s (.one (.app e (xs++ys) n))) v:=by
 intro w' v loc';have hb:Below w.heap.size w w':=(Below.refl _ w).drew.alloc (ag _) _;have hheap:w'.heap[w.heap.size]?=some (.cells (olds.toArray++news.toArray++bc z (cap'-(xs.length+ys.length))) te (0,0)):=heap_alloc_new w.drew _;have hsz:(olds.toArray++news.toArray++bc z (cap'-(xs.length+ys.length))).size=cap'*e.size:=by
  simp only[df,bk,size_zeroCells,hz,hlo,hln,<-af];congr 1;omega
 have hn:=(g.obj n _ hob).1;obtain⟨tr1,g1⟩:=pI (S:=aA O st loc w) (S':=aA O (setObj st n (.tok e (xs++ys))) loc' w') (n:=n) (oc:=.tok e xs) (oc':=.tok e (xs++ys)) (l':=⟨v,[w.heap.size]⟩) g rfl hO hob
  (fun m=>kG O st loc' w' n _ m) (fun _=>rfl) rfl (fun h=>(h e xs rfl).elim)
  ⟨rfl,by simp,fun e1=>by rw[ae]at e1;omega⟩ hb.os hb.output hb.size (fun b hlt _=>hb.block b hlt)
  (fun b o v _ _ hc=>o1 hb hc) (fun b hb' =>.inr (by simp at hb';subst hb';exact ag _))
 have hcell:∀j u,(olds++news)[j]?=some u->w'.cell? ⟨w.heap.size,j,none⟩=some u:=by
  intro j u hj;rw[cell_of_row _ w.heap.size j _ te (0,0) hheap];have hl:=bG hj;rw[Array.getElem?_append,if_pos (by simpa using hl)];simpa using hj
 have g1:=g1 (.inr ⟨w.heap.size,_,te,cap',by rw[ae],rfl,hheap,hsz,by rw[ae];exact hcap,by rw[ae];unfold aN;omega,fun i y hy=>by
  obtain⟨us,r1,r2⟩:=(hro.append hlo hrn).frame tr1.cell i y hy;refine⟨us,r1,fun j u hj =>?_⟩;have:=r2 j u hj;have hl:=bG this;rw[Array.getElem?_append,if_pos (by simpa using hl)];simpa using this⟩)
 refine⟨g1,tr1,?_,hn,fun zs hy =>?_⟩
 ·have hrows:=(hro.append hlo hrn).frame tr1.cell
  have:=pL (eT:=cx.eT) (b:=w.heap.size) (o:=0) (cap:=cap') (by rw[ae];unfold aN;omega) (by rw[ae];exact hcap) (cs:=olds++news) ?_ hrows
  ·rw[ae]at this;exact this
  ·intro j u hj
   rw[al];refine⟨hcell j u hj,?_⟩;rintro(hA|⟨m,oc,h1,h2,h3⟩)
   ·have:=hO _ _ hA;omega
   ·by_cases e1:n=m
    ·rw[kG,if_pos e1]at h1
     cases h1;have hl:=bG hj;simp only[OC.lo,ae,af]at h3;rw[ae,hlo,hln]at hl;omega
    ·rw[kG,if_neg e1]at h1
     simp only[aA,loc',bT,if_neg e1]at h2;have:=(g.obj m oc h1).2.inside _ h2;simp[aA]at this
 ·rw[kG,if_pos rfl]at hy
  cases hy;exact⟨ag _,fun _=>by simp[aA,loc',bT]⟩
def sZ{O:aI}{st:St}{loc:Nat->Loc}{w:World}(g:Good cx.eT X (aA O st loc w))(hO:eS O w)
  {t t' ty te:TypeId}{ti:TypeInfo}{td:TypeDesc}{z:Value}{e e':Ty}(hu:P.underlying t=some (.slice te))(hf:Fit P te e ti td)(hz:ti.zero=some z)(hzs:z.cells.size=e.size)
  {ys:List (D e)}{xs:List (D e')}{n:Nat}{K:SV->St->VC}{vs vx:Value}(hs:CR cx.eT (aA O st loc w) (.app e' xs n) vs)(hsrc:wb P cx.eT t t' ty te ti z e ys (aA O st loc w).A w vx)
  (h:(Bw st e ys e' xs n K).holds) :
  ∃sv v st' loc' w',(K sv st').holds/\st'.env=st.env/\Good cx.eT X (aA O st' loc' w')/\Tr (aA O st loc w) (aA O st' loc' w')/\dI cx.eT (aA O st' loc' w') sv v/\
   (ak #[t,t'] ty #[vs,vx]).run P w=.ok v w':=by
 unfold Bw at h;split at h
 ·rename_i e'' zs hb hob
  split at h
  ·rename_i hb2
   have h1:e'=e:=by have:=Ty.eq_of_beq hb;cases this;rfl
   subst h1;have h2:e''=e':=by have:=Ty.eq_of_beq hb2;cases this;rfl
   subst h2;rw[gx,gx]at h;obtain⟨⟨heq,hle⟩,h⟩:=h;subst heq;obtain⟨hvr,hn,htok⟩:=hs;have hvl:=(htok _ hob).2 rfl;obtain⟨cs,fT,hrl,hone,hR⟩:=hsrc;have zero:ys=[]->∃sv v st' loc' w',(K sv st').holds/\st'.env=st.env/\Good cx.eT X (aA O st' loc' w')/\Tr (aA O st loc w) (aA O st' loc' w')/\dI cx.eT (aA O st' loc' w') sv v/\
     (ak #[t,t'] ty #[vs,vx]).run P w=.ok v w':=by
    intro hy;subst hy;rw[ec]at h;have hst:aA O (setObj st n (.tok e'' zs)) loc w=aA O st loc w:=by
     have:look (setObj st n (.tok e'' zs)).aF=look st.aF:=by
      funext m
      rw[oG];by_cases e1:n=m
      ·rw[if_pos e1,<-e1,hob]
      ·rw[if_neg e1]
     simp only[aA,this];rfl
    obtain⟨a,c,hvs,fT⟩:=tD hvr;have hnc:zs.length<=c:=by
     rcases(sY hvr).2 with⟨h1,h2⟩|⟨b,o,cap,cs,h1,h2,_⟩
     ·rw[h1];simp
     ·rw[hvs]at h1;cases h1;exact h2
    refine⟨_,vs,_,loc,w,h,rfl,by rw[hst];exact g,by rw[hst];exact Tr.refl _,?_,by rw[hvs];exact hR.zero rfl _ _ _ hnc⟩;rw[hst];exact⟨hvr,hn,htok⟩
   ·by_cases hm:ys=[]
    ·exact zero hm
    ·have hpos:0<ys.length:=by cases ys with|nil=>exact(hm rfl).elim|cons=>simp
     have hbytes:(zs.length+ys.length)*ti.bytes<=140737488355328:=by have:=ed hle hf.bytes;omega
     rcases(g.obj n _ hob).2 with⟨hx0,⟨a0,hv0⟩,hbs0⟩|⟨g0,cur,T,cap0,hv0,hbs0,hheap0,hsz0,hcap0,_,_⟩
     ·have hv0':vs=.slice a0 0 0:=hvl.trans hv0
      subst hx0;subst hv0';have hrun:=hR.emp hpos (by have:=hbytes;simp only[ee,al]at this;omega) (by omega) a0;have hc':ys.length<=grownCap w ys.length 0 te:=grownCap_ge w _ _ _;obtain⟨k1,k2,k3⟩:=KO (te:=te) (cap':=grownCap w ys.length 0 te) (olds:=[]) g hO hob hzs (by simp) fT (fun i y hy=>by simp at hy) hrl hle (by simpa using hc') hpos;refine⟨_,_,_,_,_,h,rfl,k1,k2,k3,?_⟩;rw[hrun];simp
     ·have hv0':vs=.slice (some ⟨g0,0,none⟩) zs.length cap0:=hvl.trans hv0
      obtain⟨olds,ho1,ho2,ho3,ho4⟩:∃olds:List Value,olds.length=zs.length*e''.size/\(∀j u,olds[j]?=some u->w.cell? ⟨g0,j,none⟩=some u)/\gw cx.eT e'' zs (aA O st loc w).A w olds/\Row (aA O st loc w).A w g0 0 olds:=by
       rcases(sY hvr).2 with⟨h1,h2⟩|⟨b',o',cap',olds,h1,h2,h3,h4,h5,h6⟩
       ·exact⟨[],by rw[h1];simp,fun j u hj=>by simp at hj,fun i y hy=>by rw[h1]at hy;simp at hy,fun j u hj=>by simp at hj⟩
       ·rw[hv0']at h1
        cases h1;exact⟨olds,h3,fun j u hj=>by have:=(h4 j u hj).1;rwa [al]at this,h5,h4⟩
      subst hv0';by_cases hroom:zs.length+ys.length<=cap0
      ·have hmul:(zs.length+ys.length)*e''.size<=cap0*e''.size:=aq _ hroom
       rw[af]at hmul;have hfit:zs.length*ti.size+cs.length<=cur.size:=by rw[hf.size,hsz0,fT];exact hmul
       have hrun:=hR.room hpos _ _ _ _ _ hheap0 hroom hfit;rw[hf.size]at hrun hfit;generalize hcur':(cur.toList.take (zs.length*e''.size)++cs++cur.toList.drop (zs.length*e''.size+cs.length)).toArray=cur' at hrun;have hget:∀k,cur'[k]?=if k<zs.length*e''.size then cur[k]? else if k<zs.length*e''.size+cs.length then cs[k-zs.length*e''.size]? else cur[k]?:=by
        intro k;rw[<-hcur',List.getElem?_toArray,iC _ _ _ _ (by simpa using hfit)];simp
       have hsz':cur'.size=cur.size:=by
        rw[<-hcur'];simp only[bk,ae,ah,ax,ai];omega
       have hheap':=setRow_heap w g0 cur cur' T (0,0) hheap0;obtain⟨tr1,g1⟩:=pI (S:=aA O st loc w) (S':=aA O (setObj st n (.tok e'' (zs++ys))) (bT loc n ⟨.slice (some ⟨g0,0,none⟩) (zs.length+ys.length) cap0,[g0]⟩) (w.setRow g0 cur')) (n:=n)
        (oc:=.tok e'' zs) (oc':=.tok e'' (zs++ys)) (l':=⟨.slice (some ⟨g0,0,none⟩) (zs.length+ys.length) cap0,[g0]⟩) g rfl hO hob
        (fun m=>kG O st _ _ n _ m) (fun _=>rfl) rfl (fun h=>(h e'' zs rfl).elim) ⟨rfl,by simp,fun e1=>by rw[ae]at e1;omega⟩ rfl rfl (by simp[aA,da])
        (fun b' _ hb'=>setRow_other w g0 b' cur' (fun e1=>hb' (by rw[hbs0];simp[e1])))
        (fun b' o' v' hb' ho' hc'=>by
         rw[hbs0]at hb';simp at hb';subst hb';simp only[aA]at hc' ⊢;rw[cell_of_row w b' o' cur T (0,0) hheap0]at hc';rw[cell_of_row _ b' o' cur' T (0,0) hheap',hget,if_pos (show o'<zs.length*e''.size from ho')];exact hc')
        (fun b' hb' =>.inl (by simp at hb';subst hb';exact⟨by rw[hbs0];simp,by simp only[OC.lo,ae,af];omega⟩))
       have hcur:∀(j:Nat) (u:Value),(olds++cs)[j]?=some u->cur'[j]?=some u:=by
        intro j u hj;rw[hget];rw[List.getElem?_append,ho1]at hj;by_cases h3:j<zs.length*e''.size
        ·rw[if_pos h3]
         rw[if_pos h3]at hj;have:=ho2 j u hj
         rwa [cell_of_row w g0 j cur T (0,0) hheap0]at this
        ·rw[if_neg h3]at hj
         have:=bG hj;rw[if_neg h3,if_pos (by omega)];exact hj
       have g1:=g1 (.inr ⟨g0,cur',T,cap0,by rw[ae],rfl,hheap',by rw[hsz',hsz0],by rw[ae];exact hroom,by rw[ae];unfold aN;omega,fun i y hy=>by
        obtain⟨us,r1,r2⟩:=(ho3.append ho1 hrl).frame tr1.cell i y hy;exact⟨us,r1,fun j u hj=>hcur _ u (r2 j u hj)⟩⟩)
       refine⟨_,_,_,_,_,h,rfl,g1,tr1,⟨?_,hn,fun zs' hy =>?_⟩,hrun⟩
       ·have hrows:=(ho3.append ho1 hrl).frame tr1.cell
        have:=pL (eT:=cx.eT) (b:=g0) (o:=0) (cap:=cap0) (by rw[ae];unfold aN;omega) (by rw[ae];exact hroom) (cs:=olds++cs) ?_ hrows
        ·rw[ae]at this;exact this
        ·intro j u hj
         rw[al];constructor
         ·show World.cell? (w.setRow g0 cur') _=_
          rw[cell_of_row _ g0 j cur' T (0,0) hheap',hget];rw[List.getElem?_append,ho1]at hj;by_cases h3:j<zs.length*e''.size
          ·rw[if_pos h3]
           rw[if_pos h3]at hj;have:=ho2 j u hj
           rwa [cell_of_row w g0 j cur T (0,0) hheap0]at this
          ·rw[if_neg h3]at hj
           have:=bG hj;rw[if_neg h3,if_pos (by omega)];exact hj
         ·have hl:=bG hj
          rw[ae,ho1]at hl;rintro(hA|⟨m',oc,h1,h2,h3⟩)
          ·exact g.out n _ g0 j hob (by rw[hbs0];simp) hA
          ·by_cases e1:n=m'
           ·rw[kG,if_pos e1]at h1
            cases h1;simp only[OC.lo,ae,af]at h3;omega
           ·rw[kG,if_neg e1]at h1
            simp only[aA,bT,if_neg e1]at h2;exact e1 (g.apart n m' _ _ g0 hob h1 (by rw[hbs0];simp) h2)
       ·rw[kG,if_pos rfl]at hy
        cases hy;exact⟨ag _,fun _=>by simp[aA,bT]⟩
      ·have hrun:=hR.grow hpos ⟨g0,0,none⟩ zs.length cap0 olds (by rw[ho1,hf.size]) (fun j u hj=>by rw[ay,al];exact ho2 j u hj) (by omega) (by omega) hbytes
       have hc':zs.length+ys.length<=grownCap w (zs.length+ys.length) cap0 te:=grownCap_ge w _ _ _;obtain⟨k1,k2,k3⟩:=KO (te:=te) (cap':=grownCap w (zs.length+ys.length) cap0 te) g hO hob hzs ho1 fT ho3 hrl hle hc' hpos;exact⟨_,_,_,_,_,h,rfl,k1,k2,k3,hrun⟩
  ·exact h.elim
 ·exact h.elim
def lP(l:List (Nat×OC))(n m:Nat):look (rH l n) m=if n=m then none else look l m:=by
 induction l with
 |nil=>simp[rH,look]
 |cons p r ih=>
  obtain⟨k,x⟩:=p;simp only[rH];by_cases hk:k=n
  ·subst hk
   rw[bu];simp only[look];rw[ih];by_cases h:k=m
   ·simp[h]
   ·rw[if_neg h,if_neg h];have:ad k m=false:=nT h
    rw[this]
  ·have hkb:ad k n=false:=nT hk
   simp only[hkb,look];by_cases h:k=m
   ·subst h;simp only[bu];rw[if_neg (fun e=>hk e.symm)]
   ·have:ad k m=false:=nT h
    rw[this];exact ih
def mS{O:aI}{st:St}{loc:Nat->Loc}{w:World}(g:Good cx.eT X (aA O st loc w))(n:Nat) :
  Tr (aA O st loc w) (aA O (bC st n) loc w)/\Good cx.eT X (aA O (bC st n) loc w):=by
 have hob:∀m oc,look (bC st n).aF m=some oc->look st.aF m=some oc:=by
  intro m oc h;simp only[bC]at h;rw[lP]at h;split at h
  ·cases h
  ·exact h
 have hA:∀b o,(aA O (bC st n) loc w).A b o->(aA O st loc w).A b o:=by
  rintro b o (h|⟨m,oc,h1,h2⟩)
  ·exact .inl h
  ·exact .inr ⟨m,oc,hob _ _ h1,h2⟩
 have ht:Tr (aA O st loc w) (aA O (bC st n) loc w):={
  O:=rfl
  next:=ag _
  os:=rfl
  output:=rfl
  size:=ag _
  own:=fun b h=>by obtain⟨m,oc,h1,h2⟩:=h;exact .inl ⟨m,oc,hob _ _ h1,h2⟩
  cell:=fun b o v h1 h2=>⟨h2,fun h=>h1 (hA b o h)⟩
  block:=fun _ _ _=>rfl
  loc:=fun _ _ _=>oh rfl
  kind:=fun m oc _ h=>⟨oc,hob _ _ h,by cases oc <;> simp[aX,aA]⟩}
 refine⟨ht,⟨fun m oc h =>?_,fun m1 m2 oc1 oc2 b h1 h2 h3 h4 =>?_,fun m oc b off h1 h2 =>?_,g.kT.tr ht⟩⟩
 ·obtain⟨h1,h2⟩:=g.obj m oc (hob _ _ h)
  exact⟨h1,h2.tr ht fun _ _=>rfl⟩
 ·exact g.apart m1 m2 oc1 oc2 b (hob _ _ h1) (hob _ _ h2) h3 h4
 ·exact g.out m oc b off (hob _ _ h1) h2
def yN{O:aI}{st:St}{loc:Nat->Loc}{w:World}(g:Good cx.eT X (aA O st loc w)){n:Nat}{e:Ty}{zs:List (D e)}
  (hob:look st.aF n=some (.aV e zs)){v:Value}(hv:CR cx.eT (aA O st loc w) (.aV n) v):CR cx.eT (aA O (bC st n) loc w) (.d (.slice e) zs) v:=by
 obtain⟨hn,hor⟩:=g.obj n _ hob;obtain⟨td,gd⟩:=mS g n;have hvl:=hv.2 _ _ hob;rcases hor with⟨rfl,⟨a,ha⟩,_⟩|⟨b,vs,T,cap,h1,h2,h3,h4,h5,h6,he⟩
 ·exact VR.cJ rfl ⟨_,rfl,by simp,.inl ⟨rfl,a,0,hvl.trans ha⟩⟩
 ·refine VR.cJ rfl ⟨_,rfl,h6,.inr ⟨b,0,cap,hvl.trans h1,h5,fun i y hy =>?_⟩⟩
  obtain⟨us,r1,r2⟩:=he i y hy;refine⟨us,r1.frame td.cell,fun j u hj=>⟨?_,?_⟩⟩
  ·show w.cell? _=_
   rw[al,cell_of_row w b _ vs T (0,0) h3];exact r2 j u hj
  ·rintro(hA'|⟨m,oc,k1,k2,k3⟩)
   ·exact g.out n _ b _ hob (by rw[h2];simp) hA'
   ·simp only[aA,bC]at k1 k2
    rw[lP]at k1;split at k1
    ·cases k1
    ·rename_i h8;exact h8 (g.apart n m _ _ b hob k1 (by rw[h2];simp) k2)
def wc{O:aI}{st:St}{loc:Nat->Loc}{w:World}(g:Good cx.eT X (aA O st loc w))(_hO:eS O w){n:Nat}{e:Ty}{zs:List (D e)}{v:Value}
  (hob:look st.aF n=some (.aV e zs))(hv:CR cx.eT (aA O st loc w) (.aV n) v) :
  ∃loc',Tr (aA O st loc w) (aA O (fresh (bC st n) (.tok e zs)) loc' w)/\Good cx.eT X (aA O (fresh (bC st n) (.tok e zs)) loc' w)/\
   CR cx.eT (aA O (fresh (bC st n) (.tok e zs)) loc' w) (.app e zs st.next) v/\∀b o,(aA O (fresh (bC st n) (.tok e zs)) loc' w).A b o->(aA O st loc w).A b o:=by
 obtain⟨hn,hor⟩:=g.obj n _ hob;obtain⟨td,gd⟩:=mS g n;have hvl:=hv.2 _ _ hob;have hne:∀m oc,look st.aF m=some oc->st.next≠m:=fun m oc h e=>by have:=(g.obj m oc h).1;simp[aA]at this;omega
 have hob1:∀m,look (fresh (bC st n) (.tok e zs)).aF m=if st.next=m then some (.tok e zs)else if n=m then none else look st.aF m:=by
  intro m;simp only[fresh,cC,bC,lP]
 let loc':=bT loc st.next (loc n)
 have hl1:∀m,st.next≠m->loc' m=loc m:=fun m h=>by simp[loc',bT,h]
 have hlast:loc' st.next=loc n:=by simp[loc',bT]
 have hA:∀b o,(aA O (fresh (bC st n) (.tok e zs)) loc' w).A b o->(aA O st loc w).A b o:=by
  rintro b o (h|⟨m,oc,h1,h2,h3⟩)
  ·exact .inl h
  ·simp only[aA]at h1 h2
   rw[hob1]at h1;by_cases e1:st.next=m
   ·rw[if_pos e1]at h1;cases h1
    rw[<-e1,hlast]at h2;exact .inr ⟨n,_,hob,h2,cj _⟩
   ·rw[if_neg e1]at h1;rw[hl1 m e1]at h2
    split at h1
    ·cases h1
    ·exact .inr ⟨m,oc,h1,h2,h3⟩
 have ht:Tr (aA O st loc w) (aA O (fresh (bC st n) (.tok e zs)) loc' w):={
  O:=rfl
  next:=by simp[aA,fresh,bC]
  os:=rfl
  output:=rfl
  size:=ag _
  own:=fun b h=>by
   obtain⟨m,oc,h1,h2⟩:=h;simp only[aA]at h1 h2;rw[hob1]at h1;by_cases e1:st.next=m
   ·rw[<-e1,hlast]at h2;exact .inl ⟨n,_,hob,h2⟩
   ·rw[if_neg e1]at h1;rw[hl1 m e1]at h2
    split at h1
    ·cases h1
    ·exact .inl ⟨m,oc,h1,h2⟩
  cell:=fun b o v h1 h2=>⟨h2,fun h=>h1 (hA b o h)⟩
  block:=fun _ _ _=>rfl
  loc:=fun m hm _=>oh (hl1 m (by simp[aA]at hm;omega))
  kind:=fun m oc hm h=>by
   simp only[aA]at hm h;rw[hob1,if_neg (by omega)]at h;split at h
   ·cases h
   ·refine⟨oc,h,?_⟩
    have:=hl1 m (by omega);cases oc <;> simp[aX,aA,this]}
 have hnw:st.next≠n:=by simp[aA]at hn;omega
 have key:OR cx.eT X (aA O (fresh (bC st n) (.tok e zs)) loc' w) (loc n) (.tok e zs):=by
  rcases hor with h|⟨b,vs,T,cap,h1,h2,h3,h4,h5,h6,h7⟩
  ·exact .inl h
  ·exact .inr ⟨b,vs,T,cap,h1,h2,h3,h4,h5,h6,h7.tr ht⟩
 refine⟨loc',ht,⟨fun m oc h =>?_,fun m1 m2 oc1 oc2 b h1 h2 h3 h4 =>?_,fun m oc b off h1 h2 =>?_,g.kT.tr ht⟩,?_,hA⟩
 ·simp only[aA]at h
  rw[hob1]at h;by_cases e1:st.next=m
  ·rw[if_pos e1]at h;cases h
   subst e1;refine⟨by simp[aA,fresh,bC],?_⟩;show OR _ _ _ (loc' st.next) _;rw[hlast];exact key
  ·rw[if_neg e1]at h
   split at h
   ·cases h
   ·obtain⟨k1,k2⟩:=g.obj m oc h
    refine⟨by simp[aA,fresh,bC]at k1 ⊢;omega,?_⟩;show OR _ _ _ (loc' m) _;rw[hl1 m e1];exact k2.tr ht fun _ _=>rfl
 ·simp only[aA]at h1 h2 h3 h4
  rw[hob1]at h1 h2;have one:∀m oc,st.next≠m->(if n=m then none else look st.aF m)=some oc->b∈(loc m).bs->b∈(loc n).bs->False:=by
   intro m oc e2 h5 h6 h7;split at h5
   ·cases h5
   ·rename_i h8;exact h8 (g.apart n m _ _ b hob h5 h7 h6)
  by_cases e1:st.next=m1
  ·rw[<-e1,hlast]at h3
   by_cases e2:st.next=m2
   ·omega
   ·rw[if_neg e2]at h2;rw[hl1 m2 e2]at h4;exact(one m2 oc2 e2 h2 h4 h3).elim
  ·rw[if_neg e1]at h1;rw[hl1 m1 e1]at h3
   by_cases e2:st.next=m2
   ·rw[<-e2,hlast]at h4;exact(one m1 oc1 e1 h1 h3 h4).elim
   ·rw[if_neg e2]at h2;rw[hl1 m2 e2]at h4
    split at h1
    ·cases h1
    ·split at h2
     ·cases h2
     ·exact g.apart m1 m2 oc1 oc2 b h1 h2 h3 h4
 ·simp only[aA]at h1 h2
  rw[hob1]at h1;by_cases e1:st.next=m
  ·rw[<-e1,hlast]at h2;exact g.out n _ b off hob h2
  ·rw[if_neg e1]at h1;rw[hl1 m e1]at h2
   split at h1
   ·cases h1
   ·exact g.out m oc b off h1 h2
 ·refine⟨?_,by simp[aA,fresh,bC],fun ys hy =>?_⟩
  ·rcases hor with⟨rfl,⟨a,ha⟩,_⟩|⟨b,vs,T,cap,h1,h2,h3,h4,h5,h6,he⟩
   ·exact VR.cJ rfl ⟨_,rfl,by simp,.inl ⟨rfl,a,0,hvl.trans ha⟩⟩
   ·refine VR.cJ rfl ⟨_,rfl,h6,.inr ⟨b,0,cap,hvl.trans h1,h5,fun i y hy =>?_⟩⟩
    obtain⟨us,r1,r2⟩:=he i y hy;refine⟨us,r1.frame ht.cell,fun j u hj=>⟨?_,?_⟩⟩
    ·show w.cell? _=_
     rw[al,cell_of_row w b _ vs T (0,0) h3];exact r2 j u hj
    ·rintro(hA'|⟨m,oc,k1,k2,k3⟩)
     ·exact g.out n _ b _ hob (by rw[h2];simp) hA'
     ·simp only[aA]at k1 k2
      rw[hob1]at k1;by_cases e1:st.next=m
      ·rw[if_pos e1]at k1;cases k1
       simp only[OC.lo]at k3;have hi:=bG hy;have hjl:=bG hj;rw[r1.length]at hjl;have:(i+1)*e.size<=zs.length*e.size:=aq _ hi;rw[af]at this;omega
      ·rw[if_neg e1]at k1;rw[hl1 m e1]at k2
       split at k1
       ·cases k1
       ·rename_i h8;exact h8 (g.apart n m _ _ b hob k1 (by rw[h2];simp) k2)
  ·simp only[aA]at hy
   rw[hob1,if_pos rfl]at hy;cases hy;refine⟨ag _,fun _ =>?_⟩;show v=(loc' st.next).v;rw[hlast];exact hvl
def Src.frame{eT:TypeId}{e:Ty}{ys:List (D e)}{A A':aI}{w:World}{v:Value}(h:Src eT e ys A w v)(hA:∀b o,A' b o->A b o):Src eT e ys A' w v:=by
 rcases h with h|⟨b,o,cap,cs,h1,h2,h3,h4,h5⟩
 ·exact .inl h
 ·exact .inr ⟨b,o,cap,cs,h1,h2,h3,h4.frame fun b o v k1 k2=>⟨k2,fun k3=>k1 (hA b o k3)⟩,h5⟩
def wg{O:aI}{st:St}{loc:Nat->Loc}{w:World}(g:Good cx.eT X (aA O st loc w))(hO:eS O w)
  {t ty te:TypeId}{ti:TypeInfo}{td:TypeDesc}{z:Value}{e:Ty}(hu:P.underlying t=some (.slice te))(hf:Fit P te e ti td)(hz:ti.zero=some z)(hzs:z.cells.size=e.size)
  {ys:List (D e)}{a0:Option Addr}{vx:Value}(hsrc:Src cx.eT e ys (aA O st loc w).A w vx)
  (hle:ys.length<=1000000000) :
  ∃v loc' w',Good cx.eT X (aA O (fresh st (.aV e ys)) loc' w')/\Tr (aA O st loc w) (aA O (fresh st (.aV e ys)) loc' w')/\CR cx.eT (aA O (fresh st (.aV e ys)) loc' w') (.aV st.next) v/\
   (ak #[t,t] ty #[.slice a0 0 0,vx]).run P w=.ok v w':=by
 have nothing:ys=[]->(∃a cap,vx=.slice a 0 cap)->∃v loc' w',Good cx.eT X (aA O (fresh st (.aV e ys)) loc' w')/\Tr (aA O st loc w) (aA O (fresh st (.aV e ys)) loc' w')/\CR cx.eT (aA O (fresh st (.aV e ys)) loc' w') (.aV st.next) v/\
   (ak #[t,t] ty #[.slice a0 0 0,vx]).run P w=.ok v w':=by
  intro hy hvx;subst hy;obtain⟨tr1,g1⟩:=gM (oc:=.aV e []) (l:=⟨.slice a0 0 0,[]⟩) g hO (Below.refl _ w) (by simp);have g1:=g1 (.inl ⟨rfl,⟨a0,rfl⟩,rfl⟩);refine⟨.slice a0 0 0,_,w,g1,tr1,?_,o9 hu hf.info rfl (ag _) hvx w⟩;refine⟨by simp[aA,fresh],fun t ys hy =>?_⟩;simp[aA,bT]
 rcases hsrc with⟨rfl,hvx⟩|⟨b,o,cap,cs,hvx,fT,hcc,hrl,hone⟩
 ·exact nothing rfl hvx
 ·by_cases hm:ys=[]
  ·exact nothing hm ⟨some ⟨b,o,none⟩,cap,by rw[hvx,hm];rfl⟩
  ·have hpos:0<ys.length:=by cases ys with|nil=>exact(hm rfl).elim|cons=>simp
   subst hvx;have hrun:=nA (P:=P) (w:=w) (t:=t) (ty:=ty) hu hf.info hz a0 (a:=⟨b,o,none⟩) (n:=ys.length) (c:=cap) (news:=cs) (by rw[fT,hf.size]) (fun j u hj=>by rw[ay];exact hcc j u hj) hpos (by omega)
    (by have:=ed hle hf.bytes;omega)
   generalize hcapd:grownCap w ys.length 0 te=cap' at hrun;have hcap':ys.length<=cap':=by rw[<-hcapd];exact grownCap_ge w _ _ _
   have hb:Below w.heap.size w (w.drew.alloc (.cells (cs.toArray++bc z.cells (cap'-ys.length)) te)):=(Below.refl _ w).drew.alloc (ag _) _;obtain⟨tr1,g1⟩:=gM (oc:=.aV e ys) (l:=⟨.slice (some ⟨w.heap.size,0,none⟩) ys.length cap',[w.heap.size]⟩) g hO hb (by simp);have hheap:(w.drew.alloc (.cells (cs.toArray++bc z.cells (cap'-ys.length)) te)).heap[w.heap.size]?=some (.cells (cs.toArray++bc z.cells (cap'-ys.length)) te (0,0)):=heap_alloc_new w.drew _;have hsz:(cs.toArray++bc z.cells (cap'-ys.length)).size=cap'*e.size:=by
    simp only[df,bk,size_zeroCells,hzs,fT,<-af];congr 1;omega
   have g1:=g1 (.inr ⟨w.heap.size,_,te,cap',rfl,rfl,hheap,hsz,hcap',by unfold aN;omega,fun i y hy=>by
    obtain⟨us,r1,r2⟩:=(hrl.frame tr1.cell) i y hy;refine⟨us,r1,fun j u hj =>?_⟩;have:=r2 j u hj;rw[Array.getElem?_append,if_pos (by simpa using bG this)];simpa using this⟩)
   refine⟨_,_,_,g1,tr1,⟨by simp[aA,fresh],fun t zs hy =>?_⟩,hrun⟩;simp[aA,bT]
def DT{O:aI}{st:St}{loc:Nat->Loc}{w:World}(g:Good cx.eT X (aA O st loc w))(hO:eS O w)
  {t ty te:TypeId}{ti:TypeInfo}{td:TypeDesc}{z:Value}{e:Ty}(hu:P.underlying t=some (.slice te))(hf:Fit P te e ti td)(hz:ti.zero=some z)(hzs:z.cells.size=e.size)
  {tk:Bool}{ys:List (D e)}{K:SV->St->VC}{a0:Option Addr}{vx:Value}(hsrc:Src cx.eT e ys (aA O st loc w).A w vx)
  (h:(L5 tk st e ys K).holds) :
  ∃sv v st' loc' w',(K sv st').holds/\st'.env=st.env/\Good cx.eT X (aA O st' loc' w')/\Tr (aA O st loc w) (aA O st' loc' w')/\dI cx.eT (aA O st' loc' w') sv v/\
   (ak #[t,t] ty #[.slice a0 0 0,vx]).run P w=.ok v w':=by
 cases tk with
 |false=>
  obtain⟨hle,h⟩:=h;obtain⟨v,loc',w',g1,t1,c1,r1⟩:=wg (t:=t) (ty:=ty) (a0:=a0) g hO hu hf hz hzs hsrc hle;exact⟨_,v,_,loc',w',h,rfl,g1,t1,c1,r1⟩
 |true=>
  obtain⟨hle,h⟩:=h;obtain⟨v,loc',w',g1,t1,c1,r1⟩:=wg (t:=t) (ty:=ty) (a0:=a0) g hO hu hf hz hzs hsrc hle;obtain⟨loc2,t2,g2,c2,_⟩:=wc (e:=e) (zs:=ys) g1 (hO.tr t1.size) (by simp[fresh,cC]) c1;exact⟨_,v,_,loc2,w',h,rfl,g2,t1.trans t2,c2,r1⟩
def tG(hok:TyOK P cx){O:aI}{st:St}{loc:Nat->Loc}{w:World}(g:Good cx.eT X (aA O st loc w))(hO:eS O w)
  {tk:Bool}{t ty:TypeId}{s x:C}{K:SV->St->VC}{vs vx:Value}(hs:CR cx.eT (aA O st loc w) s vs)(hx:CR cx.eT (aA O st loc w) x vx)
  (h:(ur cx tk st t s x K).holds) :
  ∃sv v st' loc' w',(K sv st').holds/\st'.env=st.env/\Good cx.eT X (aA O st' loc' w')/\Tr (aA O st loc w) (aA O st' loc' w')/\dI cx.eT (aA O st' loc' w') sv v/\
   (ak #[t,t] ty #[vs,vx]).run P w=.ok v w':=by
 unfold ur at h;split at h
 ·rename_i e ht
  obtain⟨te,ti,td,hu,hf⟩:=hH hok ht;obtain⟨z,hz,hzr⟩:=hf.zero;split at h
  ·rename_i ys hys
   have hsrc:=uu g hys hx;have hzs:z.cells.size=e.size:=by rw[<-ai];exact(kV (S:=aA O st loc w) (cx:=cx) hzr).length.symm.trans (iU e)
   split at h
   ·have hvs:vs=.slice none 0 0:=hs
    subst hvs;exact DT g hO hu hf hz hzs hsrc h
   ·obtain⟨a,rfl⟩:=hs
    exact DT g hO hu hf hz hzs hsrc h
   ·exact sZ g hO hu hf hz hzs hs (wb.Ou hu hf hz hsrc) h
   ·rename_i n
    split at h
    ·rename_i e' zs hob
     obtain⟨loc1,t1,g1,c1,hA⟩:=wc g hO hob hs;obtain⟨sv,v,st',loc',w',k1,k2,k3,k4,k5,k6⟩:=sZ (t:=t) (t':=t) (ty:=ty) g1 hO hu hf hz hzs c1 (wb.Ou hu hf hz (hsrc.frame hA)) h;exact⟨sv,v,st',loc',w',k1,k2,k3,t1.trans k4,k5,k6⟩
    ·exact h.elim
   ·exact h.elim
  ·exact h.elim
 ·exact h.elim
end
def Ov(n:Nat)(e:Ty)(xs:List (D e)):C:=
 match n with
 |0 =>.emp
 |_ =>.d (.slice e) xs
def rI(cx:Cx)(st:St)(t:TypeId)(n:Nat)(parts:List (Nat×Operand))(K:C->VC):VC:=
 match look cx.τ t with
 |some (.slice e)=>match rq 0 parts&&(ad parts.length n&&(a7 (n*e.size) 16777216&&a7 n 1000000)),oH e (parts.map fun p=>qX st.env p.2)with
  |true,some xs=>K (Ov n e xs)
  |_,_ =>.ff
 |_ =>.ff
def uw(cx:Cx)(st:St)(t:TypeId)(n:Nat)(parts:List (Nat×Operand))(K:SV->St->VC):VC:=
 match look cx.τ t with
 |some (.slice e)=>match rq 0 parts&&(ad parts.length n&&(a7 (n*e.size) 16777216&&a7 n 1000000)),oH e (parts.map fun p=>qX st.env p.2)with
  |true,some xs=>K (.s (.one (.app e xs (st.next+1)))) (fresh (bC (fresh st (.aV e xs)) st.next) (.tok e xs))
  |_,_ =>.ff
 |_ =>.ff
def s4(cx:Cx)(st:St)(t:TypeId)(l c:C)(K:SV->St->VC):VC:=
 match look cx.τ t,rG l,rG c with
 |some (.slice e),some n,some m=>match qb e with
  |true =>.and (0<=n/\m=n/\n<=1000000000) (K (.s (.one (.aV st.next))) (fresh st (.aV e (c8 n.toNat (bV e)))))
  |false =>.ff
 |_,_,_ =>.ff
section
variable{X:Ext}{P:Program}{cx:Cx}
def Bx{eT:TypeId}{A:aI}{w:World}:∀{ty:Ty} {vs:List Value},fB ty vs=true->qb ty=true->R eT ty (bV ty) A w vs:=by
 intro ty;induction ty with
 |prod a b iha ihb=>
  intro vs h hn;simp only[fB,ao]at h;simp only[qb,ao]at hn;exact⟨_,_,(ca a.size vs).symm,iha h.1 hn.1,ihb h.2 hn.2⟩
 |unit=>intro vs h _;cases vs <;> simp[fB]at h;rfl
 |bool=>
  intro vs h _
  match vs,h with
  |[v],h=>cases v <;> simp[fB,Ty.one,zeroCell]at h;subst h;rfl
 |int k=>
  intro vs h _
  match vs,h with
  |[v],h=>
   cases v <;> simp[fB,Ty.one,zeroCell]at h;obtain⟨rfl,rfl⟩:=h;exact⟨rfl,by cases k <;> simp[bV,bo,bd,bf,bg]⟩
 |str=>
  intro vs h _
  match vs,h with
  |[v],h=>cases v <;> simp[fB,Ty.one,zeroCell]at h;subst h;exact⟨rfl,by simp[bV]⟩
 |err=>
  intro vs h _
  match vs,h with
  |[v],h=>cases v <;> simp[fB,Ty.one,zeroCell]at h;exact⟨_,rfl,rfl⟩
 |gC=>intro vs h hn;simp[qb]at hn
 |slice e _=>
  intro vs h _
  match vs,h with
  |[v],h=>
   cases v <;> simp[fB,Ty.one,zeroCell]at h;rename_i a l c;cases a <;> simp at h;obtain⟨rfl,rfl⟩:=h;exact R.qq
def GB{eT:TypeId}{A:aI}{w:World}{e:Ty}(hno:qb e=true):∀{n:Nat} {vs:List Value},pJ e n vs=true->
  vs.length=n*e.size/\∀(i:Nat) (y:D e),(c8 n (bV e))[i]?=some y->∃us,R eT e y A w us/\∀j u,us[j]?=some u->vs[i*e.size+j]?=some u:=by
 intro n;induction n with
 |zero=>
  intro vs h;simp only[pJ,List.isEmpty_iff]at h;subst h;exact⟨by simp,fun i y hy=>by simp at hy⟩
 |succ n ih=>
  intro vs h;simp only[pJ,ao]at h;obtain⟨h1,h2⟩:=h;have r0:=Bx (eT:=eT) (A:=A) (w:=w) h1 hno;have hl0:=r0.length;obtain⟨hl,hel⟩:=ih h2;have hle:e.size<=vs.length:=by rw[ah]at hl0;omega
  refine⟨by rw[ax]at hl;rw[Nat.succ_mul];omega,fun i y hy =>?_⟩;cases i with
  |zero=>
   simp only[fa,List.getElem?_cons_zero,dt]at hy;subst hy;refine⟨_,r0,fun j u hj =>?_⟩;rw[List.getElem?_take]at hj;split at hj
   ·simpa using hj
   ·cases hj
  |succ i=>
   simp only[fa,List.getElem?_cons_succ]at hy;obtain⟨us,k1,k2⟩:=hel i y hy;refine⟨us,k1,fun j u hj =>?_⟩;have:=k2 j u hj;rw[List.getElem?_drop]at this;rw[<-this];congr 1;rw[Nat.succ_mul];omega
def GC(size:Nat):∀(pv:List (Nat×Value)) (k:Nat) (cells:Array Value),(∀i p,pv[i]?=some p->p.1=k+i)->(∀p∈pv,p.2.cells.size=size)->k*size+pv.length*size=cells.size->
  bx (fun i=>some (i*size,size)) cells pv=some (cells.toList.take (k*size)++(pv.map fun p=>p.2.cells.toList).flatten).toArray:=by
 intro pv;induction pv with
 |nil=>
  intro k cells _ _ h;simp only[bx,List.map_nil,List.flatten_nil,ec];rw[cb (by simp at h ⊢;omega),dr]
 |cons p pv ih=>
  intro k cells hi hs h;obtain⟨i,v⟩:=p;have h0:i=k:=by simpa using hi 0 (i,v) rfl
  subst h0;have hv:=hs (i,v) (by simp);simp only at hv;simp only[db,af]at h;rw[DS _ cells i (i*size) size v pv rfl hv (by omega)];have hvl:v.cells.toList.length=size:=by simpa using hv
  have e1:(cells.toList.take (i*size)++v.cells.toList++cells.toList.drop (i*size+v.cells.toList.length)).toArray.size=cells.size:=by
   simp only[bk,ae,ah,ax,ai,hvl];omega
  rw[ih (i+1) _ (fun j p hp=>by have:=hi (j+1) p (by simpa using hp);omega) (fun p hp=>hs p (by simp[hp])) (by rw[e1,af];omega)];congr 2;rw[cm,ef,<-br];congr 1;have hl:(cells.toList.take (i*size)++v.cells.toList).length=(i+1)*size:=by
   simp only[ae,ah,ai,hvl,af];omega
  rw[dn (by omega),cb (by omega)]
def GD{S:bI}{e:Ty}:∀{l:List cP} {us:List Value} {xs:List (D e)},oH e l=some xs->cR cx.eT S l us->
  xs.length=l.length/\(∀u∈us,u.cells.size=e.size)/\gw cx.eT e xs S.A S.w (us.map fun u=>u.cells.toList).flatten:=by
 intro l;induction l with
 |nil=>intro us xs h hr;cases hr;simp[oH]at h;subst h;exact⟨rfl,by simp,fun i y hy=>by simp at hy⟩
 |cons v l ih=>
  intro us xs h hr;cases hr with
  |cons h1 h2=>
   rename_i u us;simp only[oH]at h;split at h
   ·rename_i x xs' hx hxs
    cases h;obtain⟨k1,k2,k3⟩:=ih hxs h2;have hvr:=VR.cells (lO hx h1);refine⟨by simp[k1],fun u' hu' =>?_,?_⟩
    ·rcases bz.1 hu' with rfl|hu'
     ·rw[<-ai,hvr.length]
     ·exact k2 _ hu'
    ·rw[cm,ef]
     exact gw.cons hvr k3
   ·cases h
def KP{S:bI}{env:List (Nat×SV)}{a:Act}(he:gA cx.eT S env a):∀(ps:List (Nat×Operand)),cR cx.eT S (ps.map fun p=>qX env p.2) (ps.map fun p=>a.eval p.2)
 |[] =>.nil
 |p :: ps =>.cons (ll he p.2) (KP he ps)
def Jz:∀{ps:List (Nat×Operand)} {k:Nat},rq k ps=true->∀i p,ps[i]?=some p->p.1=k+i:=by
 intro ps;induction ps with
 |nil=>intro k _ i p h;simp at h
 |cons q ps ih=>
  intro k h i p hp;obtain⟨j,x⟩:=q;simp only[rq,ao]at h;cases i with
  |zero=>simp at hp;subst hp;exact ar h.1
  |succ i=>have:=ih h.2 i p (by simpa using hp);omega
def DU{O:aI}{st:St}{loc:Nat->Loc}{w:World}{a:Act}(he:gA cx.eT (aA O st loc w) st.env a)
  {t te:TypeId}{ti:TypeInfo}{td:TypeDesc}{e:Ty}{n:Nat}{parts:Array (Nat×Operand)}{xs:List (D e)}(hu:P.underlying t=some (.slice te))(hf:Fit P te e ti td){z:Value}(hz:ti.zero=some z)
  (hzr:fB e z.cells.toList=true)
  (hc:(rq 0 parts.toList&&(ad parts.toList.length n&&(a7 (n*e.size) 16777216&&a7 n 1000000)))=true)(hd:oH e (parts.toList.map fun p=>qX st.env p.2)=some xs) :
  ∃flat:List Value,xs.length=n/\n<=1000000/\flat.length=n*e.size/\gw cx.eT e xs (aA O st loc w).A w flat/\
   (bt t n (parts.map fun(i,x)=>(i,a.eval x))).run P w=.ok (.slice (some ⟨w.heap.size,0,none⟩) n n) (w.alloc (.cells flat.toArray te)):=by
 simp only[ao]at hc;obtain⟨hio,hn,hsz,hbig⟩:=hc;have hn:=ar hn;have hsz:=bm hsz;have hbig:=bm hbig;obtain⟨k1,k2,k3⟩:=GD (cx:=cx) hd (KP he parts.toList);have hxl:xs.length=n:=by rw[k1,List.length_map,hn]
 have hpl:(parts.map fun(i,x)=>(i,a.eval x)).toList=parts.toList.map fun p=>(p.1,a.eval p.2):=by simp
 have hzs:z.cells.size=e.size:=by rw[<-ai];exact(kV (S:=aA O st loc w) (cx:=cx) hzr).length.symm.trans (iU e)
 generalize hflat:((parts.toList.map fun p=>a.eval p.2).map fun u=>u.cells.toList).flatten=flat at k3;have hflen:flat.length=n*e.size:=by
  rw[<-hflat,<-hn];generalize parts.toList=l at k2;clear hflat hpl hn hio hd k1 k3;induction l with
  |nil=>simp
  |cons p l ih=>
   simp only[cm,ef,ae,ai,db,af];rw[ih (fun u hu=>k2 u (by simp only[cm,bz];exact .inr hu)),k2 (a.eval p.2) (by simp)];omega
 have hfill:∀cells:Array Value,cells.size=n*e.size->bx (fun i=>some (i*e.size,e.size)) cells (parts.toList.map fun p=>(p.1,a.eval p.2))=some flat.toArray:=by
  intro cells hcs;rw[GC e.size _ 0 cells (fun i p hp=>by
    rw[List.getElem?_map]at hp;cases hq:parts.toList[i]? with
    |none=>rw[hq]at hp;cases hp
    |some q=>rw[hq]at hp;cases hp;exact Jz hio i q hq)
   (fun p hp=>by
    obtain⟨q,hq,rfl⟩:=List.mem_map.1 hp;exact k2 _ (List.mem_map.2 ⟨q,hq,rfl⟩))
   (by simp[hn,hcs])]
  simp only[dh,List.take_zero,dq];rw[<-hflat];simp[List.map_map,Function.comp_def]
 refine⟨flat,hxl,hbig,hflen,k3,?_⟩;have hsz':¬(n*e.size > 2^24):=by omega
 by_cases h0:n*e.size=0
 ·simp[bt,run_underlying hu,gv hf,h0,newRow]
  rw[hfill _ (by rw[h0];simp)];simp
 ·have:=hfill ((eg (n*e.size)).map fun k=>z.cells[k % z.cells.size]!) (by simp)
  simp[bt,run_underlying hu,gv hf,h0,hsz',newRow,zeroValue,typeInfo,hf.info,hz];rw[this];simp
def wh(hok:TyOK P cx){O:aI}{st:St}{loc:Nat->Loc}{w:World}{a:Act}(g:Good cx.eT X (aA O st loc w))(hO:eS O w)(he:gA cx.eT (aA O st loc w) st.env a)
  {t:TypeId}{n:Nat}{parts:Array (Nat×Operand)}{K:C->VC}(h:(rI cx st t n parts.toList K).holds) :
  ∃c v w',(K c).holds/\Below w.heap.size w w'/\Good cx.eT X (aA O st loc w')/\Tr (aA O st loc w) (aA O st loc w')/\CR cx.eT (aA O st loc w') c v/\(bt t n (parts.map fun(i,x)=>(i,a.eval x))).run P w=.ok v w':=by
 unfold rI at h;split at h
 ·rename_i e ht
  obtain⟨te,ti,td,hu,hf⟩:=hH hok ht;obtain⟨z,hz,hzr⟩:=hf.zero;split at h
  ·rename_i xs hc hd
   obtain⟨flat,hxl,hbig,hflen,k3,hrun⟩:=DU he hu hf hz hzr hc hd;have hw:Below w.heap.size w (w.alloc (.cells flat.toArray te)):=(Below.refl _ w).alloc (ag _) _;obtain⟨tr,g'⟩:=o3 (S:=aA O st loc w) (S':=aA O st loc (w.alloc (.cells flat.toArray te))) g rfl rfl rfl rfl hw;have hheap:(w.alloc (.cells flat.toArray te)).heap[w.heap.size]?=some (.cells flat.toArray te (0,0)):=heap_alloc_new w _;refine⟨_,.slice (some ⟨w.heap.size,0,none⟩) n n,_,h,hw,g',tr,?_,?_⟩
   ·have mk:∀v,(n=0->∃a,v=dz a 0 0)->CR cx.eT (aA O st loc (w.alloc (.cells flat.toArray te))) (.d (.slice e) xs) v->CR cx.eT (aA O st loc (w.alloc (.cells flat.toArray te))) (Ov n e xs) v:=by
     intro v h1 h2;cases n with
     |zero=>exact h1 rfl
     |succ n=>exact h2
    refine mk _ (fun h0=>⟨some ⟨w.heap.size,0,none⟩,by rw[h0]⟩) ?_;show VR cx.eT (.slice e) xs _ _ _;have:=pL (eT:=cx.eT) (xs:=xs) (A:=(aA O st loc (w.alloc (.cells flat.toArray te))).A) (w:=w.alloc (.cells flat.toArray te)) (b:=w.heap.size) (o:=0) (cap:=n) (cs:=flat)
     (by rw[hxl];unfold aN;omega) (by omega) ?_ (k3.frame tr.cell)
    ·rw[hxl]at this;exact this
    ·intro j u hj
     rw[al,cell_of_row _ w.heap.size j _ te (0,0) hheap];refine⟨by simpa using hj,?_⟩;rintro(hA|⟨m,oc,h1,h2,_⟩)
     ·have:=hO _ _ hA;omega
     ·have:=(g.obj m oc h1).2.inside _ h2
      simp[aA]at this
   ·exact hrun
  ·exact h.elim
 ·exact h.elim
def Ao(hok:TyOK P cx){O:aI}{st:St}{loc:Nat->Loc}{w:World}{a:Act}(g:Good cx.eT X (aA O st loc w))(hO:eS O w)(he:gA cx.eT (aA O st loc w) st.env a)
  {t:TypeId}{n:Nat}{parts:Array (Nat×Operand)}{K:SV->St->VC}(h:(uw cx st t n parts.toList K).holds) :
  ∃sv v st' loc' w',(K sv st').holds/\Below w.heap.size w w'/\st'.env=st.env/\Good cx.eT X (aA O st' loc' w')/\Tr (aA O st loc w) (aA O st' loc' w')/\dI cx.eT (aA O st' loc' w') sv v/\(bt t n (parts.map fun(i,x)=>(i,a.eval x))).run P w=.ok v w':=by
 unfold uw at h;split at h
 ·rename_i e ht
  obtain⟨te,ti,td,hu,hf⟩:=hH hok ht;obtain⟨z,hz,hzr⟩:=hf.zero;split at h
  ·rename_i xs hc hd
   obtain⟨flat,hxl,hbig,hflen,k3,hrun⟩:=DU he hu hf hz hzr hc hd;have hw:Below w.heap.size w (w.alloc (.cells flat.toArray te)):=(Below.refl _ w).alloc (ag _) _;obtain⟨tr,g'⟩:=gM (oc:=.aV e xs) (l:=⟨.slice (some ⟨w.heap.size,0,none⟩) n n,[w.heap.size]⟩) g hO hw (by simp);have hg:=g' (.inr ⟨w.heap.size,flat.toArray,te,n,by rw[hxl],rfl,heap_alloc_new w _,by simp[hflen],by omega,by rw[hxl];unfold aN;omega,fun i y hy=>by
    obtain⟨us,r1,r2⟩:=(k3.frame tr.cell) i y hy;exact⟨us,r1,fun j u hj=>by have:=r2 j u hj;simpa using this⟩⟩)
   obtain⟨loc2,t2,g2,c2,_⟩:=wc (n:=st.next) (e:=e) (zs:=xs) (v:=.slice (some ⟨w.heap.size,0,none⟩) n n) hg (hO.tr tr.size) (by simp[fresh,cC]) ⟨by simp[aA,fresh],fun t' xs' hy=>by simp[aA,bT]⟩;exact⟨_,_,_,loc2,_,h,hw,rfl,g2,tr.trans t2,c2,hrun⟩
  ·exact h.elim
 ·exact h.elim
def yE(hok:TyOK P cx){O:aI}{st:St}{loc:Nat->Loc}{w:World}(g:Good cx.eT X (aA O st loc w))(hO:eS O w)
  {t:TypeId}{l c:C}{vl vc:Value}{K:SV->St->VC}(hl:CR cx.eT (aA O st loc w) l vl)(hc:CR cx.eT (aA O st loc w) c vc)(h:(s4 cx st t l c K).holds) :
  ∃sv v st' loc' w',(K sv st').holds/\Below w.heap.size w w'/\st'.env=st.env/\Good cx.eT X (aA O st' loc' w')/\Tr (aA O st loc w) (aA O st' loc' w')/\dI cx.eT (aA O st' loc' w') sv v/\(Instr.makeSlice t vl vc).run P w=.ok v w':=by
 unfold s4 at h;split at h
 ·rename_i e n m ht hn hm
  obtain⟨te,ti,td,hu,hf⟩:=hH hok ht;obtain⟨z,hz,hzr⟩:=hf.zero;split at h
  ·rename_i hno
   obtain⟨⟨h0,hmn,hbig⟩,h⟩:=h;subst hmn;obtain⟨kl,rfl,_⟩:=nz hn hl;obtain⟨kc,rfl,_⟩:=nz hm hc;have hbytes:(ti.bytes:Int)*m<=281474976710656:=by
    have h1:=hf.bytes;have h2:(ti.bytes:Int)*m<=4096*1000000000:=Int.mul_le_mul (by omega) hbig h0 (by omega);omega
   have hrun:=run_make (P:=P) w t te ti z hu hf.info hz kl kc m m h0 (Int.le_refl _) hbytes (by omega);have hzs:z.cells.size=e.size:=by rw[<-ai];exact(kV (S:=aA O st loc w) (cx:=cx) hzr).length.symm.trans (iU e)
   have hw:Below w.heap.size w (w.alloc (.cells (madeCells z.cells (m.toNat*ti.size)) te)):=(Below.refl _ w).alloc (ag _) _;obtain⟨tr,g'⟩:=gM (oc:=.aV e (c8 m.toNat (bV e))) (l:=⟨.slice (some ⟨w.heap.size,0,none⟩) m.toNat m.toNat,[w.heap.size]⟩) g hO hw (by simp);have hg:=g' (.inr ⟨w.heap.size,madeCells z.cells (m.toNat*ti.size),te,m.toNat,by simp,rfl,heap_alloc_new w _,by rw[size_madeCells,hf.size],by simp,by simp;unfold aN;omega,?_⟩)
   ·refine⟨_,_,_,_,_,h,hw,rfl,hg,tr,⟨by simp[aA,fresh],fun t' xs' hy =>?_⟩,hrun⟩
    simp[aA,bT]
   ·intro i y hy
    have hi:=bG hy;rw[List.length_replicate]at hi;rw[List.getElem?_replicate,if_pos hi]at hy;cases hy;refine⟨z.cells.toList,Bx hzr hno,fun j u hj =>?_⟩;have hjl:=bG hj;rw[ai]at hjl;have hlt:i*e.size+j<m.toNat*ti.size:=by
     have:(i+1)*e.size<=m.toNat*e.size:=aq _ hi;rw[af]at this;rw[hf.size];omega
    have hmod:(i*e.size+j) % z.cells.size=j:=by
     rw[hzs,dx,Nat.add_mul_mod_self_right,Nat.mod_eq_of_lt (by omega)]
    simp only[madeCells,Array.getElem?_map,Array.getElem?_range,hlt,if_true,e7,hmod];rw[getElem!_pos z.cells j hjl];rw[Array.getElem?_toList,Array.getElem?_eq_getElem hjl]at hj;exact hj
  ·exact h.elim
 ·exact h.elim
def By(st:St)(e:Ty)(d:C):Option (Nat×(List (D e)×(Nat×Nat))):=
 match d with
 |.aV n=>match look st.aF n with
  |some (.aV e' xs)=>match h:Ty.beq (.slice e') (.slice e)with
   |true=>some (n,(cF h (a:=.slice e') (b:=.slice e) xs,(0,xs.length)))
   |false=>none
  |_=>none
 |.oY n u lo len=>match look st.aF n with
  |some (.aV e' xs)=>match h:Ty.beq (.slice e') (.slice e),Ty.beq u e' with
   |true,true=>some (n,(cF h (a:=.slice e') (b:=.slice e) xs,(lo,len)))
   |_,_=>none
  |_=>none
 |_=>none
def Ap(st:St)(e:Ty)(s:C):Option (List (D e)×Prop):=
 match wa st e s with
 |some ys=>some (ys,True)
 |none=>match s with
  |.oY _ _ _ _=>match By st e s with
   |some (_,(zs,(lo,len)))=>some ((zs.drop lo).take len,lo+len<=zs.length)
   |none=>none
  |_=>none
def GF(cx:Cx)(st:St)(t:TypeId)(d s:C)(K:SV->St->VC):VC:=
 match look cx.τ t with
 |some (.slice e)=>match e.one,By st e d,Ap st e s with
  |true,some (n,(xs,(lo,len))),some (ys,p) =>.and (p/\lo+len<=xs.length)
    (K (.s (.one (.d (.int .i64) (min ys.length len:Nat)))) (setObj st n (.aV e (xs.take lo++ys.take (min ys.length len)++xs.drop (lo+min ys.length len)))))
  |_,_,_ =>.ff
 |_ =>.ff
def Bz{O:aI}{st:St}{loc:Nat->Loc}{w:World}{e:Ty}{d:C}{n lo len:Nat}{xs:List (D e)}{v:Value}(h:By st e d=some (n,(xs,(lo,len))))(hd:CR cx.eT (aA O st loc w) d v) :
  look st.aF n=some (.aV e xs)/\((OR cx.eT X (aA O st loc w) (loc n) (.aV e xs))->(len=0/\∃a c,v=.slice a 0 c)\/∃b c,(loc n).bs=[b]/\v=.slice (some ⟨b,lo*e.size,none⟩) len c):=by
 unfold By at h;split at h
 ·rename_i n'
  split at h
  ·rename_i e' xs' hob
   split at h
   ·rename_i hb
    have:e'=e:=by have:=Ty.eq_of_beq hb;cases this;rfl
    subst this;rw[gx]at h;cases h;refine⟨hob,fun hor =>?_⟩;have hv:=hd.2 _ _ hob;rcases hor with⟨rfl,⟨a,ha⟩,_⟩|⟨b,vs,T,cap,h1,h2,_⟩
    ·exact .inl ⟨rfl,a,0,hv.trans ha⟩
    ·exact .inr ⟨b,cap,h2,by rw[dh];exact hv.trans h1⟩
   ·cases h
  ·cases h
 ·rename_i n' u lo' len'
  split at h
  ·rename_i e' xs' hob
   split at h
   ·rename_i hb hu
    have:e'=e:=by have:=Ty.eq_of_beq hb;cases this;rfl
    subst this;have:=Ty.eq_of_beq hu;subst this;rw[gx]at h;cases h;exact⟨hob,fun _=>hd.2 _ hob⟩
   ·cases h
  ·cases h
 ·cases h
def WK{eT:TypeId}{e:Ty}{xs:List (D e)}{A:aI}{w:World}{cs:List Value}(h:gw eT e xs A w cs)(lo len:Nat):gw eT e ((xs.drop lo).take len) A w ((cs.drop (lo*e.size)).take (len*e.size)):=by
 intro i y hy;rw[List.getElem?_take]at hy;split at hy
 ·rename_i hi
  rw[List.getElem?_drop]at hy;obtain⟨us,h1,h2⟩:=h _ y hy;refine⟨us,h1,fun j u hj =>?_⟩;have hjl:=bG hj;rw[h1.length]at hjl;have h3:=h2 j u hj;have:(i+1)*e.size<=len*e.size:=aq _ hi;rw[af]at this;rw[List.getElem?_take,if_pos (by omega),List.getElem?_drop];rw[show lo*e.size+(i*e.size+j)=(lo+i)*e.size+j by rw[af];omega];exact h3
 ·cases hy
def GG{O:aI}{st:St}{loc:Nat->Loc}{w:World}(g:Good cx.eT X (aA O st loc w)){e:Ty}{s:C}{ys:List (D e)}{p:Prop}{v:Value}(h:Ap st e s=some (ys,p))(hp:p)
  (hs:CR cx.eT (aA O st loc w) s v):Src cx.eT e ys (aA O st loc w).A w v:=by
 unfold Ap at h;split at h
 ·rename_i ys' hsrc
  cases h;exact uu g hsrc hs
 ·split at h
  ·split at h
   ·rename_i n zs lo len hct
    cases h;obtain⟨hob,hr⟩:=Bz (X:=X) hct hs;have hor:=(g.obj _ _ hob).2;have hyl:((zs.drop lo).take len).length=len:=by rw[ah,ax];omega
    rcases hr hor with⟨h0,a,c,hv⟩|⟨b,c,h1,hv⟩
    ·subst h0
     exact .inl ⟨by simp,a,c,hv⟩
    ·rcases hor with⟨_,_,h2⟩|⟨b',vs,T,cap,h2,h3,hheap,hvs,hcap,_,he⟩
     ·exact absurd (h1.symm.trans h2) (by simp)
     ·have hbb:b=b':=by have h4:(loc n).bs=[b']:=h3;rw[h1]at h4;cases h4;rfl
      subst hbb;have hle:zs.length*e.size<=vs.size:=by rw[hvs];exact aq _ hcap
      obtain⟨cs,hcs,k1,k2,k3⟩:=qc he hle;refine .inr ⟨b,lo*e.size,c,(cs.drop (lo*e.size)).take (len*e.size),by rw[hyl];exact hv,?_,fun j u hj =>?_,WK k2 lo len,fun u hu=>k3 u (List.mem_of_mem_drop (fb hu))⟩
      ·rw[hyl,ah,ax,k1]
       have:(lo+len)*e.size<=zs.length*e.size:=aq _ hp;rw[af]at this;omega
      ·rw[cell_of_row w b _ vs T (0,0) hheap]
       rw[List.getElem?_take]at hj;split at hj
       ·rw[List.getElem?_drop,hcs,List.getElem?_take]at hj
        split at hj
        ·simpa using hj
        ·cases hj
       ·cases hj
   ·cases h
  ·cases h
def GH(hok:TyOK P cx){O:aI}{st:St}{loc:Nat->Loc}{w:World}(g:Good cx.eT X (aA O st loc w))(hO:eS O w)
  {t t' ty:TypeId}{d s:C}{K:SV->St->VC}{vd vx:Value}(hd:CR cx.eT (aA O st loc w) d vd)(hs:CR cx.eT (aA O st loc w) s vx)(h:(GF cx st t d s K).holds) :
  ∃sv v st' loc' w',(K sv st').holds/\st'.env=st.env/\Good cx.eT X (aA O st' loc' w')/\Tr (aA O st loc w) (aA O st' loc' w')/\dI cx.eT (aA O st' loc' w') sv v/\
   (fc #[t,t'] ty #[vd,vx]).run P w=.ok v w':=by
 unfold GF at h;split at h
 case h_2=>exact h.elim
 rename_i e ht;obtain⟨te,ti,td,hu,hf⟩:=hH hok ht;split at h
 case h_2=>exact h.elim
 rename_i n xs lo len ys p hone hct hcf;obtain⟨⟨hp,hle⟩,h⟩:=h;have hsz:=Ty.oC hone;obtain⟨hob,hdst⟩:=Bz (X:=X) hct hd;have hn:=(g.obj n _ hob).1;have hor:=(g.obj n _ hob).2;have hsrc:=GG g hcf hp hs;have his:(P.info? te).map (·.size)=some 1:=by rw[hf.info];simp[hf.size,hsz]
 have hbig:xs.length<=aN:=by
  rcases hor with⟨rfl,_,_⟩|⟨_,_,_,_,_,_,_,_,_,h1,_⟩
  ·simp
  ·exact h1
 generalize hk:min ys.length len=k at h;have hkr:az.min<=(k:Int)/\(k:Int)<=az.max:=vW (by omega);have none0:k=0->∀dp dc sp sl sc,vd=.slice dp len dc->vx=.slice sp sl sc->sl=ys.length->∃sv v st' loc' w',(K sv st').holds/\st'.env=st.env/\Good cx.eT X (aA O st' loc' w')/\Tr (aA O st loc w) (aA O st' loc' w')/\dI cx.eT (aA O st' loc' w') sv v/\
   (fc #[t,t'] ty #[vd,vx]).run P w=.ok v w':=by
  intro hk0 dp dc sp sl sc e1 e2 e3;subst hk0;have hst:aA O (setObj st n (.aV e (xs.take lo++ys.take 0++xs.drop (lo+0)))) loc w=aA O st loc w:=by
   have:look (setObj st n (.aV e (xs.take lo++ys.take 0++xs.drop (lo+0)))).aF=look st.aF:=by
    funext m
    rw[oG];by_cases e1:n=m
    ·rw[if_pos e1,<-e1,hob];simp
    ·rw[if_neg e1]
   simp only[aA,this];rfl
  have hrun:=run_copy_none (P:=P) w t t' ty te dp sp len dc sl sc hu his (by rw[e3];exact hk);have hI:∀S:bI,CR cx.eT S (.d (.int .i64) ((0:Nat):Int)) (goInt 0):=fun S=>cS.2 ⟨rfl,hkr⟩
  refine⟨.s (.one (.d (.int .i64) ((0:Nat):Int))),goInt 0,_,loc,w,h,rfl,by rw[hst];exact g,by rw[hst];exact Tr.refl _,hI (aA O (setObj st n (.aV e (xs.take lo++ys.take 0++xs.drop (lo+0)))) loc w),?_⟩;rw[e1,e2];exact hrun
 have hsl:∃sp sc,vx=.slice sp ys.length sc:=by
  rcases hsrc with⟨rfl,a,c,hv⟩|⟨b,o,cap,cs,hv,_⟩
  ·exact⟨a,c,by simpa using hv⟩
  ·exact⟨_,_,hv⟩
 obtain⟨sp,sc,hvx⟩:=hsl;have hdl:∃dp dc,vd=.slice dp len dc:=by
  rcases hdst hor with⟨rfl,a,c,hv⟩|⟨b,c,_,hv⟩
  ·exact⟨a,c,hv⟩
  ·exact⟨_,_,hv⟩
 obtain⟨dp,dc,hvd⟩:=hdl;by_cases hk0:k=0
 ·exact none0 hk0 dp dc sp _ sc hvd hvx rfl
 ·rcases hdst hor with⟨h0,_⟩|⟨b,c,hb,hv⟩
  ·omega
  ·rcases hsrc with⟨rfl,_⟩|⟨b2,o2,cap2,cs,hv2,fT,hcc,hrl,hone'⟩
   ·simp at hk;omega
   ·rcases hor with⟨_,_,h2⟩|⟨b',vs,T,cap,h2,h3,hheap,hvs,hcap,_,he⟩
    ·exact absurd (hb.symm.trans h2) (by simp)
    ·have hbb:b=b':=by have h4:(loc n).bs=[b']:=h3;rw[hb]at h4;cases h4;rfl
     subst hbb;rw[hsz,a8]at hv hvs;rw[hsz,a8]at fT;have hkl:(cs.take k).length=k:=by rw[ah];omega
     have hfit:lo+(cs.take k).length<=vs.size:=by rw[hkl,hvs];omega
     have hrun:=run_copy_row (P:=P) w t t' ty te b lo len c ⟨b2,o2,none⟩ ys.length cap2 vs T (cs.take k) hu his hheap (by rw[hkl];exact hk.symm)
      (fun j u hj=>by
       rw[ay];rw[List.getElem?_take]at hj;split at hj
       ·exact hcc j u hj
       ·cases hj) hfit (fun u hu=>hone' u (fb hu))
     rw[hkl]at hrun;have hst:=An (X:=X) (cx:=cx) (oc':=.aV e (xs.take lo++ys.take k++xs.drop (lo+k))) (cs':=(vs.toList.take lo++cs.take k++vs.toList.drop (lo+k)).toArray) g hO hob h3 (by simp[aX]) rfl rfl;have hxl:(xs.take lo++ys.take k++xs.drop (lo+k)).length=xs.length:=by
      simp only[ae,ah,ax];omega
     have hI:∀S:bI,CR cx.eT S (.d (.int .i64) (k:Int)) (goInt k):=fun S=>cS.2 ⟨rfl,hkr⟩
     refine⟨.s (.one (.d (.int .i64) (k:Int))),goInt k,_,loc,_,h,rfl,hst.2 (.inr ⟨b,_,T,cap,by rw[hxl];exact h2,h3,setRow_heap w b vs _ T (0,0) hheap,?_,by rw[hxl];exact hcap,by rw[hxl];exact hbig,?_⟩),hst.1,hI (aA O (setObj st n (.aV e (xs.take lo++ys.take k++xs.drop (lo+k)))) loc (w.setRow b (vs.toList.take lo++cs.take k++vs.toList.drop (lo+k)).toArray)),?_⟩
     ·rw[hsz,a8]
      simp only[bk,ae,ah,ax,ai];rw[hkl]at hfit;omega
     ·intro i y hy
      have hone1:∀{z:D e} {us:List Value} {A:aI} {w:World},R cx.eT e z A w us->∃u,us=[u]:=fun hr=>dw.1 (by rw[hr.length,hsz])
      have old:∀i',xs[i']?=some y->(i<lo\/lo+k<=i)->i'=i->∃us,R cx.eT e y (aA O (setObj st n (.aV e (xs.take lo++ys.take k++xs.drop (lo+k)))) loc (w.setRow b (vs.toList.take lo++cs.take k++vs.toList.drop (lo+k)).toArray)).A (w.setRow b (vs.toList.take lo++cs.take k++vs.toList.drop (lo+k)).toArray) us/\
        ∀j u,us[j]?=some u->(vs.toList.take lo++cs.take k++vs.toList.drop (lo+k)).toArray[i*e.size+j]?=some u:=by
       intro i' hx hr hi;subst hi;obtain⟨us,r1,r2⟩:=he i' y hx;refine⟨us,r1.frame hst.1.cell,fun j u hj =>?_⟩;obtain⟨u0,rfl⟩:=hone1 r1;have hj0:j=0:=by have:=bG hj;simp at this;exact this
       subst hj0;have:=r2 0 u hj;rw[hsz,a8]at this ⊢;have hsp:=iC vs.toList (cs.take k) lo i' (by rw[ai];exact hfit);rw[hkl]at hsp;rw[List.getElem?_toArray,bj,hsp];rw[bj]at this;rcases hr with hr|hr
       ·rw[if_pos hr,Array.getElem?_toList];exact this
       ·rw[if_neg (by omega),if_neg (by omega),Array.getElem?_toList];exact this
      by_cases c1:i<lo
      ·rw[br,List.getElem?_append,if_pos (by rw[ah];omega),List.getElem?_take,if_pos c1]at hy
       exact old i hy (.inl c1) rfl
      ·by_cases c2:i<lo+k
       ·rw[br,List.getElem?_append,if_neg (by rw[ah];omega),List.getElem?_append,if_pos (by simp only[ah];omega),List.getElem?_take]at hy
        simp only[ah]at hy;rw[show min lo xs.length=lo by omega]at hy;rw[if_pos (by omega)]at hy;obtain⟨us,r1,r2⟩:=hrl _ y hy;refine⟨us,r1.frame hst.1.cell,fun j u hj =>?_⟩;obtain⟨u0,rfl⟩:=hone1 r1;have hj0:j=0:=by have:=bG hj;simp at this;exact this
        subst hj0;have:=r2 0 u hj;rw[hsz,a8,bj]at this ⊢;have hsp:=iC vs.toList (cs.take k) lo i (by rw[ai];exact hfit);rw[hkl]at hsp;rw[List.getElem?_toArray,hsp,if_neg c1,if_pos c2,List.getElem?_take,if_pos (by omega)];exact this
       ·rw[br,List.getElem?_append,if_neg (by rw[ah];omega),List.getElem?_append,if_neg (by simp only[ah];omega),List.getElem?_drop]at hy
        simp only[ah]at hy;rw[show lo+k+(i-min lo xs.length-min k ys.length)=i by omega]at hy;exact old i hy (.inr (by omega)) rfl
     ·rw[hv,hv2];exact hrun
end
def wi(cx:Cx)(st:St)(x:Operand)(ty:TypeId)(K:SV->St->VC):VC:=
 match ev st.env x,look cx.τ ty with
 |.s (.one .jO),some (.slice e)=>match spot e with
  |some _=>K (.s (.one (.xd st.next .top))) (fresh st (.ext 0 (.slice e) []))
  |none =>.ff
 |_,_ =>.ff
def wj(cx:Cx)(st:St)(t:TypeId)(v:cP)(K:SV->St->VC):VC:=
 match look cx.τ t with
 |some (.slice e)=>match spot e,x6 st e v,a7 e.size 1000 with
  |some s,some cs,true=>match cs[s.off]?,mI e (cs.set s.off .jO)with
   |some (.aV m),some (y0,[])=>match look st.aF m with
    |some (.aV t' zs)=>match h:Ty.beq (.slice t') (.slice s.t)with
     |true=>K (.s (.one (.xd st.next .top))) (fresh (bC (bC st m) m) (.ext 0 (.slice e) [s.put y0 (cF h (a:=.slice t') zs)]))
     |false =>.ff
    |_ =>.ff
   |_,_ =>.ff
  |_,_,_ =>.ff
 |_ =>.ff
def C5(cx:Cx)(st:St)(t:TypeId)(n m:Nat)(K:SV->St->VC):VC:=
 match look cx.τ t,look st.aF n,look st.aF m with
 |some (.slice e),some (.ext 0 (.slice e1) xs),some (.ext 0 (.slice e2) ys)=>match h1:Ty.beq (.slice e1) (.slice e),h2:Ty.beq (.slice e2) (.slice e),ad n m with
  |true,true,false =>.and (0<ab ys/\ab xs+ab ys<=1000000000)
    (K (.s (.one (.xd st.next .top))) (fresh (bC (bC st n) m) (.ext 0 (.slice e) (cF h1 (a:=.slice e1) xs++cF h2 (a:=.slice e2) ys))))
  |_,_,_ =>.ff
 |_,_,_ =>.ff
def wk(st:St)(n:Nat)(i j:Nat)(ty:Ty)(v:cP)(K:SV->St->VC):VC:=
 match look st.aF n with
 |some (.ext 0 (.slice e) xs)=>match spot e with
  |some s=>match qO s.t v,Ty.beq s.t ty with
   |some z,true =>.and (i<ab xs/\j<(s.get (nth e xs i)).length) (K (.s (.one .any)) (setObj st n (.ext 0 (.slice e) (List.set xs i (s.put (nth e xs i) ((s.get (nth e xs i)).set j z))))))
   |_,_ =>.ff
  |none =>.ff
 |_ =>.ff
section
variable{X:Ext}{P:Program}{cx:Cx}
def RT(st:St)(n m k:Nat)(oc:OC)(h:look (bC (bC st n) m).aF k=some oc):k≠n/\k≠m/\look st.aF k=some oc:=by
 simp only[bC]at h;rw[lP]at h;split at h
 ·cases h
 ·rename_i h1
  rw[lP]at h;split at h
  ·cases h
  ·rename_i h2;exact⟨fun e=>h2 e.symm,fun e=>h1 e.symm,h⟩
def q8{O:aI}{st:St}{loc:Nat->Loc}{w w':World}(g:Good cx.eT X (aA O st loc w))(hO:eS O w)(n m:Nat){oc:OC}{l:Loc}
  (hos:w'.os=w.os)(hout:w'.output=w.output)(hsize:w.heap.size<=w'.heap.size)
  (hlo:∀k oc',(k=n\/k=m)->look st.aF k=some oc'->oc'.lo=0)
  (hb:∀b,b<w.heap.size->(∀k oc',(k=n\/k=m)->look st.aF k=some oc'->b∉(loc k).bs)->w'.heap[b]?=w.heap[b]?)
  (hl:∀b∈l.bs,(∃k oc',(k=n\/k=m)/\look st.aF k=some oc'/\b∈(loc k).bs)\/w.heap.size<=b) :
  Tr (aA O st loc w) (aA O (fresh (bC (bC st n) m) oc) (bT loc st.next l) w')/\
   (OR cx.eT X (aA O (fresh (bC (bC st n) m) oc) (bT loc st.next l) w') l oc->Good cx.eT X (aA O (fresh (bC (bC st n) m) oc) (bT loc st.next l) w')):=by
 have hob:∀k oc',(aA O (fresh (bC (bC st n) m) oc) (bT loc st.next l) w').ob k=some oc'->(k=st.next/\oc'=oc)\/(k≠st.next/\k≠n/\k≠m/\look st.aF k=some oc'):=by
  intro k oc' h;rw[mR]at h;split at h
  ·rename_i e;cases h;exact .inl ⟨e.symm,rfl⟩
  ·rename_i e;obtain⟨h1,h2,h3⟩:=RT st n m k oc' h;exact .inr ⟨fun e'=>e e'.symm,h1,h2,h3⟩
 have hloc:∀k,k≠st.next->(bT loc st.next l) k=loc k:=fun k h=>by simp only[bT];rw[if_neg (fun e=>h e.symm)]
 have hlocn:(bT loc st.next l) st.next=l:=by simp[bT]
 have hkeep:∀k oc',k≠n->k≠m->look st.aF k=some oc'->∀b∈(loc k).bs,w'.heap[b]?=w.heap[b]?:=by
  intro k oc' h1 h2 h3 b hbk;refine hb b ((g.obj k oc' h3).2.inside b hbk) fun k' oc'' hk' hk'' hbk' =>?_
  have:=g.apart k k' oc' oc'' b h3 hk'' hbk hbk';rcases hk' with rfl|rfl <;> contradiction
 have hnewA:∀b o,b<w.heap.size->b∈l.bs->(aA O st loc w).A b o:=by
  intro b o hlt hbl;rcases hl b hbl with⟨k,oc',hk,h1,h2⟩|h
  ·exact .inr ⟨k,oc',h1,h2,by rw[hlo k oc' hk h1];exact cj _⟩
  ·omega
 have ht:Tr (aA O st loc w) (aA O (fresh (bC (bC st n) m) oc) (bT loc st.next l) w'):={
  O:=rfl
  next:=by show st.next<=st.next+1;omega
  os:=hos
  output:=hout
  size:=hsize
  own:=fun b h=>by
   obtain⟨k,oc',h1,h2⟩:=h;rcases hob k oc' h1 with⟨rfl,rfl⟩|⟨e,e1,e2,h3⟩
   ·rw[show(aA O _ (bT loc st.next l) w').loc st.next=l from hlocn]at h2
    rcases hl b h2 with⟨k',oc'',_,h4,h5⟩|h
    ·exact .inl ⟨k',oc'',h4,h5⟩
    ·exact .inr h
   ·rw[show(aA O _ (bT loc st.next l) w').loc k=loc k from hloc k e]at h2
    exact .inl ⟨k,oc',h3,h2⟩
  cell:=fun b o v ha hcell=>by
   have hlt:=cq w _ hcell;simp only at hlt;constructor
   ·have:w'.heap[b]?=w.heap[b]?:=hb b hlt fun k oc' hk h1 h2=>ha (.inr ⟨k,oc',h1,h2,by rw[hlo k oc' hk h1];exact cj _⟩)
    show w'.cell? _=_;rw[World.cell?_of_block (w:=w) (w':=w') (a:=⟨b,o,none⟩) this];exact hcell
   ·rintro(h|⟨k,oc',h1,h2,h3⟩)
    ·exact ha (.inl h)
    ·rcases hob k oc' h1 with⟨rfl,rfl⟩|⟨e,e1,e2,h4⟩
     ·rw[show(aA O _ (bT loc st.next l) w').loc st.next=l from hlocn]at h2
      exact ha (hnewA b o hlt h2)
     ·rw[show(aA O _ (bT loc st.next l) w').loc k=loc k from hloc k e]at h2
      exact ha (.inr ⟨k,oc',h4,h2,h3⟩)
  block:=fun b hlt ho=>hb b hlt fun k oc' _ h1 h2=>ho ⟨k,oc',h1,h2⟩
  loc:=fun k hlt _=>oh (hloc k (by simp[aA]at hlt;omega))
  kind:=fun k oc' hlt h=>by
   rcases hob k oc' h with⟨rfl,rfl⟩|⟨e,e1,e2,h3⟩
   ·simp[aA]at hlt
   ·refine⟨oc',h3,?_⟩
    have:(aA O (fresh (bC (bC st n) m) oc) (bT loc st.next l) w').loc k=(aA O st loc w).loc k:=hloc k e;rw[this];cases oc' <;> simp[aX]}
 refine⟨ht,fun hor=>⟨fun k oc' h =>?_,fun m1 m2 oc1 oc2 b h1 h2 h3 h4 =>?_,fun k oc' b off h1 h2 =>?_,g.kT.tr ht⟩⟩
 ·rcases hob k oc' h with⟨rfl,rfl⟩|⟨e,e1,e2,h3⟩
  ·exact⟨by simp[aA,fresh,bC],by rw[show(aA O _ (bT loc st.next l) w').loc st.next=l from hlocn];exact hor⟩
  ·obtain⟨k1,k2⟩:=g.obj k oc' h3
   refine⟨by simp only[aA,fresh,bC]at k1 ⊢;omega,?_⟩;rw[show(aA O _ (bT loc st.next l) w').loc k=(aA O st loc w).loc k from hloc k e];exact k2.tr ht (hkeep k oc' e1 e2 h3)
 ·have key:∀k oc',k≠n->k≠m->look st.aF k=some oc'->b∈l.bs->b∈(loc k).bs->False:=by
   intro k oc' e1 e2 hk hbl hbk;rcases hl b hbl with⟨k',oc'',hk',h5,h6⟩|h
   ·have:=g.apart k k' oc' oc'' b hk h5 hbk h6
    rcases hk' with rfl|rfl <;> contradiction
   ·have:=(g.obj k oc' hk).2.inside b hbk
    simp only[aA]at this;omega
  rcases hob m1 oc1 h1 with⟨rfl,rfl⟩|⟨e,e1,e2,h5⟩ <;> rcases hob m2 oc2 h2 with⟨rfl,rfl⟩|⟨e',e1',e2',h6⟩
  ·rfl
  ·rw[show(aA O _ (bT loc st.next l) w').loc st.next=l from hlocn]at h3
   rw[show(aA O _ (bT loc st.next l) w').loc m2=loc m2 from hloc m2 e']at h4;exact(key m2 oc2 e1' e2' h6 h3 h4).elim
  ·rw[show(aA O _ (bT loc st.next l) w').loc st.next=l from hlocn]at h4
   rw[show(aA O _ (bT loc st.next l) w').loc m1=loc m1 from hloc m1 e]at h3;exact(key m1 oc1 e1 e2 h5 h4 h3).elim
  ·rw[show(aA O _ (bT loc st.next l) w').loc m1=loc m1 from hloc m1 e]at h3
   rw[show(aA O _ (bT loc st.next l) w').loc m2=loc m2 from hloc m2 e']at h4;exact g.apart m1 m2 oc1 oc2 b h5 h6 h3 h4
 ·rcases hob k oc' h1 with⟨rfl,rfl⟩|⟨e,e1,e2,h3⟩
  ·rw[show(aA O _ (bT loc st.next l) w').loc st.next=l from hlocn]at h2
   rcases hl b h2 with⟨k',oc'',_,h5,h6⟩|h
   ·exact g.out k' oc'' b off h5 h6
   ·intro hA;have:=hO _ _ hA;omega
  ·rw[show(aA O _ (bT loc st.next l) w').loc k=loc k from hloc k e]at h2
   exact g.out k oc' b off h3 h2
def FT{O:aI}{st:St}{loc:Nat->Loc}{w:World}{a:Act}(g:Good cx.eT X (aA O st loc w))(hO:eS O w)(he:gA cx.eT (aA O st loc w) st.env a)
  {x:Operand}{ty:TypeId}{K:SV->St->VC}(h:(wi cx st x ty K).holds) :
  ∃sv st' loc',(K sv st').holds/\st'.env=st.env/\Good cx.eT X (aA O st' loc' w)/\Tr (aA O st loc w) (aA O st' loc' w)/\dI cx.eT (aA O st' loc' w) sv (a.eval x):=by
 have hx:=lk he x;unfold wi at h;split at h
 ·rename_i e hl _
  rw[hl]at hx;split at h
  ·rename_i s hs
   obtain⟨tr1,g1⟩:=gM (oc:=.ext 0 (.slice e) []) (l:=⟨.tuple #[.slice none 0 0],[]⟩) g hO (Below.refl _ w) (by simp);have g1:=g1 (X.deep.2 ⟨s,hs,.slice none 0 0,[],rfl,.inl ⟨rfl,rfl,⟨none,rfl⟩,rfl⟩⟩);refine⟨_,_,_,h,rfl,g1,tr1,?_⟩;rw[show a.eval x=_ from hx];refine⟨by simp[aA,fresh],fun t' x' hy =>?_⟩;exact⟨[],by simp[aA,bT]⟩
  ·exact h.elim
 ·exact h.elim
def GI:∀{e:Ty} {s:nQ e} {y:D e} {ys:List (D s.t)} {A A':aI} {w w':World} {us:List Value} {h h0:Value} {eT:TypeId},spot e=some s->R eT e y A w (us.set s.off h0)->
  R eT (.slice s.t) ys A' w' [h]->us[s.off]?=some h->R eT e (s.put y ys) A' w' us:=by
 intro e;induction e with
 |slice t _=>
  intro s y ys A A' w w' us h h0 eT hs hr hy hu;obtain⟨_,_,rfl⟩:=nx hs;obtain⟨v,hv,h2⟩:=hr;have hl:us.length=1:=by have:=congrArg ab hv;simpa using this
  match us,hl with
  |[u],_=>simp at hu;subst hu;exact hy
 |prod a b iha ihb=>
  intro s y ys A A' w w' us h h0 eT hs hr hy hu;obtain⟨u1,u2,hv,r1,r2⟩:=hr;have hl1:=r1.length;rcases oP hs with⟨s',h1,hb,rfl⟩|⟨s',ha,h1,rfl⟩
  ·have hlt:=tB h1
   simp only at hv hu;have e1:us.set s'.off h0=(us.take a.size).set s'.off h0++us.drop a.size:=by
    conv=>lhs;rw[<-ca a.size us]
    have hul:s'.off<us.length:=bG hu;rw[List.set_append_left _ _ (by rw[ah];omega)]
   have hlen:us.length=a.size+u2.length:=by have:=congrArg ab hv;simp only[bb,ae]at this;omega
   rw[e1]at hv;obtain⟨k1,k2⟩:=fe hv (by rw[bb,ah];omega);subst k1 k2;refine⟨us.take a.size,us.drop a.size,(ca _ _).symm,iha h1 r1 hy ?_,r2.of_flat (q7 hb)⟩;rw[List.getElem?_take,if_pos hlt];exact hu
  ·have hlt:=tB h1
   simp only at hv hu;have hul:=bG hu;have e1:us.set (a.size+s'.off) h0=us.take a.size++(us.drop a.size).set s'.off h0:=by
    conv=>lhs;rw[<-ca a.size us]
    rw[List.set_append_right _ _ (by rw[ah];omega)];congr 2;rw[ah];omega
   rw[e1]at hv;obtain⟨k1,k2⟩:=fe hv (by rw[ah];omega);subst k1 k2;refine⟨us.take a.size,us.drop a.size,(ca _ _).symm,r1.of_flat (q7 ha),ihb h1 r2 hy ?_⟩;rw[List.getElem?_drop];exact hu
 |_=>intro s y ys A A' w w' us h h0 eT hs;cases hs
def GJ(cx:Cx){t te:TypeId}{e:Ty}{ti:TypeInfo}{td:TypeDesc}(hu:P.underlying t=some (.slice te))(hf:Fit P te e ti td){v:Value}(hv:v.cells.toList.length=e.size)(hp:0<e.size)(hbig:e.size<=16777216)(w:World) :
  (bt t 1 #[(0,v)]).run P w=.ok (.slice (some ⟨w.heap.size,0,none⟩) 1 1) (w.alloc (.cells v.cells te)):=by
 obtain⟨z,hz,hzr⟩:=hf.zero;have hzs:z.cells.size=e.size:=by
  rw[<-ai];exact(kV (S:=⟨fun _ _=>False,fun _=>none,fun _=>default,0,w⟩) (cx:=cx) hzr).length.symm.trans (iU e)
 have hfill:∀cells:Array Value,cells.size=e.size->bx (fun i=>some (i*e.size,e.size)) cells [(0,v)]=some v.cells:=by
  intro cells hcs;rw[GC e.size [(0,v)] 0 cells (fun i p hp=>by
    cases i with
    |zero=>simp at hp;subst hp;rfl
    |succ i=>simp at hp)
   (fun p hp=>by simp at hp;subst hp;rw[<-ai];exact hv)
   (by simp[hcs])]
  simp
 have hfl:=hfill ((eg (1*e.size)).map fun k=>z.cells[k % z.cells.size]!) (by simp);have h0:e.size≠0:=by omega
 have hsz':¬(e.size > 2^24):=by omega
 have hfl':=hfill ((eg (e.size)).map fun k=>z.cells[k % z.cells.size]!) (by simp);simp[bt,run_underlying hu,gv hf,h0,hsz',newRow,zeroValue,typeInfo,hf.info,hz];rw[hfl'];simp
def eC.set{eT:TypeId}{S:bI}{cs:List C}{vs:List Value}(h:eC eT S cs vs):∀{k:Nat} {c:C} {v:Value},CR eT S c v->v.oneCell'=true->eC eT S (cs.set k c) (vs.set k v):=by
 induction h with
 |nil=>intro k c v _ _;exact .nil
 |cons h1 h2 h3 ih=>
  intro k c v hc hv;cases k with
  |zero=>exact .cons hc hv h3
  |succ k=>exact .cons h1 h2 (ih hc hv)
def BA(hok:TyOK P cx){O:aI}{st:St}{loc:Nat->Loc}{w:World}(g:Good cx.eT X (aA O st loc w))(hO:eS O w)
  {t:TypeId}{v:cP}{u:Value}{K:SV->St->VC}(hv:iv cx.eT (aA O st loc w) v u)(h:(wj cx st t v K).holds) :
  ∃sv val st' loc' w',(K sv st').holds/\st'.env=st.env/\Below w.heap.size w w'/\Good cx.eT X (aA O st' loc' w')/\Tr (aA O st loc w) (aA O st' loc' w')/\dI cx.eT (aA O st' loc' w') sv val/\
   (bt t 1 #[(0,u)]).run P w=.ok val w':=by
 unfold wj at h;split at h
 case h_2=>exact h.elim
 rename_i e ht;obtain⟨te,ti,td,hu,hf⟩:=hH hok ht;split at h
 case h_2=>exact h.elim
 rename_i s cs hs hfl hsm;have hsm:=bm hsm;obtain⟨us,hus,hcr,hul⟩:=sq g hfl hv;split at h
 case h_2=>exact h.elim
 rename_i m y0 hm hp;split at h
 case h_2=>exact h.elim
 rename_i t' zs hob;split at h
 case h_2=>exact h.elim
 rename_i hb;have htt:t'=s.t:=by have:=Ty.eq_of_beq hb;cases this;rfl
 subst htt;rw[gx]at h;obtain⟨hd,hget,hch,_⟩:=hcr.get hm;have hdv:=hch.2 _ _ hob;have hset:=hcr.set (k:=s.off) (c:=.jO) (v:=.slice none 0 0) rfl rfl;obtain⟨us1,us2,he12,hr0,hnil⟩:=DQ hp hset;cases hnil;rw[ec]at he12;subst he12;have hoff:=tB hs;have hrun:=GJ (P:=P) cx hu hf (v:=u) (by rw[hus];exact hul) (by omega) (by omega) w;have hbel:Below w.heap.size w (w.alloc (.cells u.cells te)):=(Below.refl _ w).alloc (ag _) _;have hheap:(w.alloc (.cells u.cells te)).heap[w.heap.size]?=some (.cells u.cells te (0,0)):=heap_alloc_new w _;have hlo:∀k oc',(k=m\/k=m)->look st.aF k=some oc'->oc'.lo=0:=by
  intro k oc' hk hl;have:k=m:=by rcases hk with h|h <;> exact h
  subst this;rw[hob]at hl;cases hl;rfl
 have fin:∀(co:Option Nat),(∀c,co=some c->c∈(loc m).bs)->(∀c,co=some c->c≠w.heap.size/\∃vs T,(w.alloc (.cells u.cells te)).heap[c]?=some (.cells vs T (0,0)))->
   R 0 (.slice s.t) zs (oZ co) (w.alloc (.cells u.cells te)) [hd]->
   ∃sv val st' loc' w',(K sv st').holds/\st'.env=st.env/\Below w.heap.size w w'/\Good cx.eT X (aA O st' loc' w')/\Tr (aA O st loc w) (aA O st' loc' w')/\dI cx.eT (aA O st' loc' w') sv val/\
    (bt t 1 #[(0,u)]).run P w=.ok val w':=by
  intro co hco1 hco2 hr;obtain⟨tr,gd⟩:=q8 (w':=w.alloc (.cells u.cells te)) (oc:=.ext 0 (.slice e) [s.put y0 zs]) (l:=⟨.tuple #[.slice (some ⟨w.heap.size,0,none⟩) 1 1,hd],w.heap.size :: [co].filterMap id⟩) g hO m m hbel.os hbel.output hbel.size hlo
   (fun b hlt _=>hbel.block b hlt) (fun b hbm=>by
    rcases bz.1 hbm with rfl|hbm
    ·exact .inr (ag _)
    ·obtain⟨i,hi⟩:=fN.1 hbm
     cases i with
     |zero=>simp at hi;exact .inl ⟨m,_,.inl rfl,hob,hco1 b hi⟩
     |succ i=>simp at hi)
  have gd:=gd (X.deep.2 ⟨s,hs,_,[hd],rfl,.inr ⟨w.heap.size,u.cells,te,1,[co],rfl,rfl,hheap,by rw[<-ai,hus,hul];omega,ag _,by unfold aN;simp,{
    hl:=rfl
    cl:=rfl
    inj:=fun i j c hi hj=>by
     have:=bG hi;have:=bG hj;simp at*;omega
    yG:=fun i c hi=>by
     cases i with
     |zero=>simp at hi;exact hco2 c hi
     |succ i=>simp at hi
    row:=fun i y hy=>by
     cases i with
     |succ i=>simp at hy
     |zero=>
      simp at hy;subst hy;refine⟨co,hd,us,rfl,rfl,hget,GI hs (KK hs hr0) hr hget,fun j x hj =>?_⟩;rw[dh,al,<-Array.getElem?_toList,hus];exact hj}⟩⟩)
  refine⟨_,_,_,_,_,h,rfl,hbel,gd,tr,⟨by simp[aA,fresh,bC],fun t' x' hy=>⟨[hd],by simp[aA,bT]⟩⟩,hrun⟩
 rcases(g.obj m _ hob).2 with⟨rfl,⟨a,ha⟩,_⟩|⟨c,vs,T,cap,h1,h2,h3,h4,h5,h6,h7⟩
 ·refine fin none (fun c hc=>by cases hc) (fun c hc=>by cases hc) ⟨hd,rfl,by simp,.inl ⟨rfl,a,0,hdv.trans ha⟩⟩
 ·have hclt:c<w.heap.size:=(g.obj m _ hob).2.inside c (by rw[h2];simp)
  have hch:(w.alloc (.cells u.cells te)).heap[c]?=some (.cells vs T (0,0)):=(hbel.block c hclt).trans h3;refine fin (some c) (fun c' hc=>by cases hc;show c∈(loc m).bs;rw[show(loc m).bs=[c]from h2];simp) (fun c' hc=>by cases hc;exact⟨by omega,vs,T,hch⟩) ⟨hd,rfl,h6,.inr ⟨c,0,cap,hdv.trans h1,h5,fun i y hy =>?_⟩⟩;obtain⟨us',r1,r2⟩:=h7 i y hy;refine⟨us',j0 (rF hs).1 r1,fun j x hj=>⟨?_,by simp[oZ]⟩⟩;rw[cell_of_row _ c _ vs T (0,0) hch,al];exact r2 j x hj
def DV{e:Ty}{s:nQ e}{ys:List (D e)}{w:World}{b:Nat}{cs:List (Option Nat)}{hs:List Value}{vs:Array Value}(h:jZ e s ys w b cs hs vs)(hl:ys.length*e.size<=vs.size) :
  ∃news:List Value,news.length=ys.length*e.size/\(∀(k:Nat) (u:Value),news[k]?=some u->vs[k]?=some u)/\(∀(k:Nat) (u:Value),k<ys.length*e.size->vs[k]?=some u->news[k]?=some u)/\∀u∈news,u.oneCell'=true:=by
 refine⟨vs.toList.take (ys.length*e.size),by simp;omega,fun k u hk =>?_,fun k u hk hu =>?_,fun u hu =>?_⟩
 ·rw[List.getElem?_take]at hk
  split at hk
  ·simpa using hk
  ·cases hk
 ·rw[List.getElem?_take,if_pos hk];simpa using hu
 ·obtain⟨k,hk,rfl⟩:=et hu
  have hlen:(vs.toList.take (ys.length*e.size)).length=ys.length*e.size:=by simp;omega
  have hk':k<ys.length*e.size:=by omega
  have hpos:0<e.size:=by
   rcases eu e.size with h0|h0
   ·rw[h0]at hk';omega
   ·exact h0
  have hi:k / e.size<ys.length:=ew (by rw[de];exact hk');obtain⟨c,hh,us,_,_,_,h1,h2⟩:=h.row _ _ (List.getElem?_eq_getElem hi);have hjlt:k % e.size<us.length:=by rw[h1.length];exact Nat.mod_lt _ hpos
  have:=h2 _ _ (List.getElem?_eq_getElem hjlt);rw[show k / e.size*e.size+k % e.size=k from by rw[de];exact ey k e.size]at this;have h3:(vs.toList.take (ys.length*e.size))[k]?=some us[k % e.size]:=by rw[List.getElem?_take,if_pos hk'];simpa using this
  rw[List.getElem?_eq_getElem hk]at h3;rw[ez h3];exact h1.lj _ (e4 hjlt)
def jZ.join{e:Ty}{s:nQ e}{xs ys:List (D e)}{w w':World}{b1 b2 b':Nat}{cs1 cs2:List (Option Nat)}{hs1 hs2:List Value}{vs1 vs2 vs':Array Value}
  (h1:jZ e s xs w b1 cs1 hs1 vs1)(h2:jZ e s ys w b2 cs2 hs2 vs2)
  (hd:∀c:Nat,(∃i:Nat,cs1[i]?=some (some c))->(∃j:Nat,cs2[j]?=some (some c))->False)
  (hb:∀c:Nat,((∃i:Nat,cs1[i]?=some (some c))\/(∃j:Nat,cs2[j]?=some (some c)))->c≠b'/\w'.heap[c]?=w.heap[c]?)
  (hv1:∀k u,k<xs.length*e.size->vs1[k]?=some u->vs'[k]?=some u)
  (hv2:∀k u,k<ys.length*e.size->vs2[k]?=some u->vs'[xs.length*e.size+k]?=some u) :
  jZ e s (xs++ys) w' b' (cs1++cs2) (hs1++hs2) vs':=by
 have get:∀(i:Nat) (c:Nat),(cs1++cs2)[i]?=some (some c)->(i<xs.length/\cs1[i]?=some (some c))\/(xs.length<=i/\cs2[i-xs.length]?=some (some c)):=by
  intro i c hi;rw[List.getElem?_append,h1.cl]at hi;split at hi
  ·rename_i hlt;exact .inl ⟨hlt,hi⟩
  ·rename_i hlt;exact .inr ⟨by omega,hi⟩
 refine⟨by simp[h1.hl,h2.hl],by simp[h1.cl,h2.cl],fun i j c hi hj =>?_,fun i c hi =>?_,fun i y hy =>?_⟩
 ·rcases get i c hi with⟨a1,a2⟩|⟨a1,a2⟩ <;> rcases get j c hj with⟨b1,b2⟩|⟨b1,b2⟩
  ·exact h1.inj i j c a2 b2
  ·exact(hd c ⟨_,a2⟩ ⟨_,b2⟩).elim
  ·exact(hd c ⟨_,b2⟩ ⟨_,a2⟩).elim
  ·have:=h2.inj _ _ c a2 b2;omega
 ·rcases get i c hi with⟨a1,a2⟩|⟨a1,a2⟩
  ·obtain⟨k1,k2⟩:=hb c (.inl ⟨_,a2⟩)
   rw[k2];exact⟨k1,(h1.yG _ c a2).2⟩
  ·obtain⟨k1,k2⟩:=hb c (.inr ⟨_,a2⟩)
   rw[k2];exact⟨k1,(h2.yG _ c a2).2⟩
 ·rw[List.getElem?_append]at hy
  split at hy
  ·rename_i hlt
   obtain⟨c,k,us,k1,k2,k3,k4,k5⟩:=h1.row i y hy;refine⟨c,k,us,by rw[List.getElem?_append,h1.cl,if_pos hlt];exact k1,by rw[List.getElem?_append,h1.hl,if_pos hlt];exact k2,k3,k4.frame (si fun b e'=>(hb b (.inl ⟨i,by rw[k1,e']⟩)).2),fun j u hj =>?_⟩;refine hv1 _ u ?_ (k5 j u hj);have:=bG hj;rw[k4.length]at this;have:(i+1)*e.size<=xs.length*e.size:=aq _ hlt;rw[af]at this;omega
  ·rename_i hlt
   have hil:=bG hy;obtain⟨c,k,us,k1,k2,k3,k4,k5⟩:=h2.row _ y hy;refine⟨c,k,us,by rw[List.getElem?_append,h1.cl,if_neg hlt];exact k1,by rw[List.getElem?_append,h1.hl,if_neg hlt];exact k2,k3,k4.frame (si fun b e'=>(hb b (.inr ⟨_,by rw[k1,e']⟩)).2),fun j u hj =>?_⟩;have e1:i*e.size+j=xs.length*e.size+((i-xs.length)*e.size+j):=by
    rw[<-bq,<-af,show xs.length+(i-xs.length)=i from by omega]
   rw[e1];refine hv2 _ u ?_ (k5 j u hj);have:=bG hj;rw[k4.length]at this;have:(i-xs.length+1)*e.size<=ys.length*e.size:=aq _ hil;rw[af]at this;omega
def FU(hok:TyOK P cx){O:aI}{st:St}{loc:Nat->Loc}{w:World}(g:Good cx.eT X (aA O st loc w))(hO:eS O w)
  {t ty:TypeId}{n m:Nat}{K:SV->St->VC}{vs vx:Value}(hs:CR cx.eT (aA O st loc w) (.xd n .top) vs)(hx:CR cx.eT (aA O st loc w) (.xd m .top) vx)(h:(C5 cx st t n m K).holds) :
  ∃sv v st' loc' w',(K sv st').holds/\st'.env=st.env/\Good cx.eT X (aA O st' loc' w')/\Tr (aA O st loc w) (aA O st' loc' w')/\dI cx.eT (aA O st' loc' w') sv v/\
   (ak #[t,t] ty #[vs,vx]).run P w=.ok v w':=by
 unfold C5 at h;split at h
 case h_2=>exact h.elim
 rename_i e e1 xs e2 ys ht hob1 hob2;obtain⟨te,ti,td,hu,hf⟩:=hH hok ht;obtain⟨z,hz,hzr⟩:=hf.zero;have hzs:z.cells.size=e.size:=by
  rw[<-ai];exact(kV (S:=aA O st loc w) (cx:=cx) hzr).length.symm.trans (iU e)
 split at h
 case h_2=>exact h.elim
 rename_i hb1 hb2 hnm;have hnm:n≠m:=fun e'=>by subst e';rw[bu]at hnm;cases hnm
 have he1:e1=e:=by have:=Ty.eq_of_beq hb1;cases this;rfl
 subst he1;have he2:e2=e1:=by have:=Ty.eq_of_beq hb2;cases this;rfl
 subst he2;rw[gx,gx]at h;obtain⟨⟨hpos,hle⟩,h⟩:=h;have hd1:=X.deep.1 (g.obj n _ hob1).2;have hd2:=X.deep.1 (g.obj m _ hob2).2;obtain⟨_,s,hee,hsp⟩:=sj hd1;cases hee;obtain⟨d2⟩:=tC hsp hd2 hpos;have hvx:vx=d2.top:=by
  obtain⟨hs',hl⟩:=hx.2 _ _ hob2;have hl:=d2.lv.symm.trans hl;simp at hl;exact hl.1.symm
 have hvx:vx=.slice (some ⟨d2.b,0,none⟩) (ab ys) d2.cap:=hvx.trans d2.tv;have hys:ab ys*e2.size<=d2.vs.size:=by rw[d2.size];exact aq _ d2.fit
 obtain⟨news,hn1,hn2,hn3,hn4⟩:=DV d2.rows hys;have hnews:∀j u,news[j]?=some u->w.cell? ((⟨d2.b,0,none⟩:Addr).add j)=some u:=fun j u hj=>by
  rw[ay,al,cell_of_row w d2.b _ d2.vs d2.T (0,0) d2.heap];exact hn2 j u hj
 have hbytes:(ab xs+ab ys)*ti.bytes<=140737488355328:=by have:=ed hle hf.bytes;omega
 have hm2:∀c:Nat,(∃j:Nat,d2.cs[j]?=some (some c))->c∈(loc m).bs:=fun c hc=>by
  rw[show(loc m).bs=_ from d2.lb];exact cf _ (fN.2 hc)
 have hlo:∀k oc',(k=n\/k=m)->look st.aF k=some oc'->oc'.lo=0:=by
  intro k oc' hk hl;rcases hk with rfl|rfl
  ·rw[hob1]at hl;cases hl;rfl
  ·rw[hob2]at hl;cases hl;rfl
 have fin:∀(w':World) (b' cap' b1:Nat) (vs' vs1:Array Value) (T':TypeId) (cs1:List (Option Nat)) (hs1:List Value),jZ e2 s xs w b1 cs1 hs1 vs1->
   w'.os=w.os->w'.output=w.output->w.heap.size<=w'.heap.size->(∀c:Nat,(∃i:Nat,cs1[i]?=some (some c))->c∈(loc n).bs)->
   ((b'∈(loc n).bs/\∀c:Nat,(∃i:Nat,cs1[i]?=some (some c))->c≠b')\/w.heap.size<=b')->(∀b,b<w.heap.size->b≠b'->w'.heap[b]?=w.heap[b]?)->
   w'.heap[b']?=some (.cells vs' T' (0,0))->vs'.size=cap'*e2.size->ab xs+ab ys<=cap'->
   (∀k u,k<ab xs*e2.size->vs1[k]?=some u->vs'[k]?=some u)->(∀k u,k<ab ys*e2.size->d2.vs[k]?=some u->vs'[ab xs*e2.size+k]?=some u)->
   (ak #[t,t] ty #[vs,vx]).run P w=.ok (.slice (some ⟨b',0,none⟩) (ab xs+ab ys) cap') w'->
   ∃sv v st' loc' w',(K sv st').holds/\st'.env=st.env/\Good cx.eT X (aA O st' loc' w')/\Tr (aA O st loc w) (aA O st' loc' w')/\dI cx.eT (aA O st' loc' w') sv v/\
    (ak #[t,t] ty #[vs,vx]).run P w=.ok v w':=by
  intro w' b' cap' b1 vs' vs1 T' cs1 hs1 hrows hos hout hsize hin1 hb' hoth hheap' hsz' hcap' hv1 hv2 hrun;have hin1':∀c:Nat,(∃i:Nat,cs1[i]?=some (some c))->c<w.heap.size:=fun c hc=>(g.obj n _ hob1).2.inside c (hin1 c hc)
  have hin2':∀c:Nat,(∃i:Nat,d2.cs[i]?=some (some c))->c<w.heap.size:=fun c hc=>(g.obj m _ hob2).2.inside c (hm2 c hc)
  have hne:∀c:Nat,((∃i:Nat,cs1[i]?=some (some c))\/(∃j:Nat,d2.cs[j]?=some (some c)))->c≠b'/\w'.heap[c]?=w.heap[c]?:=by
   intro c hc;have hclt:c<w.heap.size:=hc.elim (hin1' c) (hin2' c);have hcb:c≠b':=by
    rcases hb' with⟨k1,k2⟩|k1
    ·rcases hc with hc|hc
     ·exact k2 c hc
     ·intro e'
      subst e';exact hnm (g.apart n m _ _ c hob1 hob2 k1 (hm2 c hc))
    ·omega
   exact⟨hcb,hoth c hclt hcb⟩
  have hj:=hrows.join d2.rows (w':=w') (b':=b') (vs':=vs') (fun c h1 h2=>hnm (g.apart n m _ _ c hob1 hob2 (hin1 c h1) (hm2 c h2))) hne hv1 hv2;obtain⟨tr,gd⟩:=q8 (w':=w') (oc:=.ext 0 (.slice e2) (xs++ys)) (l:=⟨.tuple (dz (some ⟨b',0,none⟩) (ab xs+ab ys) cap' :: (hs1++d2.hs)).toArray,b' :: (cs1++d2.cs).filterMap id⟩) g hO n m hos hout hsize hlo
   (fun b hlt hb=>by
    refine hoth b hlt fun e' =>?_
    subst e';rcases hb' with⟨k1,_⟩|k1
    ·exact hb n _ (.inl rfl) hob1 k1
    ·omega)
   (fun b hbm=>by
    rcases bz.1 hbm with rfl|hbm
    ·rcases hb' with⟨k1,_⟩|k1
     ·exact .inl ⟨n,_,.inl rfl,hob1,k1⟩
     ·exact .inr k1
    ·rw[List.filterMap_append]at hbm
     rcases di.1 hbm with hbm|hbm
     ·exact .inl ⟨n,_,.inl rfl,hob1,hin1 b (fN.1 hbm)⟩
     ·exact .inl ⟨m,_,.inr rfl,hob2,hm2 b (fN.1 hbm)⟩)
  have gd:=gd (X.deep.2 ⟨s,hsp,_,_,rfl,.inr ⟨b',vs',T',cap',cs1++d2.cs,by rw[ae],rfl,hheap',hsz',by rw[ae];exact hcap',by rw[ae];unfold aN;omega,hj⟩⟩);exact⟨_,_,_,_,_,h,rfl,gd,tr,⟨by simp[aA,fresh,bC],fun t' x' hy=>⟨hs1++d2.hs,by simp[aA,bT]⟩⟩,hrun⟩
 subst hvx;obtain⟨s',hsp',top,hs',hl1,hcase⟩:=hd1;rw[hsp]at hsp';cases hsp';have hvs:vs=top:=by
  obtain⟨hs'',hl⟩:=hs.2 _ _ hob1;have hl:=hl1.symm.trans hl;simp at hl;exact hl.1.symm
 have hbel:∀(cells:Array Value),Below w.heap.size w (w.drew.alloc (.cells cells te)):=fun _=>(Below.refl _ w).drew.alloc (ag _) _
 rcases hcase with⟨hx0,hh0,⟨a0,ha0⟩,hbs0⟩|⟨b1,vs1,T1,cap1,cs1,ht1,hbs1,hheap1,hsz1,hfit1,hbig1,hrows1⟩
 ·have hvs0:vs=.slice a0 0 0:=hvs.trans ha0
  subst hvs0;subst hx0;have hrun:=nA (P:=P) (w:=w) (t:=t) (ty:=ty) hu hf.info hz a0 (a:=⟨d2.b,0,none⟩) (n:=ab ys) (c:=d2.cap) (news:=news) (by rw[hn1,hf.size]) hnews hpos (by simp at hle;omega)
   (by have:=hbytes;simp only[ee,al]at this;omega)
  have hc':ab ys<=grownCap w (ab ys) 0 te:=grownCap_ge w _ _ _;have hB:=hbel (news.toArray++bc z.cells (grownCap w (ab ys) 0 te-ab ys));refine fin _ w.heap.size (grownCap w (ab ys) 0 te) 0 _ #[] te [] [] ⟨rfl,rfl,fun i j c hi=>by simp at hi,fun i c hi=>by simp at hi,fun i y hy=>by simp at hy⟩ hB.os hB.output hB.size (fun c ⟨i,hi⟩=>by simp at hi)
   (.inr (ag _)) (fun b hlt _=>hB.block b hlt) (heap_alloc_new w.drew _) ?_ (by simpa using hc') (fun k u hk=>by simp at hk) (fun k u hk hu =>?_) (by rw[hrun];simp)
  ·simp only[df,bk,size_zeroCells,hzs,hn1,<-af]
   congr 1;omega
  ·have:=hn3 k u hk hu
   simp only[ee,dh,al];rw[Array.getElem?_append,if_pos (by simpa using bG this)];simpa using this
 ·have hvs0:vs=.slice (some ⟨b1,0,none⟩) (ab xs) cap1:=hvs.trans ht1
  subst hvs0;have hxs:ab xs*e2.size<=vs1.size:=by rw[hsz1];exact aq _ hfit1
  obtain⟨olds,ho1,ho2,ho3,_⟩:=DV hrows1 hxs;have hmem1:∀c:Nat,(∃i:Nat,cs1[i]?=some (some c))->c∈(loc n).bs:=fun c hc=>by
   rw[show(loc n).bs=_ from hbs1];exact cf _ (fN.2 hc)
  by_cases hroom:ab xs+ab ys<=cap1
  ·have hmul:(ab xs+ab ys)*e2.size<=cap1*e2.size:=aq _ hroom
   rw[af]at hmul;have hfit:ab xs*ti.size+news.length<=vs1.size:=by rw[hf.size,hsz1,hn1];exact hmul
   have hrun:=qP (P:=P) (ty:=ty) hu hf.info hheap1 (a:=⟨d2.b,0,none⟩) (c:=d2.cap) (by rw[hn1,hf.size]) hnews hn4 hroom hfit;rw[hf.size]at hrun hfit;generalize hcur':(vs1.toList.take (ab xs*e2.size)++news++vs1.toList.drop (ab xs*e2.size+news.length)).toArray=cur' at hrun;have hget:∀k:Nat,cur'[k]?=if k<ab xs*e2.size then vs1[k]? else if k<ab xs*e2.size+news.length then news[k-ab xs*e2.size]? else vs1[k]?:=by
    intro k;rw[<-hcur',List.getElem?_toArray,iC _ _ _ _ (by simpa using hfit)];simp
   have hsz':cur'.size=vs1.size:=by
    rw[<-hcur'];simp only[bk,ae,ah,ax,ai];omega
   refine fin (w.setRow b1 cur') b1 cap1 b1 cur' vs1 T1 cs1 hs' hrows1 rfl rfl (by simp[da]) hmem1 (.inl ⟨by rw[show(loc n).bs=_ from hbs1];simp,fun c ⟨i,hi⟩=>(hrows1.yG i c hi).1⟩)
    (fun b _ hne=>setRow_other w b1 b cur' (fun e'=>hne e')) (setRow_heap w b1 vs1 cur' T1 (0,0) hheap1) (by rw[hsz',hsz1]) hroom (fun k u hk hu =>?_) (fun k u hk hu =>?_) hrun
   ·rw[hget,if_pos hk];exact hu
   ·rw[hget,if_neg (by omega),if_pos (by rw[hn1];omega),cu];exact hn3 k u hk hu
  ·have hrun:=run_append_grow (P:=P) w t ty te ti z hu hf.info hz ⟨b1,0,none⟩ (ab xs) cap1 olds (by rw[ho1,hf.size])
    (fun j u hj=>by rw[ay,al,cell_of_row w b1 _ vs1 T1 (0,0) hheap1];exact ho2 j u hj)
    ⟨d2.b,0,none⟩ (ab ys) d2.cap news (by rw[hn1,hf.size]) hnews (by omega) (by omega) (growslice_fits (by omega) hbytes)
   have hc':ab xs+ab ys<=grownCap w (ab xs+ab ys) cap1 te:=grownCap_ge w _ _ _;have hB:=hbel (olds.toArray++news.toArray++bc z.cells (grownCap w (ab xs+ab ys) cap1 te-(ab xs+ab ys)));refine fin _ w.heap.size (grownCap w (ab xs+ab ys) cap1 te) b1 _ vs1 te cs1 hs' hrows1 hB.os hB.output hB.size hmem1 (.inr (ag _)) (fun b hlt _=>hB.block b hlt) (heap_alloc_new w.drew _) ?_ hc'
    (fun k u hk hu =>?_) (fun k u hk hu =>?_) hrun
   ·simp only[df,bk,size_zeroCells,hzs,hn1,ho1,<-af]
    congr 1;omega
   ·have:=ho3 k u hk hu
    rw[Array.getElem?_append,if_pos (by simp;have:=bG this;omega),Array.getElem?_append,if_pos (by simpa using bG this)];simpa using this
   ·have:=hn3 k u hk hu
    have hlt:=bG this;rw[Array.getElem?_append,if_pos (by simp[ho1];omega),Array.getElem?_append,if_neg (by simp[ho1])];simp only[bk,ho1,cu];simpa using this
def Ow{O:aI}{st:St}{loc:Nat->Loc}{w:World}{n b:Nat}{oc oc':OC}{cs':Array Value}(g:Good cx.eT X (aA O st loc w))(hO:eS O w)
  (hob:look st.aF n=some oc)(hU:b∈(loc n).bs)(hk:aX (loc n) (loc n) oc oc')(h0:oc.lo=0)(h0':oc'.lo=0) :
  Tr (aA O st loc w) (aA O (setObj st n oc') loc (w.setRow b cs'))/\
   (OR cx.eT X (aA O (setObj st n oc') loc (w.setRow b cs')) (loc n) oc'->Good cx.eT X (aA O (setObj st n oc') loc (w.setRow b cs'))):=by
 have hsz:(w.setRow b cs').heap.size=w.heap.size:=by simp[da]
 refine pI (S:=aA O st loc w) (S':=aA O (setObj st n oc') loc (w.setRow b cs')) (n:=n) (oc:=oc) (oc':=oc') (l':=loc n) g rfl hO hob
  (fun m=>oG st n m oc') (fun m =>?_) rfl (fun _=>oh rfl) hk rfl rfl (by simp[aA,hsz]) ?_ ?_ ?_
 ·show loc m=_
  by_cases e:n=m
  ·rw[if_pos e,e]
  ·rw[if_neg e];rfl
 ·intro b' _ hb'
  exact setRow_other w b b' cs' (fun e=>hb' (by simp only[aA];rw[e];exact hU))
 ·intro b' o v _ ho;rw[h0]at ho;omega
 ·intro b' hb';exact .inl ⟨hb',by omega⟩
def BB{O:aI}{st:St}{loc:Nat->Loc}{w:World}(g:Good cx.eT X (aA O st loc w))(hO:eS O w)
  {t:TypeId}{ty:Ty}{ti:TypeInfo}{td:TypeDesc}(hf:Fit P t ty ti td){n i j:Nat}{v:cP}{K:SV->St->VC}{vx vv:Value}(hx:CR cx.eT (aA O st loc w) (.xd n (.cell i j)) vx)(hv:iv cx.eT (aA O st loc w) v vv)
  (h:(wk st n i j ty v K).holds) :
  ∃st' loc' w',(K (.s (.one .any)) st').holds/\st'.env=st.env/\Good cx.eT X (aA O st' loc' w')/\Tr (aA O st loc w) (aA O st' loc' w')/\(ck t vx vv).run P w=.ok () w':=by
 unfold wk at h;split at h
 case h_2=>exact h.elim
 rename_i e xs hob;split at h
 case h_2=>exact h.elim
 rename_i s hsp;split at h
 case h_2=>exact h.elim
 rename_i z hz hb;have:=Ty.eq_of_beq hb;subst this;obtain⟨⟨hi,hj⟩,h⟩:=h;obtain⟨hpl,hsz1⟩:=rF hsp;have hgi:=List.getElem?_eq_getElem hi;rw[iA hgi]at h hj;have hd:=X.deep.1 (g.obj n _ hob).2;obtain⟨d⟩:=tC hsp hd (by omega);obtain⟨top,hs',b,o,k0,c0,hl,hget,hvx⟩:=hx.2 _ _ hob;have hl:=d.lv.symm.trans hl;simp at hl;obtain⟨_,rfl⟩:=hl;obtain⟨c,hh,us,k1,k2,k3,k4,k5⟩:=d.rows.row i _ hgi;rw[hget]at k2;cases k2;have hsl:=Gr hsp k4 k3;obtain⟨v1,hv1,hbig,hsl2⟩:=hsl;simp at hv1;subst hv1;rcases hsl2 with⟨h0,_⟩|⟨b2,o2,cap,hv2,hcap,hrow⟩
 ·rw[h0]at hj;simp at hj
 simp at hv2;obtain⟨⟨rfl,rfl⟩,rfl,rfl⟩:=hv2;have hgj:=List.getElem?_eq_getElem hj;obtain⟨u1,hu1,hr1⟩:=hrow j _ hgj;rw[hsz1,a8]at hr1;have hu1l:u1.length=1:=by rw[hu1.length,hsz1]
 have hcb:c=some b:=by
  match u1,hu1l with
  |[x],_=>have:=(hr1 0 x rfl).2;unfold oZ at this;exact(du.1 this).symm
 subst hcb;obtain⟨hbb,vc,Tc,hheap⟩:=d.rows.yG i b k1;have hvr:=VR.cells (lO hz hv);have hul:vv.cells.toList.length=1:=by rw[hvr.length,hsz1]
 have cellAt:∀i' y,(s.get xs[i])[i']?=some y->∃us',R 0 s.t y (oZ (some b)) w us'/\us'.length=1/\∀u,us'[0]?=some u->vc[o+i']?=some u:=by
  intro i' y hy;obtain⟨us',r1,r2⟩:=hrow i' y hy;refine⟨us',r1,by rw[r1.length,hsz1],fun u hu =>?_⟩;have:w.cell? ⟨b,o+i'*s.t.size+0,none⟩=some u:=(r2 0 u hu).1;rw[hsz1,a8,bj,cell_of_row w b _ vc Tc (0,0) hheap]at this;exact this
 have hfit:o+j+vv.cells.toList.length<=vc.size:=by
  obtain⟨us',_,r2,r3⟩:=cellAt j _ hgj;have:=(Array.getElem?_eq_some_iff.1 (r3 _ (List.getElem?_eq_getElem (show 0<us'.length by omega)))).1;omega
 have hU:b∈(loc n).bs:=by rw[show(loc n).bs=_ from d.lb];exact cf _ (fN.2 ⟨i,k1⟩)
 subst hvx;have hrun:=run_store hf (b:=b) (o:=o+j) rfl hvr.length hvr.lj hheap hfit;generalize hvc':(vc.toList.take (o+j)++vv.cells.toList++vc.toList.drop (o+j+vv.cells.toList.length)).toArray=vc' at hrun;have hget':∀k:Nat,vc'[k]?=if k<o+j then vc[k]? else if k<o+j+vv.cells.toList.length then vv.cells.toList[k-(o+j)]? else vc[k]?:=by
  intro k;rw[<-hvc',List.getElem?_toArray,iC _ _ _ _ (by simpa using hfit)];simp
 have hheap':=setRow_heap w b vc vc' Tc (0,0) hheap;have hst:=Ow (oc':=.ext 0 (.slice e) (List.set xs i (s.put xs[i] ((s.get xs[i]).set j z)))) (cs':=vc') g hO hob hU (by simp[aX]) rfl rfl;have hother:∀b',b'≠b->(w.setRow b vc').heap[b']?=w.heap[b']?:=fun b' hne=>setRow_other w b b' vc' hne
 have hnewrow:R 0 (.slice s.t) ((s.get xs[i]).set j z) (oZ (some b)) (w.setRow b vc') [.slice (some ⟨b,o,none⟩) (s.get xs[i]).length c0]:=by
  refine⟨_,rfl,by rw[bb];exact hbig,.inr ⟨b,o,c0,by rw[bb],by rw[bb];exact hcap,fun i' y hy =>?_⟩⟩;by_cases e':j=i'
  ·subst e'
   rw[List.getElem?_set_self hj]at hy;cases hy;refine⟨vv.cells.toList,j0 hpl hvr,fun q u hq=>⟨?_,by simp[oZ]⟩⟩;have hq':=bG hq;rw[hsz1,a8,cell_of_row _ b _ vc' Tc (0,0) hheap',hget',if_neg (by omega),if_pos (by omega),show o+j+q-(o+j)=q from by omega];exact hq
  ·rw[List.getElem?_set_ne e']at hy
   obtain⟨us',r1,r2,r3⟩:=cellAt i' y hy;refine⟨us',j0 hpl r1,fun q u hq=>⟨?_,by simp[oZ]⟩⟩;have hq':=bG hq;have hq0:q=0:=by omega
   subst hq0;rw[hsz1,a8,bj,cell_of_row _ b _ vc' Tc (0,0) hheap',hget'];rw[hul];have:=r3 u hq;by_cases h1:o+i'<o+j
   ·rw[if_pos h1];exact this
   ·rw[if_neg h1,if_neg (by omega)];exact this
 refine⟨_,_,_,h,rfl,hst.2 (X.deep.2 ⟨s,hsp,d.top,d.hs,d.lv,.inr ⟨d.b,d.vs,d.T,d.cap,d.cs,by rw[bb];exact d.tv,d.lb,?_,d.size,by rw[bb];exact d.fit,by rw[bb];exact d.aN,?_⟩⟩),hst.1,hrun⟩
 ·exact(hother d.b (fun e'=>hbb e'.symm)).trans d.heap
 ·refine⟨by rw[bb];exact d.rows.hl,by rw[bb];exact d.rows.cl,d.rows.inj,fun i' c' hi' =>?_,fun i' y hy =>?_⟩
  ·refine⟨(d.rows.yG i' c' hi').1,?_⟩
   by_cases e':c'=b
   ·subst e';exact⟨vc',Tc,hheap'⟩
   ·obtain⟨vs',T',hh'⟩:=(d.rows.yG i' c' hi').2
    exact⟨vs',T',(hother c' e').trans hh'⟩
  ·by_cases e':i=i'
   ·subst e'
    rw[List.getElem?_set_self hi]at hy;cases hy;exact⟨some b,_,us,k1,hget,k3,RI hsp k4 k3 hnewrow,k5⟩
   ·rw[List.getElem?_set_ne e']at hy
    obtain⟨c',h',us',q1,q2,q3,q4,q5⟩:=d.rows.row i' y hy;refine⟨c',h',us',q1,q2,q3,q4.frame (si fun b' eb=>hother b' fun eb' =>?_),q5⟩;subst eb';exact e' (d.rows.inj i i' b' k1 (by rw[q1,eb]))
end
end Go.Vg

