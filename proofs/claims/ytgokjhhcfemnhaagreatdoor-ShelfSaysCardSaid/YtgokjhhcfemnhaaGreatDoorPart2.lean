/- A part of the proof that the law ShelfSaysCard holds of the given program: facts that are used there. -/
import Derived.Test.YtgokjhhcfemnhaaGreatDoorPart1
import Derived.Deep.LoopGhost
import Derived.ProofKit
import Derived.KernelRfl
import Derived.Deep.Heap
import Derived.Room.AppendFits
import Derived.Lib.UnsafeStr
import Derived.Lib.SplitLaws
import Derived.Lib.ItoaNum
import Derived.Lib.AtoiAll
set_option linter.unusedSimpArgs false
set_option linter.unusedVariables false
namespace Go.Vg
open Go.RowKit
def dR:List Cl->Bool
 | []=>true
 | .d t :: r=>t.flat && dR r
 | _ :: r=>dR r
def cK:List Ob->Bool
 | []=>true
 | .box _ cls :: r=>dR cls && cK r
 | .row _ t :: r=>t.flat && cK r
 | .tok t :: r=>t.flat && cK r
 | .ext _ _ :: r=>cK r
def mU:List Ob->Bool
 | []=>true
 | .tok _ :: _=>false
 | _ :: r=>mU r
section
variable {eT:TypeId} {X:Ext}
theorem VR.to {t:Ty} {x:D t} {S S':aH} {v:Value} (hw:S'.w=S.w) (hA:t.flat=true\/∀b o,S'.A b o->S.A b o) (h:VR eT t x S.A S.w v):VR eT t x S'.A S'.w v:=by
 rcases hA with hA | hA
 ·exact VR.of_flat hA h
 ·rw [hw];exact VR.Dt h fun b o k h'=>k (hA b o h')
def Laid (eT:TypeId) (S:aH):(os:List Ob)->PD os->List Nat->List Loc->Prop
 | [],_,ns,ls=>ns = []/\ls = []
 | o :: r,x,n :: ns,l :: ls=>(S.loc n=l/\n < S.next/\(match o,x.1 with
  | .box _ _,_=>∃b,l.v = .pointer (some ⟨b,0,none⟩)
  | .tok t,y=>VR eT (.slice t) y S.A S.w l.v/\∀ys,S.ob n=some (.tok t ys)->ys=y
  | .row _ _,_=>∃a k c,l.v = .slice a k c
  | .ext 0 _,_=>∃v,∃hs:List Value,l.v = .tuple (v :: hs).toArray
  | .ext (_ + 1) _,_=>qq l.v=l.v))/\Laid eT S r x.2 ns ls
 | _,_,_,_=>False
theorem qt {S:aH}:∀{os:List Ob} {x:PD os} {ns:List Nat} {ls:List Loc} {k:Nat} {v:Value},Laid eT S os x ns ls->vO ls k v->CR eT S (cM os x ns k) v:=by
 intro os
 induction os with
 | nil=>intro x ns ls k v h hr;exact trivial
 | cons o r ih=>
  intro x ns ls k v h hr
  match ns,ls,h with
  | n :: ns,l :: ls,⟨⟨h1,h2,h3⟩,h4⟩=>
   obtain ⟨l0,hl,hv⟩:=hr
   cases k with
   | succ k=>exact ih h4 ⟨l0,by simpa using hl,hv⟩
   | zero=>
    simp at hl
    subst hl
    subst hv
    show CR eT S (Kd o x.1 n) _
    cases o with
    | box T cls=>
     obtain ⟨b,hb⟩:=h3
     rw [hb]
     exact ⟨h2,fun T cs _=>⟨b,by rw [h1];exact hb,rfl⟩⟩
    | row kp t=>
     obtain ⟨a,k,c,hb⟩:=h3
     rw [hb]
     exact ⟨h2,fun t xs _=>by rw [h1,hb];rfl⟩
    | tok t=>
     obtain ⟨a,c,hb,_⟩:=nP h3.1
     rw [show qq l.v=l.v by rw [hb];rfl]
     exact ⟨h3.1,h2,fun ys hy=>by rw [h3.2 ys hy];exact ⟨Nat.le_refl _,fun _=>by rw [h1]⟩⟩
    | ext k t=>
     cases k with
     | zero=>
      obtain ⟨v,hs,hb⟩:=h3
      rw [hb]
      exact ⟨h2,fun t x _=>⟨hs,by rw [h1,hb];rfl⟩⟩
     | succ k=>
      rw [show qq l.v=l.v from h3]
      exact ⟨h2,fun oc _ _=>by rw [h1]⟩
theorem Ht {S S':aH} {F:Nat->Value->Prop} {f:Nat->C} (hw:S'.w=S.w) (hF:∀k v,F k v->CR eT S' (f k) v):∀{cls:List Cl} {x:CD cls} {vs:List Value},
  (dR cls=true\/∀b o,S'.A b o->S.A b o)->nA eT S F cls x vs->(∀v∈vs,v.oneCell'=true)->bR eT S' (zB f cls x) vs:=by
 intro cls
 induction cls with
 | nil=>intro x vs _ h _;rw [show vs = [] from h];exact .nil
 | cons cl r ih=>
  intro x vs hA h h1
  cases vs with
  | nil=>cases cl <;> exact h.elim
  | cons v vs=>
   have hr:dR r=true\/∀b o,S'.A b o->S.A b o:=by
    rcases hA with hA | hA
    ·left;cases cl <;> simp [dR] at hA <;> first | exact hA.2 | exact hA
    ·exact .inr hA
   cases cl with
   | d t=>
    refine .cons (VR.to hw ?_ h.1) (h1 v (by simp)) (ih hr h.2 fun u hu=>h1 u (by simp [hu]))
    rcases hA with hA | hA
    ·left;simp [dR] at hA;exact hA.1
    ·exact .inr hA
   | obj k=>exact .cons (hF k v h.1) (h1 v (by simp)) (ih hr h.2 fun u hu=>h1 u (by simp [hu]))
   | c8=>exact .cons h.1 (h1 v (by simp)) (ih hr h.2 fun u hu=>h1 u (by simp [hu]))
theorem zE {S S':aH} {F:Nat->Value->Prop} {f:Nat->C} (hw:S'.w=S.w) (hF:∀k v,F k v->CR eT S' (f k) v):∀{cls:List Cl} {x:CD cls} {vs:List Value},
  (dR cls=true\/∀b o,S'.A b o->S.A b o)->nA eT S F cls x vs->bc eT S' (qn f cls x) vs:=by
 intro cls
 induction cls with
 | nil=>intro x vs _ h;rw [show vs = [] from h];exact .nil
 | cons cl r ih=>
  intro x vs hA h
  cases vs with
  | nil=>cases cl <;> exact h.elim
  | cons v vs=>
   have hr:dR r=true\/∀b o,S'.A b o->S.A b o:=by
    rcases hA with hA | hA
    ·left;cases cl <;> simp [dR] at hA <;> first | exact hA.2 | exact hA
    ·exact .inr hA
   cases cl with
   | d t=>
    refine .cons (show VR eT t x.1 S'.A S'.w v from VR.to hw ?_ h.1) (ih hr h.2)
    rcases hA with hA | hA
    ·left;simp [dR] at hA;exact hA.1
    ·exact .inr hA
   | obj k=>exact .cons (hF k v h.1) (ih hr h.2)
   | c8=>exact .cons h.1 (ih hr h.2)
theorem eX.to {S S':aH} {t:Ty} {xs:List (D t)} {vs:Array Value} (hw:S'.w=S.w) (hA:t.flat=true\/∀b o,S'.A b o->S.A b o) (h:eX eT S t xs vs):eX eT S' t xs vs:=by
 intro i y hy
 obtain ⟨us,h1,h2⟩:=h i y hy
 refine ⟨us,?_,h2⟩
 rcases hA with hA | hA
 ·exact h1.of_flat hA
 ·rw [hw];exact h1.frame fun b o v k h'=>⟨h',fun h''=>k (hA b o h'')⟩
theorem th.to {S S':aH} {t:Ty} {xs:List (D t)} {l:Loc} (hw:S'.w=S.w) (hA:t.flat=true\/∀b o,S'.A b o->S.A b o) (h:OR eT X S l (.ax t xs)):OR eT X S' l (.ax t xs):=by
 rcases h with h | ⟨b,vs,T,cap,h1,h2,h3,h4,h5,h6,h7⟩
 ·exact .inl h
 ·exact .inr ⟨b,vs,T,cap,h1,h2,by rw [hw];exact h3,h4,h5,h6,h7.to hw hA⟩
def mq (o:Ob):Bool:=cK [o]
theorem Kf {S S':aH} {F:Nat->Value->Prop} {f:Nat->C} (hw:S'.w=S.w) (hF:∀k v,F k v->CR eT S' (f k) v) {o:Ob} {x:OD o} {l:Loc}
  (hA:mq o=true\/∀b o,S'.A b o->S.A b o) (h:Fm eT X S F o x l):OR eT X S' l (kx f o x):=by
 cases o with
 | box T cls=>
  obtain ⟨b,vs,h1,h2,h3,h4,h5⟩:=h
  refine ⟨b,vs,h1,h2,by rw [hw];exact h3,Ht hw hF ?_ h4 h5⟩
  rcases hA with hA | hA
  ·left;simpa [mq,cK] using hA
  ·exact .inr hA
 | row kp t=>
  refine th.to hw ?_ h
  rcases hA with hA | hA
  ·left;simpa [mq,cK] using hA
  ·exact .inr hA
 | tok t=>
  refine th.to (X:=X) (l:=l) hw ?_ h
  rcases hA with hA | hA
  ·left;simpa [mq,cK] using hA
  ·exact .inr hA
 | ext k t=>show X.rel _ _ _ _ _;rw [hw];exact h
theorem Hu {S:aH} {t:Ty} {xs:List (D t)} {l:Loc} (h:OR eT X S l (.tok t xs)) (hA:∀b∈l.bs,∀off,off < xs.length * t.size->¬ S.A b off):VR eT (.slice t) xs S.A S.w l.v:=by
 rcases h with ⟨rfl,⟨a,ha⟩,_⟩ | ⟨b,vs,T,cap,h1,h2,h3,h4,h5,h6,he⟩
 ·exact VR.aW rfl ⟨_,rfl,by simp, .inl ⟨rfl,a,0,ha⟩⟩
 ·refine VR.aW rfl ⟨_,rfl,h6, .inr ⟨b,0,cap,h1,h5,fun i y hy => ?_⟩⟩
  obtain ⟨us,r1,r2⟩:=he i y hy
  refine ⟨us,r1,fun j u hj=>⟨?_,?_⟩⟩
  ·rw [Nat.zero_add,cell_of_row S.w b _ vs T (0,0) h3];exact r2 j u hj
  ·rw [Nat.zero_add]
   refine hA b (by rw [h2];simp) _ ?_
   have hi:=aE hy
   have hjl:=aE hj
   rw [r1.length] at hjl
   have:(i + 1) * t.size<=xs.length * t.size:=Nat.mul_le_mul_right _ hi
   rw [Nat.add_mul] at this
   omega
def b4:List Nat->List Loc->(Nat->Loc)->Nat->Loc
 | n :: ns,l :: ls,d,m=>if n=m then l else b4 ns ls d m
 | _,_,d,m=>d m
theorem fI:∀{ns:List Nat} {ls:List Loc} {d:Nat->Loc} {m:Nat},m∉ns->b4 ns ls d m=d m
 | [],_,_,_,_=>by cases ‹List Loc› <;> rfl
 | n :: ns,[],_,_,_=>rfl
 | n :: ns,l :: ls,d,m,h=>by
  simp only [List.mem_cons,not_or] at h
  simp only [b4]
  rw [if_neg (fun e=>h.1 e.symm)]
  exact fI h.2
theorem tj {n:Nat} {l:List Nat}:iK n l=true ↔ n∈l:=by
 refine ⟨oT,fun h => ?_⟩
 induction l with
 | nil=>simp at h
 | cons m r ih=>
  simp only [iK]
  split
  ·rfl
  ·rename_i hb
   rcases List.mem_cons.1 h with h | h
   ·subst h;rw [Nat.beq_refl] at hb;cases hb
   ·exact ih h
theorem iT {n:Nat} {r:List Nat} (h:nodupB (n :: r)=true):n∉r/\nodupB r=true:=by
 simp only [nodupB,Bool.and_eq_true,Bool.not_eq_true'] at h
 exact ⟨fun hm=>by rw [tj.2 hm] at h;exact absurd h.1 (by decide),h.2⟩
theorem ej:∀{ns:List Nat} {ls:List Loc} {d:Nat->Loc} {i n:Nat} {l:Loc},nodupB ns=true->ns[i]?=some n->ls[i]?=some l->b4 ns ls d n=l
 | [],_,_,_,_,_,_,h,_=>by simp at h
 | n :: ns,[],_,_,_,_,_,_,h=>by simp at h
 | n :: ns,l :: ls,d,0,m,k,_,h1,h2=>by simp at h1 h2;subst h1;subst h2;simp [b4]
 | n :: ns,l :: ls,d,i + 1,m,k,hn,h1,h2=>by
  obtain ⟨hm,hn⟩:=iT hn
  simp at h1 h2
  simp only [b4]
  rw [if_neg (fun e=>hm (by rw [e];exact List.mem_of_getElem? h1))]
  exact ej hn h1 h2
theorem jQ {cv:Bool} {ag:List (Nat × OC)} {ak:List Ob} {ν:List Nat} {f:Nat->C} {S:aH} {F:Nat->Value->Prop} {loc:Nat->Loc}:∀{os:List Ob} {x:PD os} {ns ms:List Nat} {m:Nat} {oc:OC},bS cv ag ak ν os ns=some x->Du eT X S F os x (ns.map loc)->ns.length=ms.length->
  look (fq f os x ms) m=some oc->∃(i n:Nat) (o:Ob) (y:OD o) (oc0:OC),ns[i]?=some n/\ms[i]?=some m/\os[i]?=some o/\look ag n=some oc0/\dV cv ag ak ν o oc0=some y/\oc=kx f o y/\Fm eT X S F o y (loc n):=by
 intro os
 induction os with
 | nil=>intro x ns ms m oc _ _ _ h;simp [fq,look] at h
 | cons o r ih=>
  intro x ns ms m oc hg hR hl h
  cases ns with
  | nil=>simp [bS] at hg
  | cons n ns=>
   cases ms with
   | nil=>simp at hl
   | cons k ms=>
    simp only [bS] at hg
    split at hg
    case h_2=>cases hg
    rename_i oc0 hob
    split at hg
    case h_2=>cases hg
    rename_i x0 y0 h1 h2
    cases hg
    simp only [fq,aU] at h
    split at h
    ·rename_i e
     cases h
     exact ⟨0,n,o,x0,oc0,rfl,by simp [e],rfl,hob,h1,rfl,hR.1⟩
    ·obtain ⟨i,n',o',y',oc',k1,k2,k3,k4⟩:=ih h2 hR.2 (by simpa using hl) h
     exact ⟨i + 1,n',o',y',oc',by simpa using k1,by simpa using k2,by simpa using k3,k4⟩
theorem ru {cv:Bool} {ag:List (Nat × OC)} {ak:List Ob} {ν:List Nat} {f:Nat->C} {o:Ob} {y:OD o} {oc:OC} (h:dV cv ag ak ν o oc=some y):(kx f o y).lo=oc.lo\/cv=true:=by
 cases o <;> cases oc <;> simp only [dV,reduceCtorEq] at h
 ·exact .inl rfl
 ·exact .inl rfl
 ·split at h
  ·exact .inr rfl
  ·cases h
 ·obtain ⟨e,h3⟩:=jr h
  subst e;simp only at h3;subst h3;exact .inl rfl
 ·exact .inl rfl
theorem fJ {cv:Bool} {ag:List (Nat × OC)} {ak:List Ob} {ν:List Nat} {o:Ob} {y:OD o} {oc:OC} (h:dV cv ag ak ν o oc=some y) (f:Nat->C):(∀T cls,o = .box T cls->∃cs,oc = .cells T cs)/\
  (∀k t,o = .ext k t->∃x,oc = .ext k t x)/\(∀k t,o = .row k t->cv=false->∃xs,oc = .ax t xs)/\((∀t,o≠.tok t)->cv=false->∀t xs,oc≠.tok t xs):=by
 refine ⟨fun T cls e => ?_,fun k t e => ?_,fun k t e e2 => ?_,fun h1 h2 t xs e => ?_⟩
 ·subst e
  cases oc <;> simp only [dV,reduceCtorEq] at h
  split at h
  ·rename_i hT;rw [Nat.eq_of_beq_eq_true hT];exact ⟨_,rfl⟩
  ·cases h
 ·subst e
  cases oc <;> simp only [dV,reduceCtorEq] at h
  split at h
  ·rename_i hT
   obtain ⟨e,_⟩:=zD h
   subst e
   rw [Nat.eq_of_beq_eq_true hT];exact ⟨_,rfl⟩
  ·cases h
 ·subst e;subst e2
  cases oc <;> simp only [dV,reduceCtorEq] at h
  ·obtain ⟨e,_⟩:=jr h
   subst e
   exact ⟨_,rfl⟩
 ·subst e;subst h2
  cases o <;> simp only [dV,reduceCtorEq] at h
  exact h1 _ rfl
theorem iu {cv:Bool} {ag:List (Nat × OC)} {ak:List Ob} {ν:List Nat}:∀{os:List Ob} {ns:List Nat} {x:PD os},bS cv ag ak ν os ns=some x->os.length=ns.length:=by
 intro os
 induction os with
 | nil=>intro ns x h;cases ns with | nil=>rfl | cons=>simp [bS] at h
 | cons o r ih=>
  intro ns x h
  cases ns with
  | nil=>simp [bS] at h
  | cons n ns=>
   simp only [bS] at h
   split at h
   case h_2=>cases h
   split at h
   case h_2=>cases h
   rename_i h2
   simp [ih h2]
theorem jx {f:Nat->C}:∀{os:List Ob} {x:PD os} {ms:List Nat} {m:Nat},os.length=ms.length->m∈ms->∃oc,look (fq f os x ms) m=some oc:=by
 intro os
 induction os with
 | nil=>intro x ms m h hm;cases ms with | nil=>simp at hm | cons=>simp at h
 | cons o r ih=>
  intro x ms m h hm
  cases ms with
  | nil=>simp at h
  | cons k ms=>
   simp only [fq,aU]
   by_cases e:k=m
   ·exact ⟨_,by rw [if_pos e]⟩
   ·rw [if_neg e]
    rcases List.mem_cons.1 hm with hm | hm
    ·exact (e hm.symm).elim
    ·exact ih (by simpa using h) hm
theorem lh:∀{l:List Nat} {i j n:Nat},nodupB l=true->l[i]?=some n->l[j]?=some n->i=j
 | [],_,_,_,_,h,_=>by simp at h
 | m :: r,0,0,_,_,_,_=>rfl
 | m :: r,0,j + 1,n,hn,h1,h2=>by
  simp at h1 h2;subst h1
  exact ((iT hn).1 (List.mem_of_getElem? h2)).elim
 | m :: r,i + 1,0,n,hn,h1,h2=>by
  simp at h1 h2;subst h2
  exact ((iT hn).1 (List.mem_of_getElem? h1)).elim
 | m :: r,i + 1,j + 1,n,hn,h1,h2=>by
  simp at h1 h2
  rw [lh (iT hn).2 h1 h2]
theorem qu {a:Ob} {r:List Ob} (h:cK (a :: r)=true):mq a=true/\cK r=true:=by
 cases a <;> simp [cK,mq] at h ⊢ <;> exact h
theorem sa:∀{l:List Ob} {i:Nat} {o:Ob},cK l=true->l[i]?=some o->mq o=true
 | [],_,_,_,h=>by simp at h
 | a :: r,0,o,hfl,h=>by simp at h;subst h;exact (qu hfl).1
 | a :: r,i + 1,o,hfl,h=>sa (qu hfl).2 (by simpa using h)
theorem Ja {S S2:aH} {F:Nat->Value->Prop} {f:Nat->C} {loc:Nat->Loc} (hNA:∀m t ys,S2.ob m=some (.tok t ys)->∀b∈(S2.loc m).bs,∀off,off < ys.length * t.size->¬ S2.A b off) (hw:S2.w=S.w) :
  ∀{os:List Ob} {x:PD os} {ns ms:List Nat},(cK os=true\/∀b o,S2.A b o->S.A b o)->Du eT X S F os x (ns.map loc)->nodupB ms=true->ns.length=ms.length->(∀n∈ms,S2.ob n=look (fq f os x ms) n)->
   (∀(i n m:Nat),ns[i]?=some n->ms[i]?=some m->S2.loc m=loc n/\m < S2.next)->Laid eT S2 os x ms (ns.map loc):=by
 intro os
 induction os with
 | nil=>
  intro x ns ms _ h _ hl _ _
  have h:ns.map loc = []:=h
  cases ns with
  | nil=>cases ms with
   | nil=>exact ⟨rfl,rfl⟩
   | cons=>simp at hl
  | cons=>simp at h
 | cons o r ih=>
  intro x ns ms hA h hnd hl hob hloc
  cases ns with
  | nil=>exact h.elim
  | cons n ns=>
   cases ms with
   | nil=>simp at hl
   | cons m ms=>
    obtain ⟨hm,hnd'⟩:=iT hnd
    obtain ⟨h1,h2⟩:=hloc 0 n m rfl rfl
    have hA':cK r=true\/∀b o,S2.A b o->S.A b o:=by
     rcases hA with hA | hA
     ·left;cases o <;> simp [cK] at hA <;> first | exact hA.2 | exact hA
     ·exact .inr hA
    refine ⟨⟨h1,h2,?_⟩,ih hA' h.2 hnd' (by simpa using hl) (fun k hk => ?_) (fun i a b ha hb=>hloc (i + 1) a b (by simpa using ha) (by simpa using hb))⟩
    ·cases o with
     | box T cls=>obtain ⟨b,vs,k1,_⟩:=h.1;exact ⟨b,k1⟩
     | row kp t=>rcases h.1 with ⟨_,⟨a,ha⟩,_⟩ | ⟨b,vs,T,cap,ha,_⟩ <;> exact ⟨_,_,_,ha⟩
     | tok t=>
      have hobm:S2.ob m=some (.tok t x.1):=by rw [hob m (by simp)];simp [fq,aU,kx]
      refine ⟨?_,fun ys hy=>by rw [hobm] at hy;cases hy;rfl⟩
      refine Hu (X:=X) (th.to (X:=X) (l:=loc n) hw ?_ h.1) fun b hb off ho=>hNA m t x.1 hobm b (by rw [h1];exact hb) off ho
      rcases hA with hA | hA
      ·left;simp [cK] at hA;exact hA.1
      ·exact .inr hA
     | ext k t=>
      cases k with
      | zero=>
       have hd:=X.deep.1 h.1
       obtain ⟨e,s,rfl,_⟩:=mL hd
       obtain ⟨_,_,v,hs,hv,_⟩:=hd
       exact ⟨v,hs,hv⟩
      | succ k=>
       show qq (loc n).v=(loc n).v
       cases k with
       | zero=>obtain ⟨e,_,b,es,b9,hm⟩:=X.map.1 h.1;rw [hm.lv];rfl
       | succ k=>obtain ⟨a,ha⟩:=X.ptr (by omega) h.1;rw [ha];rfl
    ·rw [hob k (by simp [hk])]
     simp only [fq,aU]
     rw [if_neg (fun e=>hm (by rw [e];exact hk))]
theorem ye {cv:Bool} {ak:List Ob} {ν:List Nat} {x:PD ak} {O:ah} {st:St} {loc:Nat->Loc} {w:World} (g:Good eT X (ae O st loc w)) (hx:bS cv st.ag ak ν ak ν=some x)
  (hp:∀p∈dA ak x st.ag ak ν,p) (hnd:nodupB ν=true)
  {O2:ah} {ν2:List Nat} {rest:List (Nat × OC)} {locR:Nat->Loc} {st2:St} (hnd2:nodupB ν2=true) (hlen:ν.length=ν2.length)
  (hobjs:st2.ag=fq (cM ak x ν2) ak x ν2++rest) (hlt:∀n∈ν2,n < st2.next)
  (hO2:∀n∈ν,∀b∈(loc n).bs,∀off,¬ O2 b off)
  (hD:∀n∈ν,∀b∈(loc n).bs,∀m oc,look rest m=some oc->m∉ν2->b∉(locR m).bs)
  (hR:∀m oc,look rest m=some oc->m∉ν2->m < st2.next/\OR eT X (ae O2 st2 (b4 ν2 (ν.map loc) locR) w) (locR m) oc)
  (hR2:∀m m' oc oc' b,look rest m=some oc->look rest m'=some oc'->m∉ν2->m'∉ν2->b∈(locR m).bs->b∈(locR m').bs->m=m')
  (hR3:∀m oc b off,look rest m=some oc->m∉ν2->b∈(locR m).bs->¬ O2 b off)
  (hA:cK ak=true\/∀b o,(ae O2 st2 (b4 ν2 (ν.map loc) locR) w).A b o->(ae O st loc w).A b o)
  (hGl:∀b∈X.wy,¬ (ae O2 st2 (b4 ν2 (ν.map loc) locR) w).owns b) :
  Good eT X (ae O2 st2 (b4 ν2 (ν.map loc) locR) w)/\Laid eT (ae O2 st2 (b4 ν2 (ν.map loc) locR) w) ak x ν2 (ν.map loc):=by
 have hobs:=jP (X:=X) g hx hx hp
 have hol:=iu hx
 generalize hf:cM ak x ν2=f at hobjs
 have hob:∀m oc,(ae O2 st2 (b4 ν2 (ν.map loc) locR) w).ob m=some oc->
   (∃(i n:Nat) (o:Ob) (y:OD o) (oc0:OC),ν[i]?=some n/\ν2[i]?=some m/\look st.ag n=some oc0/\dV cv st.ag ak ν o oc0=some y/\oc=kx f o y/\Fm eT X (ae O st loc w) (vO (ν.map loc)) o y (loc n)/\
    b4 ν2 (ν.map loc) locR m=loc n/\ak[i]?=some o)\/
   (look rest m=some oc/\m∉ν2/\b4 ν2 (ν.map loc) locR m=locR m):=by
  intro m oc h
  simp only [ae,hobjs] at h
  rw [bB] at h
  split at h
  ·rename_i oc' h'
   cases h
   obtain ⟨i,n,o,y,oc0,k1,k2,k3,k4,k5,k6,k7⟩:=jQ hx hobs hlen h'
   exact .inl ⟨i,n,o,y,oc0,k1,k2,k4,k5,k6,k7,ej hnd2 k2 (by simp [k1]),k3⟩
  ·rename_i h'
   have:m∉ν2:=fun hm=>by
    obtain ⟨oc1,h1⟩:=jx (f:=f) (x:=x) (by omega) hm
    rw [h1] at h';cases h'
   exact .inr ⟨h,this,fI this⟩
 have hap:∀m m' oc oc' b,(ae O2 st2 (b4 ν2 (ν.map loc) locR) w).ob m=some oc->(ae O2 st2 (b4 ν2 (ν.map loc) locR) w).ob m'=some oc'->
   b∈(b4 ν2 (ν.map loc) locR m).bs->b∈(b4 ν2 (ν.map loc) locR m').bs->m=m':=by
  intro m m' oc oc' b h1 h2 h3 h4
  rcases hob m oc h1 with ⟨i,n,o,y,oc0,k1,k2,k4,_,_,_,k8,_⟩ | ⟨k1,k2,k3⟩ <;> rcases hob m' oc' h2 with ⟨i',n',o',y',oc0',j1,j2,j4,_,_,_,j8,_⟩ | ⟨j1,j2,j3⟩
  ·rw [k8] at h3;rw [j8] at h4
   have e:=g.apart n n' oc0 oc0' b k4 j4 h3 h4
   subst e
   have:=lh hnd k1 j1
   subst this
   rw [k2] at j2;cases j2;rfl
  ·rw [k8] at h3;rw [j3] at h4
   exact (hD n (List.mem_of_getElem? k1) b h3 m' oc' j1 j2 h4).elim
  ·rw [k3] at h3;rw [j8] at h4
   exact (hD n' (List.mem_of_getElem? j1) b h4 m oc k1 k2 h3).elim
  ·rw [k3] at h3;rw [j3] at h4
   exact hR2 m m' oc oc' b k1 j1 k2 j2 h3 h4
 have hout:∀m oc b off,(ae O2 st2 (b4 ν2 (ν.map loc) locR) w).ob m=some oc->b∈(b4 ν2 (ν.map loc) locR m).bs->¬ O2 b off:=by
  intro m oc b off h1 h2
  rcases hob m oc h1 with ⟨i,n,o,y,oc0,k1,k2,k4,_,_,_,k8,_⟩ | ⟨k1,k2,k3⟩
  ·rw [k8] at h2;exact hO2 n (List.mem_of_getElem? k1) b h2 off
  ·rw [k3] at h2;exact hR3 m oc b off k1 k2 h2
 have hNA:∀m t ys,(ae O2 st2 (b4 ν2 (ν.map loc) locR) w).ob m=some (.tok t ys)->∀b∈((ae O2 st2 (b4 ν2 (ν.map loc) locR) w).loc m).bs,∀off,off < ys.length * t.size->¬ (ae O2 st2 (b4 ν2 (ν.map loc) locR) w).A b off:=by
  rintro m t ys h1 b hb off ho (h2 | ⟨m',oc',h2,h3,h4⟩)
  ·exact hout m _ b off h1 hb h2
  ·have:=hap m m' _ oc' b h1 h2 hb h3
   subst this
   rw [h1] at h2;cases h2
   simp only [OC.lo] at h4
   omega
 have hlaid:Laid eT (ae O2 st2 (b4 ν2 (ν.map loc) locR) w) ak x ν2 (ν.map loc):=by
  refine Ja (X:=X) (S:=ae O st loc w) (f:=f) hNA rfl hA hobs hnd2 hlen (fun n hn => ?_) (fun i n m h1 h2=>⟨ej hnd2 h2 (by simp [h1]),hlt m (List.mem_of_getElem? h2)⟩)
  show look st2.ag n=_
  rw [hobjs,bB]
  obtain ⟨oc1,h1⟩:=jx (f:=f) (x:=x) (by omega) hn
  rw [h1]
 refine ⟨⟨fun m oc h => ?_,fun m m' oc oc' b h1 h2 h3 h4=>hap m m' oc oc' b h1 h2 h3 h4,fun m oc b off h1 h2=>hout m oc b off h1 h2,g.eE.1,hGl⟩,hlaid⟩
 rcases hob m oc h with ⟨i,n,o,y,oc0,k1,k2,k4,k5,k6,k7,k8,k9⟩ | ⟨k1,k2,k3⟩
 ·refine ⟨hlt m (List.mem_of_getElem? k2),?_⟩
  show OR _ _ _ (b4 ν2 (ν.map loc) locR m) oc
  rw [k8,k6]
  refine Kf (S:=ae O st loc w) (S':=ae O2 st2 (b4 ν2 (ν.map loc) locR) w) rfl (fun k v hk=>by rw [<-hf];exact qt hlaid hk) ?_ k7
  rcases hA with hA | hA
  ·left
   exact sa hA k9
  ·exact .inr hA
 ·obtain ⟨h1,h2⟩:=hR m oc k1 k2
  refine ⟨h1,?_⟩
  show OR _ _ _ (b4 ν2 (ν.map loc) locR m) oc
  rw [k3];exact h2
def upto:Nat->Nat->List Nat
 | _,0=>[]
 | k,m + 1=>k :: upto (k + 1) m
def IC (ak:List Ob) (cls:List Cl) (vs:List aZ) (ag:List (Nat × OC)) (Lm:List (Nat × Nat)):Option (List Nat):=
 match Fk cls vs Lm with
 | some as1=>match rq ag 0 ak as1 with
  | some as2=>qo as2 0 ak.length
  | none=>none
 | none=>none
theorem tl:∀(m k i:Nat),i < m->(upto k m)[i]?=some (k + i)
 | m + 1,k,0,_=>by simp [upto]
 | m + 1,k,i + 1,h=>by
  simp only [upto,List.getElem?_cons_succ]
  rw [tl m (k + 1) i (by omega)]
  congr 1;omega
theorem oV:∀{m k n:Nat},n∈upto k m->k<=n/\n < k + m
 | 0,k,n,h=>by simp [upto] at h
 | m + 1,k,n,h=>by
  simp only [upto,List.mem_cons] at h
  rcases h with h | h
  ·omega
  ·have:=oV h;omega
theorem oW:∀(m k:Nat),(upto k m).length=m
 | 0,_=>rfl
 | m + 1,k=>by simp [upto,oW m]
theorem e9:∀(m k:Nat),nodupB (upto k m)=true
 | 0,_=>rfl
 | m + 1,k=>by
  simp only [upto,nodupB,e9 m,Bool.and_true,Bool.not_eq_true']
  rw [Bool.eq_false_iff]
  intro h
  have:=oV (tj.1 h)
  omega
theorem en {cv:Bool} {ag:List (Nat × OC)} {ak:List Ob} {ν:List Nat}:∀{os:List Ob} {ns:List Nat} {x:PD os} {n:Nat},bS cv ag ak ν os ns=some x->n∈ns->
  ∃o oc y,o∈os/\look ag n=some oc/\dV cv ag ak ν o oc=some y:=by
 intro os
 induction os with
 | nil=>intro ns x n h hn;cases ns with | nil=>simp at hn | cons=>simp [bS] at h
 | cons o r ih=>
  intro ns x n h hn
  cases ns with
  | nil=>simp at hn
  | cons k ns=>
   simp only [bS] at h
   split at h
   case h_2=>cases h
   rename_i oc hob
   split at h
   case h_2=>cases h
   rename_i x0 y0 h1 h2
   rcases List.mem_cons.1 hn with e | hn
   ·subst e;exact ⟨o,oc,x0,by simp,hob,h1⟩
   ·obtain ⟨o',oc',y',k1,k2⟩:=ih h2 hn
    exact ⟨o',oc',y',by simp [k1],k2⟩
end
end Go.Vg

namespace Go.Vg
open Go.RowKit
inductive Ex where
 | normal
 | exit (n:Nat)
 | ret
def yf:(cls:List Cl)->CD cls
 | []=>()
 | .d t :: r=>(bp t,yf r)
 | .obj _ :: r=>yf r
 | .c8 :: r=>yf r
def KN:(o:Ob)->OD o
 | .box _ cls=>yf cls
 | .row _ _=>[]
 | .tok _=>[]
 | .ext _ t=>bp t
def Dw:(os:List Ob)->PD os
 | []=>()
 | o :: r=>(KN o,Dw r)
structure eI:Type 1 where
 X:Type
 inv:X->Prop
 bV:X->Nat
 ba:X->List (Nat × SV)
 ag:X->List (Nat × OC):=fun _=>[]
 keep:List Nat
 cL:List Nat:=[]
 gS:List Nat:=[]
 ak:List Ob:=[]
 refs:List (Nat × Nat):=[]
 pd:X->PD ak:=fun _=>Dw ak
@[reducible] def sI (x:Int):SV:=.s (.one (.d (.int .i64) x))
@[reducible] def sB (x:Bool):SV:=.s (.one (.d .bool x))
@[reducible] def sS (x:List UInt8):SV:=.s (.one (.d .str x))
@[reducible] def sD (t:Ty) (x:D t):SV:=.s (.one (.d t x))
abbrev cC:=List (Nat × (St->eI))
def oX:C->C->Prop
 | .lit b, .d .bool c=>b=c
 | .d t x, .d t' y=>match h:Ty.beq t t' with
  | true=>aX h x=y
  | false=>False
 | .app t xs n, .app t' ys m=>match h:Ty.beq (.slice t) (.slice t'),Nat.beq n m with
  | true,true=>aX h (a:=.slice t) (b:=.slice t') xs=ys
  | _,_=>False
 | a,b=>a=b
def gT:SV->SV->Prop
 | .s (.one a), .s (.one b)=>oX a b
 | a,b=>a=b
def qv:List C->List C->Prop
 | [],[]=>True
 | a :: Lm,b :: bs=>oX a b/\qv Lm bs
 | _,_=>False
def gU:OC->OC->Prop
 | .cells T cs, .cells T' cs'=>match Nat.beq T T' with
  | true=>qv cs cs'
  | false=>False
 | .ax t xs, .ax t' ys=>match h:Ty.beq (.slice t) (.slice t') with
  | true=>aX h (a:=.slice t) (b:=.slice t') xs=ys
  | false=>False
 | .arr t xs, .arr t' ys=>match h:Ty.beq (.slice t) (.slice t') with
  | true=>aX h (a:=.slice t) (b:=.slice t') xs=ys
  | false=>False
 | .tok t xs, .tok t' ys=>match h:Ty.beq (.slice t) (.slice t') with
  | true=>aX h (a:=.slice t) (b:=.slice t') xs=ys
  | false=>False
 | .ext k t x, .ext k' t' y=>match Nat.beq k k',h:Ty.beq t t' with
  | true,true=>aX h x=y
  | _,_=>False
 | .iter cs seen cl, .iter cs' seen' cl'=>qv cs cs'/\seen=seen'/\cl=cl'
 | _,_=>False
def gm (st:St):List (Nat × SV)->Prop
 | []=>True
 | (n,v) :: r=>match look st.env n with
  | some u=>gT u v/\gm st r
  | none=>False
def gn (st:St):List (Nat × OC)->Prop
 | []=>True
 | (n,v) :: r=>match look st.ag n with
  | some u=>gU u v/\gn st r
  | none=>False
def iv (st:St):List Nat->List (Nat × SV)
 | []=>[]
 | t :: r=>match look st.env t with
  | some v=>(t,v) :: iv st r
  | none=>iv st r
def dw (st:St):List Nat->List (Nat × OC)
 | []=>[]
 | t :: r=>match look st.ag t with
  | some v=>(t,v) :: dw st r
  | none=>dw st r
def aQ (an:eI) (st:St) (x:an.X):St:=
 {env:=an.ba x++iv st an.keep,ag:=an.ag x++dw st an.cL,next:=st.next}
def bM (l:List Oper):List Nat:=l.filterMap (·.dst)
def writes (anns:cC):Nat->Code->List Nat
 | _, .region _ ops _=>bM ops.toList
 | k, .seq a b=>writes anns k a++writes anns k b
 | k, .cond _ a b=>writes anns k a++writes anns k b
 | _, .block id b=>writes anns id b
 | k, .loop b=>match look anns (k + 200000) with
  | some _=>allM :: writes anns k b
  | none=>writes anns k b
 | _,_=>[]
def oY (n:Nat):List Nat->Bool
 | []=>false
 | m :: r=>match Nat.beq m n with
  | true=>true
  | false=>oY n r
def mV (l:List Nat) (W:List Nat):Bool:=match l with
 | []=>true
 | _ => !(oY allM W) && l.all fun n => !(oY n W)
def eo (k:Nat):List Nat->Bool
 | []=>true
 | n :: r=>Nat.blt n k && eo k r
def jR (k:Nat):C->Bool
 | .app _ _ n | .ax n | .jl n | .cV n | .xd n _ | .ref n _ | .me n | .fN n _ _ _ | .jB n _ _ _=>Nat.blt n k
 | .fn _ caps=>eo k caps
 | _=>true
def jy (k:Nat):List C->Bool
 | []=>true
 | c :: r=>jR k c && jy k r
def zF (k:Nat):aZ->Bool
 | .one c=>jR k c
 | .agg cs=>jy k cs
def dW (k:Nat):List (Nat × SV)->Bool
 | []=>true
 | (_, .s v) :: r=>zF k v && dW k r
 | (_, .gK _) :: _=>false
def Cy (k:Nat):OC->Bool
 | .cells _ cs=>jy k cs
 | .iter cs _ _=>jy k cs
 | _=>true
def dN (k:Nat):List (Nat × OC)->Bool
 | []=>true
 | (n,oc) :: r=>Nat.blt n k && Cy k oc && dN k r
def gV (env:List (Nat × SV)):List Nat->Bool
 | []=>true
 | t :: r=>match look env t with
  | some _=>gV env r
  | none=>false
def gW (W:List Nat):List (Nat × SV)->Bool
 | []=>true
 | (n,_) :: r=>oY n W && gW W r
def ux (env:List (Nat × SV)):List Nat->List Nat
 | []=>[]
 | t :: r=>match look env t with
  | some (.s _)=>t :: ux env r
  | _=>ux env r
def lj (gS:List Nat):List (Nat × OC)->List Nat
 | []=>[]
 | (n,_) :: r=>match oY n gS with
  | true=>lj gS r
  | false=>n :: lj gS r
def rv (st:St) (an:eI):eI:=
 {an with keep:=ux st.env an.keep,cL:=match an.cL with
  | []=>lj an.gS st.ag
  | l=>l}
def jS (ty:Ty) (st:St) (t:Nat):D ty:=
 match look st.env t with
 | some (.s c)=>match lF ty c with
  | some x=>x
  | none=>bp ty
 | _=>bp ty
def cp (st:St) (t:Nat):Nat:=
 match look st.env t with
 | some (.s (.one (.ax n)))=>n
 | some (.s (.one (.jl n)))=>n
 | some (.s (.one (.cV n)))=>n
 | some (.s (.one (.xd n _)))=>n
 | some (.s (.one (.ref n _)))=>n
 | some (.s (.one (.app _ _ n)))=>n
 | _=>0
def kS (st:St) (n k:Nat):Nat:=
 match look st.ag n with
 | some (.cells _ cs)=>match cs[k]? with
  | some (.ax m)=>m
  | some (.ref m _)=>m
  | some (.app _ _ m)=>m
  | some (.cV m)=>m
  | some (.xd m _)=>m
  | _=>0
 | _=>0
def Jb (_:Nat) (_:St):Prop:=False
def fy (an:eI) (st st':St):VC:=
 match gV st'.env an.keep with
 | true => .leaf (∃x',an.inv x'/\gm st' (an.ba x')/\gn st' (an.ag x'++dw st an.cL))
 | false => .ff
def ID (st:St):List (Nat × Nat)->Option (List (Nat × Nat))
 | []=>some []
 | (t,k) :: r=>match look st.env t,ID st r with
  | some (.s (.one c)),some Lm=>match IB c with
   | some n=>match look Lm k with
    | some _=>some Lm
    | none=>some ((k,n) :: Lm)
   | none=>none
  | _,_=>none
def qw (st:St) (an:eI):Option (List Nat):=
 match ID st an.refs with
 | some as1=>match rq st.ag 0 an.ak as1 with
  | some as2=>qo as2 0 an.ak.length
  | none=>none
 | none=>none
def nY (st:St) (an:eI) (ν:List Nat):List (Nat × Nat)->Bool
 | []=>true
 | (t,k) :: r=>(match look st.env t with
  | some (.s (.one c))=>eA false st.ag an.ak ν k c
  | _=>false) && nY st an ν r
def ry (st:St) (an:eI) (y:PD an.ak):List (Nat × Nat)->List Prop
 | []=>[]
 | (t,k) :: r=>(match look st.env t with
  | some (.s (.one c))=>nz an.ak y k c
  | _=>[])++ry st an y r
def nZ (an:eI) (y:PD an.ak) (us:List Nat):List (Nat × Nat)->List (Nat × SV)
 | []=>[]
 | (t,k) :: r=>(t, .s (.one (cM an.ak y us k))) :: nZ an y us r
def lQ (an:eI) (st:St) (x:an.X):List (Nat × SV):=an.ba x++iv st an.keep
def fT (an:eI) (st:St) (x:an.X):List (Nat × OC):=an.ag x++dw st an.cL
def bI (an:eI) (st:St) (x:an.X):St:=
 {env:=nZ an (an.pd x) (upto st.next an.ak.length) an.refs++lQ an st x,
  ag:=fq (cM an.ak (an.pd x) (upto st.next an.ak.length)) an.ak (an.pd x) (upto st.next an.ak.length)++fT an st x,next:=st.next + an.ak.length}
def jz (ν:List Nat):List (Nat × OC)->Bool
 | []=>true
 | (n,_) :: r => !(iK n ν) && jz ν r
def lk (keep:List Nat):List (Nat × Nat)->Bool
 | []=>true
 | (t,_) :: r => !(oY t keep) && lk keep r
def iU (an:eI) (st:St) (W:List Nat) (x:an.X):Bool:=dW st.next (lQ an st x) && (dN st.next (fT an st x) && (gW W (an.ba x) && lk an.keep an.refs))
def zG (st:St) (an:eI):eI:=
 {an with keep:=(ux st.env an.keep).filter (fun t=>lk [t] an.refs),cL:=match an.cL with
  | []=>lj (an.gS++(match qw st an with | some l=>l | none=>[])) st.ag
  | l=>l}
def uy (an:eI) (st st':St) (more:an.X->Prop):VC:=
 match qw st' an with
 | some ν=>match nodupB ν && (nY st' an ν an.refs),bS false st'.ag an.ak ν an.ak ν with
  | true,some y => .leaf (zC (ry st' an y an.refs++dA an.ak y st'.ag an.ak ν++[∃x',an.inv x'/\more x'/\gm st' (an.ba x')/\gn st' (an.ag x'++dw st an.cL)/\(jz ν (fT an st x')=true/\y=an.pd x')]))
  | _,_ => .ff
 | none => .ff
def rA (cx:Cx) (ops:Array Oper) (draw:Bool) (st:St) (K:St->VC):VC:=
 match draw with
 | false=>ya cx ops.toList ops.toList st K
 | true=>match oP ops with
  | true=>J6 cx ops st fun st'=>K (canon st.next (bM ops.toList) st')
  | false => .ff
def gX:Code->Nat->Nat
 | .region id _ _,_=>id
 | .seq a b,d=>gX a (gX b d)
 | .cond _ a b,d=>gX a (gX b d)
 | .block _ b,d=>gX b d
 | .loop b,d=>gX b d
 | _,d=>d
def vc (cx:Cx) (anns:cC):Code->Nat->St->(Ex->St->VC)->VC
 | .skip,_,st,K=>K .normal st
 | .region id ops draw,_,st,K=>match (look anns (id + 300000)).map (fun f=>rv st (f st)) with
  | none=>rA cx ops draw st (K .normal)
  | some an=>match mV an.keep (bM ops.toList) with
   | true => .both (rA cx ops draw st (fy an st))
    (.all an.X fun x => .imp (an.inv x) (match dW st.next (aQ an st x).env && (dN st.next (aQ an st x).ag && gW (bM ops.toList) (an.ba x)) with
     | true=>K .normal (aQ an st x)
     | false => .ff))
   | false => .ff
 | .seq a b,cur,st,K=>vc cx anns a cur st fun e st'=>match e with
  | .normal=>vc cx anns b cur st' K
  | e=>K e st'
 | .cond c a b,cur,st,K=>match (look anns (gX a (gX b 0) + 400000)).map (fun f=>rv st (f st)) with
  | none=>match bP st.env c with
   | .lit true=>vc cx anns a cur st K
   | .lit false=>vc cx anns b cur st K
   | .d .bool g => .ite g (vc cx anns a cur st K) (vc cx anns b cur st K)
   | _ => .ff
  | some an=>match mV an.keep (writes anns cur (.cond c a b)) with
   | true => .both (match bP st.env c with
    | .lit true=>vc cx anns a cur st fun e st'=>match e with
     | .normal=>fy an st st'
     | e=>K e st'
    | .lit false=>vc cx anns b cur st fun e st'=>match e with
     | .normal=>fy an st st'
     | e=>K e st'
    | .d .bool g => .ite g (vc cx anns a cur st fun e st'=>match e with
     | .normal=>fy an st st'
     | e=>K e st') (vc cx anns b cur st fun e st'=>match e with
     | .normal=>fy an st st'
     | e=>K e st')
    | _ => .ff)
    (.all an.X fun x => .imp (an.inv x) (match dW st.next (aQ an st x).env && (dN st.next (aQ an st x).ag && gW (writes anns cur (.cond c a b)) (an.ba x)) with
     | true=>K .normal (aQ an st x)
     | false => .ff))
   | false => .ff
 | .block id b,_,st,K=>match (look anns (id + 100000)).map (fun f=>rv st (f st)) with
  | none=>vc cx anns b id st fun e st'=>match e with
   | .exit i=>match Nat.beq i id with
    | true=>K .normal st'
    | false=>K (.exit i) st'
   | e=>K e st'
  | some an=>match mV an.keep (writes anns id b) with
   | true => .both (vc cx anns b id st fun e st'=>match e with
    | .exit i=>match Nat.beq i id with
     | true=>fy an st st'
     | false=>K (.exit i) st'
    | .normal=>fy an st st'
    | .ret=>K .ret st')
    (.all an.X fun x => .imp (an.inv x) (match dW st.next (aQ an st x).env && (dN st.next (aQ an st x).ag && gW (writes anns id b) (an.ba x)) with
     | true=>K .normal (aQ an st x)
     | false => .ff))
   | false => .ff
 | .loop b,cur,st,K=>match look anns (cur + 200000) with
  | none=>match (look anns cur).map (fun f=>rv st (f st)) with
   | some an=>match mV an.keep (writes anns cur b) with
    | true => .and (∃x,an.inv x/\gm st (an.ba x)/\gn st (an.ag x))
      (.all an.X fun x => .imp (an.inv x) (match dW st.next (aQ an st x).env && (dN st.next (aQ an st x).ag && gW (writes anns cur b) (an.ba x)) with
       | true=>vc cx anns b cur (aQ an st x) fun e st'=>match e with
        | .normal=>match gV st'.env an.keep with
         | true => .leaf (∃x',an.inv x'/\an.bV x' < an.bV x/\gm st' (an.ba x')/\gn st' (an.ag x'++dw st an.cL))
         | false => .ff
        | e=>K e st'
       | false => .ff))
    | false => .ff
   | none => .leaf (Jb cur st)
  | some f=>match zG st (f st) with
   | an=>match mV an.keep (writes anns cur b) with
    | true => .both (uy an st st fun _=>True)
      (.all an.X fun x => .imp (an.inv x) (match iU an st (writes anns cur b) x with
       | true=>vc cx anns b cur (bI an st x) fun e st'=>match e with
        | .normal=>match gV st'.env an.keep with
         | true=>uy an st st' fun x'=>an.bV x' < an.bV x
         | false => .ff
        | e=>K e st'
       | false => .ff))
    | false => .ff
 | .exit id,_,st,K=>K (.exit id) st
 | .ret,_,st,K=>K .ret st
 | _,_,_,_ => .ff
section
variable {X:Ext} {P:Program} {cx:Cx}
theorem wN {S:aH} {a b:C} {v:Value} (h:oX a b) (hv:CR cx.eT S a v):CR cx.eT S b v:=by
 unfold oX at h
 split at h
 ·subst h;exact bX.2 hv
 ·split at h
  ·rename_i hb
   subst h
   exact fO hb _ hv
  ·exact h.elim
 ·split at h
  ·rename_i t xs n t' ys m _ hb hn
   have hn:=Nat.eq_of_beq_eq_true hn
   subst hn
   have:t=t':=by have:=Ty.eq_of_beq hb;cases this;rfl
   subst this
   rw [cF] at h
   subst h
   exact hv
  ·exact h.elim
 ·subst h;exact hv
theorem oZ {S:aH} {a b:SV} {v:Value} (h:gT a b) (hv:bH cx.eT S a v):bH cx.eT S b v:=by
 unfold gT at h
 split at h
 ·exact wN h hv
 ·subst h;exact hv
theorem uz {S:aH}:∀{Lm bs:List C} {vs:List Value},qv Lm bs->bR cx.eT S Lm vs->bR cx.eT S bs vs:=by
 intro Lm
 induction Lm with
 | nil=>
  intro bs vs h hv
  cases bs with
  | nil=>exact hv
  | cons=>exact h.elim
 | cons a Lm ih=>
  intro bs vs h hv
  cases bs with
  | nil=>exact h.elim
  | cons b bs=>
   cases hv with
   | cons h1 h2 h3=>exact .cons (wN h.1 h1) h2 (ih h.2 h3)
theorem o1 {S:aH} {l:Loc} {a b:OC} (h:gU a b) (hv:OR cx.eT X S l a):OR cx.eT X S l b/\aw l l a b/\a.lo=b.lo:=by
 unfold gU at h
 split at h
 ·split at h
  ·rename_i hT
   have:=Nat.eq_of_beq_eq_true hT
   subst this
   obtain ⟨b,vs,h1,h2,h3,h4⟩:=hv
   exact ⟨⟨b,vs,h1,h2,h3,uz h h4⟩,rfl,rfl⟩
  ·exact h.elim
 ·split at h
  ·rename_i t xs t' ys hb
   have:t=t':=by have:=Ty.eq_of_beq hb;cases this;rfl
   subst this;rw [cF] at h;subst h
   exact ⟨hv,rfl,rfl⟩
  ·exact h.elim
 ·split at h
  ·rename_i t xs t' ys hb
   have:t=t':=by have:=Ty.eq_of_beq hb;cases this;rfl
   subst this;rw [cF] at h;subst h
   exact ⟨hv,rfl,rfl⟩
  ·exact h.elim
 ·split at h
  ·rename_i t xs t' ys hb
   have:t=t':=by have:=Ty.eq_of_beq hb;cases this;rfl
   subst this;rw [cF] at h;subst h
   exact ⟨hv,⟨rfl,Nat.le_refl _,fun _=>rfl⟩,rfl⟩
  ·exact h.elim
 ·split at h
  ·rename_i k t x k' t' y hk hb
   have:=Nat.eq_of_beq_eq_true hk
   subst this
   have:=Ty.eq_of_beq hb
   subst this;rw [ec] at h;subst h
   exact ⟨hv,⟨rfl,rfl⟩,rfl⟩
  ·exact h.elim
 ·obtain ⟨h1,rfl,rfl⟩:=h
  obtain ⟨b,m,c,sn,k1,k2,k3,k4,k5,k6⟩:=hv
  exact ⟨⟨b,m,c,sn,k1,k2,k3,uz h1 k4,k5,k6⟩,trivial,rfl⟩
 ·exact h.elim
theorem o3 {n:Nat} {l:List Nat}:oY n l=true ↔ n∈l:=by
 induction l with
 | nil=>simp [oY]
 | cons m r ih=>
  simp only [oY,List.mem_cons]
  by_cases h:m=n
  ·subst h;simp [Nat.beq_refl]
  ·rw [iM h];simp only [ih]
   constructor
   ·exact .inr
   ·rintro (h' | h')
    ·exact absurd h'.symm h
    ·exact h'
theorem mW {l W:List Nat} (h:mV l W=true):∀n∈l,allM∉W/\n∉W:=by
 intro n hn
 unfold mV at h
 split at h
 ·simp at hn
 ·simp only [Bool.and_eq_true,List.all_eq_true,Bool.not_eq_true'] at h
  exact ⟨fun hW=>by rw [o3.2 hW] at h;exact absurd h.1 (by decide),fun hW=>by have:=h.2 n hn;rw [o3.2 hW] at this;cases this⟩
def dO (cx:Cx) (X:Ext) (O:ah) (K:Ex->St->VC) (W:List Nat) (st:St) (S:aH):Exit->Act->World->Prop
 | .normal,a,w=>cB cx X O (K .normal) W st S a w
 | .exit n,a,w=>cB cx X O (K (.exit n)) W st S a w
 | .ret,a,w=>cB cx X O (K .ret) W st S a w
 | _,_,_=>False
theorem dO.mono {O:ah} {K:Ex->St->VC} {W W':List Nat} {st st1:St} {S S1:aH} {e:Exit} {a:Act} {w:World} (h:dO cx X O K W st1 S1 e a w) (ht:Tr S S1) (ha:ir W' st st1) (hW:∀n∈W,n∈W'):dO cx X O K W' st S e a w:=by
 have key:∀K:St->VC,cB cx X O K W st1 S1 a w->cB cx X O K W' st S a w:=by
  rintro K ⟨st',loc',k1,k2,k3,k4,k5⟩
  exact ⟨st',loc',k1,k2,ht.trans k3,k4,ha.trans fun hm t ht=>k5 (fun h=>hm (hW _ h)) t fun h=>ht (hW t h)⟩
 cases e with
 | normal=>exact key _ h
 | exit n=>exact key _ h
 | ret=>exact key _ h
 | goto l=>exact h
 | panic c=>exact h
 | outgrown=>exact h
theorem db {st:St} {l:List Nat} {n:Nat} {v:SV} (h:look (iv st l) n=some v):n∈l/\look st.env n=some v:=by
 induction l with
 | nil=>simp [iv,look] at h
 | cons t r ih=>
  simp only [iv] at h
  split at h
  ·rename_i u hu
   rw [aU] at h
   by_cases e:t=n
   ·rw [if_pos e] at h;cases h;subst e;exact ⟨by simp,hu⟩
   ·rw [if_neg e] at h;have:=ih h;exact ⟨by simp [this.1],this.2⟩
  ·have:=ih h;exact ⟨by simp [this.1],this.2⟩
theorem xY {st:St} {l:List Nat} {n:Nat} {v:OC} (h:look (dw st l) n=some v):look st.ag n=some v:=by
 induction l with
 | nil=>simp [dw,look] at h
 | cons t r ih=>
  simp only [dw] at h
  split at h
  ·rename_i u hu
   rw [aU] at h
   by_cases e:t=n
   ·rw [if_pos e] at h;cases h;subst e;exact hu
   ·rw [if_neg e] at h;exact ih h
  ·exact ih h
theorem gw {st:St} {l:List (Nat × SV)} (h:gm st l):∀{n v},look l n=some v->∃u,look st.env n=some u/\gT u v:=by
 induction l with
 | nil=>intro n v hl;simp [look] at hl
 | cons p r ih=>
  obtain ⟨m,x⟩:=p
  intro n v hl
  simp only [gm] at h
  split at h
  ·rename_i u hu
   rw [aU] at hl
   by_cases e:m=n
   ·rw [if_pos e] at hl;cases hl;subst e;exact ⟨u,hu,h.1⟩
   ·rw [if_neg e] at hl;exact ih h.2 hl
  ·exact h.elim
theorem gx {st:St} {l:List (Nat × OC)} (h:gn st l):∀{n v},look l n=some v->∃u,look st.ag n=some u/\gU u v:=by
 induction l with
 | nil=>intro n v hl;simp [look] at hl
 | cons p r ih=>
  obtain ⟨m,x⟩:=p
  intro n v hl
  simp only [gn] at h
  split at h
  ·rename_i u hu
   rw [aU] at hl
   by_cases e:m=n
   ·rw [if_pos e] at hl;cases hl;subst e;exact ⟨u,hu,h.1⟩
   ·rw [if_neg e] at hl;exact ih h.2 hl
  ·exact h.elim
theorem bh {a b:Nat} (h:Nat.blt a b=true):a < b:=gk h
theorem Dx {S S':aH} (hO:∀b o v,¬ S.A b o->S.w.cell? ⟨b,o,none⟩=some v->S'.w.cell? ⟨b,o,none⟩=some v/\¬ S'.A b o) (hloc:S'.loc=S.loc)
  (hob:∀n oc,S'.ob n=some oc->∃oc0,S.ob n=some oc0/\aw (S.loc n) (S.loc n) oc0 oc) {c:C} {v:Value} (hb:jR S'.next c=true) (hv:CR cx.eT S c v):CR cx.eT S' c v:=by
 cases c with
 | lit b=>exact hv
 | d t x=>exact VR.frame hv hO
 | app t xs n=>
  obtain ⟨h1,h2,h3⟩:=hv
  refine ⟨VR.frame h1 hO,bh hb,fun ys hy => ?_⟩
  obtain ⟨oc0,k1,k2⟩:=hob n _ hy
  cases oc0 <;> simp [aw] at k2
  obtain ⟨rfl,k3⟩:=k2
  obtain ⟨m1,m2⟩:=h3 _ k1
  rw [hloc]
  exact ⟨by omega,fun e=>m2 (by omega)⟩
 | dY=>exact hv
 | c8=>exact hv
 | emp=>exact hv
 | ax n=>
  refine ⟨bh hb,fun t xs e => ?_⟩
  obtain ⟨oc0,k1,k2⟩:=hob n _ e
  cases oc0 <;> simp [aw] at k2
  rw [hloc];exact hv.2 _ _ k1
 | jB n t lo len=>
  refine ⟨bh hb,fun xs e => ?_⟩
  obtain ⟨oc0,k1,k2⟩:=hob n _ e
  cases oc0 <;> simp [aw] at k2
  subst k2
  rw [hloc];exact hv.2 _ k1
 | jl n=>
  refine ⟨bh hb,fun t xs e => ?_⟩
  obtain ⟨oc0,k1,k2⟩:=hob n _ e
  cases oc0 <;> simp [aw] at k2
  rw [hloc];exact hv.2 _ _ k1
 | cV n=>
  refine ⟨bh hb,fun oc e hx => ?_⟩
  obtain ⟨oc0,k1,k2⟩:=hob n _ e
  rw [hloc];exact hv.2 _ k1 (by cases oc0 <;> cases oc <;> first | rfl | exact k2.elim | cases hx)
 | xd n p=>
  refine ⟨bh hb,fun t x e => ?_⟩
  obtain ⟨oc0,k1,k2⟩:=hob n _ e
  cases oc0 <;> simp [aw] at k2
  obtain ⟨rfl,rfl⟩:=k2
  rw [hloc];exact hv.2 _ _ k1
 | ref n off=>
  refine ⟨bh hb,fun T cs e => ?_⟩
  obtain ⟨oc0,k1,k2⟩:=hob n _ e
  cases oc0 <;> simp [aw] at k2
  rw [hloc];exact hv.2 _ _ k1
 | me n=>
  refine ⟨bh hb,?_⟩
  rcases hv.2 with hn | hn
  ·exact .inl hn
  ·refine .inr fun T cs e => ?_
   obtain ⟨oc0,k1,k2⟩:=hob n _ e
   cases oc0 <;> simp [aw] at k2
   rw [hloc];exact hn _ _ k1
 | fN n t i off=>
  refine ⟨bh hb,fun ⟨xs,e⟩ => ?_⟩
  rw [hloc]
  rcases e with e | e
  ·obtain ⟨oc0,k1,k2⟩:=hob n _ e
   cases oc0 <;> simp [aw] at k2
   subst k2;exact hv.2 ⟨_, .inl k1⟩
  ·obtain ⟨oc0,k1,k2⟩:=hob n _ e
   cases oc0 <;> simp [aw] at k2
   subst k2;exact hv.2 ⟨_, .inr k1⟩
 | jm t x=>
  obtain ⟨b,o,us,rfl,h1,h2⟩:=hv
  exact ⟨b,o,us,rfl,h1.frame hO,h2.frame hO⟩
 | fn f caps=>
  obtain ⟨rfl,h2⟩:=hv
  refine ⟨by rw [hloc],fun n hn=>⟨?_,fun t ys e => ?_⟩⟩
  ·have:∀l:List Nat,eo S'.next l=true->n∈l->n < S'.next:=by
    intro l
    induction l with
    | nil=>intro _ h;simp at h
    | cons m r ih=>
     intro h hm
     simp only [eo,Bool.and_eq_true] at h
     rcases List.mem_cons.1 hm with rfl | hm
     ·exact bh h.1
     ·exact ih h.2 hm
   exact this caps hb hn
  ·obtain ⟨oc0,k1,k2⟩:=hob n _ e
   cases oc0 <;> simp [aw] at k2
   exact (h2 n hn).2 _ _ k1
 | any=>trivial
theorem n5 {k:Nat}:∀{l:List Nat} {n:Nat},eo k l=true->n∈l->n < k
 | [],_,_,h=>by simp at h
 | m :: r,n,h,hn=>by
  simp only [eo,Bool.and_eq_true] at h
  rcases List.mem_cons.1 hn with e | hn
  ·rw [e];exact bh h.1
  ·exact n5 h.2 hn
theorem fA {S S':aH} {k:Nat} (hrel:∀{c:C} {v:Value},jR k c=true->CR cx.eT S c v->CR cx.eT S' c v):∀{cs:List C} {vs:List Value},jy k cs=true->bR cx.eT S cs vs->bR cx.eT S' cs vs:=by
 intro cs
 induction cs with
 | nil=>intro vs _ h;cases h;exact .nil
 | cons c cs ih=>
  intro vs hb h
  simp only [jy,Bool.and_eq_true] at hb
  cases h with
  | cons h1 h2 h3=>exact .cons (hrel hb.1 h1) h2 (ih hb.2 h3)
theorem sb {S S':aH} (hO:∀b o v,¬ S.A b o->S.w.cell? ⟨b,o,none⟩=some v->S'.w.cell? ⟨b,o,none⟩=some v/\¬ S'.A b o) {k:Nat} (hk:k<=S'.next) (hloc:∀n,n < k->S'.loc n=S.loc n)
  (hob:∀n oc,n < k->S'.ob n=some oc->∃oc0,S.ob n=some oc0/\aw (S.loc n) (S.loc n) oc0 oc) {c:C} {v:Value} (hb:jR k c=true) (hv:CR cx.eT S c v):CR cx.eT S' c v:=by
 cases c with
 | lit b=>exact hv
 | d t x=>exact VR.frame hv hO
 | app t xs n=>
  obtain ⟨h1,h2,h3⟩:=hv
  refine ⟨VR.frame h1 hO,Nat.lt_of_lt_of_le (bh hb) hk,fun ys hy => ?_⟩
  obtain ⟨oc0,k1,k2⟩:=hob n _ (bh hb) hy
  cases oc0 <;> simp [aw] at k2
  obtain ⟨rfl,k3⟩:=k2
  obtain ⟨m1,m2⟩:=h3 _ k1
  rw [hloc n (bh hb)]
  exact ⟨by omega,fun e=>m2 (by omega)⟩
 | dY=>exact hv
 | c8=>exact hv
 | emp=>exact hv
 | ax n=>
  refine ⟨Nat.lt_of_lt_of_le (bh hb) hk,fun t xs e => ?_⟩
  obtain ⟨oc0,k1,k2⟩:=hob n _ (bh hb) e
  cases oc0 <;> simp [aw] at k2
  rw [hloc n (bh hb)];exact hv.2 _ _ k1
 | jB n t lo len=>
  refine ⟨Nat.lt_of_lt_of_le (bh hb) hk,fun xs e => ?_⟩
  obtain ⟨oc0,k1,k2⟩:=hob n _ (bh hb) e
  cases oc0 <;> simp [aw] at k2
  subst k2
  rw [hloc n (bh hb)];exact hv.2 _ k1
 | jl n=>
  refine ⟨Nat.lt_of_lt_of_le (bh hb) hk,fun t xs e => ?_⟩
  obtain ⟨oc0,k1,k2⟩:=hob n _ (bh hb) e
  cases oc0 <;> simp [aw] at k2
  rw [hloc n (bh hb)];exact hv.2 _ _ k1
 | cV n=>
  refine ⟨Nat.lt_of_lt_of_le (bh hb) hk,fun oc e hx => ?_⟩
  obtain ⟨oc0,k1,k2⟩:=hob n _ (bh hb) e
  rw [hloc n (bh hb)];exact hv.2 _ k1 (by cases oc0 <;> cases oc <;> first | rfl | exact k2.elim | cases hx)
 | xd n p=>
  refine ⟨Nat.lt_of_lt_of_le (bh hb) hk,fun t x e => ?_⟩
  obtain ⟨oc0,k1,k2⟩:=hob n _ (bh hb) e
  cases oc0 <;> simp [aw] at k2
  obtain ⟨rfl,rfl⟩:=k2
  rw [hloc n (bh hb)];exact hv.2 _ _ k1
 | ref n off=>
  refine ⟨Nat.lt_of_lt_of_le (bh hb) hk,fun T cs e => ?_⟩
  obtain ⟨oc0,k1,k2⟩:=hob n _ (bh hb) e
  cases oc0 <;> simp [aw] at k2
  rw [hloc n (bh hb)];exact hv.2 _ _ k1
 | me n=>
  refine ⟨Nat.lt_of_lt_of_le (bh hb) hk,?_⟩
  rcases hv.2 with hn | hn
  ·exact .inl hn
  ·refine .inr fun T cs e => ?_
   obtain ⟨oc0,k1,k2⟩:=hob n _ (bh hb) e
   cases oc0 <;> simp [aw] at k2
   rw [hloc n (bh hb)];exact hn _ _ k1
 | fN n t i off=>
  refine ⟨Nat.lt_of_lt_of_le (bh hb) hk,fun ⟨xs,e⟩ => ?_⟩
  rw [hloc n (bh hb)]
  rcases e with e | e
  ·obtain ⟨oc0,k1,k2⟩:=hob n _ (bh hb) e
   cases oc0 <;> simp [aw] at k2
   subst k2;exact hv.2 ⟨_, .inl k1⟩
  ·obtain ⟨oc0,k1,k2⟩:=hob n _ (bh hb) e
   cases oc0 <;> simp [aw] at k2
   subst k2;exact hv.2 ⟨_, .inr k1⟩
 | jm t x=>
  obtain ⟨b,o,us,rfl,h1,h2⟩:=hv
  exact ⟨b,o,us,rfl,h1.frame hO,h2.frame hO⟩
 | fn f caps=>
  obtain ⟨rfl,h2⟩:=hv
  have hlt:∀n∈caps,n < k:=fun n hn=>n5 hb hn
  refine ⟨by rw [show (caps.map fun n=>(S.loc n).v)=(caps.map fun n=>(S'.loc n).v) from List.map_congr_left fun n hn=>by rw [hloc n (hlt n hn)]],fun n hn=>⟨Nat.lt_of_lt_of_le (hlt n hn) hk,fun t ys e => ?_⟩⟩
  obtain ⟨oc0,k1,k2⟩:=hob n _ (hlt n hn) e
  cases oc0 <;> simp [aw] at k2
  exact (h2 n hn).2 _ _ k1
 | any=>trivial
theorem aw.comp {l1 l2 l3:Loc} {a b c:OC} (h:aw l1 l2 a b) (h':aw l2 l3 b c):aw l1 l3 a c:=by
 cases a <;> cases b <;> simp [aw] at h <;> cases c <;> simp [aw] at h' ⊢
 all_goals (try (simp_all;done))
 obtain ⟨rfl,a1,a2⟩:=h
 obtain ⟨rfl,b1,b2⟩:=h'
 refine ⟨rfl,by omega,fun e => ?_⟩
 rw [b2 (by omega),a2 (by omega)]
theorem nB {S S':aH} (hrel:∀{c:C} {v:Value},jR S'.next c=true->CR cx.eT S c v->CR cx.eT S' c v):∀{cs:List C} {vs:List Value},jy S'.next cs=true->bR cx.eT S cs vs->bR cx.eT S' cs vs:=by
 intro cs
 induction cs with
 | nil=>intro vs _ h;cases h;exact .nil
 | cons c cs ih=>
  intro vs hb h
  simp only [jy,Bool.and_eq_true] at hb
  cases h with
  | cons h1 h2 h3=>exact .cons (hrel hb.1 h1) h2 (ih hb.2 h3)
theorem lH {k:Nat}:∀{l:List (Nat × SV)},dW k l=true->∀{n v},look l n=some v->∃v0,v = .s v0/\zF k v0=true:=by
 intro l
 induction l with
 | nil=>intro _ n v h;simp [look] at h
 | cons p r ih=>
  obtain ⟨m,x⟩:=p
  intro hb n v h
  cases x with
  | gK vs=>simp [dW] at hb
  | s v0=>
   simp only [dW,Bool.and_eq_true] at hb
   rw [aU] at h
   by_cases e:m=n
   ·rw [if_pos e] at h;cases h;exact ⟨v0,rfl,hb.1⟩
   ·rw [if_neg e] at h;exact ih hb.2 h
theorem eB {k:Nat}:∀{l:List (Nat × OC)},dN k l=true->∀{n v},look l n=some v->n < k/\Cy k v=true:=by
 intro l
 induction l with
 | nil=>intro _ n v h;simp [look] at h
 | cons p r ih=>
  obtain ⟨m,x⟩:=p
  intro hb n v h
  simp only [dN,Bool.and_eq_true] at hb
  rw [aU] at h
  by_cases e:m=n
  ·rw [if_pos e] at h;cases h;subst e;exact ⟨bh hb.1.1,hb.1.2⟩
  ·rw [if_neg e] at h;exact ih hb.2 h
theorem o4 {an:eI} {O:ah} {st st':St} {loc loc0:Nat->Loc} {w w0:World} {a:Act} (x:an.X) (g:Good cx.eT X (ae O st' loc w)) (hA:cw cx (ae O st' loc w) st' a) (ht:Tr (ae O st loc0 w0) (ae O st' loc w))
  (he:∀n v,look (aQ an st x).env n=some v->∃u,look st'.env n=some u/\gT u v)
  (ho:∀n v,look (aQ an st x).ag n=some v->∃u,look st'.ag n=some u/\gU u v)
  (hb1:dW st.next (aQ an st x).env=true) (hb2:dN st.next (aQ an st x).ag=true) :
  Good cx.eT X (ae O (aQ an st x) loc w)/\cw cx (ae O (aQ an st x) loc w) (aQ an st x) a/\Tr (ae O st loc0 w0) (ae O (aQ an st x) loc w):=by
 have hob:∀n oc,look (aQ an st x).ag n=some oc->∃oc0,look st'.ag n=some oc0/\aw (loc n) (loc n) oc0 oc/\oc0.lo=oc.lo/\OR cx.eT X (ae O st' loc w) (loc n) oc:=by
  intro n oc h
  obtain ⟨u,hu,hs⟩:=ho n oc h
  obtain ⟨h1,h2,h3⟩:=o1 hs (g.obj n u hu).2
  exact ⟨u,hu,h2,h3,h1⟩
 have hAsub:∀b o,(ae O (aQ an st x) loc w).A b o->(ae O st' loc w).A b o:=by
  rintro b o (h | ⟨n,oc,h1,h2,h3⟩)
  ·exact .inl h
  ·obtain ⟨oc0,k1,_,k3,_⟩:=hob n oc h1
   exact .inr ⟨n,oc0,k1,h2,by rw [k3];exact h3⟩
 have hcell:∀b o v,¬ (ae O st' loc w).A b o->w.cell? ⟨b,o,none⟩=some v->w.cell? ⟨b,o,none⟩=some v/\¬ (ae O (aQ an st x) loc w).A b o:=fun b o v h1 h2=>⟨h2,fun h=>h1 (hAsub b o h)⟩
 have hrel:∀{c:C} {v:Value},jR st.next c=true->CR cx.eT (ae O st' loc w) c v->CR cx.eT (ae O (aQ an st x) loc w) c v:=fun hb hv=>
  Dx (S:=ae O st' loc w) (S':=ae O (aQ an st x) loc w) hcell rfl (fun n oc h=>let ⟨oc0,k1,k2,_⟩:=hob n oc h;⟨oc0,k1,k2⟩) hb hv
 have hor:∀n oc,look (aQ an st x).ag n=some oc->OR cx.eT X (ae O (aQ an st x) loc w) (loc n) oc:=by
  intro n oc h
  obtain ⟨_,_,_,_,k4⟩:=hob n oc h
  have hb:=(eB hb2 h).2
  cases oc with
  | cells T cs=>
   obtain ⟨b,vs,h1,h2,h3,h4⟩:=k4
   exact ⟨b,vs,h1,h2,h3,nB hrel hb h4⟩
  | ax t xs=>
   rcases k4 with k4 | ⟨b,vs,T,cap,h1,h2,h3,h4,h5,h6,h7⟩
   ·exact .inl k4
   ·exact .inr ⟨b,vs,T,cap,h1,h2,h3,h4,h5,h6,fun i y hy=>let ⟨us,r1,r2⟩:=h7 i y hy;⟨us,r1.frame hcell,r2⟩⟩
  | arr t xs=>
   obtain ⟨b,vs,T,h1,h2,h3,h4,h5⟩:=k4
   exact ⟨b,vs,T,h1,h2,h3,h4,fun i y hy=>let ⟨us,r1,r2⟩:=h5 i y hy;⟨us,r1.frame hcell,r2⟩⟩
  | tok t xs=>
   rcases k4 with k4 | ⟨b,vs,T,cap,h1,h2,h3,h4,h5,h6,h7⟩
   ·exact .inl k4
   ·exact .inr ⟨b,vs,T,cap,h1,h2,h3,h4,h5,h6,fun i y hy=>let ⟨us,r1,r2⟩:=h7 i y hy;⟨us,r1.frame hcell,r2⟩⟩
  | ext k t x=>exact k4
  | iter cs seen cl=>obtain ⟨b,m,c,sn,k1,k2,k3,k4,k5⟩:=k4;exact ⟨b,m,c,sn,k1,k2,k3,nB hrel hb k4,k5⟩
 refine ⟨⟨fun n oc h=>⟨(eB hb2 h).1,hor n oc h⟩,fun n m oc oc' b h1 h2 h3 h4 => ?_,fun n oc b off h1 h2 => ?_,g.eE.sub rfl fun b ⟨n,oc,h1,h2⟩=>by obtain ⟨oc0,k1,_⟩:=hob n oc h1;exact ⟨n,oc0,k1,h2⟩⟩,⟨hA.size,hA.defers,fun n v h => ?_⟩,?_⟩
 ·obtain ⟨oc0,k1,_⟩:=hob n oc h1
  obtain ⟨oc0',k1',_⟩:=hob m oc' h2
  exact g.apart n m oc0 oc0' b k1 k1' h3 h4
 ·obtain ⟨oc0,k1,_⟩:=hob n oc h1
  exact g.out n oc0 b off k1 h2
 ·obtain ⟨u,hu,hs⟩:=he n v h
  have hv:=oZ hs (hA.env n u hu)
  obtain ⟨v0,rfl,hb⟩:=lH hb1 h
  cases v0 with
  | one c=>exact hrel hb hv
  | agg cs=>obtain ⟨vs,h1,h2⟩:=hv;exact ⟨vs,h1,nB hrel hb h2⟩
 ·refine {O:=ht.O,next:=Nat.le_refl _,os:=ht.os,output:=ht.output,size:=ht.size,own:=fun b hb => ?_,cell:=fun b o v h1 h2 => ?_,block:=ht.block,loc:=ht.loc,kind:=fun n oc hn h => ?_}
  ·obtain ⟨n,oc,h1,h2⟩:=hb
   obtain ⟨oc0,k1,_⟩:=hob n oc h1
   exact ht.own b ⟨n,oc0,k1,h2⟩
  ·obtain ⟨k1,k2⟩:=ht.cell b o v h1 h2
   exact ⟨k1,fun h=>k2 (hAsub b o h)⟩
  ·obtain ⟨oc0,k1,k2,_⟩:=hob n oc h
   obtain ⟨oc1,m1,m2⟩:=ht.kind n oc0 hn k1
   exact ⟨oc1,m1,m2.comp k2⟩
theorem Ty.beq_refl:∀t:Ty,Ty.beq t t=true:=by
 intro t
 induction t with
 | prod a b iha ihb=>simp [Ty.beq,iha,ihb]
 | slice e ih=>simp [Ty.beq,ih]
 | int k=>simp [Ty.beq]
 | _=>rfl
theorem uA (c:C):oX c c:=by
 cases c with
 | d t x=>
  simp only [oX]
  split
  ·rfl
  ·rename_i h;rw [Ty.beq_refl] at h;cases h
 | app t xs n=>
  simp only [oX]
  split
  ·rfl
  ·rename_i h;exact (h (Ty.beq_refl _) (Nat.beq_refl _)).elim
 | _=>rfl
theorem ep (v:SV):gT v v:=by
 cases v with
 | s v=>
  cases v with
  | one c=>exact uA c
  | agg cs=>rfl
 | gK vs=>rfl
theorem nC:∀cs:List C,qv cs cs
 | []=>trivial
 | c :: cs=>⟨uA c,nC cs⟩
theorem Bz (v:OC):gU v v:=by
 cases v with
 | cells T cs=>
  simp only [gU,Nat.beq_refl]
  exact nC cs
 | ax t xs=>
  simp only [gU]
  split
  ·rfl
  ·rename_i h;rw [Ty.beq_refl] at h;cases h
 | arr t xs=>
  simp only [gU]
  split
  ·rfl
  ·rename_i h;rw [Ty.beq_refl] at h;cases h
 | tok t xs=>
  simp only [gU]
  split
  ·rfl
  ·rename_i h;rw [Ty.beq_refl] at h;cases h
 | ext k t x=>
  simp only [gU]
  split
  ·rfl
  ·rename_i h;exact (h (Nat.beq_refl _) (Ty.beq_refl _)).elim
 | iter cs seen cl=>exact ⟨nC cs,rfl,rfl⟩
theorem kT {W:List Nat}:∀{l:List (Nat × SV)},gW W l=true->∀{n v},look l n=some v->n∈W:=by
 intro l
 induction l with
 | nil=>intro _ n v h;simp [look] at h
 | cons p r ih=>
  obtain ⟨m,x⟩:=p
  intro hb n v h
  simp only [gW,Bool.and_eq_true] at hb
  rw [aU] at h
  by_cases e:m=n
  ·subst e;exact o3.1 hb.1
  ·rw [if_neg e] at h;exact ih hb.2 h
theorem je {env:List (Nat × SV)}:∀{l:List Nat},gV env l=true->∀{n},n∈l->∃v,look env n=some v:=by
 intro l
 induction l with
 | nil=>intro _ n h;simp at h
 | cons t r ih=>
  intro hb n h
  simp only [gV] at hb
  split at hb
  ·rename_i u hu
   rcases List.mem_cons.1 h with rfl | h
   ·exact ⟨u,hu⟩
   ·exact ih hb h
  ·cases hb
theorem Jc {O:ah} {K:Ex->St->VC} {W:List Nat} {st:St} {S:aH} {next:Act->World->Prop} {Q:Exit->Act->World->Prop} {K':Ex->St->VC}
  (hn:∀a w,cB cx X O (K' .normal) W st S a w->next a w) (hK:∀e,e≠.normal->K' e=K e) (hQ:∀e a w,dO cx X O K W st S e a w->e≠.normal->Q e a w) {e:Exit} {a:Act} {w:World}
  (h:dO cx X O K' W st S e a w):Exit.then next Q e a w:=by
 cases e with
 | normal=>exact hn a w h
 | exit n=>exact hQ _ _ _ (by simpa [dO,hK (.exit n) (by simp)] using h) (by simp)
 | ret=>exact hQ _ _ _ (by simpa [dO,hK .ret (by simp)] using h) (by simp)
 | goto l=>exact h.elim
 | panic c=>exact h.elim
 | outgrown=>exact h.elim
structure zH (an:eI) (st st':St) (x:an.X) (ν:List Nat):Prop where
 nodup:nodupB ν=true
 refs:nY st' an ν an.refs=true
 get:bS false st'.ag an.ak ν an.ak ν=some (an.pd x)
 Kg:∀p∈ry st' an (an.pd x) an.refs,p
 conds:∀p∈dA an.ak (an.pd x) st'.ag an.ak ν,p
 env:gm st' (an.ba x)
 ag:gn st' (fT an st x)
 out:jz ν (fT an st x)=true
theorem wO {an:eI} {st st':St} {more:an.X->Prop} (h:(uy an st st' more).holds):∃x,an.inv x/\more x/\∃ν,zH an st st' x ν:=by
 unfold uy at h
 split at h
 ·rename_i ν _
  split at h
  ·rename_i y hc hy
   simp only [Bool.and_eq_true] at hc
   have hall:=oU h
   obtain ⟨x,h1,h2,h3,h4,h5,h6⟩:=hall (∃x',an.inv x'/\more x'/\gm st' (an.ba x')/\gn st' (an.ag x'++dw st an.cL)/\(jz ν (fT an st x')=true/\y=an.pd x')) (List.mem_append_right _ (List.mem_singleton.2 rfl))
   subst h6
   obtain ⟨k1,_⟩:=dH.1 hall
   obtain ⟨k1,k2⟩:=dH.1 k1
   exact ⟨x,h1,h2,ν,hc.1,hc.2,hy,k1,k2,h3,h4,h5⟩
  ·exact h.elim
 ·exact h.elim
theorem mr {ν:List Nat}:∀{l:List (Nat × OC)},jz ν l=true->∀{n v},look l n=some v->n∉ν
 | [],_,n,v,h=>by simp [look] at h
 | (m,u) :: r,hk,n,v,h=>by
  simp only [jz,Bool.and_eq_true,Bool.not_eq_true'] at hk
  rw [aU] at h
  split at h
  ·rename_i e;subst e
   intro hm;rw [tj.2 hm] at hk;exact absurd hk.1 (by decide)
  ·exact mr hk.2 h
theorem iV {an:eI} {y:PD an.ak} {us:List Nat}:∀{l:List (Nat × Nat)} {t:Nat} {v:SV},look (nZ an y us l) t=some v->∃k,(t,k)∈l/\v = .s (.one (cM an.ak y us k))
 | [],t,v,h=>by simp [nZ,look] at h
 | (m,k) :: r,t,v,h=>by
  simp only [nZ,aU] at h
  split at h
  ·rename_i e;subst e;cases h;exact ⟨k,by simp,rfl⟩
  ·obtain ⟨k',h1,h2⟩:=iV h;exact ⟨k',by simp [h1],h2⟩
theorem o5 {st:St} {an:eI} {ν:List Nat}:∀{l:List (Nat × Nat)} {t k:Nat},nY st an ν l=true->(t,k)∈l->∃c,look st.env t=some (.s (.one c))/\eA false st.ag an.ak ν k c=true
 | [],_,_,_,h=>by simp at h
 | (m,i) :: r,t,k,h,hm=>by
  simp only [nY,Bool.and_eq_true] at h
  rcases List.mem_cons.1 hm with e | hm
  ·cases e
   obtain ⟨h1,_⟩:=h
   split at h1
   ·rename_i c hc;exact ⟨c,hc,h1⟩
   ·cases h1
  ·exact o5 h.2 hm
theorem qx {st:St} {an:eI} {y:PD an.ak}:∀{l:List (Nat × Nat)} {t k:Nat} {c:C},(∀p∈ry st an y l,p)->(t,k)∈l->look st.env t=some (.s (.one c))->∀p∈nz an.ak y k c,p
 | [],_,_,_,_,h,_=>by simp at h
 | (m,i) :: r,t,k,c,h,hm,hl=>by
  simp only [ry] at h
  obtain ⟨h1,h2⟩:=dH.1 h
  rcases List.mem_cons.1 hm with e | hm
  ·cases e
   rw [hl] at h1
   exact h1
  ·exact qx h2 hm hl
theorem o6 {keep:List Nat}:∀{l:List (Nat × Nat)} {t k:Nat},lk keep l=true->(t,k)∈l->t∉keep
 | [],_,_,_,h=>by simp at h
 | (m,i) :: r,t,k,h,hm=>by
  simp only [lk,Bool.and_eq_true,Bool.not_eq_true'] at h
  rcases List.mem_cons.1 hm with e | hm
  ·cases e
   intro hk;rw [o3.2 hk] at h;exact absurd h.1 (by decide)
  ·exact o6 h.2 hm
theorem wP {an:eI} {O:ah} {st st':St} {loc loc0:Nat->Loc} {w w0:World} {a:Act} {W:List Nat} (x:an.X) (g:Good cx.eT X (ae O st' loc w)) (hA:cw cx (ae O st' loc w) st' a) (ht:Tr (ae O st loc0 w0) (ae O st' loc w))
  (hok:iU an st W x=true) (hkeep:∀n∈an.keep,∀v,look st.env n=some v->∃u,look st'.env n=some u/\gT u v) (hf:∃ν,zH an st st' x ν) :
  ∃loc',Good cx.eT X (ae O (bI an st x) loc' w)/\cw cx (ae O (bI an st x) loc' w) (bI an st x) a/\Tr (ae O st loc0 w0) (ae O (bI an st x) loc' w):=by
 obtain ⟨ν,hf⟩:=hf
 simp only [iU,Bool.and_eq_true] at hok
 obtain ⟨hb1,hb2,hkeys,hnr⟩:=hok
 generalize husd:upto st.next an.ak.length=us
 have husl:us.length=an.ak.length:=by rw [<-husd];exact oW _ _
 have hus:nodupB us=true:=by rw [<-husd];exact e9 _ _
 have husm:∀n∈us,st.next<=n/\n < st.next + an.ak.length:=fun n hn=>by rw [<-husd] at hn;exact oV hn
 have hlen:ν.length=us.length:=by rw [husl];exact (iu hf.get).symm
 let loc':=b4 us (ν.map loc) loc
 have hlow:∀n,n < st.next->loc' n=loc n:=fun n hn=>fI fun hm=>by have:=(husm n hm).1;omega
 have hnu:∀n,n < st.next->n∉us:=fun n hn hm=>by have:=(husm n hm).1;omega
 have hrest:∀m oc,look (fT an st x) m=some oc->m < st.next/\m∉ν/\∃u,look st'.ag m=some u/\aw (loc m) (loc m) u oc/\u.lo=oc.lo/\OR cx.eT X (ae O st' loc w) (loc m) oc:=by
  intro m oc hm
  obtain ⟨u,hu,hs⟩:=gx hf.ag hm
  obtain ⟨h1,h2,h3⟩:=o1 hs (g.obj m u hu).2
  exact ⟨(eB hb2 hm).1,mr hf.out hm,u,hu,h2,h3,h1⟩
 have hob:∀m oc,look (bI an st x).ag m=some oc->(∃(i n:Nat) (o:Ob) (y:OD o) (oc0:OC),ν[i]?=some n/\us[i]?=some m/\look st'.ag n=some oc0/\dV false st'.ag an.ak ν o oc0=some y/\
   oc=kx (cM an.ak (an.pd x) us) o y/\loc' m=loc n)\/(m∉us/\look (fT an st x) m=some oc/\loc' m=loc m):=by
  intro m oc hm
  simp only [bI,husd,bB] at hm
  split at hm
  ·rename_i oc' hm'
   cases hm
   obtain ⟨i,n,o,y,oc0,k1,k2,k3,k4,k5,k6,_⟩:=jQ hf.get (jP (X:=X) g hf.get hf.get hf.conds) hlen hm'
   exact .inl ⟨i,n,o,y,oc0,k1,k2,k4,k5,k6,ej hus k2 (by simp [k1])⟩
  ·rename_i hm'
   have hnin:m∉us:=fun hmem=>by
    obtain ⟨oc1,h2⟩:=jx (f:=cM an.ak (an.pd x) us) (x:=an.pd x) husl.symm hmem
    rw [h2] at hm';cases hm'
   exact .inr ⟨hnin,hm,fI hnin⟩
 have hAsub:∀b o,(ae O (bI an st x) loc' w).A b o->(ae O st' loc w).A b o:=by
  rintro b off (h | ⟨m,oc,h1,h2,h3⟩)
  ·exact .inl h
  ·rcases hob m oc h1 with ⟨i,n,o,y,oc0,k1,k2,k4,k5,k6,k7⟩ | ⟨k1,k2,k3⟩
   ·refine .inr ⟨n,oc0,k4,by simp only [ae] at h2;rw [k7] at h2;exact h2,?_⟩
    rcases ru (f:=cM an.ak (an.pd x) us) k5 with e | e
    ·rw [<-e,<-k6];exact h3
    ·cases e
   ·obtain ⟨_,_,u,hu,_,hlo,_⟩:=hrest m oc k2
    exact .inr ⟨m,u,hu,by simp only [ae] at h2;rw [k3] at h2;exact h2,by rw [hlo];exact h3⟩
 have hcell:∀b o v,¬ (ae O st' loc w).A b o->w.cell? ⟨b,o,none⟩=some v->w.cell? ⟨b,o,none⟩=some v/\¬ (ae O (bI an st x) loc' w).A b o:=fun b o v h1 h2=>⟨h2,fun h=>h1 (hAsub b o h)⟩
 have hrel:∀{c:C} {v:Value},jR st.next c=true->CR cx.eT (ae O st' loc w) c v->CR cx.eT (ae O (bI an st x) loc' w) c v:=fun hb hv=>
  sb (S:=ae O st' loc w) (S':=ae O (bI an st x) loc' w) (k:=st.next) hcell (by simp [ae,bI]) (fun n hn=>hlow n hn) (fun n oc hn h=>by
   rcases hob n oc h with ⟨i,n',o,y,oc0,k1,k2,_⟩ | ⟨k1,k2,k3⟩
   ·exact absurd (List.mem_of_getElem? k2) (hnu n hn)
   ·obtain ⟨_,_,u,hu,hk,_,_⟩:=hrest n oc k2
    exact ⟨u,hu,hk⟩) hb hv
 obtain ⟨gN,laid⟩:=ye (X:=X) g hf.get hf.conds hf.nodup (O2:=O) (ν2:=us) (rest:=fT an st x) (locR:=loc) (st2:=bI an st x) hus hlen (by simp only [bI,husd])
  (fun n hn=>by have:=(husm n hn).2;simp only [bI];exact this)
  (fun n hn b hb off h=>by
   obtain ⟨_,oc,_,_,k,_⟩:=en hf.get hn
   exact g.out n oc b off k hb h)
  (fun n hn b hb m oc h1 h2 h3=>by
   obtain ⟨_,oc0,_,_,k,_⟩:=en hf.get hn
   obtain ⟨_,hmν,u,hu,_⟩:=hrest m oc h1
   have:=g.apart n m oc0 u b k hu hb h3
   exact hmν (by rw [<-this];exact hn))
  (fun m oc h1 h2=>by
   obtain ⟨hm,_,u,hu,hk,hlo,hor⟩:=hrest m oc h1
   refine ⟨by simp only [bI];omega,?_⟩
   have hb:=(eB hb2 h1).2
   cases oc with
   | cells T cs=>
    obtain ⟨b,vs,h1,h2,h3,h4⟩:=hor
    exact ⟨b,vs,h1,h2,h3,fA (k:=st.next) hrel hb h4⟩
   | ax t xs=>exact th.to (S:=ae O st' loc w) (S':=ae O (bI an st x) loc' w) rfl (.inr hAsub) hor
   | tok t xs=>exact th.to (X:=X) (S:=ae O st' loc w) (S':=ae O (bI an st x) loc' w) (l:=loc m) rfl (.inr hAsub) hor
   | arr t xs=>
    obtain ⟨b,vs,T,h1,h2,h3,h4,h5⟩:=hor
    exact ⟨b,vs,T,h1,h2,h3,h4,fun i y hy=>let ⟨us,r1,r2⟩:=h5 i y hy;⟨us,r1.frame hcell,r2⟩⟩
   | ext k t x=>exact hor
   | iter cs seen cl=>obtain ⟨b,m,c,sn,k1,k2,k3,k4,k5⟩:=hor;exact ⟨b,m,c,sn,k1,k2,k3,fA (k:=st.next) hrel hb k4,k5⟩)
  (fun m m' oc oc' b h1 h2 _ _ h3 h4=>by
   obtain ⟨_,_,u,hu,_⟩:=hrest m oc h1
   obtain ⟨_,_,u',hu',_⟩:=hrest m' oc' h2
   exact g.apart m m' u u' b hu hu' h3 h4)
  (fun m oc b off h1 _ h2=>by
   obtain ⟨_,_,u,hu,_⟩:=hrest m oc h1
   exact g.out m u b off hu h2)
  (.inr hAsub)
  (fun b hb ⟨m,oc,h1,h2⟩=>by
   rcases hob m oc h1 with ⟨i,n,o,y,oc0,k1,k2,k4,k5,k6,k7⟩ | ⟨k1,k2,k3⟩
   ·refine g.eE.2 b hb ⟨n,oc0,k4,?_⟩
    have e:b4 us (ν.map loc) loc m=loc n:=k7
    simp only [ae] at h2;rw [e] at h2;exact h2
   ·obtain ⟨_,_,u,hu,_⟩:=hrest m oc k2
    have e:b4 us (ν.map loc) loc m=loc m:=k3
    refine g.eE.2 b hb ⟨m,u,hu,?_⟩
    simp only [ae] at h2;rw [e] at h2;exact h2)
 refine ⟨loc',gN,⟨hA.size,hA.defers,fun t sv hl => ?_⟩,?_⟩
 ·simp only [bI,husd,bB] at hl
  split at hl
  ·rename_i v hv
   cases hl
   obtain ⟨k,hk,rfl⟩:=iV hv
   obtain ⟨c,hc,hs⟩:=o5 hf.refs hk
   have hcv:CR cx.eT (ae O st' loc w) c (a.tmps.getD t undef):=hA.env t _ hc
   exact qt laid (rr g hcv hf.get hs (qx hf.Kg hk hc))
  ·have hl2:look (lQ an st x) t=some sv:=hl
   have hst:∃u,look st'.env t=some u/\gT u sv:=by
    simp only [lQ,bB] at hl2
    split at hl2
    ·rename_i v hv;cases hl2;exact gw hf.env hv
    ·obtain ⟨h1,h2⟩:=db hl2;exact hkeep t h1 sv h2
   obtain ⟨u,hu,hs⟩:=hst
   have hv:=oZ hs (hA.env t u hu)
   obtain ⟨v0,rfl,hb⟩:=lH hb1 hl2
   cases v0 with
   | one c=>exact hrel hb hv
   | agg cs=>obtain ⟨vs,h1,h2⟩:=hv;exact ⟨vs,h1,fA (k:=st.next) hrel hb h2⟩
 ·refine {O:=ht.O,next:=by simp [ae,bI],os:=ht.os,output:=ht.output,size:=ht.size,own:=fun b hb => ?_,cell:=fun b o v h1 h2 => ?_,block:=ht.block,loc:=fun n hn hfx => ?_,kind:=fun n oc hn h => ?_}
  ·obtain ⟨m,oc,h1,h2⟩:=hb
   rcases hob m oc h1 with ⟨i,n,o,y,oc0,k1,k2,k4,k5,k6,k7⟩ | ⟨k1,k2,k3⟩
   ·exact ht.own b ⟨n,oc0,k4,by simp only [ae] at h2;rw [k7] at h2;exact h2⟩
   ·obtain ⟨_,_,u,hu,_⟩:=hrest m oc k2
    exact ht.own b ⟨m,u,hu,by simp only [ae] at h2;rw [k3] at h2;exact h2⟩
  ·obtain ⟨k1,k2⟩:=ht.cell b o v h1 h2
   exact ⟨k1,fun h=>k2 (hAsub b o h)⟩
  ·show (loc' n).v=_/\(_->loc' n=_)
   rw [hlow n hn];exact ht.loc n hn hfx
  ·rcases hob n oc h with ⟨i,n',o,y,oc0,k1,k2,_⟩ | ⟨k1,k2,k3⟩
   ·exact absurd (List.mem_of_getElem? k2) (hnu n hn)
   ·obtain ⟨_,_,u,hu,hk,_,_⟩:=hrest n oc k2
    obtain ⟨oc1,m1,m2⟩:=ht.kind n u hn hu
    refine ⟨oc1,m1,?_⟩
    show aw _ (loc' n) _ _
    rw [hlow n hn]
    exact m2.comp hk
theorem Dy {an:eI} {st:St} {W:List Nat} {x:an.X} (hok:iU an st W x=true) {n:Nat} (hn:n∈an.keep) {v:SV} (h:look (bI an st x).env n=some v) (hW:n∉W):look st.env n=some v:=by
 simp only [iU,Bool.and_eq_true] at hok
 obtain ⟨_,_,hkeys,hnr⟩:=hok
 simp only [bI,lQ,bB] at h
 split at h
 ·rename_i u hu
  obtain ⟨k,hk,_⟩:=iV hu
  exact absurd hn (o6 hnr hk)
 ·split at h
  ·rename_i u hu;exact absurd (kT hkeys hu) hW
  ·exact (db h).2
theorem wQ {O:ah} {st:St} {loc:Nat->Loc} {w:World} {an:eI} {W:List Nat} {K:St->VC} (hdis:mV an.keep W=true)
  (hk:(VC.all an.X fun x => .imp (an.inv x) (match dW st.next (aQ an st x).env && (dN st.next (aQ an st x).ag && gW W (an.ba x)) with
     | true=>K (aQ an st x)
     | false => .ff)).holds) {a':Act} {w':World}:cB cx X O (fy an st) W st (ae O st loc w) a' w'->cB cx X O K W st (ae O st loc w) a' w':=by
 have hkeepW:=mW hdis
 rintro ⟨st2,loc2,k1,k2,k3,k4,k5⟩
 simp only [fy] at k1
 split at k1
 case h_2=>exact k1.elim
 rename_i hpres
 obtain ⟨x',hx',hs',ho'⟩:=k1
 have hvx:=hk x' hx'
 split at hvx
 case h_2=>exact hvx.elim
 rename_i hbb
 simp only [Bool.and_eq_true] at hbb
 have hhead:∀t,t∉W->∀v,look (aQ an st x').env t=some v->look st.env t=some v:=by
  intro t ht v hv
  simp only [aQ,bB] at hv
  split at hv
  ·rename_i u hu;exact absurd (kT hbb.2.2 hu) ht
  ·exact (db hv).2
 obtain ⟨m1,m2,m3⟩:=o4 (an:=an) (st:=st) x' k2 k4 k3 (by
   intro n v hv
   simp only [aQ,bB] at hv
   split at hv
   ·rename_i u hu;cases hv;exact gw hs' hu
   ·obtain ⟨hmem,hl⟩:=db hv
    refine ⟨v,?_,ep v⟩
    obtain ⟨v',hv'⟩:=je hpres hmem
    have:=k5 (hkeepW n hmem).1 n (hkeepW n hmem).2 v' hv'
    rw [hl] at this
    cases this
    exact hv')
  (by
   intro n v hv
   simp only [aQ] at hv
   exact gx ho' hv) hbb.1 hbb.2.1
 exact ⟨aQ an st x',loc2,hvx,m1,m3,m2,fun _ t ht v hv=>hhead t ht v hv⟩
theorem wR (hok:fw P cx X) {O:ah} {id:Nat} {ops:Array Oper} {draw:Bool} {st:St} {loc:Nat->Loc} {w:World} {a:Act} {K:Ex->St->VC} (hA:cw cx (ae O st loc w) st a) (g:Good cx.eT X (ae O st loc w)) (hO:bZ O w)
  (h:(rA cx ops draw st (K .normal)).holds):(Code.region id ops draw).wp P (dO cx X O K (bM ops.toList) st (ae O st loc w)) a w:=by
 have hW:∀(j:Nat) (oj:Oper) (d:Nat),ops[j]?=some oj->oj.dst=some d->d∈bM ops.toList:=by
  intro j oj d hj hd
  exact List.mem_filterMap.2 ⟨oj,by rw [<-Array.getElem?_toList] at hj;exact List.mem_of_getElem? hj,hd⟩
 have hq:∀st' loc' a' w',(K .normal st').holds->Good cx.eT X (ae O st' loc' w')->Tr (ae O st loc w) (ae O st' loc' w')->cw cx (ae O st' loc' w') st' a'->ir (bM ops.toList) st st'->
   dO cx X O K (bM ops.toList) st (ae O st loc w) .normal a' w':=fun st' loc' a' w' h1 h2 h3 h4 h5=>⟨st',loc',h1,h2,h3,h4,h5⟩
 unfold rA at h
 cases draw with
 | false=>
  refine wp_region_list ?_
  exact r5 hok hW ops.toList (fun o ho d hd=>List.mem_filterMap.2 ⟨o,ho,hd⟩) hA g hO h hq
 | true=>
  split at h
  ·rename_i e;cases e
  ·rename_i e
   split at h
   ·rename_i hreg
    rw [Cs] at h
    refine wp_region_any hok.mixed (vL (loud:=eK cx ops.toList) _ _ _ _ (ae O st loc {w with drawn:=w.drawn + 1}).A ?_)
    have hdrew:Below w.heap.size w {w with drawn:=w.drawn + 1}:=⟨rfl,rfl,Nat.le_refl _,fun _ _=>rfl⟩
    obtain ⟨tr,g'⟩:=jE (S:=ae O st loc w) (S':=ae O st loc {w with drawn:=w.drawn + 1}) g rfl rfl rfl rfl hdrew
    refine r6 hok hW hreg (fun c a w h=>h) ops.size _ ?_ ⟨hA.size,hA.defers,hA.env.tr tr⟩ g' (hO.tr (Nat.le_refl _)) h ?_
    ·intro j o ho hj
     rw [Array.getD_eq_getD_getElem?,Array.getElem?_replicate] at hj
     split at hj <;> simp at hj
    ·intro st' loc' a' w' h1 h2 h3 h4 h5
     obtain ⟨st2,loc2,k1,k2,k3,k4,k5⟩:=cB.K2 (K:=K .normal) (f:=canon st.next (bM ops.toList)) (W:=bM ops.toList) hA (fun st'=>by
      rcases uw st.next (bM ops.toList) st' with e | ⟨r,q,k1,k2⟩
      ·exact .inl e
      ·exact .inr ⟨r,q,k1,k2⟩) (⟨st',loc',h1,h2,tr.trans h3,h4,h5⟩:cB cx X O (fun st'=>K .normal (canon st.next (bM ops.toList) st')) (bM ops.toList) st (ae O st loc w) a' w')
     exact hq st2 loc2 a' w' k1 k2 k3 k4 k5
   ·exact h.elim
theorem Hv (hok:fw P cx X) (anns:cC) {O:ah}:∀(c:Code) (cur:Nat) {st:St} {loc:Nat->Loc} {w:World} {a:Act} {K:Ex->St->VC},
  cw cx (ae O st loc w) st a->Good cx.eT X (ae O st loc w)->bZ O w->(vc cx anns c cur st K).holds->c.wp P (dO cx X O K (writes anns cur c) st (ae O st loc w)) a w:=by
 intro c
 induction c with
 | skip=>intro cur st loc w a K hA g hO h;exact wp_skip ⟨st,loc,h,g,Tr.refl _,hA,fun _ _ _ _ h=>h⟩
 | region id ops draw=>
  intro cur st loc w a K hA g hO h
  simp only [vc] at h
  split at h
  ·exact wR hok hA g hO h
  ·rename_i an _
   split at h
   case h_2=>exact h.elim
   rename_i hdis
   obtain ⟨hb,hk⟩:=h
   refine wp_mono (wR (K:=fun e=>match e with | .normal=>fy an st | e=>K e) hok hA g hO hb) ?_
   intro e a' w' hq
   cases e with
   | normal=>exact wQ hdis hk hq
   | exit i=>exact hq
   | ret=>exact hq
   | goto l=>exact hq.elim
   | panic c=>exact hq.elim
   | outgrown=>exact hq.elim
 | seq c1 c2 ih1 ih2=>
  intro cur st loc w a K hA g hO h
  refine wp_seq ?_
  refine wp_mono (ih1 cur hA g hO h) ?_
  intro e a' w' hq
  refine Jc (K:=K) (W:=writes anns cur c1) ?_ (fun e he=>by cases e <;> simp_all) ?_ hq
  ·rintro a1 w1 ⟨st',loc',k1,k2,k3,k4,k5⟩
   refine wp_mono (ih2 cur k4 k2 (hO.tr k3.size) k1) ?_
   intro e a2 w2 hq2
   exact hq2.mono k3 (W':=writes anns cur (.seq c1 c2)) (fun hm t ht=>k5 (fun h=>hm (List.mem_append.2 (.inl h))) t fun hm=>ht (List.mem_append.2 (.inl hm))) (fun n hn=>List.mem_append.2 (.inr hn))
  ·intro e a1 w1 hq1 _
   exact hq1.mono (Tr.refl _) (fun _ _ _ _ h=>h) (fun n hn=>List.mem_append.2 (.inl hn))
 | cond x c1 c2 ih1 ih2=>
  intro cur st loc w a K hA g hO h
  have hx:=aK hA.env x
  have h1:∀{K},(vc cx anns c1 cur st K).holds->c1.wp P (dO cx X O K (writes anns cur (.cond x c1 c2)) st (ae O st loc w)) a w:=fun h=>
   wp_mono (ih1 cur hA g hO h) fun e a' w' hq=>hq.mono (Tr.refl _) (fun _ _ _ _ h=>h) (fun n hn=>List.mem_append.2 (.inl hn))
  have h2:∀{K},(vc cx anns c2 cur st K).holds->c2.wp P (dO cx X O K (writes anns cur (.cond x c1 c2)) st (ae O st loc w)) a w:=fun h=>
   wp_mono (ih2 cur hA g hO h) fun e a' w' hq=>hq.mono (Tr.refl _) (fun _ _ _ _ h=>h) (fun n hn=>List.mem_append.2 (.inr hn))
  have base:∀{K:Ex->St->VC},(match bP st.env x with
    | .lit true=>vc cx anns c1 cur st K
    | .lit false=>vc cx anns c2 cur st K
    | .d .bool g => .ite g (vc cx anns c1 cur st K) (vc cx anns c2 cur st K)
    | _ => .ff).holds->(Code.cond x c1 c2).wp P (dO cx X O K (writes anns cur (.cond x c1 c2)) st (ae O st loc w)) a w:=by
   intro K h
   split at h
   ·rename_i hl;rw [hl] at hx;exact wp_cond_true hx (h1 h)
   ·rename_i hl;rw [hl] at hx;exact wp_cond_false hx (h2 h)
   ·rename_i b hl
    rw [hl] at hx
    have hx:=(bX (eT:=cx.eT) (S:=ae O st loc w) (b:=b)).1 hx
    cases b
    ·exact wp_cond_false hx (h2 (h.2 rfl))
    ·exact wp_cond_true hx (h1 (h.1 rfl))
   ·exact h.elim
  simp only [vc] at h
  split at h
  ·exact base h
  ·rename_i an _
   split at h
   case h_2=>exact h.elim
   rename_i hdis
   obtain ⟨hb,hk⟩:=h
   refine wp_mono (base (K:=fun e st'=>match e with | .normal=>fy an st st' | e=>K e st') hb) ?_
   intro e a' w' hq
   cases e with
   | normal=>exact wQ hdis hk hq
   | exit i=>exact hq
   | ret=>exact hq
   | goto l=>exact hq.elim
   | panic c=>exact hq.elim
   | outgrown=>exact hq.elim
 | block id b ih=>
  intro cur st loc w a K hA g hO h
  refine wp_block ?_
  simp only [vc] at h
  split at h
  case h_2=>
   rename_i an _
   split at h
   case h_2=>exact h.elim
   rename_i hdis
   have hkeepW:=mW hdis
   obtain ⟨hb,hk⟩:=h
   refine wp_mono (ih id hA g hO hb) ?_
   intro e a' w' hq
   have join:cB cx X O (fy an st) (writes anns id b) st (ae O st loc w) a' w'->dO cx X O K (writes anns cur (.block id b)) st (ae O st loc w) .normal a' w':=by
    rintro ⟨st2,loc2,k1,k2,k3,k4,k5⟩
    simp only [fy] at k1
    split at k1
    case h_2=>exact k1.elim
    rename_i hpres
    obtain ⟨x',hx',hs',ho'⟩:=k1
    have hvx:=hk x' hx'
    split at hvx
    case h_2=>exact hvx.elim
    rename_i hbb
    simp only [Bool.and_eq_true] at hbb
    have hhead:∀t,t∉writes anns id b->∀v,look (aQ an st x').env t=some v->look st.env t=some v:=by
     intro t ht v hv
     simp only [aQ,bB] at hv
     split at hv
     ·rename_i u hu;exact absurd (kT hbb.2.2 hu) ht
     ·exact (db hv).2
    obtain ⟨m1,m2,m3⟩:=o4 (an:=an) (st:=st) x' k2 k4 k3 (by
      intro n v hv
      simp only [aQ,bB] at hv
      split at hv
      ·rename_i u hu;cases hv;exact gw hs' hu
      ·obtain ⟨hmem,hl⟩:=db hv
       refine ⟨v,?_,ep v⟩
       obtain ⟨v',hv'⟩:=je hpres hmem
       have:=k5 (hkeepW n hmem).1 n (hkeepW n hmem).2 v' hv'
       rw [hl] at this
       cases this
       exact hv')
     (by
      intro n v hv
      simp only [aQ] at hv
      exact gx ho' hv) hbb.1 hbb.2.1
    exact ⟨aQ an st x',loc2,hvx,m1,m3,m2,fun _ t ht v hv=>hhead t ht v hv⟩
   cases e with
   | normal=>exact join hq
   | exit i=>
    show if i=id then _ else _
    by_cases hi:i=id
    ·rw [if_pos hi]
     subst hi
     obtain ⟨st',loc',k1,k2⟩:=hq
     simp only [Nat.beq_refl] at k1
     exact join ⟨st',loc',k1,k2⟩
    ·rw [if_neg hi]
     obtain ⟨st',loc',k1,k2⟩:=hq
     simp only [iM hi] at k1
     exact ⟨st',loc',k1,k2⟩
   | ret=>exact hq
   | goto l=>exact hq.elim
   | panic c=>exact hq.elim
   | outgrown=>exact hq.elim
  refine wp_mono (ih id hA g hO h) ?_
  intro e a' w' hq
  cases e with
  | normal=>exact hq
  | exit i=>
   obtain ⟨st',loc',k1,k2,k3,k4,k5⟩:=hq
   simp only at k1
   show if i=id then _ else _
   split at k1
   ·rename_i hi
    rw [if_pos (Nat.eq_of_beq_eq_true hi)]
    exact ⟨st',loc',k1,k2,k3,k4,k5⟩
   ·rename_i hi
    rw [if_neg (fun e=>by rw [e,Nat.beq_refl] at hi;cases hi)]
    exact ⟨st',loc',k1,k2,k3,k4,k5⟩
  | ret=>exact hq
  | goto l=>exact hq.elim
  | panic c=>exact hq.elim
  | outgrown=>exact hq.elim
 | loop b ih=>
  intro cur st loc w a K hA g hO h
  simp only [vc] at h
  split at h
  ·rename_i hnone
   have hwl:writes anns cur (.loop b)=writes anns cur b:=by simp only [writes,hnone]
   split at h
   case h_2=>exact h.elim
   rename_i an _
   split at h
   ·rename_i hdis
    have hkeepW:=mW hdis
    obtain ⟨⟨x0,hx0,hs0,ho0⟩,h⟩:=h
    have hobk:∀x n v,look (aQ an st x).ag n=some v->look (an.ag x) n=some v\/look st.ag n=some v:=by
     intro x n v hv
     simp only [aQ,bB] at hv
     split at hv
     ·rename_i u hu;cases hv;exact .inl hu
     ·exact .inr (xY hv)
    have hhead:∀x,gW (writes anns cur b) (an.ba x)=true->∀t,t∉writes anns cur b->∀v,look (aQ an st x).env t=some v->look st.env t=some v:=by
     intro x hk t ht v hv
     simp only [aQ,bB] at hv
     split at hv
     ·rename_i u hu;exact absurd (kT hk hu) ht
     ·exact (db hv).2
    refine wp_loop_ghost (fun n a' w'=>∃x loc',an.inv x/\an.bV x=n/\dW st.next (aQ an st x).env=true/\(dN st.next (aQ an st x).ag=true/\gW (writes anns cur b) (an.ba x)=true)/\
     (vc cx anns b cur (aQ an st x) fun e st'=>match e with
       | .normal=>match gV st'.env an.keep with
        | true => .leaf (∃x',an.inv x'/\an.bV x' < an.bV x/\gm st' (an.ba x')/\gn st' (an.ag x'++dw st an.cL))
        | false => .ff
       | e=>K e st').holds/\
     Good cx.eT X (ae O (aQ an st x) loc' w')/\cw cx (ae O (aQ an st x) loc' w') (aQ an st x) a'/\Tr (ae O st loc w) (ae O (aQ an st x) loc' w')) (an.bV x0) ?_ ?_
    ·have hx:=h x0 hx0
     split at hx
     ·rename_i hb
      simp only [Bool.and_eq_true] at hb
      obtain ⟨m1,m2,m3⟩:=o4 (an:=an) (st:=st) x0 g hA (Tr.refl _) (by
        intro n v hv
        simp only [aQ,bB] at hv
        split at hv
        ·rename_i u hu;cases hv;exact gw hs0 hu
        ·obtain ⟨_,hl⟩:=db hv
         exact ⟨v,hl,ep v⟩)
       (by
        intro n v hv
        rcases hobk x0 n v hv with hv | hv
        ·exact gx ho0 hv
        ·exact ⟨v,hv,Bz v⟩) hb.1 hb.2.1
      exact ⟨x0,loc,hx0,rfl,hb.1,hb.2,hx,m1,m2,m3⟩
     ·exact hx.elim
    ·rintro n a1 w1 ⟨x,loc1,hx,hn,hb1,hb2,hvc,g1,hA1,tr1⟩
     refine wp_mono (ih cur hA1 g1 (hO.tr tr1.size) hvc) ?_
     intro e a2 w2 hq
     have up:∀Kx:St->VC,cB cx X O Kx (writes anns cur b) (aQ an st x) (ae O (aQ an st x) loc1 w1) a2 w2->cB cx X O Kx (writes anns cur (.loop b)) st (ae O st loc w) a2 w2:=by
      rintro Kx ⟨st2,loc2,k1,k2,k3,k4,k5⟩
      exact ⟨st2,loc2,k1,k2,tr1.trans k3,k4,fun hm t ht v hv=>by rw [hwl] at hm ht;exact hhead x hb2.2 t ht v (k5 hm t ht v hv)⟩
     cases e with
     | normal=>
      obtain ⟨st2,loc2,k1,k2,k3,k4,k5⟩:=hq
      simp only at k1
      split at k1
      case h_2=>exact k1.elim
      rename_i hpres
      obtain ⟨x',hx',hlt,hs',ho'⟩:=k1
      have hvx:=h x' hx'
      refine ⟨an.bV x',by rw [<-hn];exact hlt,?_⟩
      split at hvx
      ·rename_i hb
       simp only [Bool.and_eq_true] at hb
       obtain ⟨m1,m2,m3⟩:=o4 (an:=an) (st:=st) x' k2 k4 (tr1.trans k3) (by
         intro n v hv
         simp only [aQ,bB] at hv
         split at hv
         ·rename_i u hu;cases hv;exact gw hs' hu
         ·obtain ⟨hmem,hl⟩:=db hv
          refine ⟨v,?_,ep v⟩
          obtain ⟨v',hv'⟩:=je hpres hmem
          have:=hhead x hb2.2 n (hkeepW n hmem).2 v' (k5 (hkeepW n hmem).1 n (hkeepW n hmem).2 v' hv')
          rw [hl] at this
          cases this
          exact hv')
        (by
         intro n v hv
         simp only [aQ] at hv
         exact gx ho' hv) hb.1 hb.2.1
       exact ⟨x',loc2,hx',rfl,hb.1,hb.2,hvx,m1,m2,m3⟩
      ·exact hvx.elim
     | exit i=>exact up _ hq
     | ret=>exact up _ hq
     | goto l=>exact hq.elim
     | panic c=>exact hq.elim
     | outgrown=>exact hq.elim
   ·exact h.elim
  ·rename_i f hsome
   have hwl:writes anns cur (.loop b)=allM :: writes anns cur b:=by simp only [writes,hsome]
   generalize zG st (f st)=an at h
   split at h
   case h_2=>exact h.elim
   rename_i hdis
   have hkeepW:=mW hdis
   obtain ⟨hfit,h⟩:=h
   obtain ⟨x0,hx0,_,hf0⟩:=wO hfit
   refine wp_loop_ghost (fun n a' w'=>∃x loc',an.inv x/\an.bV x=n/\iU an st (writes anns cur b) x=true/\
    (vc cx anns b cur (bI an st x) fun e st'=>match e with
      | .normal=>match gV st'.env an.keep with
       | true=>uy an st st' fun x'=>an.bV x' < an.bV x
       | false => .ff
      | e=>K e st').holds/\
    Good cx.eT X (ae O (bI an st x) loc' w')/\cw cx (ae O (bI an st x) loc' w') (bI an st x) a'/\Tr (ae O st loc w) (ae O (bI an st x) loc' w')) (an.bV x0) ?_ ?_
   ·have hx:=h x0 hx0
    split at hx
    case h_2=>exact hx.elim
    rename_i hok2
    obtain ⟨loc',m1,m2,m3⟩:=wP (an:=an) (st:=st) x0 g hA (Tr.refl _) hok2 (fun n hn v hv=>⟨v,hv,ep v⟩) hf0
    exact ⟨x0,loc',hx0,rfl,hok2,hx,m1,m2,m3⟩
   ·rintro n a1 w1 ⟨x,loc1,hx,hn,hokx,hvc,g1,hA1,tr1⟩
    refine wp_mono (ih cur hA1 g1 (hO.tr tr1.size) hvc) ?_
    intro e a2 w2 hq
    have up:∀Kx:St->VC,cB cx X O Kx (writes anns cur b) (bI an st x) (ae O (bI an st x) loc1 w1) a2 w2->cB cx X O Kx (writes anns cur (.loop b)) st (ae O st loc w) a2 w2:=by
     rintro Kx ⟨st2,loc2,k1,k2,k3,k4,k5⟩
     exact ⟨st2,loc2,k1,k2,tr1.trans k3,k4,fun hm=>by rw [hwl] at hm;exact absurd (List.mem_cons_self) hm⟩
    cases e with
    | normal=>
     obtain ⟨st2,loc2,k1,k2,k3,k4,k5⟩:=hq
     simp only at k1
     split at k1
     case h_2=>exact k1.elim
     rename_i hpres
     obtain ⟨x',hx',hlt,hf'⟩:=wO k1
     have hvx:=h x' hx'
     split at hvx
     case h_2=>exact hvx.elim
     rename_i hok2
     refine ⟨an.bV x',by rw [<-hn];exact hlt,?_⟩
     obtain ⟨loc',m1,m2,m3⟩:=wP (an:=an) (st:=st) x' k2 k4 (tr1.trans k3) hok2 (fun n hn v hv=>by
      obtain ⟨v',hv'⟩:=je hpres hn
      have h1:=k5 (hkeepW n hn).1 n (hkeepW n hn).2 v' hv'
      refine ⟨v',hv',?_⟩
      have h2:=Dy hokx hn h1 (hkeepW n hn).2
      rw [hv] at h2;cases h2
      exact ep v) hf'
     exact ⟨x',loc',hx',rfl,hok2,hvx,m1,m2,m3⟩
    | exit i=>exact up _ hq
    | ret=>exact up _ hq
    | goto l=>exact hq.elim
    | panic c=>exact hq.elim
    | outgrown=>exact hq.elim
 | rangeFunc f ps Lm b _ _=>intro cur st loc w a K _ _ _ h;exact h.elim
 | exit id=>intro cur st loc w a K hA g hO h;exact wp_exit ⟨st,loc,h,g,Tr.refl _,hA,fun _ _ _ _ h=>h⟩
 | scope b _=>intro cur st loc w a K _ _ _ h;exact h.elim
 | label l=>intro cur st loc w a K _ _ _ h;exact h.elim
 | goto l=>intro cur st loc w a K _ _ _ h;exact h.elim
 | ret=>intro cur st loc w a K hA g hO h;exact wp_ret ⟨st,loc,h,g,Tr.refl _,hA,fun _ _ _ _ h=>h⟩
 | refuse why=>intro cur st loc w a K _ _ _ h;exact h.elim
end
end Go.Vg

namespace Go.Vg
open Go.RowKit
@[reducible] def HL:List Ty->Type
 | []=>Unit
 | [t]=>D t
 | t :: u :: r=>D t × HL (u :: r)
def fa:List Ty->Bool
 | []=>true
 | t :: r=>t.flat && fa r
def yg (st:St) (want:Ty) (n:Nat):Option (D want):=
 match look st.ag n with
 | some (.ext 0 t xs)=>match h:Ty.beq t want with
  | true=>some (aX h (a:=t) xs)
  | false=>none
 | _=>none
def Dz (lend:Bool) (st:St) (t:Ty) (a:aZ):Option (D t):=
 match lend,t,a with
 | true, .slice e, .one (.ax n)=>p5 st e (.ax n)
 | true,t, .one (.xd n .top)=>yg st t n
 | _,t,a=>lF t a
def jf (lend:Bool) (st:St):(ts:List Ty)->List aZ->Option (HL ts)
 | [],[]=>some ()
 | [t],[a]=>Dz lend st t a
 | t :: u :: r,a :: Lm=>match Dz lend st t a,jf lend st (u :: r) Lm with
  | some x,some xs=>some (x,xs)
  | _,_=>none
 | _,_=>none
def kz:(ts:List Ty)->HL ts->List aZ
 | [],_=>[]
 | [t],y=>[.one (.d t y)]
 | t :: u :: r,ys => .one (.d t ys.1) :: kz (u :: r) ys.2
def mX:List aZ->SV
 | [v] => .s v
 | vs => .gK vs
def qy (st:St) (c:C):C × St:=
 match c with
 | .ax n=>match look st.ag n with
  | some (.ax t xs)=>(.d (.slice t) xs,aA st n)
  | _=>(c,st)
 | .xd n .top=>match look st.ag n with
  | some (.ext 0 t xs)=>(.d t xs,aA st n)
  | _=>(c,st)
 | c=>(c,st)
def o7:St->List C->List C × St
 | st,[]=>([],st)
 | st,c :: cs=>match qy st c with
  | (c',st1)=>match o7 st1 cs with
   | (cs',st2)=>(c' :: cs',st2)
def tm (st:St) (v:aZ):aZ × St:=
 match v with
 | .one c=>match qy st c with
  | (c',st')=>(.one c',st')
 | .agg cs=>match o7 st cs with
  | (cs',st')=>(.agg cs',st')
def vP (lend:Bool) (st:St) (v:aZ):aZ × St:=
 match lend,v with
 | true, .one c=>(.one c,st)
 | _,v=>tm st v
def nD (lend:Bool):St->List aZ->List aZ × St
 | st,[]=>([],st)
 | st,v :: vs=>match vP lend st v with
  | (v',st1)=>match nD lend st1 vs with
   | (vs',st2)=>(v' :: vs',st2)
def kA (ts rts:List Ty) (pre:HL ts->Prop) (post:HL ts->HL rts->Prop):aY:=fun args st K=>
 match nD (fa rts) st args with
 | (args,st)=>match jf (fa rts) st ts args with
  | some xs => .and (pre xs) (.all (HL rts) fun ys => .imp (post xs ys) (K (mX (kz rts ys)) st))
  | none => .ff
def aM (ts rts:List Ty) (pre:HL ts->Prop) (g:HL ts->HL rts):aY:=fun args st K=>
 match nD (fa rts) st args with
 | (args,st)=>match jf (fa rts) st ts args with
  | some xs => .and (pre xs) (K (mX (kz rts (g xs))) st)
  | none => .ff
inductive Kh (α:Type) where
 | ret (a:α)
 | ite (c:Bool) (a b:Kh α)
def Kh.eval {α:Type}:Kh α->α
 | .ret a=>a
 | .ite c a b=>match c with
  | true=>a.eval
  | false=>b.eval
def Fo (st:St) (want:Ty) (c:C):Option (D want):=
 match c with
 | .ax n=>match look st.ag n with
  | some (.ax t xs)=>match h:Ty.beq (.slice t) want with
   | true=>some (aX h (a:=.slice t) xs)
   | false=>none
  | _=>none
 | .xd n .top=>yg st want n
 | c=>nM want c
def jg (st:St):(t:Ty)->List C->Option (D t × List C)
 | .prod a b,cs=>match jg st a cs with
  | some (x,cs1)=>match jg st b cs1 with
   | some (y,cs2)=>some ((x,y),cs2)
   | none=>none
  | none=>none
 | .unit,cs=>some ((),cs)
 | t,c :: cs=>match Fo st t c with
  | some x=>some (x,cs)
  | none=>none
 | _,[]=>none
def DA (st:St) (want:Ty):aZ->Option (D want)
 | .one c=>Fo st want c
 | .agg cs=>match want.one with
  | true=>none
  | false=>match jg st want cs with
   | some (x,[])=>some x
   | _=>none
def qz (st:St):(ts:List Ty)->List aZ->Option (HL ts)
 | [],[]=>some ()
 | [t],[a]=>DA st t a
 | t :: u :: r,a :: Lm=>match DA st t a,qz st (u :: r) Lm with
  | some x,some xs=>some (x,xs)
  | _,_=>none
 | _,_=>none
def kU (cx:Cx) (st:St):List ResultVar->(List aZ->VC)->VC
 | [],K=>K []
 | .tmp t :: r,K=>match ev st.env (.tmp t) with
  | .s v=>kU cx st r fun vs=>K (v :: vs)
  | _ => .ff
 | .cell a t :: r,K=>p3 cx st t (bP st.env (.tmp a)) fun sv=>match sv with
  | .s v=>kU cx st r fun vs=>K (v :: vs)
  | _ => .ff
def DB (cx:Cx) (anns:cC) (res:List ResultVar) (c:Code) (st:St) (K:List aZ->St->VC):VC:=
 vc cx anns c 0 st fun e st'=>match e with
  | .exit _ => .ff
  | _=>kU cx st' res fun vs=>K vs st'
def lI (B:Cx) (Γ:List (FuncId × (Bool × aY))) (N:Nat):Cx:={B with Γ:=Γ,N:=N}
def n7:Nat->(ts:List Ty)->HL ts->List (Nat × SV)
 | _,[],_=>[]
 | k,[t],x=>[(k, .s (.one (.d t x)))]
 | k,t :: u :: r,xs=>(k, .s (.one (.d t xs.1))) :: n7 (k + 1) (u :: r) xs.2
def kV (ts:List Ty) (xs:HL ts):St:={env:=n7 0 ts xs,ag:=[],next:=0}
def Cz (B:Cx) (Γ:List (FuncId × (Bool × aY))) (N:Nat) (anns:cC) (res:List ResultVar) (c:Code) (ts rts:List Ty) (post:HL ts->HL rts->Prop) (xs:HL ts):VC:=
 DB (lI B Γ N) anns res c (kV ts xs) fun vs st=>match qz st rts vs with
  | some ys => .leaf (post xs ys)
  | none => .ff
section
variable {eT:TypeId} {X:Ext} {P:Program} {cx:Cx}
def fU (eT:TypeId) (A:ah) (w:World):(ts:List Ty)->HL ts->List Value->Prop
 | [],_,vs=>vs = []
 | [t],x,vs=>∃v,vs = [v]/\VR eT t x A w v
 | t :: u :: r,xs,vs=>∃v vs',vs=v :: vs'/\VR eT t xs.1 A w v/\fU eT A w (u :: r) xs.2 vs'
def o8:List Value->Value
 | [v]=>v
 | vs => .tuple vs.toArray
structure bj (P:Program) (eT:TypeId) (X:Ext) (f:FuncId) (ts rts:List Ty) (pre:HL ts->Prop) (post:HL ts->HL rts->Prop):Prop where
 fn:∃fn,P.funcs[f]?=some fn/\fn.body.isNone=false/\(fn.name == "runtime.NumGoroutine")=false
 ok:∀O w xs vs,X.pV w->bZ O w->fU eT O w ts xs vs->pre xs->
  Calls P f vs.toArray w fun e w'=>∃us ys,e = .returned (o8 us)/\post xs ys/\fU eT O w' rts ys us/\Below w.heap.size w w'
def mu (tmps:Array Value):ResultVar->Sem Value
 | .tmp t=>pure (tmps.getD t undef)
 | .cell b t=>do loadVar t (<-asAddr (tmps.getD b undef))
theorem sd (hok:TyOK P cx) {O:ah} {st:St} {loc:Nat->Loc} {w:World} {a:Act} (g:Good cx.eT X (ae O st loc w)) (he:cJ cx.eT (ae O st loc w) st.env a) :
  ∀{rs:List ResultVar} {K:List aZ->VC},(kU cx st rs K).holds->
  ∃vs us,(K vs).holds/\bc cx.eT (ae O st loc w) vs us/\(rs.mapM (mu a.tmps):Sem (List Value)).run P w = .ok us w:=by
 intro rs
 induction rs with
 | nil=>intro K h;exact ⟨[],[],h, .nil,rfl⟩
 | cons r rs ih=>
  intro K h
  cases r with
  | tmp t=>
   simp only [kU] at h
   split at h
   ·rename_i v hv
    obtain ⟨vs,us,h1,h2,h3⟩:=ih h
    have hr:=gM he (.tmp t)
    rw [hv] at hr
    refine ⟨v :: vs,a.tmps.getD t undef :: us,h1, .cons hr h2,?_⟩
    rw [List.mapM_cons]
    simp only [mu,Sem.run_bind,Sem.run_pure,Result.andThen_ok,h3]
   ·exact h.elim
  | cell b t=>
   simp only [kU] at h
   obtain ⟨sv,u,h1,h2,h3⟩:=oD (P:=P) hok g (aK he (.tmp b)) h
   split at h1
   ·rename_i v
    obtain ⟨vs,us,k1,k2,k3⟩:=ih h1
    have h3:=h3 w (Below.refl _ _)
    refine ⟨v :: vs,u :: us,k1, .cons h2 k2,?_⟩
    rw [List.mapM_cons]
    have h4:(do loadVar t (<-asAddr (a.tmps.getD b undef)):Sem Value).run P w = .ok u w:=by
     have h3:(Instr.loadAt t (a.tmps.getD b undef)).run P w = .ok u w:=h3
     generalize a.tmps.getD b undef=p at h3
     cases p with
     | pointer q=>
      cases q with
      | none=>simp [Instr.loadAt,Instr.sureAddr] at h3
      | some q=>simpa [Instr.loadAt,Instr.sureAddr,asAddr] using h3
     | _=>simp [Instr.loadAt,Instr.sureAddr] at h3
    simp only [mu,Sem.run_bind] at h4 ⊢
    simp only [h4,Sem.run_pure,Result.andThen_ok,k3]
   ·exact h1.elim
theorem bc.len {S:aH} {xs:List aZ} {us:List Value} (h:bc eT S xs us):xs.length=us.length:=by
 induction h with
 | nil=>rfl
 | cons _ _ ih=>simp [ih]
theorem qA {S:aH} {vs:List aZ} {us:List Value} (h:bc eT S vs us):bH eT S (mX vs) (o8 us):=by
 match vs,us,h with
 | [],[],h=>exact ⟨[],rfl,h⟩
 | [v],[u], .cons h1 .nil=>exact h1
 | _ :: _ :: _,_ :: _ :: _,h=>exact ⟨_,rfl,h⟩
theorem nE (hok:fw P cx X) {f:FuncId} {fn:Func} {c:Code} (hf:P.funcs[f]?=some fn) (hb:fn.body=some c) (hN:cx.N=fn.ntmps) (anns:cC) {O:ah} {st:St} {loc:Nat->Loc} {w:World}
  {args:Array Value} {K:List aZ->St->VC} (hsz:args.size<=fn.ntmps) (g:Good cx.eT X (ae O st loc w)) (hO:bZ O w)
  (henv:∀t sv,look st.env t=some sv->∃v,args[t]?=some v/\bH cx.eT (ae O st loc w) sv v)
  (h:(DB cx anns fn.results.toList c st K).holds) :
  Calls P f args w fun e w'=>∃vs us st' loc',e = .returned (o8 us)/\(K vs st').holds/\bc cx.eT (ae O st' loc' w') vs us/\Good cx.eT X (ae O st' loc' w')/\Tr (ae O st loc w) (ae O st' loc' w'):=by
 refine calls_of_wp hf hb ?_
 have hA:cw cx (ae O st loc w) st {tmps:=args++Array.replicate (fn.ntmps - args.size) undef,defers:=[]}:=by
  refine ⟨by simp [hN];omega,rfl,fun t sv ht => ?_⟩
  obtain ⟨v,hv,hr⟩:=henv t sv ht
  have hlt:t < args.size:=by
   rcases Nat.lt_or_ge t args.size with hh | hh
   ·exact hh
   ·rw [Array.getElem?_eq_none hh] at hv;cases hv
  rw [Array.getD_eq_getD_getElem?,Array.getElem?_append,if_pos hlt,hv]
  exact hr
 refine wp_mono (Hv hok anns c 0 hA g hO h) ?_
 have fin:∀(a':Act) (w':World),cB cx X O (fun st'=>kU cx st' fn.results.toList fun vs=>K vs st') (writes anns 0 c) st (ae O st loc w) a' w'->a'.defers = []/\∃v,(results fn a'.tmps).run P w' = .ok v w'/\
   ∃vs us st' loc',Ending.returned v = .returned (o8 us)/\(K vs st').holds/\bc cx.eT (ae O st' loc' w') vs us/\Good cx.eT X (ae O st' loc' w')/\Tr (ae O st loc w) (ae O st' loc' w'):=by
  rintro a' w' ⟨st',loc',k1,k2,k3,k4,_⟩
  obtain ⟨vs,us,m1,m2,m3⟩:=sd (P:=P) hok.toTyOK k2 k4.env k1
  refine ⟨k4.defers,o8 us,?_,vs,us,st',loc',rfl,m1,m2,k2,k3⟩
  have hm:(fn.results.mapM (mu a'.tmps):Sem (Array Value)).run P w' = .ok us.toArray w':=by
   rw [<-Array.toArray_toList (xs:=fn.results),List.mapM_toArray,Sem.run_map,m3]
   rfl
  have he:results fn a'.tmps=(do
    let xs <-fn.results.mapM (mu a'.tmps)
    return if h:xs.size=1 then xs[0] else .tuple xs):=by
   unfold results
   congr 1
  rw [he,Sem.run_bind,hm]
  simp only [Result.andThen_ok,Sem.run_pure]
  match us with
  | []=>rfl
  | [u]=>rfl
  | _ :: _ :: _=>rfl
 intro e a' w' hq
 cases e with
 | normal=>exact fin a' w' hq
 | ret=>exact fin a' w' hq
 | exit n=>obtain ⟨st',loc',k1,_⟩:=hq;exact k1.elim
 | goto l=>exact hq.elim
 | panic c=>exact hq.elim
 | outgrown=>exact hq.elim
end
end Go.Vg

namespace Go.Vg
open Go.RowKit
section
variable {X:Ext} {P:Program} {cx:Cx}
theorem Fp {O:ah} {st:St} {loc:Nat->Loc} {w:World} {b o:Nat} (h:¬ (ae O st loc w).A b o):¬ O b o:=fun k=>h (.inl k)
theorem K6 {O:ah} {st:St} {loc:Nat->Loc} {w:World} {t:Ty} {x:D t} {v:Value} {eT:TypeId} (h:VR eT t x (ae O st loc w).A w v):VR eT t x O w v:=
 VR.frame h fun _ _ _ ha hc=>⟨hc,Fp ha⟩
theorem CA {O:ah} {st:St} {loc:Nat->Loc} {w:World} (g:Good cx.eT X (ae O st loc w)) {n:Nat} {t:Ty} {xs:List (D t)} (hob:look st.ag n=some (.ax t xs))
  {v:Value} (hx:CR cx.eT (ae O st loc w) (.ax n) v):VR cx.eT (.slice t) xs O w v:=by
 rcases (g.obj _ _ hob).2 with ⟨rfl,⟨a,ha⟩,_⟩ | ⟨b,vs,T,cap,hl,cY,hheap,hvs,hcap,hbig,he⟩
 ·exact VR.aW rfl ⟨_,rfl,by simp, .inl ⟨rfl,a,0,(hx.2 _ _ hob).trans ha⟩⟩
 refine VR.aW rfl ⟨_,rfl,hbig, .inr ⟨b,0,cap,(hx.2 _ _ hob).trans hl,hcap,fun i y hy => ?_⟩⟩
 obtain ⟨us,h1,h2⟩:=he i y hy
 refine ⟨us,h1.frame fun _ _ _ ha hc=>⟨hc,Fp ha⟩,fun j u hj=>⟨?_,?_⟩⟩
 ·rw [Nat.zero_add,cell_of_row w b _ vs T (0,0) hheap];exact h2 j u hj
 ·exact g.out n _ b _ hob (by rw [cY];simp)
theorem CB {O:ah} {st:St} {loc:Nat->Loc} {w:World} (g:Good cx.eT X (ae O st loc w)) {n:Nat} {t:Ty} {xs:D t} (hob:look st.ag n=some (.ext 0 t xs))
  {v:Value} (hx:CR cx.eT (ae O st loc w) (.xd n .top) v) {A:ah} (hA:∀b∈(loc n).bs,∀o,¬ A b o):VR cx.eT t xs A w v:=by
 have hd:eW t xs (loc n) w:=X.deep.1 (g.obj _ _ hob).2
 obtain ⟨e,s,rfl,hs⟩:=mL hd
 exact hd.data (hx.2 _ _ hob) hA
theorem wS {O:ah} {st:St} {loc:Nat->Loc} {w:World} (g:Good cx.eT X (ae O st loc w)) {n:Nat} {t:Ty} {xs:D t} (h:yg st t n=some xs)
  {v:Value} (hx:CR cx.eT (ae O st loc w) (.xd n .top) v):VR cx.eT t xs O w v:=by
 unfold yg at h
 split at h
 ·rename_i t' ys hob
  split at h
  ·cases h;rename_i hb
   exact fO hb _ (CB g hob hx fun b hb o=>g.out n _ b o hob hb)
  ·cases h
 ·cases h
theorem CC {O:ah} {st:St} {loc:Nat->Loc} {w:World} (g:Good cx.eT X (ae O st loc w)) {want:Ty} {c:C} {x:D want} {v:Value} (h:Fo st want c=some x)
  (hc:CR cx.eT (ae O st loc w) c v):VR cx.eT want x O w v:=by
 unfold Fo at h
 split at h
 ·rename_i n
  split at h
  ·rename_i t xs hob
   split at h
   ·cases h;rename_i hb;exact fO hb _ (CA g hob hc)
   ·cases h
  ·cases h
 ·exact wS g h hc
 ·exact K6 (kq h hc)
theorem Fq {O:ah} {st:St} {loc:Nat->Loc} {w:World} (g:Good cx.eT X (ae O st loc w)):∀{t:Ty} {cs cs':List C} {x:D t} {vs:List Value},jg st t cs=some (x,cs')->bR cx.eT (ae O st loc w) cs vs->
  ∃us vs',vs=us++vs'/\R cx.eT t x O w us/\bR cx.eT (ae O st loc w) cs' vs':=by
 have one:∀{t:Ty} {c:C} {cs cs':List C} {x:D t} {vs:List Value},(match Fo st t c with | some x=>some (x,cs) | none=>none)=some (x,cs')->bR cx.eT (ae O st loc w) (c :: cs) vs->
   ∃us vs',vs=us++vs'/\R cx.eT t x O w us/\bR cx.eT (ae O st loc w) cs' vs':=by
  intro t c cs cs' x vs h hc
  cases hc with
  | cons h1 h2 h3=>
   rename_i v vs0
   split at h
   ·rename_i y hy
    cases h
    exact ⟨[v],vs0,rfl,(rT h2 (CC g hy h1)).2,h3⟩
   ·cases h
 intro t
 induction t with
 | prod a b iha ihb=>
  intro cs cs' x vs h hc
  simp only [jg] at h
  split at h
  ·rename_i y cs1 h1
   split at h
   ·rename_i z cs2 h2
    cases h
    obtain ⟨u1,v1,rfl,r1,k1⟩:=iha h1 hc
    obtain ⟨u2,v2,rfl,r2,k2⟩:=ihb h2 k1
    exact ⟨u1++u2,v2,by simp,⟨u1,u2,rfl,r1,r2⟩,k2⟩
   ·cases h
  ·cases h
 | unit=>
  intro cs cs' x vs h hc
  simp only [jg] at h
  cases h
  exact ⟨[],vs,rfl,rfl,hc⟩
 | bool=>intro cs cs' x vs h hc;cases cs with | nil=>simp [jg] at h | cons c cs=>exact one (t:=.bool) h hc
 | int k=>intro cs cs' x vs h hc;cases cs with | nil=>simp [jg] at h | cons c cs=>exact one (t:=.int k) h hc
 | str=>intro cs cs' x vs h hc;cases cs with | nil=>simp [jg] at h | cons c cs=>exact one (t:=.str) h hc
 | err=>intro cs cs' x vs h hc;cases cs with | nil=>simp [jg] at h | cons c cs=>exact one (t:=.err) h hc
 | di=>intro cs cs' x vs h hc;cases cs with | nil=>simp [jg] at h | cons c cs=>exact one (t:=.di) h hc
 | slice e _=>intro cs cs' x vs h hc;cases cs with | nil=>simp [jg] at h | cons c cs=>exact one (t:=.slice e) h hc
theorem zI {O:ah} {st:St} {loc:Nat->Loc} {w:World} (g:Good cx.eT X (ae O st loc w)) {want:Ty} {c:aZ} {x:D want} {v:Value} (h:DA st want c=some x)
  (hc:dr cx.eT (ae O st loc w) c v):VR cx.eT want x O w v:=by
 cases c with
 | one c=>exact CC g h hc
 | agg cs=>
  simp only [DA] at h
  obtain ⟨vs,rfl,hcs⟩:=hc
  split at h
  ·cases h
  ·rename_i ho
   split at h
   ·rename_i y hy
    cases h
    obtain ⟨us,vs',rfl,r,k⟩:=Fq g hy hcs
    cases k
    unfold VR
    rw [if_neg (by simp [ho])]
    exact ⟨_,rfl,by simpa using r⟩
   ·cases h
theorem zJ {O:ah} {st:St} {loc:Nat->Loc} {w:World} (g:Good cx.eT X (ae O st loc w)):∀{ts:List Ty} {vs:List aZ} {ys:HL ts} {us:List Value},qz st ts vs=some ys->
  bc cx.eT (ae O st loc w) vs us->fU cx.eT O w ts ys us
 | [],[],_,_,_, .nil=>rfl
 | [t],[a],ys,_,h, .cons h1 .nil=>⟨_,rfl,zI g h h1⟩
 | t :: u :: r,a :: Lm,ys,_,h, .cons h1 h2=>by
  simp only [qz] at h
  split at h
  ·rename_i x xs k1 k2
   cases h
   exact ⟨_,_,rfl,zI g k1 h1,zJ g k2 h2⟩
  ·cases h
 | [],_ :: _,_,_,h,_=>by simp [qz] at h
 | [_],[],_,_,h,_=>by simp [qz] at h
 | [_],_ :: _ :: _,_,_,h,_=>by simp [qz] at h
 | _ :: _ :: _,[],_,_,h,_=>by simp [qz] at h
theorem uB {eT:TypeId} {O:ah} {w:World} {S:aH} (hS:S.w=w) (hA:∀b o,¬ O b o->¬ S.A b o):∀(ts:List Ty) (k:Nat) (xs:HL ts) (vs:List Value),fU eT O w ts xs vs->
  ∀t sv,look (n7 k ts xs) t=some sv->k<=t/\∃v,vs[t - k]?=some v/\bH eT S sv v
 | [],k,xs,vs,_,t,sv,h=>by simp [n7,look] at h
 | [ty],k,x,_,⟨v,rfl,hv⟩,t,sv,h=>by
  simp only [n7,aU] at h
  split at h
  ·cases h
   rename_i e;subst e
   exact ⟨Nat.le_refl _,v,by simp,VR.frame hv fun b o _ ha hc=>⟨by rw [hS];exact hc,hA b o ha⟩⟩
  ·simp [look] at h
 | ty :: u :: r,k,xs,_,⟨v,vs',rfl,hv,hr⟩,t,sv,h=>by
  simp only [n7,aU] at h
  split at h
  ·cases h
   rename_i e;subst e
   exact ⟨Nat.le_refl _,v,by simp,VR.frame hv fun b o _ ha hc=>⟨by rw [hS];exact hc,hA b o ha⟩⟩
  ·obtain ⟨h1,v',h2,h3⟩:=uB hS hA (u :: r) (k + 1) xs.2 vs' hr t sv h
   refine ⟨by omega,v',?_,h3⟩
   rw [show t - k=(t - (k + 1)) + 1 from by omega,List.getElem?_cons_succ]
   exact h2
theorem fU.length {eT:TypeId} {O:ah} {w:World}:∀{ts:List Ty} {xs:HL ts} {vs:List Value},fU eT O w ts xs vs->vs.length=ts.length
 | [],_,_,h=>by rw [show _ = [] from h];rfl
 | [_],_,_,⟨_,rfl,_⟩=>rfl
 | _ :: u :: r,_,_,⟨_,_,rfl,_,h⟩=>by simp [fU.length h]
def wf:(t:Ty)->D t->Prop
 | .int k,x=>k.min<=x/\x<=k.max
 | .str,x=>x.length<=av
 | .prod a b,x=>wf a x.1/\wf b x.2
 | .slice e,x=>x.length<=av/\∀(i:Nat) y,x[i]?=some y->wf e y
 | _,_=>True
def er:(ts:List Ty)->HL ts->Prop
 | [],_=>True
 | [t],x=>wf t x
 | t :: u :: r,xs=>wf t xs.1/\er (u :: r) xs.2
theorem R.wf {eT:TypeId}:∀{t:Ty} {x:D t} {A:ah} {w:World} {vs:List Value},R eT t x A w vs->Vg.wf t x:=by
 intro t
 induction t with
 | int k=>intro x A w vs h;exact h.2
 | str=>intro x A w vs h;exact h.2
 | prod a b iha ihb=>intro x A w vs h;obtain ⟨_,_,_,h1,h2⟩:=h;exact ⟨iha h1,ihb h2⟩
 | slice e ih=>
  intro x A w vs h
  obtain ⟨v,_,hl,h⟩:=h
  refine ⟨hl,fun i y hy => ?_⟩
  rcases h with ⟨rfl,_⟩ | ⟨b,o,cap,_,_,h⟩
  ·simp at hy
  ·obtain ⟨us,h1,_⟩:=h i y hy;exact ih h1
 | _=>intro x A w vs h;trivial
theorem VR.wf {eT:TypeId} {t:Ty} {x:D t} {A:ah} {w:World} {v:Value} (h:VR eT t x A w v):Vg.wf t x:=(VR.cells h).wf
theorem fU.wf {eT:TypeId} {O:ah} {w:World}:∀{ts:List Ty} {xs:HL ts} {vs:List Value},fU eT O w ts xs vs->er ts xs
 | [],_,_,_=>trivial
 | [_],_,_,⟨_,_,h⟩=>h.wf
 | _ :: _ :: _,_,_,⟨_,_,_,h,h'⟩=>⟨h.wf,fU.wf h'⟩
theorem DC {B:Cx} {X:Ext} {Γ:List (FuncId × (Bool × aY))} {N:Nat} {f:FuncId} {fn:Func} {c:Code} (hok:fw P (lI B Γ N) X) (hf:P.funcs[f]?=some fn) (hb:fn.body=some c) (hn:(fn.name == "runtime.NumGoroutine")=false)
  (hN:fn.ntmps=N) {ts rts:List Ty} (anns:HL ts->cC) (hts:ts.length<=N) {pre:HL ts->Prop} {post:HL ts->HL rts->Prop}
  (h:∀xs,er ts xs->pre xs->(Cz B Γ N (anns xs) fn.results.toList c ts rts post xs).holds) :
  bj P B.eT X f ts rts pre post:=by
 refine ⟨⟨fn,hf,by rw [hb];rfl,hn⟩,fun O w xs vs hG hO ha hp => ?_⟩
 have g0:Good (lI B Γ N).eT X (ae O (kV ts xs) (fun _=>default) w):=
  ⟨fun n oc h=>by simp [ae,kV,look] at h,fun n m oc oc' b h=>by simp [ae,kV,look] at h,fun n oc b off h=>by simp [ae,kV,look] at h,hG,fun b hb ⟨n,oc,h,_⟩=>by simp [ae,kV,look] at h⟩
 have hA0:∀b o,¬ O b o->¬ (ae O (kV ts xs) (fun _=>default) w).A b o:=by
  rintro b o h (k | ⟨n,oc,k,_⟩)
  ·exact h k
  ·simp [ae,kV,look] at k
 refine Calls.mono (nE hok hf hb hN.symm (anns xs) (by simpa [ha.length,hN] using hts) g0 hO ?_ (h xs ha.wf hp)) ?_
 ·intro t sv ht
  obtain ⟨_,v,h1,h2⟩:=uB (eT:=B.eT) (S:=ae O (kV ts xs) (fun _=>default) w) rfl hA0 ts 0 xs vs ha t sv ht
  exact ⟨v,by simpa using h1,h2⟩
 ·rintro e w' ⟨vs',us,st',loc',rfl,h1,h2,h3,h4⟩
  split at h1
  ·rename_i ys hys
   refine ⟨us,ys,rfl,h1,zJ h3 hys h2,h4.os,h4.output,h4.size,fun k hk=>h4.block k hk ?_⟩
   rintro ⟨n,oc,k,_⟩
   simp [ae,kV,look] at k
  ·exact h1.elim
def fV:ah:=fun _ _=>False
def outer (lend:Bool) (A:ah):ah:=match lend with
 | true=>fV
 | false=>A
theorem zK {O:ah} {st:St} {loc:Nat->Loc} {w:World} (g:Good cx.eT X (ae O st loc w)) {lend:Bool} {t:Ty} {a:aZ} {x:D t} {v:Value} (h:Dz lend st t a=some x)
  (ha:dr cx.eT (ae O st loc w) a v):VR cx.eT t x (outer lend (ae O st loc w).A) w v:=by
 have base:lF t a=some x->VR cx.eT t x (outer lend (ae O st loc w).A) w v:=by
  intro h
  refine VR.Dt (fP h ha) fun b o k => ?_
  cases lend with
  | true=>exact id
  | false=>exact k
 unfold Dz at h
 split at h
 ·rename_i e n x' heq
  unfold p5 at h
  simp only [vA] at h
  split at h
  ·rename_i e' ys hob
   split at h
   ·cases h;rename_i hb
    exact fO hb _ (VR.Dt (CA g hob ha) fun _ _ _=>id)
   ·cases h
  ·cases h
 ·exact VR.Dt (wS g h ha) fun _ _ _=>id
 ·exact base h
theorem wT {O:ah} {st:St} {loc:Nat->Loc} {w:World} (g:Good cx.eT X (ae O st loc w)) {lend:Bool}:∀{ts:List Ty} {Lm:List aZ} {xs:HL ts} {vs:List Value},jf lend st ts Lm=some xs->
  bc cx.eT (ae O st loc w) Lm vs->fU cx.eT (outer lend (ae O st loc w).A) w ts xs vs
 | [],[],_,_,_, .nil=>rfl
 | [t],[a],xs,_,h, .cons h1 .nil=>⟨_,rfl,zK g h h1⟩
 | t :: u :: r,a :: Lm,xs,_,h, .cons h1 h2=>by
  simp only [jf] at h
  split at h
  ·rename_i x xs k1 k2
   cases h
   exact ⟨_,_,rfl,zK g k1 h1,wT g k2 h2⟩
  ·cases h
 | [],_ :: _,_,_,h,_=>by simp [jf] at h
 | [_],[],_,_,h,_=>by simp [jf] at h
 | [_],_ :: _ :: _,_,_,h,_=>by simp [jf] at h
 | _ :: _ :: _,[],_,_,h,_=>by simp [jf] at h
theorem se {eT:TypeId} {S:aH} {O:ah} {w:World} (hS:S.w=w):∀{ts:List Ty} {ys:HL ts} {us:List Value},(fa ts=true\/O=S.A)->fU eT O w ts ys us->bc eT S (kz ts ys) us
 | [],_,_,_,h=>by rw [show _ = [] from h];exact .nil
 | [t],y,_,hl,⟨v,rfl,hv⟩=>by
  refine .cons ?_ .nil
  subst hS
  rcases hl with hl | hl
  ·simp only [fa,Bool.and_true] at hl
   exact VR.of_flat hl hv
  ·subst hl;exact hv
 | t :: u :: r,ys,_,hl,⟨v,vs',rfl,hv,hr⟩=>by
  refine .cons ?_ (se hS ?_ hr)
  ·subst hS
   rcases hl with hl | hl
   ·simp only [fa,Bool.and_eq_true] at hl
    exact VR.of_flat hl.1 hv
   ·subst hl;exact hv
  ·rcases hl with hl | hl
   ·simp only [fa,Bool.and_eq_true] at hl ⊢;exact .inl hl.2
   ·exact .inr hl
theorem KO {O:ah} {st:St} {loc:Nat->Loc} {w:World} {eT:TypeId} (g:Good eT X (ae O st loc w)) (hO:bZ O w):bZ (ae O st loc w).A w:=by
 rintro b off (h | ⟨n,oc,h1,h2,_⟩)
 ·exact hO b off h
 ·exact (g.obj n oc h1).2.inside b h2
theorem wU {eT:TypeId} {f:FuncId} {ts rts:List Ty} {pre:HL ts->Prop} {post:HL ts->HL rts->Prop} (h:bj P eT X f ts rts pre post)
  {O:ah} {st:St} {loc:Nat->Loc} {w:World} {args:List aZ} {vs:List Value} {xs:HL ts} (hx:jf (fa rts) st ts args=some xs) (hp:pre xs)
  {K:SV->St->VC} (hK:∀ys,post xs ys->(K (mX (kz rts ys)) st).holds)
  (g:Good eT X (ae O st loc w)) (hO:bZ O w) (ha:bc eT (ae O st loc w) args vs) :
  Calls P f vs.toArray w fun e w'=>∃v sv st' loc',e = .returned v/\(K sv st').holds/\st'.env=st.env/\(true=true->Below w.heap.size w w')/\Good eT X (ae O st' loc' w')/\
   Tr (ae O st loc w) (ae O st' loc' w')/\bH eT (ae O st' loc' w') sv v:=by
 have g':Good (Cx.mk eT [] [] [] 0 [] [] [] false [] []).eT X (ae O st loc w):=g
 have hOut:bZ (outer (fa rts) (ae O st loc w).A) w:=by
  intro b off hb
  cases hf:fa rts with
  | true=>rw [hf] at hb;exact hb.elim
  | false=>rw [hf] at hb;exact KO g hO b off hb
 refine Calls.mono (h.ok _ w xs vs g.eE.1 hOut (wT g' hx ha) hp) ?_
 rintro e w' ⟨us,ys,rfl,h1,h2,h3⟩
 obtain ⟨t,g2⟩:=jE (S':=ae O st loc w') g rfl rfl rfl rfl h3
 refine ⟨_,_,st,loc,rfl,hK ys h1,rfl,fun _=>h3,g2,t,qA (se rfl ?_ h2)⟩
 cases hf:fa rts with
 | true=>exact .inl rfl
 | false=>exact .inr (by simp only [outer];funext b off;simp [aH.A,ae])
theorem uC {O:ah} {st:St} {loc:Nat->Loc} {w:World} (g:Good cx.eT X (ae O st loc w)) (c:C) :
  Tr (ae O st loc w) (ae O (qy st c).2 loc w)/\Good cx.eT X (ae O (qy st c).2 loc w)/\(qy st c).2.env=st.env/\
   ∀v,CR cx.eT (ae O st loc w) c v->CR cx.eT (ae O (qy st c).2 loc w) (qy st c).1 v:=by
 unfold qy
 split
 ·rename_i n
  split
  ·rename_i t xs hob
   obtain ⟨h1,h2⟩:=gP g n
   exact ⟨h1,h2,rfl,fun v hv=>rZ g hob hv⟩
  ·exact ⟨Tr.refl _,g,rfl,fun v hv=>hv⟩
 ·rename_i n
  split
  ·rename_i t xs hob
   obtain ⟨h1,h2⟩:=gP g n
   refine ⟨h1,h2,rfl,fun v hv=>CB g hob hv fun b hb o => ?_⟩
   rintro (hA' | ⟨m,oc,k1,k2,k3⟩)
   ·exact g.out n _ b o hob hb hA'
   ·simp only [ae,aA] at k1 k2
    rw [fQ] at k1
    split at k1
    ·cases k1
    ·rename_i h8;exact h8 (g.apart n m _ _ b hob k1 hb k2)
  ·exact ⟨Tr.refl _,g,rfl,fun v hv=>hv⟩
 ·exact ⟨Tr.refl _,g,rfl,fun v hv=>hv⟩
theorem sf {O:ah} {loc:Nat->Loc} {w:World}:∀(cs:List C) {st:St},Good cx.eT X (ae O st loc w)->
  Tr (ae O st loc w) (ae O (o7 st cs).2 loc w)/\Good cx.eT X (ae O (o7 st cs).2 loc w)/\(o7 st cs).2.env=st.env/\
   ∀vs,bR cx.eT (ae O st loc w) cs vs->bR cx.eT (ae O (o7 st cs).2 loc w) (o7 st cs).1 vs
 | [],st,g=>⟨Tr.refl _,g,rfl,fun vs h=>h⟩
 | c :: cs,st,g=>by
  obtain ⟨t1,g1,e1,k1⟩:=uC g c
  obtain ⟨t2,g2,e2,k2⟩:=sf cs g1
  refine ⟨t1.trans t2,g2,e2.trans e1,fun vs h => ?_⟩
  cases h with
  | cons h1 h2 h3=>exact .cons ((k1 _ h1).tr t2) h2 (k2 _ (h3.tr t1))
theorem o9 {O:ah} {st:St} {loc:Nat->Loc} {w:World} (g:Good cx.eT X (ae O st loc w)) (x:aZ) :
  Tr (ae O st loc w) (ae O (tm st x).2 loc w)/\Good cx.eT X (ae O (tm st x).2 loc w)/\(tm st x).2.env=st.env/\
   ∀v,dr cx.eT (ae O st loc w) x v->dr cx.eT (ae O (tm st x).2 loc w) (tm st x).1 v:=by
 cases x with
 | one c=>exact uC g c
 | agg cs=>
  obtain ⟨t1,g1,e1,k1⟩:=sf cs g
  exact ⟨t1,g1,e1,fun v ⟨vs,h1,h2⟩=>⟨vs,h1,k1 _ h2⟩⟩
theorem DD {O:ah} {st:St} {loc:Nat->Loc} {w:World} (g:Good cx.eT X (ae O st loc w)) (lend:Bool) (x:aZ) :
  Tr (ae O st loc w) (ae O (vP lend st x).2 loc w)/\Good cx.eT X (ae O (vP lend st x).2 loc w)/\(vP lend st x).2.env=st.env/\
   ∀v,dr cx.eT (ae O st loc w) x v->dr cx.eT (ae O (vP lend st x).2 loc w) (vP lend st x).1 v:=by
 cases lend with
 | false=>cases x <;> exact o9 g _
 | true=>
  cases x with
  | one c=>exact ⟨Tr.refl _,g,rfl,fun v hv=>hv⟩
  | agg cs=>exact o9 g _
theorem uD {O:ah} {loc:Nat->Loc} {w:World} (lend:Bool):∀(xs:List aZ) {st:St},Good cx.eT X (ae O st loc w)->
  Tr (ae O st loc w) (ae O (nD lend st xs).2 loc w)/\Good cx.eT X (ae O (nD lend st xs).2 loc w)/\(nD lend st xs).2.env=st.env/\
   ∀vs,bc cx.eT (ae O st loc w) xs vs->bc cx.eT (ae O (nD lend st xs).2 loc w) (nD lend st xs).1 vs
 | [],st,g=>⟨Tr.refl _,g,rfl,fun vs h=>h⟩
 | x :: xs,st,g=>by
  obtain ⟨t1,g1,e1,k1⟩:=DD g lend x
  obtain ⟨t2,g2,e2,k2⟩:=uD lend xs g1
  refine ⟨t1.trans t2,g2,e2.trans e1,fun vs h => ?_⟩
  cases h with
  | cons h1 h3=>exact .cons ((k1 _ h1).tr t2) (k2 _ (h3.tr t1))
theorem wV {eT:TypeId} {f:FuncId} {q:Bool} {sp:aY} {lend:Bool}
  (h:∀O st loc w args vs K,(sp args st K).holds->Good eT X (ae O st loc w)->bZ O w->bc eT (ae O st loc w) args vs->
   Calls P f vs.toArray w fun e w'=>∃v sv st' loc',e = .returned v/\(K sv st').holds/\st'.env=st.env/\(q=true->Below w.heap.size w w')/\Good eT X (ae O st' loc' w')/\
    Tr (ae O st loc w) (ae O st' loc' w')/\bH eT (ae O st' loc' w') sv v)
  (O:ah) (st:St) (loc:Nat->Loc) (w:World) (args:List aZ) (vs:List Value) (K:SV->St->VC) (hs:(sp (nD lend st args).1 (nD lend st args).2 K).holds)
  (g:Good eT X (ae O st loc w)) (hO:bZ O w) (ha:bc eT (ae O st loc w) args vs) :
  Calls P f vs.toArray w fun e w'=>∃v sv st' loc',e = .returned v/\(K sv st').holds/\st'.env=st.env/\(q=true->Below w.heap.size w w')/\Good eT X (ae O st' loc' w')/\
   Tr (ae O st loc w) (ae O st' loc' w')/\bH eT (ae O st' loc' w') sv v:=by
 have g':Good (Cx.mk eT [] [] [] 0 [] [] [] false [] []).eT X (ae O st loc w):=g
 obtain ⟨t1,g1,e1,k1⟩:=uD lend args g'
 refine Calls.mono (h O _ loc w _ vs K hs g1 hO (k1 _ ha)) ?_
 rintro e w' ⟨v,sv,st',loc',h1,h2,h3,h4,h5,h6,h7⟩
 exact ⟨v,sv,st',loc',h1,h2,h3.trans e1,h4,h5,t1.trans h6,h7⟩
theorem fB {eT:TypeId} {f:FuncId} {ts rts:List Ty} {pre:HL ts->Prop} {post:HL ts->HL rts->Prop} (h:bj P eT X f ts rts pre post) :
  bw P eT X f true (kA ts rts pre post):=by
 refine ⟨h.fn,wV (lend:=fa rts) (sp:=fun args st K=>match jf (fa rts) st ts args with
  | some xs => .and (pre xs) (.all (HL rts) fun ys => .imp (post xs ys) (K (mX (kz rts ys)) st))
  | none => .ff) fun O st loc w args vs K hs g hO ha => ?_⟩
 split at hs
 ·rename_i xs hx
  exact wU h hx hs.1 (fun ys hy=>hs.2 ys hy) g hO ha
 ·exact hs.elim
theorem ar {eT:TypeId} {f:FuncId} {ts rts:List Ty} {pre:HL ts->Prop} {g:HL ts->HL rts} (h:bj P eT X f ts rts pre (fun xs ys=>ys=g xs)) :
  bw P eT X f true (aM ts rts pre g):=by
 refine ⟨h.fn,wV (lend:=fa rts) (sp:=fun args st K=>match jf (fa rts) st ts args with
  | some xs => .and (pre xs) (K (mX (kz rts (g xs))) st)
  | none => .ff) fun O st loc w args vs K hs hg hO ha => ?_⟩
 split at hs
 ·rename_i xs hx
  exact wU h hx hs.1 (fun ys hy=>by rw [hy];exact hs.2) hg hO ha
 ·exact hs.elim
theorem Jd {B:Cx} {N:Nat} (h:TyOK P B):fw P (lI B [] N) X:=
 {fit:=h.fit,jb:=h.jb,eY:=h.eY,mixed:=h.mixed,arr:=h.arr,oB:=h.oB,eqs:=h.eqs,jn:=h.jn,lf:=h.lf,mM:=h.mM,calls:=fun f q sp hl=>by simp [lI,look] at hl}
theorem Hw {B:Cx} {Γ:List (FuncId × (Bool × aY))} {N:Nat} {f:FuncId} {q:Bool} {sp:aY} (h:bw P B.eT X f q sp) (hΓ:fw P (lI B Γ N) X):fw P (lI B ((f,q,sp) :: Γ) N) X:=
 {fit:=hΓ.fit,jb:=hΓ.jb,eY:=hΓ.eY,mixed:=hΓ.mixed,arr:=hΓ.arr,oB:=hΓ.oB,eqs:=hΓ.eqs,jn:=hΓ.jn,lf:=hΓ.lf,mM:=hΓ.mM,calls:=fun f' q' sp' hl=>by
   simp only [lI,aU] at hl
   split at hl
   ·rename_i e;subst e;cases hl;exact h
   ·exact hΓ.calls f' q' sp' hl}
end
end Go.Vg

namespace Go.Vg
open Go.RowKit
def Ty.plain:Ty->Bool
 | .err | .di=>false
 | .prod a b=>a.plain && b.plain
 | .slice e=>e.plain
 | _=>true
def Ty.low:Ty->Bool
 | .slice e=>Nat.blt 0 e.size && e.low
 | .prod a b=>a.low && b.low
 | _=>true
section
variable {H:Type} {enc:TypeId × Value->H} {P:Program} {w:World} {base:Nat} {sp:Nat->Bool} {held:Bool} {eT:TypeId}
theorem Fit.cellsOf {t:TypeId} {ty:Ty} {i:TypeInfo} {d:TypeDesc} (h:Fit P t ty i d):P.cellsOf t=ty.size:=by
 unfold Program.cellsOf;rw [h.info];exact h.size
theorem BA {f:TypeId->Ty->Bool} {cs:List Value} {fuel:Nat}
  (ih:∀t ty,f t ty=true->P.cellsOf t=ty.size/\∀us d ps,ty.plain=true->ty.low=true->DataW.trod enc P w base sp held fuel t us=some (d,ps)->∃x,R eT ty x fV w us) :
  ∀(gs:List Field) (off:Nat) (ty:Ty) (xs:List (DataW H × List MemPlace)),bL f gs off ty=true->ty.plain=true->ty.low=true->
   gs.mapM (fun f=>DataW.trod enc P w base sp held fuel f.type ((cs.drop f.offset).take (P.cellsOf f.type)))=some xs->cs.length=off + ty.size->∃x,R eT ty x fV w (cs.drop off):=by
 intro gs
 induction gs with
 | nil=>
  intro off ty xs h hp hs hm hl
  cases ty <;> simp [bL] at h
  refine ⟨(),?_⟩
  show cs.drop off = []
  exact List.drop_eq_nil_of_le (by simp [Ty.size] at hl;omega)
 | cons g gs ihg=>
  intro off ty xs h hp hs hm hl
  cases ty <;> simp [bL] at h
  rename_i a b
  obtain ⟨⟨⟨h1,h2⟩,h3⟩,h4⟩:=h
  simp only [Ty.plain,Bool.and_eq_true] at hp
  simp only [Ty.size] at hl
  rw [List.mapM_cons] at hm
  obtain ⟨k1,k2⟩:=ih _ _ h2
  subst h1
  rw [k1] at hm
  cases hx:DataW.trod enc P w base sp held fuel g.type ((cs.drop g.offset).take a.size) with
  | none=>simp [hx] at hm
  | some y=>
   cases hxs:gs.mapM (fun f=>DataW.trod enc P w base sp held fuel f.type ((cs.drop f.offset).take (P.cellsOf f.type))) with
   | none=>simp [hx,hxs] at hm
   | some ys=>
    simp only [Ty.low,Bool.and_eq_true] at hs
    obtain ⟨x,rx⟩:=k2 _ y.1 y.2 hp.1 hs.1 hx
    obtain ⟨z,rz⟩:=ihg _ _ _ h4 hp.2 hs.2 hxs (by omega)
    refine ⟨(x,z),_,_,?_,rx,rz⟩
    rw [<-List.drop_drop,List.take_append_drop]
theorem DE:∀(n:Nat) (t:TypeId) (ty:Ty),fits P n t ty=true->P.cellsOf t=ty.size/\∀fuel us d ps,ty.plain=true->ty.low=true->
  DataW.trod enc P w base sp held fuel t us=some (d,ps)->∃x,R eT ty x fV w us:=by
 intro n
 induction n with
 | zero=>intro t ty h;simp [fits] at h
 | succ n ih=>
  intro t ty h
  obtain ⟨m,i,dsc,hm,fit,hsh⟩:=fg h
  cases hm
  refine ⟨fit.cellsOf,fun fuel us d ps hp hs hd => ?_⟩
  cases fuel with
  | zero=>simp [DataW.trod] at hd
  | succ fuel=>
   unfold DataW.trod at hd
   rw [fit.du] at hd
   cases ty with
   | bool=>
    cases dsc <;> simp [aT] at hsh
    split at hd
    case h_1 _ _ b _=>exact ⟨b,rfl⟩
    all_goals simp_all
   | int k=>
    cases dsc <;> simp [aT] at hsh
    subst hsh
    split at hd
    case h_2 _ _ k1 k2 x h0=>
     cases h0
     split at hd
     ·rename_i h1
      obtain ⟨rfl,h1⟩:=h1
      simp only [Lit.wf,Bool.and_eq_true,decide_eq_true_eq] at h1
      exact ⟨x,rfl,h1⟩
     ·cases hd
    all_goals simp_all
   | str=>
    cases dsc <;> simp [aT] at hsh
    split at hd
    case h_4 _ _ s _=>
     split at hd
     ·rename_i h1
      refine ⟨s.data.toList,?_,?_⟩
      ·rw [Array.toArray_toList]
      ·unfold maxLen at h1
       unfold av
       rw [Array.length_toList]
       exact h1
     ·cases hd
    all_goals simp_all
   | err=>simp [Ty.plain] at hp
   | di=>simp [Ty.plain] at hp
   | unit=>
    cases dsc <;> simp [aT] at hsh
    rename_i fs
    simp only at hd
    split at hd
    ·rename_i hl
     rw [fit.cellsOf] at hl
     refine ⟨(),?_⟩
     exact List.length_eq_zero_iff.1 hl
    ·cases hd
   | prod a b=>
    cases dsc <;> simp [aT] at hsh
    rename_i fs
    simp only at hd
    split at hd
    ·rename_i hl
     rw [fit.cellsOf] at hl
     cases hxs:fs.toList.mapM (fun f=>DataW.trod enc P w base sp held fuel f.type ((us.drop f.offset).take (P.cellsOf f.type))) with
     | none=>rw [hxs] at hd;simp at hd
     | some xs=>
      obtain ⟨x,hx⟩:=BA (fun t ty hf=>⟨(ih t ty hf).1,(ih t ty hf).2 fuel⟩) _ _ _ _ hsh hp hs hxs (by omega)
      exact ⟨x,by simpa using hx⟩
    ·cases hd
   | slice e=>
    cases dsc <;> simp [aT] at hsh
    rename_i te
    simp only [Ty.low,Bool.and_eq_true] at hs
    have hpos:=gk hs.1
    obtain ⟨hce,hel⟩:=ih te e hsh
    split at hd
    case h_7=>exact ⟨[],_,rfl,by simp [av], .inl ⟨rfl,_,_,rfl⟩⟩
    case h_8 _ _ te' b l c h0=>
     cases h0
     simp only at hd
     split at hd
     case isFalse=>cases hd
     rename_i hcond
     obtain ⟨hb,hlc,hcm⟩:=hcond
     obtain ⟨es,hes,_⟩:=Option.bind_eq_some_iff.1 hd
     rw [hce] at hes
     have hlen:=mapM_some_length hes
     simp only [List.length_range] at hlen
     by_cases hl0:l=0
     ·subst hl0
      exact ⟨[],_,rfl,by simp [av], .inl ⟨rfl,_,_,rfl⟩⟩
     have hspot:b.spot=none:=by
      have h1:=mapM_some_get hes 0 0 (by rw [List.getElem?_range (by omega)])
      rw [List.getElem?_eq_getElem (by omega)] at h1
      obtain ⟨us,hu,hd1⟩:=Option.bind_eq_some_iff.1 h1
      obtain ⟨_,q1,q2⟩:=World.cells?_some hu
      have q3:=q2 0 hpos
      rw [List.getElem?_eq_getElem (by omega)] at q3
      have e0:(b.add (0 * e.size)).add 0=b:=by simp [Addr.add]
      rw [e0] at q3
      unfold World.cell? at q3
      split at q3
      ·cases hb0:b.spot with
       | none=>rfl
       | some k=>rw [hb0] at q3;simp at q3
      ·cases q3
     obtain ⟨bb,oo,so⟩:=b
     simp only at hspot
     subst hspot
     have hget:∀i,i < l->∃x us,R eT e x fV w us/\Row fV w bb (oo + i * e.size) us:=by
      intro i hi
      have h1:=mapM_some_get hes i i (by simp [hi])
      rw [List.getElem?_eq_getElem (by omega)] at h1
      obtain ⟨us,hu,hd1⟩:=Option.bind_eq_some_iff.1 h1
      obtain ⟨_,q1,q2⟩:=World.cells?_some hu
      obtain ⟨x,hx⟩:=hel fuel us (es[i]'(by omega)).1 (es[i]'(by omega)).2 hp hs.2 hd1
      refine ⟨x,us,hx,fun j u hj=>⟨?_,id⟩⟩
      have hjl:j < us.length:=by
       rcases Nat.lt_or_ge j us.length with h | h
       ·exact h
       ·rw [List.getElem?_eq_none h] at hj;cases hj
      have:=q2 j (by omega)
      rw [Addr.add_lit,Addr.add_lit] at this
      rw [this,hj]
     let xs:List (D e):=(List.range l).map fun i=>if h:i < l then (hget i h).choose else bp e
     have hxl:xs.length=l:=by simp [xs]
     have hxi:∀i y,xs[i]?=some y->∃us,R eT e y fV w us/\Row fV w bb (oo + i * e.size) us:=by
      intro i y hy
      have hi:i < l:=by
       rcases Nat.lt_or_ge i l with h | h
       ·exact h
       ·rw [List.getElem?_eq_none (by omega)] at hy;cases hy
      have:xs[i]?=some (hget i hi).choose:=by simp [xs,hi]
      rw [this] at hy
      cases hy
      exact (hget i hi).choose_spec
     refine ⟨xs,_,rfl,?_, .inr ⟨bb,oo,c,?_,?_,hxi⟩⟩
     ·rw [hxl];unfold maxLen at hcm;unfold av;omega
     ·rw [hxl]
     ·rw [hxl];exact hlc
    all_goals simp_all
theorem Hx {n:Nat} {t:TypeId} {ty:Ty} (hf:fits P n t ty=true) (hp:ty.plain=true) (hlow:ty.low=true) {r:Reach} {b:Nat} {v:Value} (hval:Value.okWide P w r b t v) {d:DataW H} {ps:List MemPlace}
  (hd:DataW.Trod enc P w base sp held t v d ps):∃x,VR eT ty x fV w v:=by
 obtain ⟨m,i,dsc,hm,fit,hsh⟩:=fg hf
 obtain ⟨fuel,hd⟩:=hd
 have key:∃x,R eT ty x fV w v.cells.toList:=(DE (eT:=eT) n t ty hf).2 fuel _ _ _ hp hlow hd
 unfold Value.okWide at hval
 rw [fit.du] at hval
 have one:ty.one=true->Cell.okWide P w r b t v->(v.cells.toList = [v])->∃x,VR eT ty x fV w v:=by
  intro h1 h2 h3
  rw [h3] at key
  obtain ⟨x,hx⟩:=key
  exact ⟨x,VR.aW h1 hx⟩
 have agg:ty.one=false->(∃cs,v = .agg cs/\cs.size=P.cellsOf t/\Row.okWide P w r b t cs)->∃x,VR eT ty x fV w v:=by
  rintro h1 ⟨cs,rfl,_,ts,_,_,h2⟩
  obtain ⟨x,hx⟩:=key
  refine ⟨x,?_⟩
  unfold VR
  rw [if_neg (by simp [h1])]
  exact ⟨cs,rfl,hx⟩
 cases ty with
 | err=>simp [Ty.plain] at hp
 | di=>simp [Ty.plain] at hp
 | prod a b=>cases dsc <;> simp [aT] at hsh;exact agg rfl hval
 | unit=>cases dsc <;> simp [aT] at hsh;exact agg rfl hval
 | bool=>
  cases dsc <;> simp [aT] at hsh
  refine one rfl hval ?_
  cases v <;> simp [Cell.okWide,Cell.ok,fit.du,Value.cells] at hval ⊢
 | int k=>
  cases dsc <;> simp [aT] at hsh
  refine one rfl hval ?_
  cases v <;> simp [Cell.okWide,Cell.ok,fit.du,Value.cells] at hval ⊢
 | str=>
  cases dsc <;> simp [aT] at hsh
  refine one rfl hval ?_
  cases v <;> simp [Cell.okWide,Cell.ok,fit.du,Value.cells] at hval ⊢
 | slice e=>
  cases dsc <;> simp [aT] at hsh
  refine one rfl hval ?_
  cases v <;> simp [Cell.okWide,Cell.ok,fit.du,Value.cells] at hval ⊢
def n8 (P:Program) (n:Nat):List TypeId->List Ty->Bool
 | [],[]=>true
 | t :: ts,ty :: tys=>fits P n t ty && ty.plain && ty.low && n8 P n ts tys
 | _,_=>false
theorem Fs {n:Nat} {r:Reach} {b:Nat}:∀(ts:List TypeId) (tys:List Ty) (vs:List Value) (ds:List (DataW H)) (ps:List MemPlace),n8 P n ts tys=true->
  (∀(j:Nat) t v,ts[j]?=some t->vs[j]?=some v->Value.okWide P w r b t v)->DataW.TrodAll enc P w base sp held ts vs ds ps->∃xs,fU eT fV w tys xs vs:=by
 intro ts
 induction ts with
 | nil=>
  intro tys vs ds ps hf hv h
  cases tys <;> simp [n8] at hf
  cases vs <;> cases ds <;> simp [DataW.TrodAll] at h
  exact ⟨(),rfl⟩
 | cons t ts ih=>
  intro tys vs ds ps hf hv h
  cases tys <;> simp [n8] at hf
  rename_i ty tys
  obtain ⟨⟨⟨h1,h2⟩,h3⟩,h4⟩:=hf
  cases vs <;> cases ds <;> simp [DataW.TrodAll] at h
  rename_i v vs d ds
  obtain ⟨p,hp,q,hq,_⟩:=h
  obtain ⟨x,hx⟩:=Hx (eT:=eT) h1 h2 h3 (hv 0 t v rfl rfl) hp
  obtain ⟨xs,hxs⟩:=ih tys vs ds q h4 (fun j t' v' h1 h2=>hv (j + 1) t' v' h1 h2) hq
  cases tys with
  | nil=>exact ⟨x,v,by rw [show vs = [] from hxs],hx⟩
  | cons ty' tys=>exact ⟨(x,xs),v,vs,rfl,hx,hxs⟩
theorem DF (hl:laidOutB P=true) {W W':World} (hb:Below W.heap.size W W'):∀(ts:List TypeId) (vs:List Value) (ds:List (DataW H)) (ps:List MemPlace),(ts.all fun t=>P.readableRec t && Nat.blt t P.types.size)=true->
  DataW.TrodAll enc P W 0 (fun _=>true) true ts vs ds ps->(∀x∈ps,x.block < W.heap.size)->DataW.TrodAll enc P W' 0 (fun b=>decide (b < W.heap.size)) true ts vs ds ps:=by
 intro ts
 induction ts with
 | nil=>intro vs ds ps _ h _;cases vs <;> cases ds <;> simp [DataW.TrodAll] at h ⊢;exact h
 | cons t ts ih=>
  intro vs ds ps hr h hlt
  simp only [List.all_cons,Bool.and_eq_true] at hr
  cases vs <;> cases ds <;> simp only [DataW.TrodAll] at h ⊢
  rename_i v vs d ds
  obtain ⟨p,q,hp,hq,rfl⟩:=h
  exact ⟨p,q,WideElems.Trod_stays hl hr.1.1 (gk hr.1.2) hp (fun x hx=>hb.same (hlt x (by simp [hx]))) (fun x hx=>by simpa using hlt x (by simp [hx])),ih vs ds q hr.2 hq (fun x hx=>hlt x (by simp [hx])),rfl⟩
theorem zL:∀{ts:List TypeId} {vs:List Value} {ds:List (DataW H)} {ps:List MemPlace},DataW.TrodAll enc P w base sp held ts vs ds ps->vs.length=ts.length/\ds.length=ts.length
 | [],[],[],_,_=>⟨rfl,rfl⟩
 | _ :: _,_ :: _,_ :: _,_,⟨_,_,_,h,_⟩=>by simp [zL h]
theorem Ft {X:Ext} {C:Checked} {f:FuncId} {fn:Func} {s:ChangeSpec} {tys:List Ty} {pre:HL tys->Prop} (hs:s.vars = []) (hl:laidOutB C.prog=true)
  (hsp:∀ds:List (DataW H),ds.length=tys.length->s.fn H ds = {results:=[.lit (.bool true)],args:=ds})
  {n:Nat} (hf:n8 C.prog n fn.params.toList tys=true) (hr:(fn.params.toList.all fun t=>C.prog.readableRec t && Nat.blt t C.prog.types.size)=true)
  {tb:TypeId} (hres:fn.resultTypes = #[tb]) (hb:C.prog.underlying tb=some .bool)
  (h:bj C.prog eT X f tys [.bool] pre (fun _ y=>y=true))
  {W:World} {base:Nat} {args:Array Value} {ds gs:List (DataW H)} {before:List MemPlace}
  (hval:∀(j:Nat) t v,fn.params[j]?=some t->args[j]?=some v->Value.okWide C.prog W .any base t v)
  (hW:DataW.Whole enc C.prog fn.params.toList s.vars false W args.toList ds gs before)
  (hG:X.pV W) (hpre:∀xs,fU eT fV W tys xs args.toList->pre xs) :
  Calls C.prog f args W fun e W'=>∃v,e = .returned v/\s.post enc C.prog fn false true false false W args v W':=by
 have hW0:=hW
 obtain ⟨p,q,hA,hV,rfl,_,_⟩:=hW
 rw [hs] at hV
 obtain ⟨rfl,rfl⟩:gs = []/\q = []:=by cases gs <;> simp [DataW.TrodVars] at hV;exact ⟨rfl,hV⟩
 obtain ⟨xs,hxs⟩:=Fs (eT:=eT) _ _ _ _ _ hf (fun j t v h1 h2=>hval j t v (by rw [<-Array.getElem?_toList];exact h1) (by rw [<-Array.getElem?_toList];exact h2)) hA
 have:=h.ok fV W xs args.toList hG (fun _ _ h=>h.elim) hxs (hpre xs hxs)
 rw [Array.toArray_toList] at this
 refine this.mono ?_
 rintro e W' ⟨us,ys,rfl,rfl,hr',hbel⟩
 obtain ⟨u,rfl,hu⟩:=hr'
 have hu:u = .bool true:=by
  have:=VR.one rfl hu
  simpa [R] using this
 subst hu
 have hlen:ds.length=tys.length:=by
  have h1:=hxs.length
  have h2:=zL hA
  omega
 simp only [List.append_nil] at hW0 ⊢
 have hlt:∀x∈p,x.block < W.heap.size:=hW0.lt
 refine ⟨_,rfl,ds,[],p,[],p,[],hW0,?_,?_,?_,hbel.frame _,fun hh=>by cases hh⟩
 ·rw [List.append_nil,hsp ds hlen,hres]
  exact ⟨[],[],shut_bool hb true,rfl,rfl⟩
 ·rw [List.append_nil,hsp ds hlen]
  exact DF hl hbel _ _ _ _ hr hA hlt
 ·rw [List.append_nil,hsp ds hlen,hs]
  rfl
end
end Go.Vg

namespace Go.Vg
open Go.RowKit
theorem holds_of {v:VC} {p:Prop} (e:v.holds=p) (h:p):v.holds:=by rw [e];exact h
section
variable {A B:Prop}
theorem iD {p:Prop} [Decidable p] (f:p->A) (g:¬ p->B):(decide p=true->A)/\(decide p=false->B):=⟨fun h=>f (of_decide_eq_true h),fun h=>g (of_decide_eq_false h)⟩
theorem iL {a b:Int} (f:a < b->A) (g:b<=a->B):(decide (a < b)=true->A)/\(decide (a < b)=false->B):=iD f fun h=>g (Int.not_lt.1 h)
theorem iE {a b:Int} (f:a<=b->A) (g:b < a->B):(decide (a<=b)=true->A)/\(decide (a<=b)=false->B):=iD f fun h=>g (Int.not_le.1 h)
theorem iB {b:Bool} (f:b=false->A) (g:b=true->B):((!b)=true->A)/\((!b)=false->B):=⟨fun h=>f (Bool.not_eq_true' b▸h),fun h=>g (Bool.not_eq_false' b▸h)⟩
theorem iQ {α:Type} [BEq α] [LawfulBEq α] {a b:α} (f:a=b->A) (g:¬ a=b->B):((a == b)=true->A)/\((a == b)=false->B):=⟨fun h=>f (eq_of_beq h),fun h=>g fun e=>by rw [e,beq_self_eq_true] at h;cases h⟩
theorem iN {α:Type} [BEq α] [LawfulBEq α] {a b:α} (f:¬ a=b->A) (g:a=b->B):((a != b)=true->A)/\((a != b)=false->B):=
 ⟨fun h=>f fun e=>(by rw [e,bne_self_eq_false] at h;cases h),fun h=>g (by simpa using h)⟩
end
def KP:Ext where
 rel k t x l w:=match k with
  | 0=>eW t x l w
  | 1=>nu t x l w
  | 2=>oz t x l w
  | _=>False
 inside {k t x l w} h:=by
  match k,h with
  | 0,h=>exact eW.inside h
  | 1,h=>exact nu.inside h
  | 2,h=>exact oz.inside h
 ptr {k t x l w} hk h:=by
  match k,hk,h with
  | 0,hk,_=>omega
  | 1,hk,_=>omega
  | 2,_,h=>obtain ⟨rfl,b,p,v,h⟩:=h;exact ⟨_,h.lv⟩
 deep:=Iff.rfl
 map:=Iff.rfl
 EO:=Iff.rfl
 frame {k t x l w w'} h hb:=by
  match k,h with
  | 0,h=>exact eW.frame h hb
  | 1,h=>exact nu.frame h hb
  | 2,h=>exact oz.frame h hb
 pV _:=True
 wy:=[]
 yu _ _ hb:=by cases hb
 tR _ _:=trivial
def codeOf (fn:Func):Code:=fn.body.getD .skip
def cG (B:Cx) (Γ:List (FuncId × (Bool × aY))) (fn:Func) (anns:cC) (ts rts:List Ty) (post:HL ts->HL rts->Prop) (xs:HL ts):VC:=
 Cz B Γ fn.ntmps anns fn.results.toList (codeOf fn) ts rts post xs
def jU (fn:Func) (n:Nat):Bool:=fn.body.isSome && !(fn.name == "runtime.NumGoroutine") && Nat.ble n fn.ntmps
def bn (P:Program) (B:Cx) (X:Ext) (Γ:List (FuncId × (Bool × aY))):Prop:=∀N,fw P (lI B Γ N) X
section
variable {P:Program} {B:Cx} {X:Ext} {Γ:List (FuncId × (Bool × aY))}
theorem bN {f:FuncId} {fn:Func} {ts rts:List Ty} {pre:HL ts->Prop} {post:HL ts->HL rts->Prop} (hok:bn P B X Γ) (hf:P.funcs[f]?=some fn) (hc:jU fn ts.length=true)
  (anns:HL ts->cC) (h:∀xs,er ts xs->pre xs->(cG B Γ fn (anns xs) ts rts post xs).holds):bj P B.eT X f ts rts pre post:=by
 simp only [jU,Bool.and_eq_true,Bool.not_eq_true'] at hc
 obtain ⟨⟨h1,h2⟩,h3⟩:=hc
 refine DC (hok fn.ntmps) hf (c:=codeOf fn) ?_ h2 rfl anns (Nat.le_of_ble_eq_true h3) h
 unfold codeOf
 cases hb:fn.body with
 | none=>rw [hb] at h1;cases h1
 | some c=>rfl
theorem bA (h:TyOK P B):bn P B X []:=fun _=>Jd h
theorem aG {f:FuncId} {q:Bool} {sp:aY} (h:bw P B.eT X f q sp) (hΓ:bn P B X Γ):bn P B X ((f,q,sp) :: Γ):=fun N=>Hw h (hΓ N)
def iw (B:Cx) (l:List Nat):Cx:={B with hint:=l}
theorem bn.hint {l:List Nat} (h:bn P B X Γ):bn P (iw B l) X Γ:=fun N=>
 {fit:=(h N).fit,jb:=(h N).jb,eY:=(h N).eY,mixed:=(h N).mixed,arr:=(h N).arr,oB:=(h N).oB,eqs:=(h N).eqs,jn:=(h N).jn,lf:=(h N).lf,mM:=(h N).mM,calls:=(h N).calls}
def DG (B:Cx):Cx:={B with wr:=true}
theorem bn.wrap (h:bn P B X Γ):bn P (DG B) X Γ:=fun N=>
 {fit:=(h N).fit,jb:=(h N).jb,eY:=(h N).eY,mixed:=(h N).mixed,arr:=(h N).arr,oB:=(h N).oB,eqs:=(h N).eqs,jn:=(h N).jn,lf:=(h N).lf,mM:=(h N).mM,calls:=(h N).calls}
theorem mv {α:Type} {l:List (Nat × α)} {n:Nat} {x:α} (h:look l n=some x):(n,x)∈l:=by
 induction l with
 | nil=>cases h
 | cons p r ih=>
  obtain ⟨m,y⟩:=p
  rw [aU] at h
  split at h
  ·rename_i e;subst e;cases h;simp
  ·exact List.mem_cons_of_mem _ (ih h)
def Fu (P:Program) (B:Cx) (n:Nat):Bool:=
 (B.τ.all fun p=>fits P n p.1 p.2) &&
 (match P.underlying B.eT with | some (.int .i64)=>true | _=>false) &&
 (match P.info? B.eT with | some i=>(match i.zero with | some (.int .i64 0)=>true | _=>false) | none=>false) &&
 P.follows .mixedOrders &&
 (B.sN.all fun p=>match P.underlying p.1 with | some (.array m e)=>Nat.beq m p.2.1 && Nat.beq e p.2.2 | _=>false) &&
 (B.sN.all fun p=>match look B.τ p.2.2 with
  | some e=>(match P.info? p.1 with
   | some i=>(match i.zero with
    | some z=>ko e p.2.1 z.cells.toList
    | none=>false)
   | none=>false)
  | none=>true) &&
 B.eqs.all (Dd P) && B.jn.all (yA P) &&
 (B.lf.all fun p=>match P.underlying p.1 with
  | some (.map k e)=>Nat.beq k p.2.1 && Nat.beq e p.2.2 && (match P.underlying p.2.1 with | some .string=>true | _=>false) &&
   (match P.info? p.2.2 with
    | some i=>(match i.zero with | some (.agg _)=>true | _=>false)
    | none=>false)
  | _=>false) &&
 (B.mM.all fun p=>match P.info? p.1 with
  | some i=>(match i.zero with
   | some (.agg cs)=>(match cs.toList with
    | [.pointer none, .slice none 0 0]=>true
    | _=>false)
   | _=>false)
  | none=>false)
theorem Je {n:Nat} (h:Fu P B n=true):TyOK P B:=by
 simp only [Fu,Bool.and_eq_true,List.all_eq_true] at h
 obtain ⟨⟨⟨⟨⟨⟨⟨⟨⟨h1,h2⟩,h3⟩,h4⟩,h5⟩,h6⟩,h7⟩,h8⟩,h9⟩,h10⟩:=h
 refine ⟨fun t ty hl=>⟨n,h1 _ (mv hl)⟩,?_,?_,h4,fun t ht=>h7 t (oT ht),fun t ht=>h8 t (oT ht),fun t m e hl => ?_,fun t k e hl => ?_,fun t e hl => ?_,fun t m te e hl he => ?_⟩
 ·split at h2
  ·assumption
  ·cases h2
 ·split at h3
  ·rename_i i hi
   refine ⟨i,hi,?_⟩
   split at h3
   ·assumption
   ·cases h3
  ·cases h3
 ·have:=h5 _ (mv hl)
  simp only at this
  split at this
  ·rename_i m' e' hu
   simp only [Bool.and_eq_true] at this
   rw [hu,Nat.eq_of_beq_eq_true this.1,Nat.eq_of_beq_eq_true this.2]
  ·cases this
 ·have:=h9 _ (mv hl)
  simp only at this
  split at this
  ·rename_i k' e' hu
   simp only [Bool.and_eq_true] at this
   obtain ⟨⟨⟨e1,e2⟩,e3⟩,e4⟩:=this
   rw [hu,Nat.eq_of_beq_eq_true e1,Nat.eq_of_beq_eq_true e2]
   refine ⟨rfl,?_,?_⟩
   ·split at e3
    ·assumption
    ·cases e3
   ·split at e4
    ·rename_i i hi
     split at e4
     ·rename_i cs hz;exact ⟨i,cs,hi,hz⟩
     ·cases e4
    ·cases e4
  ·cases this
 ·have:=h10 _ (mv hl)
  simp only at this
  split at this
  ·rename_i i hi
   split at this
   ·rename_i cs hz
    split at this
    ·rename_i hr
     exact ⟨i,hi,by rw [hz];congr 2;exact Array.toList_inj.1 hr⟩
    ·cases this
   ·cases this
  ·cases this
 ·have:=h6 _ (mv hl)
  simp only [he] at this
  split at this
  ·rename_i i hi
   split at this
   ·rename_i z hz
    exact ⟨i,z,hi,hz,this⟩
   ·cases this
  ·cases this
end
end Go.Vg

namespace Go.Vg
open Go.RowKit
def kB:Nat->List aZ->List (Nat × SV)
 | _,[]=>[]
 | k,a :: r=>(k, .s a) :: kB (k + 1) r
def fb (B:Cx) (Γ:List (FuncId × (Bool × aY))) (fn:Func) (anns:cC):aY:=fun args st K=>
 match Nat.ble args.length fn.ntmps with
 | true=>DB (lI B Γ fn.ntmps) anns fn.results.toList (codeOf fn) {env:=kB 0 args,ag:=st.ag,next:=st.next} fun vs st'=>K (mX vs) {st' with env:=st.env}
 | false => .ff
theorem nF {eT:TypeId} {S:aH}:∀{args:List aZ} {vs:List Value} (k:Nat),bc eT S args vs->∀t sv,look (kB k args) t=some sv->k<=t/\∃v,vs[t - k]?=some v/\bH eT S sv v:=by
 intro args
 induction args with
 | nil=>intro vs k _ t sv h;simp [kB,look] at h
 | cons a r ih=>
  intro vs k hr t sv h
  cases hr with
  | cons h1 h2=>
   simp only [kB,aU] at h
   split at h
   ·rename_i e
    cases h
    subst e
    exact ⟨Nat.le_refl _,_,by simp,h1⟩
   ·rename_i e
    obtain ⟨k1,v,k2,k3⟩:=ih (k + 1) h2 t sv h
    refine ⟨by omega,v,?_,k3⟩
    rw [show t - k=(t - (k + 1)) + 1 by omega]
    simpa using k2
theorem eP {P:Program} {B:Cx} {X:Ext} {Γ:List (FuncId × (Bool × aY))} (hok:bn P B X Γ) {f:FuncId} {fn:Func} (hf:P.funcs[f]?=some fn) (hg:jU fn 0=true) (anns:cC) :
  bw P B.eT X f false (fb B Γ fn anns):=by
 simp only [jU,Bool.and_eq_true,Bool.not_eq_true'] at hg
 obtain ⟨⟨h1,h2⟩,_⟩:=hg
 obtain ⟨c,hc⟩:=Option.isSome_iff_exists.1 h1
 refine ⟨⟨fn,hf,by rw [hc];rfl,h2⟩,fun O st loc w args vs K hK g hO ha => ?_⟩
 unfold fb at hK
 split at hK
 case h_2=>exact hK.elim
 rename_i hlen
 have hlen:=Nat.le_of_ble_eq_true hlen
 have hcode:codeOf fn=c:=by unfold codeOf;rw [hc];rfl
 rw [hcode] at hK
 have:=nE (X:=X) (hok fn.ntmps) hf hc (by rfl) anns (O:=O) (loc:=loc) (w:=w) (args:=vs.toArray)
  (st:={env:=kB 0 args,ag:=st.ag,next:=st.next}) (by rw [List.size_toArray,<-ha.len];exact hlen) g hO
  (fun t sv h=>by
   obtain ⟨_,v,k1,k2⟩:=nF 0 ha t sv h
   exact ⟨v,by simpa using k1,k2⟩) hK
 refine this.mono ?_
 rintro e w' ⟨rs,us,st',loc',he,hk,hr,g',tr⟩
 exact ⟨_,_,_,loc',he,hk,rfl,(fun h=>by cases h),g',tr,qA hr⟩
def KQ (st:St) (t k:Nat):Nat:=
 match look st.env t with
 | some (.s (.one (.fn _ caps)))=>caps.getD k 0
 | _=>0
def K7 (ty:Ty) (st:St) (n:Nat):D ty:=
 match look st.ag n with
 | some (.cells _ cs)=>match gG ty cs with
  | some (x,_)=>x
  | none=>bp ty
 | _=>bp ty
end Go.Vg

namespace Go.Vg
open Go.RowKit
def eO:List Cl->St->List aZ->List aZ × St
 | .d _ :: r,st,v :: vs=>match tm st v with
  | (v',st1)=>match eO r st1 vs with
   | (vs',st2)=>(v' :: vs',st2)
 | .obj _ :: r,st,v :: vs=>match eO r st vs with
  | (vs',st2)=>(v :: vs',st2)
 | .c8 :: r,st,v :: vs=>match eO r st vs with
  | (vs',st2)=>(v :: vs',st2)
 | _,st,vs=>(vs,st)
def ll:List (Nat × OC)->List Nat->List (Nat × OC)
 | l,[]=>l
 | l,n :: r=>ll (mj l n) r
def iy:Ob->Ob->Bool
 | .box T _, .box T' _=>Nat.beq T T'
 | .ext k t, .ext k' t'=>Nat.beq k k' && Ty.beq t t'
 | .row true t, .row true t'=>Ty.beq t t'
 | _,_=>false
def gF:List Ob->List Ob->List Nat->Nat->List Nat
 | o :: os,o' :: os',n :: ns,b=>(match iy o o' with | true=>n | false=>b) :: gF os os' ns (b + 1)
 | _,_ :: os',_,b=>b :: gF [] os' [] (b + 1)
 | _,[],_,_=>[]
def vQ:Nat->List Ob->List Ob->List (Nat × Nat)
 | k,o :: os,o' :: os'=>match iy o o' with
  | true=>(k,k) :: vQ (k + 1) os os'
  | false=>vQ (k + 1) os os'
 | _,_,_=>[]
def pa:Nat->List Ob->List Ob->List Nat->Bool
 | k,o :: os,o' :: os',n :: ns=>(match iy o o' with | true=>Nat.beq n k | false=>true) && pa (k + 1) os os' ns
 | _,_,_,_=>true
structure Alt (ak:List Ob) (args:List Cl):Type 1 where
 cv:Bool:=false
 aR:List Ob
 res:List Cl
 ok:CD args->PD ak->Prop:=fun _ _=>True
 out:CD args->PD ak->PD aR
 ret:CD args->PD ak->CD res
section
variable {ak:List Ob} {args:List Cl}
def yh (al:Alt ak args) (a:CD args) (x:PD ak) (ν:List Nat) (st:St) (K:SV->St->VC):VC:=
 match nodupB (gF ak al.aR ν st.next) && eo (st.next + al.aR.length) (gF ak al.aR ν st.next) with
 | true => .imp (al.ok a x) (K (mX (qn (cM al.aR (al.out a x) (gF ak al.aR ν st.next)) al.res (al.ret a x)))
   {env:=st.env,ag:=fq (cM al.aR (al.out a x) (gF ak al.aR ν st.next)) al.aR (al.out a x) (gF ak al.aR ν st.next)++ll st.ag ν,next:=st.next + al.aR.length})
 | false => .ff
def qB (a:CD args) (x:PD ak) (ν:List Nat) (st:St) (K:SV->St->VC):List (Alt ak args)->VC
 | [] => .leaf True
 | [al]=>yh al a x ν st K
 | al :: al2 :: r => .both (yh al a x ν st K) (qB a x ν st K (al2 :: r))
def aB (ak:List Ob) (args:List Cl) (pre:CD args->PD ak->Prop) (alts:List (Alt ak args)):aY:=fun Lm st K=>
 match eO args st Lm with
 | (Lm,st)=>match IC ak args Lm st.ag [] with
  | some ν=>match nodupB ν,fS false st.ag ak ν args Lm,bS false st.ag ak ν ak ν with
   | true,some a,some x=>Hs (gl ak x args Lm++dA ak x st.ag ak ν) (.and (pre a x) (qB a x ν st K alts))
   | _,_,_ => .ff
  | none => .ff
def eQ (ak:List Ob) (args:List Cl) (a:CD args) (x:PD ak):St:=
 {env:=kB 0 (qn (cM ak x (upto 0 ak.length)) args a),ag:=fq (cM ak x (upto 0 ak.length)) ak x (upto 0 ak.length),next:=ak.length}
def mY (a:CD args) (x:PD ak) (vs:List aZ) (st:St):List (Alt ak args)->VC
 | [] => .ff
 | al :: r=>match eO al.res st vs with
  | (vs',st')=>match IC al.aR al.res vs' st'.ag (vQ 0 ak al.aR) with
   | some ν=>match nodupB ν && (pa 0 ak al.aR ν && (!al.cv || (mU ak && (cK al.aR && dR al.res)))),fS al.cv st'.ag al.aR ν al.res vs',bS al.cv st'.ag al.aR ν al.aR ν with
    | true,some b,some y => .leaf (zC (gl al.aR y al.res vs'++dA al.aR y st'.ag al.aR ν++[al.ok a x/\y=al.out a x/\b=al.ret a x]))
    | _,_,_=>mY a x vs st r
   | none=>mY a x vs st r
def cH (B:Cx) (Γ:List (FuncId × (Bool × aY))) (fn:Func) (anns:cC) (ak:List Ob) (args:List Cl) (alts:List (Alt ak args)) (a:CD args) (x:PD ak):VC:=
 DB (lI B Γ fn.ntmps) anns fn.results.toList (codeOf fn) (eQ ak args a x) fun vs st'=>mY a x vs st' alts
def eN:(cls:List Cl)->CD cls->Prop
 | [],_=>True
 | .d t :: r,x=>wf t x.1/\eN r x.2
 | .obj _ :: r,x=>eN r x
 | .c8 :: r,x=>eN r x
end
section
variable {eT:TypeId} {X:Ext}
theorem lJ {k:Nat}:∀{l:List Nat} {n:Nat},eo k l=true->n∈l->n < k
 | [],_,_,h=>by simp at h
 | m :: r,n,h,hn=>by
  simp only [eo,Bool.and_eq_true] at h
  rcases List.mem_cons.1 hn with e | hn
  ·rw [e];exact gk h.1
  ·exact lJ h.2 hn
theorem gy (m:Nat):∀(ns:List Nat) (l:List (Nat × OC)),look (ll l ns) m=if m∈ns then none else look l m
 | [],l=>by simp [ll]
 | n :: r,l=>by
  simp only [ll]
  rw [gy m r,fQ]
  by_cases h1:m∈r
  ·simp [h1]
  ·by_cases h2:n=m
   ·subst h2;simp
   ·have:¬ m=n:=fun e=>h2 e.symm
    simp [h1,h2,this]
theorem ln:∀{ak aR:List Ob} {ν:List Nat} {b i n:Nat},(gF ak aR ν b)[i]?=some n->
  (∃o o',ak[i]?=some o/\aR[i]?=some o'/\iy o o'=true/\ν[i]?=some n)\/b<=n
 | ak,[],ν,b,i,n,h=>by
  cases ak <;> cases ν <;> simp [gF] at h
 | [],o' :: os',ν,b,i,n,h=>by
  simp only [gF] at h
  cases i with
  | zero=>simp at h;exact .inr (by omega)
  | succ i=>
   rcases ln (ak:=[]) (ν:=[]) (by simpa using h) with ⟨o,_,h1,_⟩ | h1
   ·simp at h1
   ·exact .inr (by omega)
 | o :: os,o' :: os',[],b,i,n,h=>by
  simp only [gF] at h
  cases i with
  | zero=>simp at h;exact .inr (by omega)
  | succ i=>
   rcases ln (ak:=[]) (ν:=[]) (by simpa using h) with ⟨o,_,h1,_⟩ | h1
   ·simp at h1
   ·exact .inr (by omega)
 | o :: os,o' :: os',n0 :: ns,b,i,n,h=>by
  simp only [gF] at h
  cases i with
  | zero=>
   simp only [List.getElem?_cons_zero,Option.some.injEq] at h
   split at h
   ·rename_i hk;exact .inl ⟨o,o',rfl,rfl,hk,by simp [h]⟩
   ·exact .inr (by omega)
  | succ i=>
   rcases ln (by simpa using h) with ⟨a,a',h1,h2,h3⟩ | h1
   ·exact .inl ⟨a,a',by simpa using h1,by simpa using h2,by simpa using h3⟩
   ·exact .inr (by omega)
theorem kC:∀{ak aR:List Ob} {ν:List Nat} {b:Nat},(gF ak aR ν b).length=aR.length
 | ak,[],ν,b=>by cases ak <;> cases ν <;> rfl
 | [],o' :: os',ν,b=>by simp [gF,kC]
 | o :: os,o' :: os',[],b=>by simp [gF,kC]
 | o :: os,o' :: os',n0 :: ns,b=>by simp [gF,kC]
theorem uE:∀{ak aR:List Ob} {ν:List Nat} {k i n:Nat} {o o':Ob},pa k ak aR ν=true->ak[i]?=some o->aR[i]?=some o'->iy o o'=true->ν[i]?=some n->n=k + i
 | [],_,_,_,_,_,_,_,_,h,_,_,_=>by simp at h
 | _ :: _,[],_,_,_,_,_,_,_,_,h,_,_=>by simp at h
 | _ :: _,_ :: _,[],_,_,_,_,_,_,_,_,_,h=>by simp at h
 | a :: os,a' :: os',m :: ns,k,0,n,o,o',h,h1,h2,h3,h4=>by
  simp at h1 h2 h4
  subst h1;subst h2;subst h4
  simp only [pa,h3,Bool.and_eq_true] at h
  have:=Nat.eq_of_beq_eq_true h.1
  omega
 | a :: os,a' :: os',m :: ns,k,i + 1,n,o,o',h,h1,h2,h3,h4=>by
  simp only [pa,Bool.and_eq_true] at h
  have:=uE h.2 (by simpa using h1) (by simpa using h2) h3 (by simpa using h4)
  omega
theorem wW:∀{l:List Ob} {o:Ob} {t:Ty},mU l=true->o∈l->o≠.tok t
 | [],_,_,_,h=>by simp at h
 | a :: r,o,t,h,ho=>by
  rcases List.mem_cons.1 ho with e | ho
  ·subst e;intro e;subst e;simp [mU] at h
  ·exact wW (by cases a <;> simp_all [mU]) ho
theorem rB {S:aH} {F:Nat->Value->Prop}:∀{cls:List Cl} {x:CD cls} {vs:List Value},nA eT S F cls x vs->eN cls x
 | [],_,_,_=>trivial
 | .d t :: r,x,v :: vs,h=>⟨h.1.wf,rB h.2⟩
 | .obj k :: r,x,v :: vs,h=>rB (cls:=r) h.2
 | .c8 :: r,x,v :: vs,h=>rB (cls:=r) h.2
theorem pb {S:aH} {F:Nat->Value->Prop}:∀{cls:List Cl} {x:CD cls} {vs:List Value},nA eT S F cls x vs->vs.length=cls.length
 | [],_,_,h=>by rw [show _ = [] from h];rfl
 | .d t :: r,x,v :: vs,h=>by simp [pb h.2]
 | .obj k :: r,x,v :: vs,h=>by simp [pb (cls:=r) h.2]
 | .c8 :: r,x,v :: vs,h=>by simp [pb (cls:=r) h.2]
theorem pc {O:ah} {loc:Nat->Loc} {w:World}:∀(cls:List Cl) (xs:List aZ) {st:St},Good eT X (ae O st loc w)->
  Tr (ae O st loc w) (ae O (eO cls st xs).2 loc w)/\Good eT X (ae O (eO cls st xs).2 loc w)/\(eO cls st xs).2.env=st.env/\
   ∀vs,bc eT (ae O st loc w) xs vs->bc eT (ae O (eO cls st xs).2 loc w) (eO cls st xs).1 vs:=by
 intro cls
 induction cls with
 | nil=>intro xs st g;exact ⟨Tr.refl _,g,rfl,fun vs h=>h⟩
 | cons cl r ih=>
  intro xs st g
  cases xs with
  | nil=>cases cl <;> exact ⟨Tr.refl _,g,rfl,fun vs h=>h⟩
  | cons x xs=>
   cases cl with
   | d t=>
    have g':Good (Cx.mk eT [] [] [] 0 [] [] [] false [] []).eT X (ae O st loc w):=g
    obtain ⟨t1,g1,e1,k1⟩:=o9 g' x
    obtain ⟨t2,g2,e2,k2⟩:=ih xs g1
    refine ⟨t1.trans t2,g2,e2.trans e1,fun vs h => ?_⟩
    cases h with
    | cons h1 h3=>exact .cons ((k1 _ h1).tr t2) (k2 _ (h3.tr t1))
   | obj k=>
    obtain ⟨t2,g2,e2,k2⟩:=ih xs g
    refine ⟨t2,g2,e2,fun vs h => ?_⟩
    cases h with
    | cons h1 h3=>exact .cons (h1.tr t2) (k2 _ h3)
   | c8=>
    obtain ⟨t2,g2,e2,k2⟩:=ih xs g
    refine ⟨t2,g2,e2,fun vs h => ?_⟩
    cases h with
    | cons h1 h3=>exact .cons (h1.tr t2) (k2 _ h3)
end
end Go.Vg

namespace Go.Vg
open Go.RowKit
section
variable {X:Ext} {P:Program} {ak:List Ob} {args:List Cl}
theorem uF {a:CD args} {x:PD ak} {ν:List Nat} {st:St} {K:SV->St->VC}:∀{alts:List (Alt ak args)},(qB a x ν st K alts).holds->∀al∈alts,(yh al a x ν st K).holds
 | [],_,al,h=>by simp at h
 | [al0],h,al,ha=>by simp at ha;subst ha;exact h
 | al0 :: al1 :: r,h,al,ha=>by
  rcases List.mem_cons.1 ha with e | ha
  ·subst e;exact h.1
  ·exact uF h.2 al ha
theorem wX {a:CD args} {x:PD ak} {vs:List aZ} {st:St}:∀{alts:List (Alt ak args)},(mY a x vs st alts).holds->∃al∈alts,∃ν,
  nodupB ν=true/\pa 0 ak al.aR ν=true/\(al.cv=false\/(mU ak=true/\cK al.aR=true/\dR al.res=true))/\al.ok a x/\
  fS al.cv (eO al.res st vs).2.ag al.aR ν al.res (eO al.res st vs).1=some (al.ret a x)/\bS al.cv (eO al.res st vs).2.ag al.aR ν al.aR ν=some (al.out a x)/\
  (∀p∈gl al.aR (al.out a x) al.res (eO al.res st vs).1,p)/\(∀p∈dA al.aR (al.out a x) (eO al.res st vs).2.ag al.aR ν,p)
 | [],h=>h.elim
 | al :: r,h=>by
  have rest:(mY a x vs st r).holds->∃al'∈al :: r,∃ν,
    nodupB ν=true/\pa 0 ak al'.aR ν=true/\(al'.cv=false\/(mU ak=true/\cK al'.aR=true/\dR al'.res=true))/\al'.ok a x/\
    fS al'.cv (eO al'.res st vs).2.ag al'.aR ν al'.res (eO al'.res st vs).1=some (al'.ret a x)/\bS al'.cv (eO al'.res st vs).2.ag al'.aR ν al'.aR ν=some (al'.out a x)/\
    (∀p∈gl al'.aR (al'.out a x) al'.res (eO al'.res st vs).1,p)/\(∀p∈dA al'.aR (al'.out a x) (eO al'.res st vs).2.ag al'.aR ν,p):=fun h=>by
   obtain ⟨al',h1,h2⟩:=wX h
   exact ⟨al',by simp [h1],h2⟩
  simp only [mY] at h
  split at h
  ·rename_i ν hν
   split at h
   ·rename_i b y hc hb hy
    simp only [Bool.and_eq_true,Bool.or_eq_true,Bool.not_eq_true'] at hc
    obtain ⟨h1,h2,h3⟩:=hc
    have hall:=oU h
    have k3:al.ok a x/\y=al.out a x/\b=al.ret a x:=hall _ (List.mem_append_right _ (by simp))
    obtain ⟨k4,k5,k6⟩:=k3
    subst k5;subst k6
    obtain ⟨k1,_⟩:=dH.1 hall
    obtain ⟨k1,k2⟩:=dH.1 k1
    exact ⟨al,by simp,ν,h1,h2,h3,k4,hb,hy,k1,k2⟩
   ·exact rest h
  ·exact rest h
theorem wY {B:Cx} {f:FuncId} {pre:CD args->PD ak->Prop} {alts:List (Alt ak args)}
  {O:ah} {st:St} {loc:Nat->Loc} {w:World} {Lm:List aZ} {vs:List Value} {K:SV->St->VC} (g:Good B.eT X (ae O st loc w)) (hO:bZ O w) (ha:bc B.eT (ae O st loc w) Lm vs)
  {ν:List Nat} {a:CD args} {x:PD ak} (hnd:nodupB ν=true) (hga:fS false st.ag ak ν args Lm=some a) (hx:bS false st.ag ak ν ak ν=some x)
  (hp1:∀p∈gl ak x args Lm,p) (hp2:∀p∈dA ak x st.ag ak ν,p) (hpre:pre a x) (hK:(qB a x ν st K alts).holds)
  (hcall:eN args a->∀(O':ah) (loc0:Nat->Loc),Good B.eT X (ae O' (eQ ak args a x) loc0 w)->bZ O' w->bc B.eT (ae O' (eQ ak args a x) loc0 w) (qn (cM ak x (upto 0 ak.length)) args a) vs->vs.length=args.length->
   Calls P f vs.toArray w fun e w'=>∃rs us' st' locE,e = .returned (o8 us')/\(mY a x rs st' alts).holds/\bc B.eT (ae O' st' locE w') rs us'/\Good B.eT X (ae O' st' locE w')/\Tr (ae O' (eQ ak args a x) loc0 w) (ae O' st' locE w')) :
  Calls P f vs.toArray w fun e w'=>∃v sv st' loc',e = .returned v/\(K sv st').holds/\st'.env=st.env/\Good B.eT X (ae O st' loc' w')/\
   Tr (ae O st loc w) (ae O st' loc' w')/\bH B.eT (ae O st' loc' w') sv v:=by
 have hvals:=wM g hx hga ha hp1
 have hobsl:=iu hx
 let us:=upto 0 ak.length
 have hul:ν.length=us.length:=by rw [oW];exact hobsl.symm
 let O':ah:=fun b off=>O b off\/∃n oc,look st.ag n=some oc/\n∉ν/\b∈(loc n).bs/\oc.lo<=off
 let st0:=eQ ak args a x
 have hOin':bZ O' w:=by
  rintro b off (h | ⟨n,oc,h1,_,h2,_⟩)
  ·exact hO b off h
  ·exact (g.obj n oc h1).2.inside b h2
 have hlo:∀n∈ν,∀oc,look st.ag n=some oc->mU ak=true->oc.lo=0:=by
  intro n hn oc h1 h2
  obtain ⟨o,oc',y,k1,k2,k3⟩:=en hx hn
  rw [h1] at k2;cases k2
  have:=(fJ k3 (fun _ => .any)).2.2.2 (fun t=>wW h2 k1) rfl
  cases oc <;> first | rfl | exact (this _ _ rfl).elim
 have hν:∀n∈ν,∃oc,look st.ag n=some oc:=fun n hn=>let ⟨_,oc,_,_,k,_⟩:=en hx hn;⟨oc,k⟩
 let loc0:=b4 us (ν.map loc) loc
 have hf0:∀k oc,look st0.ag k=some oc->∃(i n:Nat) (o:Ob) (y:OD o) (oc0:OC),ν[i]?=some n/\us[i]?=some k/\ak[i]?=some o/\look st.ag n=some oc0/\dV false st.ag ak ν o oc0=some y/\oc=kx (cM ak x us) o y/\loc0 k=loc n:=by
  intro k oc hk
  obtain ⟨i,n,o,y,oc0,k1,k2,k3,k4,k5,k6,_⟩:=jQ hx (jP (X:=X) g hx hx hp2) hul hk
  exact ⟨i,n,o,y,oc0,k1,k2,k3,k4,k5,k6,ej (e9 _ _) k2 (by simp [k1])⟩
 have hA0:∀b o,(ae O' st0 loc0 w).A b o->(ae O st loc w).A b o:=by
  rintro b off ((h | ⟨n,oc,h1,_,h2,h3⟩) | ⟨k,oc,h1,h2,h3⟩)
  ·exact .inl h
  ·exact .inr ⟨n,oc,h1,h2,h3⟩
  ·obtain ⟨i,n,o,y,oc0,_,_,_,k4,k5,k6,k7⟩:=hf0 k oc h1
   refine .inr ⟨n,oc0,k4,by simp only [ae] at h2;rw [k7] at h2;exact h2,?_⟩
   rcases ru (f:=cM ak x us) k5 with e | e
   ·rw [<-e,<-k6];exact h3
   ·cases e
 have hown0:∀b,(ae O' st0 loc0 w).owns b->∃n∈ν,b∈(loc n).bs:=by
  rintro b ⟨k,oc,h1,h2⟩
  obtain ⟨i,n,o,y,oc0,k1,_,_,_,_,_,k7⟩:=hf0 k oc h1
  exact ⟨n,List.mem_of_getElem? k1,by simp only [ae] at h2;rw [k7] at h2;exact h2⟩
 obtain ⟨g0,laid0⟩:=ye (X:=X) g hx hp2 hnd (O2:=O') (ν2:=us) (rest:=[]) (locR:=loc) (st2:=st0) (e9 _ _) hul
  (by simp [st0,eQ,us]) (fun n hn=>by have:=oV hn;simp [st0,eQ];omega)
  (fun n hn b hb off=>by
   obtain ⟨oc,k⟩:=hν n hn
   rintro (h | ⟨m,oc',h1,h2,h3,_⟩)
   ·exact g.out n oc b off k hb h
   ·exact h2 (by rw [<-g.apart n m oc oc' b k h1 hb h3];exact hn))
  (fun n hn b hb m oc h=>by simp [look] at h) (fun m oc h=>by simp [look] at h) (fun m m' oc oc' b h=>by simp [look] at h) (fun m oc b off h=>by simp [look] at h) (.inr hA0)
  (fun b hb h=>by
   obtain ⟨n,hn,hbn⟩:=hown0 b h
   obtain ⟨oc,k⟩:=hν n hn
   exact g.eE.2 b hb ⟨n,oc,k,hbn⟩)
 have hargs:bc B.eT (ae O' st0 loc0 w) (qn (cM ak x us) args a) vs:=zE (S:=ae O st loc w) (S':=ae O' st0 loc0 w) rfl (fun k v hk=>qt laid0 hk) (.inr hA0) hvals
 have hcalls:=hcall (rB hvals) O' loc0 g0 hOin' hargs (pb hvals)
 refine hcalls.mono ?_
 rintro e w' ⟨rs,us',st',locE,he,hk,hr,gE',trE'⟩
 obtain ⟨al,hal,ν',hnd',hkept,hcv,hokal,hret,hout,hc1,hc2⟩:=wX hk
 obtain ⟨tF,gE,_,kF⟩:=pc al.res rs gE'
 generalize hst2:(eO al.res st' rs).2=st2 at *
 generalize hrs2:(eO al.res st' rs).1=rs2 at *
 have trE:=trE'.trans tF
 have hrE:=kF us' hr
 have hKal:=uF hK al hal
 unfold yh at hKal
 split at hKal
 case h_2=>exact hKal.elim
 rename_i hn1
 simp only [Bool.and_eq_true] at hn1
 obtain ⟨hnd1,hbel⟩:=hn1
 have hKal:=hKal hokal
 generalize hν1:gF ak al.aR ν st.next=ν1 at *
 have hl1:ν'.length=ν1.length:=by rw [<-hν1,kC];exact (iu hout).symm
 generalize hst1:({env:=st.env,ag:=fq (cM al.aR (al.out a x) ν1) al.aR (al.out a x) ν1++ll st.ag ν,next:=st.next + al.aR.length}:St)=st1 at hKal
 have h1env:st1.env=st.env:=by rw [<-hst1]
 have h1objs:st1.ag=fq (cM al.aR (al.out a x) ν1) al.aR (al.out a x) ν1++ll st.ag ν:=by rw [<-hst1]
 have h1next:st1.next=st.next + al.aR.length:=by rw [<-hst1]
 let loc1:=b4 ν1 (ν'.map locE) loc
 have hf1:∀m oc,look st1.ag m=some oc->(∃(i n:Nat) (o:Ob) (y:OD o) (oc0:OC),ν'[i]?=some n/\ν1[i]?=some m/\al.aR[i]?=some o/\look st2.ag n=some oc0/\dV al.cv st2.ag al.aR ν' o oc0=some y/\
   oc=kx (cM al.aR (al.out a x) ν1) o y/\loc1 m=locE n)\/(m∉ν1/\m∉ν/\look st.ag m=some oc/\loc1 m=loc m):=by
  intro m oc hm
  rw [h1objs,bB] at hm
  split at hm
  ·rename_i oc' hm'
   cases hm
   obtain ⟨i,n,o,y,oc0,k1,k2,k3,k4,k5,k6,_⟩:=jQ hout (jP (X:=X) gE hout hout hc2) hl1 hm'
   exact .inl ⟨i,n,o,y,oc0,k1,k2,k3,k4,k5,k6,ej hnd1 k2 (by simp [k1])⟩
  ·rename_i hm'
   have hnin:m∉ν1:=fun hmem=>by
    obtain ⟨oc1,h2⟩:=jx (f:=cM al.aR (al.out a x) ν1) (x:=al.out a x) (by rw [<-hν1,kC]) hmem
    rw [h2] at hm';cases hm'
   rw [gy] at hm
   split at hm
   ·cases hm
   ·rename_i hmn
    exact .inr ⟨hnin,hmn,hm,fI hnin⟩
 have hownE:∀n∈ν',∀b∈(locE n).bs,(ae O' st2 locE w').owns b:=by
  intro n hn b hb
  obtain ⟨_,oc,_,_,k,_⟩:=en hout hn
  exact ⟨n,oc,k,hb⟩
 have hblk:∀m oc,look st.ag m=some oc->m∉ν->∀b∈(loc m).bs,¬ (ae O' st0 loc0 w).owns b:=by
  intro m oc h1 h2 b hb' ho
  obtain ⟨n,hn,hbn⟩:=hown0 b ho
  obtain ⟨oc',k⟩:=hν n hn
  have:=g.apart n m oc' oc b k h1 hbn hb'
  exact h2 (by rw [<-this];exact hn)
 have hA1:al.cv=false->∀b o,(ae O st1 loc1 w').A b o->(ae O' st2 locE w').A b o:=by
  rintro hcv0 b off (h | ⟨m,oc,h1,h2,h3⟩)
  ·exact .inl (.inl h)
  ·rcases hf1 m oc h1 with ⟨i,n,o,y,oc0,k1,k2,k3,k4,k5,k6,k7⟩ | ⟨k1,k2,k3,k4⟩
   ·refine .inr ⟨n,oc0,k4,by simp only [ae] at h2;rw [k7] at h2;exact h2,?_⟩
    rcases ru (f:=cM al.aR (al.out a x) ν1) k5 with e | e
    ·rw [<-e,<-k6];exact h3
    ·rw [hcv0] at e;cases e
   ·exact .inl (.inr ⟨m,oc,k3,k2,by simp only [ae] at h2;rw [k4] at h2;exact h2,h3⟩)
 have hkeep:∀(m i:Nat),ν1[i]?=some m->m < st.next->∃o o',ak[i]?=some o/\al.aR[i]?=some o'/\iy o o'=true/\ν[i]?=some m:=by
  intro m i h1 h2
  rw [<-hν1] at h1
  rcases ln h1 with h3 | h3
  ·exact h3
  ·omega
 have hT:Tr (ae O st loc w) (ae O st1 loc1 w'):={
  O:=rfl
  next:=by simp only [ae];omega
  os:=trE.os
  output:=trE.output
  size:=trE.size
  own:=by
   rintro b ⟨m,oc,h1,h2⟩
   rcases hf1 m oc h1 with ⟨i,n,o,y,oc0,k1,k2,k3,k4,k5,k6,k7⟩ | ⟨k1,k2,k3,k4⟩
   ·simp only [ae] at h2;rw [k7] at h2
    rcases trE.own b (hownE n (List.mem_of_getElem? k1) b h2) with h3 | h3
    ·obtain ⟨n',hn',hb'⟩:=hown0 b h3
     obtain ⟨oc',k⟩:=hν n' hn'
     exact .inl ⟨n',oc',k,hb'⟩
    ·exact .inr h3
   ·simp only [ae] at h2;rw [k4] at h2;exact .inl ⟨m,oc,k3,h2⟩
  cell:=by
   intro b off v hna hcell
   obtain ⟨h1,h2⟩:=trE.cell b off v (fun h=>hna (hA0 b off h)) hcell
   refine ⟨h1,fun h3 => ?_⟩
   rcases hcv with hcv | ⟨hnt,_,_⟩
   ·exact h2 (hA1 hcv b off h3)
   ·rcases h3 with h3 | ⟨m,oc,h3,h4,h5⟩
    ·exact hna (.inl h3)
    ·rcases hf1 m oc h3 with ⟨i,n,o,y,oc0,k1,k2,k3,k4,k5,k6,k7⟩ | ⟨k1,k2,k3,k4⟩
     ·simp only [ae] at h4;rw [k7] at h4
      rcases trE.own b (hownE n (List.mem_of_getElem? k1) b h4) with h6 | h6
      ·obtain ⟨n',hn',hb'⟩:=hown0 b h6
       obtain ⟨oc',k⟩:=hν n' hn'
       exact hna (.inr ⟨n',oc',k,hb',by rw [hlo n' hn' oc' k hnt];exact Nat.zero_le _⟩)
      ·have:=World.block_lt_of_cell? _ _ hcell
       simp only [ae] at this h6
       omega
     ·simp only [ae] at h4;rw [k4] at h4;exact hna (.inr ⟨m,oc,k3,h4,h5⟩)
  block:=fun b hb' ho=>trE.block b hb' fun h=>ho (by
   obtain ⟨n,hn,hbn⟩:=hown0 b h
   obtain ⟨oc,k⟩:=hν n hn
   exact ⟨n,oc,k,hbn⟩)
  loc:=by
   intro m hm hfix
   by_cases hin:m∈ν1
   ·obtain ⟨i,hi⟩:=List.getElem?_of_mem hin
    obtain ⟨o,o',e1,e2,e3,e4⟩:=hkeep m i hi hm
    have hiE:i < ν'.length:=by rw [hl1];exact aE hi
    have hn':ν'[i]?=some ν'[i]:=List.getElem?_eq_getElem hiE
    have hni:=uE hkept e1 e2 e3 hn'
    rw [Nat.zero_add] at hni
    have e5:loc1 m=locE i:=by
     have:=ej (d:=loc) hnd1 hi (ls:=ν'.map locE) (l:=locE i) (by simp [hn',hni])
     exact this
    have hui:us[i]?=some i:=by have:=tl ak.length 0 i (aE e1);simpa using this
    have e6:loc0 i=loc m:=ej (e9 _ _) hui (by simp [e4])
    have e7:=trE.loc i (show i < st0.next by simp [st0,eQ];exact aE e1) (fun t ys hy=>by
     obtain ⟨j,n,o2,y,oc0,k1,k2,k3,k4,k5,k6,k7⟩:=hf0 i _ hy
     have hj:j=i:=lh (e9 _ _) k2 hui
     subst hj
     rw [e1] at k3;cases k3
     cases o <;> simp [kx] at k6
     cases o' <;> simp [iy] at e3)
    show (loc1 m).v=(loc m).v/\(_->loc1 m=loc m)
    rw [e5,<-e6]
    refine ⟨e7.1,fun hr=>e7.2 fun t z hy => ?_⟩
    obtain ⟨j,n,o2,y,oc0,k1,k2,k3,k4,k5,k6,k7⟩:=hf0 i _ hy
    have hj:j=i:=lh (e9 _ _) k2 hui
    subst hj
    rw [e4] at k1;cases k1
    cases o2 <;> simp [kx] at k6
    obtain ⟨rfl,rfl,_⟩:=k6
    obtain ⟨z',rfl⟩:=(fJ k5 (fun _ => .any)).2.1 _ _ rfl
    exact hr _ _ k4
   ·exact iZ (fI hin)
  kind:=by
   intro m oc' hm hob
   rcases hf1 m oc' hob with ⟨i,n,o,y,oc0,k1,k2,k3,k4,k5,k6,k7⟩ | ⟨k1,k2,k3,k4⟩
   ·obtain ⟨o0,o',e1,e2,e3,e4⟩:=hkeep m i k2 hm
    rw [k3] at e2;cases e2
    have hui:us[i]?=some i:=by have:=tl ak.length 0 i (aE e1);simpa using this
    obtain ⟨oc2,h2⟩:=jx (f:=cM ak x us) (x:=x) (ms:=us) (by rw [oW]) (List.mem_of_getElem? hui)
    obtain ⟨j,n2,o2,y2,oc3,j1,j2,j3,j4,j5,j6,j7⟩:=hf0 i oc2 (by simpa [st0,eQ] using h2)
    have hj:j=i:=lh (e9 _ _) j2 hui
    subst hj
    rw [e1] at j3;cases j3
    rw [e4] at j1;cases j1
    refine ⟨oc3,j4,?_⟩
    cases o0 <;> cases o <;> simp [iy] at e3
    ·subst e3
     obtain ⟨cs,rfl⟩:=(fJ j5 (fun _ => .any)).1 _ _ rfl
     rw [k6]
     rfl
    ·rename_i kp t kp' t'
     cases kp <;> cases kp' <;> simp at e3
     have e3:=Ty.eq_of_beq e3
     subst e3
     obtain ⟨xs,rfl⟩:=(fJ j5 (fun _ => .any)).2.2.1 _ _ rfl rfl
     rw [k6]
     rfl
    ·obtain ⟨e3,e4⟩:=e3
     have e4:=Ty.eq_of_beq e4
     subst e3;subst e4
     obtain ⟨z,rfl⟩:=(fJ j5 (fun _ => .any)).2.1 _ _ rfl
     rw [k6]
     exact ⟨rfl,rfl⟩
   ·refine ⟨oc',k3,?_⟩
    cases oc' <;> simp [aw,ae,k4]}
 obtain ⟨g1,laid1⟩:=ye (X:=X) gE hout hc2 hnd' (O2:=O) (ν2:=ν1) (rest:=ll st.ag ν) (locR:=loc) (st2:=st1) hnd1 hl1 h1objs
  (fun n hn=>by rw [h1next];exact lJ hbel hn)
  (fun n hn b hb' off h=>by
   obtain ⟨_,oc,_,_,k,_⟩:=en hout hn
   exact gE.out n oc b off k hb' (.inl h))
  (fun n hn b hb' m oc h1 h2 h3=>by
   rw [gy] at h1
   split at h1
   ·cases h1
   ·rename_i hmn
    rcases trE.own b (hownE n hn b hb') with h4 | h4
    ·exact hblk m oc h1 hmn b h3 h4
    ·have:=(g.obj m oc h1).2.inside b h3
     simp only [ae] at this h4
     omega)
  (fun m oc h1 h2=>by
   rw [gy] at h1
   split at h1
   ·cases h1
   ·rename_i hmn
    obtain ⟨k1,k2⟩:=g.obj m oc h1
    refine ⟨by rw [h1next];simp only [ae] at k1;omega,k2.tr hT fun b hb' => ?_⟩
    exact trE.block b (k2.inside b hb') (hblk m oc h1 hmn b hb'))
  (fun m m' oc oc' b h1 h2 _ _ h3 h4=>by
   rw [gy] at h1 h2
   split at h1
   ·cases h1
   ·split at h2
    ·cases h2
    ·exact g.apart m m' oc oc' b h1 h2 h3 h4)
  (fun m oc b off h1 _ h2=>by
   rw [gy] at h1
   split at h1
   ·cases h1
   ·exact g.out m oc b off h1 h2)
  (by
   rcases hcv with hcv | ⟨_,hcv,_⟩
   ·exact .inr (hA1 hcv)
   ·exact .inl hcv)
  (g.eE.tr hT).2
 have hres:=wM gE hout hret hrE hc1
 refine ⟨_,_,st1,loc1,he,hKal,h1env,g1,hT,qA (zE (S:=ae O' st2 locE w') (S':=ae O st1 loc1 w') rfl (fun k v hk=>qt laid1 hk) ?_ hres)⟩
 rcases hcv with hcv | ⟨_,_,hcv⟩
 ·exact .inr (hA1 hcv)
 ·exact .inl hcv
theorem Hy {B:Cx} {Γ:List (FuncId × (Bool × aY))} (hok:bn P B X Γ) {f:FuncId} {fn:Func} {c:Code} (hf:P.funcs[f]?=some fn) (hb:fn.body=some c) (hN:args.length<=fn.ntmps) {anns:CD args->PD ak->cC}
  {pre:CD args->PD ak->Prop} {alts:List (Alt ak args)} (h:∀a x,eN args a->pre a x->(cH B Γ fn (anns a x) ak args alts a x).holds)
  {O:ah} {st:St} {loc:Nat->Loc} {w:World} {Lm:List aZ} {vs:List Value} {K:SV->St->VC} (g:Good B.eT X (ae O st loc w)) (hO:bZ O w) (ha:bc B.eT (ae O st loc w) Lm vs)
  {ν:List Nat} {a:CD args} {x:PD ak} (hnd:nodupB ν=true) (hga:fS false st.ag ak ν args Lm=some a) (hx:bS false st.ag ak ν ak ν=some x)
  (hp1:∀p∈gl ak x args Lm,p) (hp2:∀p∈dA ak x st.ag ak ν,p) (hpre:pre a x) (hK:(qB a x ν st K alts).holds) :
  Calls P f vs.toArray w fun e w'=>∃v sv st' loc',e = .returned v/\(K sv st').holds/\st'.env=st.env/\Good B.eT X (ae O st' loc' w')/\
   Tr (ae O st loc w) (ae O st' loc' w')/\bH B.eT (ae O st' loc' w') sv v:=by
 refine wY (B:=B) (pre:=pre) g hO ha hnd hga hx hp1 hp2 hpre hK fun hwf O' loc0 g0 hOin' hargs hlen => ?_
 have hcode:codeOf fn=c:=by unfold codeOf;rw [hb];rfl
 have hvc:=h a x hwf hpre
 unfold cH at hvc
 rw [hcode] at hvc
 exact nE (X:=X) (hok fn.ntmps) hf hb (by rfl) (anns a x) (O:=O') (loc:=loc0) (w:=w) (args:=vs.toArray) (st:=eQ ak args a x)
  (by rw [List.size_toArray,hlen];exact hN) g0 hOin'
  (fun t sv ht=>by
   obtain ⟨_,v,k1,k2⟩:=nF 0 hargs t sv ht
   exact ⟨v,by simpa using k1,k2⟩) hvc
theorem aV {B:Cx} {Γ:List (FuncId × (Bool × aY))} (hok:bn P B X Γ) {f:FuncId} {fn:Func} (hf:P.funcs[f]?=some fn) (hg:jU fn args.length=true) (anns:CD args->PD ak->cC)
  {pre:CD args->PD ak->Prop} {alts:List (Alt ak args)} (h:∀a x,eN args a->pre a x->(cH B Γ fn (anns a x) ak args alts a x).holds) :
  bw P B.eT X f false (aB ak args pre alts):=by
 simp only [jU,Bool.and_eq_true,Bool.not_eq_true'] at hg
 obtain ⟨⟨h1,h2⟩,h3⟩:=hg
 obtain ⟨c,hc⟩:=Option.isSome_iff_exists.1 h1
 refine ⟨⟨fn,hf,by rw [hc];rfl,h2⟩,fun O st loc w Lm vs K hK g hO ha => ?_⟩
 unfold aB at hK
 obtain ⟨t1,g1,e1,k1⟩:=pc args Lm g
 simp only at hK
 split at hK
 case h_2=>exact hK.elim
 rename_i ν hν
 split at hK
 case h_2=>exact hK.elim
 rename_i a x hnd hga hx
 obtain ⟨hp,hpre,hK⟩:=tg hK
 obtain ⟨hp1,hp2⟩:=dH.1 hp
 refine (Hy hok hf hc (Nat.le_of_ble_eq_true h3) h g1 hO (k1 vs ha) hnd hga hx hp1 hp2 hpre hK).mono ?_
 rintro e w' ⟨v,sv,st',loc',q1,q2,q3,q4,q5,q6⟩
 exact ⟨v,sv,st',loc',q1,q2,q3.trans e1,(fun hq=>by cases hq),q4,t1.trans q5,q6⟩
end
end Go.Vg

namespace Go.Vg
@[reducible] def eR:Ty:=.prod .str (.prod (.int .i64) (.prod .bool .unit))
@[reducible] def zM:Ty:=.prod (.int .i64) (.prod (.int .i64) .unit)
@[reducible] def jV:Ty:=.prod (.int .i64) (.prod (.int .i64) (.prod (.int .i64) (.prod .str (.prod .bool .unit))))
@[reducible] def aq:Ty:=.prod (.int .i64) (.prod (.int .i64) (.prod (.int .i64) .unit))
@[reducible] def ai:Ty:=.prod .str (.prod (.int .i64) (.prod (.int .i64) .unit))
@[reducible] def aD:Ty:=.prod (.slice .str) (.prod (.slice (.int .i64)) (.prod (.slice eR) (.prod (.slice jV) .unit)))
@[reducible] def af:Ty:=.prod .str (.prod (.slice ai) (.prod (.slice aq) .unit))
@[reducible] def bW:Ty:=.prod .str (.prod .str (.prod .str (.prod (.int .i64) (.prod (.int .u64) (.prod af .unit)))))
@[reducible] def uG:Ty:=.prod .str (.prod (.int .i64) (.prod (.slice (.int .i64)) .unit))
@[reducible] def mZ:Ty:=.prod (.int .i64) (.prod .str .unit)
@[reducible] def IE:Ty:=.prod (.slice .str) (.prod (.slice .str) (.prod (.slice mZ) (.prod (.int .i64) (.prod .bool .unit))))
@[reducible] def yi:Ty:=.prod .str (.prod .str (.prod (.int .i64) .unit))
@[reducible] def CE:Ty:=.prod (.slice yi) (.prod (.int .i64) .unit)
theorem bl :
  (∀(p:Prop) [Decidable p],(decide p=true)=p)/\(∀(p:Prop) [Decidable p],(decide p=false)=¬ p)/\
  (∀(α:Type) [BEq α] [LawfulBEq α] (a b:α),((a == b)=true)=(a=b))/\(∀(α:Type) [BEq α] [LawfulBEq α] (a b:α),((a == b)=false)=¬ a=b)/\
  (∀(α:Type) [BEq α] [LawfulBEq α] (a b:α),((a != b)=true)=¬ a=b)/\(∀(α:Type) [BEq α] [LawfulBEq α] (a b:α),((a != b)=false)=(a=b))/\
  (∀b:Bool,((!b)=true)=(b=false))/\(∀b:Bool,((!b)=false)=(b=true))/\(∀b:Bool,(¬ b=true)=(b=false))/\(∀b:Bool,(¬ b=false)=(b=true))/\
  (∀a b:Bool,((a && b)=true)=(a=true/\b=true))/\(∀a b:Bool,((a || b)=true)=(a=true\/b=true))/\
  (∀a b:Bool,((a && b)=false)=(a=false\/b=false))/\(∀a b:Bool,((a || b)=false)=(a=false/\b=false))/\
  (∀a b:Int,(¬ a < b)=(b<=a))/\(∀a b:Int,(¬ a<=b)=(b < a)):=by
 refine ⟨?_,?_,?_,?_,?_,?_,?_,?_,?_,?_,?_,?_,?_,?_,?_,?_⟩ <;> intros <;> first | (simp;done) | (rename_i a b;cases a <;> cases b <;> simp)
end Go.Vg

namespace Go.Vg
open Go.RowKit
theorem Hz {w:World} {b i:Nat} {c:Array Value} {T:TypeId} {v:Value} (hb:w.heap[b]?=some (.cells c T (0,0))):(w.setCell ⟨b,i,none⟩ v).heap[b]?=some (.cells (c.setIfInBounds i v) T (0,0)):=by
 simp [World.setCell,Array.getElem?_modify,hb]
theorem Jf {P:Program} {w:World} {t u ty e:TypeId} {i:TypeInfo} (ht:P.underlying t=some (.slice e)) (hu:P.underlying u=some .string) (hi:P.info? e=some i) (hz:i.zero=some (.int .u8 0))
  (hsize:i.size=1) (hby:i.bytes=1) {v:Value} {xs:List Value} (hown:w.ownsRow 0 e 1 v xs.length xs) (hcap:∀a n c,v = .slice (some a) n c->0 < c) (s:ByteArray) (hlen:xs.length + s.size<=140737488355328) :
  ∃v' w',(Builtin.append_ #[t,u] ty #[v, .string s]).run P w = .ok v' w'/\w'.ownsRow 0 e 1 v' (xs.length + s.size) (xs++Lib.strCells s)/\w.grownBy w' v.ownBlock/\(∀a n c,v' = .slice (some a) n c->0 < c)/\
   (∀g,v'.ownBlock=some g->v.ownBlock=some g\/w.heap.size<=g):=by
 rcases hown.2 with ⟨rfl,h0⟩ | ⟨g,cap,cur,rfl,hbg,hg,hnc,hcm,hcs,htake⟩
 ·have hown':w.ownsRow w.heap.size e 1 (.slice none 0 0) xs.length xs:=⟨hown.1, .inl ⟨rfl,h0⟩⟩
  obtain ⟨v',w',h1,h2,h3,h4⟩:=Lib.run_append_own_string (P:=P) w w.heap.size t u ty e i ht hu hi hz hsize hby _ _ _ hown' s (by unfold maxLen;omega) hlen (Nat.le_refl _)
  rcases h2.2 with ⟨rfl,h6⟩ | ⟨g,cap,cur,rfl,k1,k2,k3,k4⟩
  ·exact ⟨_,w',h1,⟨h2.1, .inl ⟨rfl,h6⟩⟩,h3,(fun a n c hh=>by cases hh),(fun g hh=>by cases hh)⟩
  ·refine ⟨_,w',h1,⟨h2.1, .inr ⟨g,cap,cur,rfl,Nat.zero_le _,k2,k3,k4⟩⟩,h3,fun a n c hh => ?_,fun g' hh=>by cases hh;exact .inr k1⟩
   cases hh
   by_cases hs:s.size=0
   ·have:=h4.2 ⟨rfl,hs⟩;cases this
   ·omega
 ·have hc0:=hcap _ _ _ rfl
  by_cases hroom:xs.length + s.size<=cap
  ·obtain ⟨w',h1,h2,h3⟩:=Lib.run_append_fits_string (P:=P) w 0 t u ty e i ht hu hi hsize _ _ _ _ hown s hc0 hroom
   exact ⟨_,w',h1,h2,h3,(fun a n c hh=>by cases hh;exact hc0),(fun g' hh => .inl hh)⟩
  ·have holds:∀j u,xs[j]?=some u->w.cell? ((⟨g,0,none⟩:Addr).add j)=some u:=hown.cells (g:=g) rfl
   have hr:=Lib.run_append_grow_string (P:=P) w t u ty e i (.int .u8 0) ht hu hi hz ⟨g,0,none⟩ xs.length cap xs (by rw [hsize];simp) holds s (by omega) (by omega) (by rw [hby];exact growslice_fits (by omega) (by omega))
   have hge:=grownCap_ge w (xs.length + s.size) cap e
   have hcm':grownCap w (xs.length + s.size) cap e<=maxLen:=grownCap_le_maxLen w (xs.length + s.size) cap e (by unfold maxLen;omega)
   refine ⟨_,_,hr,⟨by simp [Lib.strCells_length], .inr ⟨w.heap.size,_,_,rfl,Nat.zero_le _,heap_alloc_new w.drew _,hge,hcm',?_,?_⟩⟩,⟨rfl,rfl,rfl,by simp,fun k hk _=>Go.Deep.blk_alloc_lt w.drew _ k hk⟩,(fun a n c hh=>by cases hh;omega),(fun g' hh=>by cases hh;exact .inr (Nat.le_refl _))⟩
   ·have hz1:(Value.int IntKind.u8 0).cells.size=1:=rfl
    simp only [Array.size_append,List.size_toArray,size_zeroCells,hz1,Lib.strCells_length]
    omega
   ·simp only [Array.toList_append,List.append_assoc]
    rw [<-List.append_assoc]
    have:(xs++Lib.strCells s).length=(xs.length + s.size) * 1:=by simp [Lib.strCells_length]
    rw [<-this]
    exact List.take_left
theorem rQ {P:Program} {w w':World} {ops:Array Oper} {rest:List Oper} {o:Oper} {a:Act} {Q:Exit->Act->World->Prop} (hgd:o.guard=none) (sl x:Operand) (t u:TypeId)
  (ho:o.op = .call {callee:=.builtin .append,args:=#[sl,x],argTypes:=#[t,u]}) {v v' y:Value} (hs:a.eval sl=v) (hx:a.eval x=y)
  (hr:(Builtin.append_ #[t,u] o.type #[v,y]).run P w = .ok v' w') (h:wpList P ops Q rest (a.put o.dst v') w'):wpList P ops Q (o :: rest) a w:=by
 refine wpList_plain hgd fun K hK => ?_
 unfold Oper.wp execOp
 simp only [ho,resolve,invoke,builtin,Sem.run_bind,Sem.run_pure,Result.andThen_ok,List.map_toArray,List.map_cons,List.map_nil,hs,hx,hr]
 exact hK _ _ h
structure Kept (b:Nat) (v:Value) (w w':World):Prop where
 os:w'.os=w.os
 output:w'.output=w.output
 size:w.heap.size<=w'.heap.size
 block:∀k,k < w.heap.size->k≠b->v.ownBlock≠some k->w'.heap[k]?=w.heap[k]?
structure DH (v:Value) (w w':World):Prop where
 os:w'.os=w.os
 output:w'.output=w.output
 size:w'.heap.size=w.heap.size
 block:∀k,v.ownBlock≠some k->w'.heap[k]?=w.heap[k]?
theorem BB {w:World} {g n c:Nat} {m:Nat}:DH (.slice (some ⟨g,0,none⟩) n c) w (w.drew.freeze ⟨g,0,none⟩ m):=by
 unfold World.freeze
 split
 ·exact ⟨rfl,rfl,rfl,fun _ _=>rfl⟩
 ·refine ⟨rfl,rfl,by simp,fun k hk => ?_⟩
  have:k≠g:=fun e=>hk (by rw [e];rfl)
  simp only [Array.getElem?_modify]
  rw [if_neg (fun e=>this e.symm)]
  rfl
def pf (T e:Nat):aY:=fun args st K=>
 match args with
 | [.one (.cV n), .one (.d .str s)]=>match look st.ag n with
  | some (.ext 2 t x)=>match h:Ty.beq t iJ with
   | true => .and ((aX h x).2.1=(T:Int)/\(aX h x).2.2.1=(e:Int)/\(aX h x).1.length + s.length<=140737488355328)
     (K (.gK [.one (.d (.int .i64) (s.length:Int)), .one (.d .err .nil)]) (setObj st n (.ext 2 iJ ((aX h x).1++aI s,(T:Int),(e:Int),()))))
   | false => .ff
  | _ => .ff
 | _ => .ff
def nc (T e:Nat):aY:=fun args st K=>
 match args with
 | [.one (.cV n)]=>match look st.ag n with
  | some (.ext 2 t x)=>match h:Ty.beq t iJ with
   | true => .and ((aX h x).2.1=(T:Int)/\(aX h x).2.2.1=(e:Int)) (K (.s (.one (.d .str (bytesOf (aX h x).1)))) (aA st n))
   | false => .ff
  | _ => .ff
 | _ => .ff
def uH (T e:Nat):aY:=fun args st K=>
 match args with
 | [.one (.cV n)]=>match look st.ag n with
  | some (.ext 2 t x)=>match h:Ty.beq t iJ with
   | true => .and ((aX h x).2.1=(T:Int)/\(aX h x).2.2.1=(e:Int)) (K (.s (.one (.d (.int .i64) ((aX h x).1.length:Int)))) st)
   | false => .ff
  | _ => .ff
 | _ => .ff
section
variable {P:Program} {eT:TypeId} {X:Ext} {f:FuncId}
theorem zN {O:ah} {st:St} {loc:Nat->Loc} {w:World} (g:Good eT X (ae O st loc w)) {n:Nat} {x:D iJ} (hob:look st.ag n=some (.ext 2 iJ x)) {v:Value} (hv:CR eT (ae O st loc w) (.cV n) v) :
  ∃b p u,v = .pointer (some ⟨b,0,none⟩)/\JU x (loc n) w b p u:=by
 obtain ⟨h0,b,p,u,hD⟩:=X.EO.1 (g.obj n _ hob).2
 exact ⟨b,p,u,(hv.2 _ hob rfl).trans hD.lv,hD⟩
theorem uI (s:List UInt8):bytesOf (aI s)=s:=by
 induction s with
 | nil=>rfl
 | cons c r ih=>
  simp only [bytesOf,aI,List.map_cons,List.map_map] at ih ⊢
  rw [ih]
  simp
theorem DI {xs:List Int} (h:∀y∈xs,0<=(y:Int)/\(y:Int)<=255):aI (bytesOf xs)=xs:=by
 induction xs with
 | nil=>rfl
 | cons y r ih=>
  have h1:=h y (by simp)
  have h2:=ih fun z hz=>h z (by simp [hz])
  simp only [aI,bytesOf,List.map_map,List.map_cons] at h2 ⊢
  rw [h2]
  congr 1
  simp only [UInt8.toNat_ofNat']
  omega
theorem DJ (s:List UInt8):∀y∈aI s,0<=(y:Int)/\(y:Int)<=255:=by
 intro y hy
 simp only [aI,List.mem_map] at hy
 obtain ⟨c,_,rfl⟩:=hy
 have:=c.toNat_lt
 omega
theorem HA {xs:List Int} (h:∀y∈xs,0<=(y:Int)/\(y:Int)<=255):xs.map (Value.int .u8)=(bytesOf xs).map fun c=>Value.int .u8 c.toNat:=by
 conv=>lhs;rw [<-DI h]
 simp [aI]
theorem uJ {T e:Nat} (hfn:∃fn,P.funcs[f]?=some fn/\fn.body.isNone=false/\(fn.name == "runtime.NumGoroutine")=false)
  (H:∀(b:Nat) (p v:Value) (xs:List Value) (s:ByteArray) (w:World),w.heap[b]?=some (.cells #[p,v] T (0,0))->(p = .pointer none\/p = .pointer (some ⟨b,0,none⟩))->w.ownsRow 0 e 1 v xs.length xs->v.ownBlock≠some b->
   (∀a n c,v = .slice (some a) n c->0 < c)->xs.length + s.size<=140737488355328->
   Calls P f #[.pointer (some ⟨b,0,none⟩), .string s] w fun r w'=>r = .returned (.tuple #[.int .i64 s.size, .nilIface])/\
    ∃v',w'.heap[b]?=some (.cells #[.pointer (some ⟨b,0,none⟩),v'] T (0,0))/\w'.ownsRow 0 e 1 v' (xs.length + s.size) (xs++Lib.strCells s)/\v'.ownBlock≠some b/\Kept b v w w'/\
     (∀a n c,v' = .slice (some a) n c->0 < c)/\(∀g,v'.ownBlock=some g->v.ownBlock=some g\/w.heap.size<=g)) :
  bw P eT X f false (pf T e):=by
 refine ⟨hfn,fun O st loc w args vs K hs g hO ha => ?_⟩
 unfold pf at hs
 split at hs
 case h_2=>exact hs.elim
 rename_i n s
 split at hs
 case h_2=>exact hs.elim
 rename_i t x hob
 split at hs
 case h_2=>exact hs.elim
 rename_i ht
 have ht':=Ty.eq_of_beq ht
 subst ht'
 rw [ec] at hs
 obtain ⟨⟨hT,he,hlen⟩,hs⟩:=hs
 match vs,ha with
 | [v0,v1], .cons h0 (.cons h1 .nil)=>
 obtain ⟨b,p,u,rfl,hD⟩:=zN g hob h0
 obtain ⟨rfl,hsl⟩:=dQ.1 (show CR eT _ (.d .str s) v1 from h1)
 have hsz:(⟨s.toArray⟩:ByteArray).size=s.length:=by simp [ByteArray.size]
 have hT':x.2.1.toNat=T:=by rw [hT];rfl
 have he':x.2.2.1.toNat=e:=by rw [he];rfl
 have hheap:=hD.heap
 have hrow:=hD.row
 rw [hT'] at hheap
 rw [he'] at hrow
 refine (H b p u (x.1.map (Value.int .u8)) ⟨s.toArray⟩ w hheap hD.ptr (by simpa using hrow) hD.ne hD.cap (by simpa [hsz] using hlen)).mono ?_
 rintro r w' ⟨rfl,v',k1,k2,k3,k4,k5,k6⟩
 have hlt:b < w.heap.size:=(Array.getElem?_eq_some_iff.1 hheap).1
 obtain ⟨tr1,g1⟩:=kn (S:=ae O st loc w) (S':=ae O (setObj st n (.ext 2 iJ (x.1++aI s,(T:Int),(e:Int),()))) (aP loc n ⟨.pointer (some ⟨b,0,none⟩),b :: v'.ownBlock.toList⟩) w') (n:=n)
  (oc:=.ext 2 iJ x) (oc':=.ext 2 iJ (x.1++aI s,(T:Int),(e:Int),())) (l':=⟨.pointer (some ⟨b,0,none⟩),b :: v'.ownBlock.toList⟩) g rfl hO hob
  (fun m=>jo st n m _) (fun _=>rfl) rfl (fun _=>⟨hD.lv.symm,fun h=>(h _ _ rfl).elim⟩) ⟨rfl,rfl⟩ k4.os k4.output k4.size
  (fun b' h1 h2=>k4.block b' h1 (fun e=>h2 (by simp only [ae];rw [hD.bs,e];simp)) (fun e=>h2 (by simp only [ae];rw [hD.bs,e];simp)))
  (fun b' o v _ ho=>by simp [OC.lo] at ho)
  (fun b' hb'=>by
   rcases List.mem_cons.1 hb' with rfl | hb'
   ·exact .inl ⟨by simp only [ae];rw [hD.bs];simp,Nat.le_refl _⟩
   ·have hb':v'.ownBlock=some b':=by simpa using hb'
    rcases k6 b' hb' with h | h
    ·exact .inl ⟨by simp only [ae];rw [hD.bs,h];simp,Nat.le_refl _⟩
    ·exact .inr h)
 have g1:=g1 (X.EO.2 ⟨rfl,b, .pointer (some ⟨b,0,none⟩),v',rfl, .inr rfl,k1,by
  have e1:x.1.map (Value.int .u8)++Lib.strCells ⟨s.toArray⟩=(x.1++aI s).map (Value.int .u8):=by rw [rY,List.map_append]
  have e2:(x.1.map (Value.int .u8)).length + (⟨s.toArray⟩:ByteArray).size=(x.1++aI s).length:=by simp [hsz,aI]
  rw [e1,e2] at k2
  exact k2,rfl,k3,(fun y hy=>by
   rcases List.mem_append.1 hy with h | h
   ·exact hD.u8 y h
   ·exact DJ s y h),k5⟩)
 refine ⟨_,_,_,_,rfl,hs,rfl,(fun hh=>by cases hh),g1,tr1,⟨[.int .i64 (⟨s.toArray⟩:ByteArray).size, .nilIface],rfl, .cons ?_ (.cons ?_ .nil)⟩⟩
 ·refine bd.2 ⟨by rw [hsz],?_⟩
  simp only [IntKind.min,IntKind.max,IntKind.signed,IntKind.bits]
  unfold av at hsl
  constructor <;> simp <;> omega
 ·exact ij.2 rfl
theorem DK {O:ah} {st:St} {loc:Nat->Loc} {w w':World} (g:Good eT X (ae O st loc w)) {n:Nat} {oc0:OC} (hn:look st.ag n=some oc0) (h0:oc0.lo=0)
  (hos:w'.os=w.os) (hout:w'.output=w.output) (hsz:w.heap.size<=w'.heap.size) (hb:∀b,b < w.heap.size->b∉(loc n).bs->w'.heap[b]?=w.heap[b]?) :
  Tr (ae O st loc w) (ae O (aA st n) loc w')/\Good eT X (ae O (aA st n) loc w'):=by
 have hob:∀m oc,look (aA st n).ag m=some oc->m≠n/\look st.ag m=some oc:=by
  intro m oc h
  simp only [aA] at h
  rw [fQ] at h
  split at h
  ·cases h
  ·rename_i hne;exact ⟨fun e=>hne e.symm,h⟩
 have hA:∀b o,(ae O (aA st n) loc w').A b o->(ae O st loc w).A b o:=by
  rintro b o (h | ⟨m,oc,h1,h2⟩)
  ·exact .inl h
  ·exact .inr ⟨m,oc,(hob _ _ h1).2,h2⟩
 have ht:Tr (ae O st loc w) (ae O (aA st n) loc w'):={
  O:=rfl
  next:=Nat.le_refl _
  os:=hos
  output:=hout
  size:=hsz
  own:=fun b h=>by obtain ⟨m,oc,h1,h2⟩:=h;exact .inl ⟨m,oc,(hob _ _ h1).2,h2⟩
  cell:=fun b o v h1 h2=>by
   have hlt:=World.block_lt_of_cell? w _ h2
   refine ⟨?_,fun h=>h1 (hA b o h)⟩
   show w'.cell? _=_
   rw [World.cell?_of_block (w:=w) (w':=w') (a:=⟨b,o,none⟩) (hb b hlt fun hm=>h1 (.inr ⟨n,oc0,hn,hm,by rw [h0];exact Nat.zero_le _⟩))]
   exact h2
  block:=fun b h1 h2=>hb b h1 fun hm=>h2 ⟨n,oc0,hn,hm⟩
  loc:=fun _ _ _=>iZ rfl
  kind:=fun m oc _ h=>⟨oc,(hob _ _ h).2,by cases oc <;> simp [aw,ae]⟩}
 refine ⟨ht,⟨fun m oc h => ?_,fun m1 m2 oc1 oc2 b h1 h2 h3 h4 => ?_,fun m oc b off h1 h2 => ?_,g.eE.tr ht⟩⟩
 ·obtain ⟨hne,h⟩:=hob _ _ h
  obtain ⟨h1,h2⟩:=g.obj m oc h
  exact ⟨h1,h2.tr ht fun b hbm=>hb b (h2.inside b hbm) fun hbn=>hne (g.apart m n oc oc0 b h hn hbm hbn)⟩
 ·exact g.apart m1 m2 oc1 oc2 b (hob _ _ h1).2 (hob _ _ h2).2 h3 h4
 ·exact g.out m oc b off (hob _ _ h1).2 h2
theorem tn {T e:Nat} (hfn:∃fn,P.funcs[f]?=some fn/\fn.body.isNone=false/\(fn.name == "runtime.NumGoroutine")=false)
  (H:∀(b:Nat) (p v:Value) (l:List UInt8) (w:World),w.heap[b]?=some (.cells #[p,v] T (0,0))->w.ownsRow 0 e 1 v l.length (l.map fun c=>Value.int .u8 c.toNat)->(∀a n c,v = .slice (some a) n c->0 < c)->
   Calls P f #[.pointer (some ⟨b,0,none⟩)] w fun r w'=>r = .returned (.string ⟨l.toArray⟩)/\DH v w w') :
  bw P eT X f false (nc T e):=by
 refine ⟨hfn,fun O st loc w args vs K hs g hO ha => ?_⟩
 unfold nc at hs
 split at hs
 case h_2=>exact hs.elim
 rename_i n
 split at hs
 case h_2=>exact hs.elim
 rename_i t x hob
 split at hs
 case h_2=>exact hs.elim
 rename_i ht
 have ht':=Ty.eq_of_beq ht
 subst ht'
 rw [ec] at hs
 obtain ⟨⟨hT,he⟩,hs⟩:=hs
 match vs,ha with
 | [v0], .cons h0 .nil=>
 obtain ⟨b,p,u,rfl,hD⟩:=zN g hob h0
 have hT':x.2.1.toNat=T:=by rw [hT];rfl
 have he':x.2.2.1.toNat=e:=by rw [he];rfl
 have hheap:=hD.heap
 have hrow:=hD.row
 rw [hT'] at hheap
 rw [he',HA hD.u8,show x.1.length=(bytesOf x.1).length by simp [bytesOf]] at hrow
 refine (H b p u (bytesOf x.1) w hheap hrow hD.cap).mono ?_
 rintro r w' ⟨rfl,k⟩
 obtain ⟨tr1,g1⟩:=DK (w':=w') g hob rfl k.os k.output (by rw [k.size];exact Nat.le_refl _) (fun b' _ h2=>k.block b' fun e=>h2 (by rw [hD.bs,e];simp))
 refine ⟨_,_,_,_,rfl,hs,rfl,(fun hh=>by cases hh),g1,tr1,?_⟩
 refine (dQ (eT:=eT) (S:=ae O (aA st n) loc w')).2 ⟨rfl,?_⟩
 rcases hrow.2 with ⟨_,h⟩ | ⟨_,cap,_,_,_,_,h1,h2,_⟩
 ·rw [h];exact Nat.zero_le _
 ·unfold maxLen at h2;unfold av;omega
theorem xZ {T e:Nat} (hfn:∃fn,P.funcs[f]?=some fn/\fn.body.isNone=false/\(fn.name == "runtime.NumGoroutine")=false)
  (H:∀(b:Nat) (p q:Value) (a:Option Addr) (n c:Nat) (w:World),w.heap[b]?=some (.cells #[p, .slice a n c] T (0,0))->
   Calls P f #[.pointer (some ⟨b,0,none⟩)] w fun r w'=>r = .returned (.int .i64 n)/\w'=w) :
  bw P eT X f true (uH T e):=by
 refine ⟨hfn,fun O st loc w args vs K hs g hO ha => ?_⟩
 unfold uH at hs
 split at hs
 case h_2=>exact hs.elim
 rename_i n
 split at hs
 case h_2=>exact hs.elim
 rename_i t x hob
 split at hs
 case h_2=>exact hs.elim
 rename_i ht
 have ht':=Ty.eq_of_beq ht
 subst ht'
 rw [ec] at hs
 obtain ⟨⟨hT,he⟩,hs⟩:=hs
 match vs,ha with
 | [v0], .cons h0 .nil=>
 obtain ⟨b,p,u,rfl,hD⟩:=zN g hob h0
 have hT':x.2.1.toNat=T:=by rw [hT];rfl
 have hheap:=hD.heap
 rw [hT'] at hheap
 obtain ⟨a,c,rfl,hl⟩:∃a c,u = .slice a x.1.length c/\x.1.length<=av:=by
  rcases hD.row.2 with ⟨rfl,h⟩ | ⟨g',cap,cur,h,_,_,h1,h2,_⟩
  ·exact ⟨none,0,by rw [h],by rw [h];exact Nat.zero_le _⟩
  ·exact ⟨_,_,h,by unfold maxLen at h2;unfold av;omega⟩
 refine (H b p p a x.1.length c w hheap).mono ?_
 rintro r w' ⟨rfl,rfl⟩
 refine ⟨_,_,_,loc,rfl,hs,rfl,fun _=>Below.refl _ _,g,Tr.refl _,?_⟩
 refine (bd (eT:=eT) (S:=ae O st loc w')).2 ⟨rfl,?_⟩
 unfold av at hl
 simp only [IntKind.min,IntKind.max,IntKind.signed,IntKind.bits]
 constructor <;> simp <;> omega
end
end Go.Vg

namespace Go.Mrl
open Go.Vg
def small (c:UInt8):Bool:=decide ((97:Int)<=c.toNat) && decide ((c.toNat:Int)<=122)
def other (c:UInt8):Bool:=(decide ((48:Int)<=c.toNat) && decide ((c.toNat:Int)<=57)) || ((c.toNat:Int) == 95)
def dF (i:Nat) (c:UInt8):Bool:=!small c && ((i:Int) == 0 || !other c)
def n9 (s:List UInt8):Bool:=(List.range s.length).any fun i=>dF i (br s i)
def ao (s:List UInt8):Int:=if s.length < 1\/8 < s.length then 1 else if n9 s=true then 3 else 0
def au (n:Int):aF:=if n=0 then .nil else .no n
def cT:aF->Int->Bool
 | .nil,n=>n == 0
 | .no m,n=>decide (n > 0) && m == n
 | .other,_=>false
theorem sg {n:Int} (h:0<=n):cT (au n) n=true:=by
 unfold au
 split
 ·rename_i e;subst e;rfl
 ·simp [cT];omega
theorem dI (s:List UInt8):0<=ao s:=by
 unfold ao;split
 ·decide
 ·split <;> decide
theorem BC {s:List UInt8} {i:Nat} (h:i < s.length) (hb:dF i (br s i)=true):n9 s=true:=by
 simp only [n9,List.any_eq_true,List.mem_range]
 exact ⟨i,h,hb⟩
theorem zO {s:List UInt8} (h:∀i,i < s.length->dF i (br s i)=false):n9 s=false:=by
 simp only [n9,List.any_eq_false,List.mem_range]
 intro i hi;rw [h i hi];simp
theorem pL {s:List UInt8} (h:s.length < 1\/8 < s.length):ao s=1:=by unfold ao;rw [if_pos h]
theorem dx {s:List UInt8} {i:Nat} (h:¬ (s.length < 1\/8 < s.length)) (hi:i < s.length) (hb:dF i (br s i)=true):ao s=3:=by
 unfold ao
 rw [if_neg h,if_pos (BC hi hb)]
theorem oa {s:List UInt8} (h:¬ (s.length < 1\/8 < s.length)) (hb:∀i,i < s.length->dF i (br s i)=false):ao s=0:=by
 unfold ao
 rw [if_neg h,if_neg (by rw [zO hb];decide)]
theorem fK {i:Nat} {c:UInt8}:dF i c=true ↔ ¬ (97<=c.toNat/\c.toNat<=122)/\(i=0\/¬ ((48<=c.toNat/\c.toNat<=57)\/c.toNat=95)):=by
 simp only [dF,small,other,Bool.and_eq_true,Bool.not_eq_true',Bool.and_eq_false_iff,Bool.or_eq_true,Bool.or_eq_false_iff,decide_eq_false_iff_not,beq_iff_eq,beq_eq_false_iff_ne]
 omega
theorem fj {i:Nat} {c:UInt8}:dF i c=false ↔ ¬ (¬ (97<=c.toNat/\c.toNat<=122)/\(i=0\/¬ ((48<=c.toNat/\c.toNat<=57)\/c.toNat=95))):=by
 rw [<-fK];simp
theorem js {s:List UInt8} {i:Nat} (h:∀j,j < i->dF j (br s j)=false) (hb:dF i (br s i)=false):∀j,j < i + 1->dF j (br s j)=false:=by
 intro j hj
 rcases Nat.lt_or_ge j i with hlt | hge
 ·exact h j hlt
 ·obtain rfl:j=i:=by omega
  exact hb
end Go.Mrl

namespace Go.Mrl
open Go.Vg
theorem iz {p:Nat->Prop} {n:Nat} (h:∀j,j < n->p j) (hn:p n):∀j,j < n + 1->p j:=by
 intro j hj
 by_cases e:j=n
 ·rw [e];exact hn
 ·exact h j (by omega)
end Go.Mrl

namespace Go.Mrl
open Go.Vg
end Go.Mrl
namespace Go.Mrl
open Go.Vg
end Go.Mrl
namespace Go.Mrl
open Go.Vg
end Go.Mrl

namespace Go.Mrl
open Go.Vg
end Go.Mrl
namespace Go.Mrl
open Go.Vg
end Go.Mrl
namespace Go.Mrl
open Go.Vg
end Go.Mrl
namespace Go.Mrl
open Go.Vg
end Go.Mrl
namespace Go.Mrl
open Go.Vg
end Go.Mrl
namespace Go.Mrl
open Go.Vg
end Go.Mrl

namespace Go.Mrl
open Go.Vg
theorem qC {t:Ty} {xs:List (D t)} {i:Nat} (h:i < xs.length):xs[i]?=some (nth t xs i):=by
 rw [List.getElem?_eq_getElem h,<-eH (List.getElem?_eq_getElem h)]
theorem gz {t:Ty} {xs:List (D t)} {i:Nat} (h:i < xs.length):nth t xs i∈xs:=by
 have:=qC (t:=t) h
 exact List.mem_of_getElem? this
theorem gA {t:Ty} {xs:List (D t)} {x:D t} (h:x∈xs):∃i,i < xs.length/\nth t xs i=x:=by
 obtain ⟨i,hi,e⟩:=List.getElem_of_mem h
 exact ⟨i,hi,by rw [<-e];exact eH (List.getElem?_eq_getElem hi)⟩
end Go.Mrl
namespace Go.Mrl
open Go.Vg
end Go.Mrl
namespace Go.Mrl
open Go.Vg
end Go.Mrl
namespace Go.Mrl
open Go.Vg
end Go.Mrl
namespace Go.Mrl
open Go.Vg
end Go.Mrl

namespace Go.Mrl
open Go.Vg
theorem kW {t:Ty} {a b:List (D t)} (hl:a.length=b.length) (h:∀i,i < a.length->nth t a i=nth t b i):a=b:=by
 apply List.ext_getElem hl
 intro i h1 h2
 have:=h i h1
 rwa [show nth t a i=a[i] from eH (List.getElem?_eq_getElem h1),show nth t b i=b[i] from eH (List.getElem?_eq_getElem h2)] at this
def jW (a b:List Int):Bool:=decide (a=b)
def eL (a b:List (List UInt8)):Bool:=decide (a=b)
def jh (a b:List (D aq)):Bool:=decide (a=b)
theorem DL {a b:List Int} (hl:(a.length:Int)=b.length) (h:∀i,i < a.length->nth (.int .i64) a i=nth (.int .i64) b i):true=jW a b:=by
 rw [kW (t:=.int .i64) (by omega) h];simp [jW]
theorem Fv {a b:List Int} (hl:¬ (a.length:Int)=b.length):false=jW a b:=by
 symm;simp only [jW,decide_eq_false_iff_not];intro e;exact hl (by rw [e])
theorem HB {a b:List Int} {i:Nat} (h:¬ nth (.int .i64) a i=nth (.int .i64) b i):false=jW a b:=by
 symm;simp only [jW,decide_eq_false_iff_not];intro e;exact h (by rw [e])
theorem DM {a b:List (List UInt8)} (hl:(a.length:Int)=b.length) (h:∀i,i < a.length->nth .str a i=nth .str b i):true=eL a b:=by
 rw [kW (t:=.str) (by omega) h];simp [eL]
theorem Fw {a b:List (List UInt8)} (hl:¬ (a.length:Int)=b.length):false=eL a b:=by
 symm;simp only [eL,decide_eq_false_iff_not];intro e;exact hl (by rw [e])
theorem HC {a b:List (List UInt8)} {i:Nat} (h:¬ nth .str a i=nth .str b i):false=eL a b:=by
 symm;simp only [eL,decide_eq_false_iff_not];intro e;exact h (by rw [e])
theorem K8 {α:Type} {p:Nat->α->Prop} {f:Nat->α} {k:Nat} (h:∀j,j < k->p j (f j)) (hk:p k (f k)):∀j,j < k + 1->p j (f j):=by
 intro j hj
 by_cases e:j=k
 ·subst e;exact hk
 ·exact h j (by omega)
theorem qD {p:Nat->Prop} {k:Nat} (h:∀j,j < k->p j) (hk:p k):∀j,j < k + 1->p j:=by
 intro j hj
 by_cases e:j=k
 ·subst e;exact hk
 ·exact h j (by omega)
end Go.Mrl

namespace Go.Mrl
open Go.Vg
theorem pg {t:Ty} {a b:List (D t)} {i:Nat}:nth t (a++b) i=if i < a.length then nth t a i else nth t b (i - a.length):=by
 unfold nth
 simp only [List.getD_eq_getElem?_getD,List.getElem?_append]
 split <;> rfl
theorem HD {t:Ty} {a:List (D t)} {n i:Nat} (h:i < n):nth t (a.take n) i=nth t a i:=by
 unfold nth
 simp only [List.getD_eq_getElem?_getD,List.getElem?_take,if_pos h]
end Go.Mrl

namespace Go.Mrl
open Go.Vg
abbrev Pt:=Int × Int × Int × Unit
theorem jX {t:Ty} {l:List (D t)} {i j:Nat} {x:D t} (h:¬ i=j):nth t (l.set i x) j=nth t l j:=by
 unfold nth;simp only [List.getD_eq_getElem?_getD];rw [List.getElem?_set_ne h]
theorem jY {t:Ty} {l:List (D t)} {i:Nat} {x:D t} (h:i < l.length):nth t (l.set i x) i=x:=by
 unfold nth;simp only [List.getD_eq_getElem?_getD];rw [List.getElem?_set_self h];rfl
end Go.Mrl

namespace Go.Mrl
open Go.Vg
theorem DN {a b:List Pt} (hl:(a.length:Int)=b.length) (h:∀i,i < a.length->nth aq a i=nth aq b i):true=jh a b:=by
 have:a=b:=kW (t:=aq) (by omega) h
 simp [jh,this]
theorem HE {a b:List Pt} {i:Nat} (h:¬ nth aq a i=nth aq b i):false=jh a b:=by
 have:¬ a=b:=fun e=>h (by rw [e])
 simp [jh,this]
theorem Fx {a b:List Pt} (h:¬ (a.length:Int)=b.length):false=jh a b:=by
 have:¬ a=b:=fun e=>h (by rw [e])
 simp [jh,this]
end Go.Mrl

namespace Go.Mrl
open Go.Vg
def dy (n:Int):Bool:=decide (-2147483648<=n) && decide (n<=2147483647)
def qE:List (List UInt8)->List (List UInt8)->Int
 | _,[]=>0
 | p,s :: r=>if ao s > 0 then ao s else if p.any (· == s)=true then 3 else qE (p++[s]) r
def qF:List Int->Int
 | []=>0
 | n :: r=>if dy n=true then qF r else 1
def uK (n:Nat):List (D eR)->List (D eR)->Int
 | _,[]=>0
 | p,s :: r=>if ao s.1 > 0 then ao s.1 else if s.2.1 < 0\/s.2.1>=(n:Int) then 1 else if p.any (fun x=>x.1 == s.1)=true then 3 else uK n (p++[s]) r
def Ki (a:Int):Option Int->Bool
 | some b=>decide (a<=b)
 | none=>false
def zP (n:Nat) (prev:Option Int) (t:D jV):Int:=
 if t.1 < 0\/t.1>=(n:Int)\/dy t.2.2.1=false then 1
 else if t.2.1 < 1\/t.2.1 > 3\/Ki t.1 prev=true then 3
 else if t.2.1=1 then (if t.2.2.2.1≠[]\/t.2.2.2.2.1=true then 3 else 0)
 else ao t.2.2.2.1
def yj (n:Nat):Option Int->List (D jV)->Int
 | _,[]=>0
 | prev,t :: r=>if zP n prev t≠0 then zP n prev t else yj n (some t.1) r
def yk (o:D aD):Prop:=o.1.length > 4\/o.2.1.length < 1\/o.2.1.length > 40\/o.2.2.1.length > 8\/o.2.2.2.1.length > 6
instance (o:D aD):Decidable (yk o):=by unfold yk;infer_instance
def gY (o:D aD):Int:=
 if yk o then 2 else if qE [] o.1≠0 then qE [] o.1 else if qF o.2.1≠0 then qF o.2.1
 else if uK o.2.1.length [] o.2.2.1≠0 then uK o.2.1.length [] o.2.2.1 else yj o.2.1.length none o.2.2.2.1
theorem fW {t:Ty} {l:List (D t)} {i:Nat} (h:i < l.length):l.take (i + 1)=l.take i++[nth t l i]:=by
 rw [List.take_add_one];congr 1;unfold nth;simp [h]
end Go.Mrl

namespace Go.Mrl
open Go.Vg
abbrev aj:=List UInt8
end Go.Mrl

namespace Go.Mrl
open Go.Vg
abbrev Dk:=(Int × Bool × Unit) × (List (List UInt8) × (List (List UInt8) × (List (Int × List UInt8 × Unit) × Unit)))
def ph (x:Int × Int):Int × Int:=(0,x.1 * x.2)
def bE (s:List UInt8):List UInt8:=s++List.replicate (64 - s.length) 0
def stepOf (d:Dk):Dk × Int:=
 if d.1.2.1=true then (d,9) else if d.1.1=0 then (((-1,true,()),d.2),9) else (((if 0 < d.1.1 then d.1.1 - 1 else d.1.1,false,()),d.2),0)
def aJ (d:Dk) (at_:Int) (s:List UInt8):Dk × Int:=
 if at_ < 0\/(d.2.2.1.length:Int)<=at_\/64 < s.length then (d,1)
 else if (stepOf d).2=0 then (((stepOf d).1.1,d.2.1,d.2.2.1.set at_.toNat (bE s),d.2.2.2.1++[(at_,bE s,())],()),0) else stepOf d
def kX (d:Dk) (at_:Int):List UInt8 × Int:=
 if d.1.2.1=true then ([],9) else if at_ < 0\/(d.2.2.1.length:Int)<=at_ then ([],1) else (nth .str d.2.2.1 at_.toNat,0)
def aN (d:Dk):Dk × Int:=
 if (stepOf d).2=0 then (((stepOf d).1.1,d.2.2.1,d.2.2.1,[],()),0) else stepOf d
def fC (n:Int):Dk:=((-1,false,()),List.replicate n.toNat (bE []),List.replicate n.toNat (bE []),[],())
theorem b7 (d:Dk):(stepOf d).1.2=d.2:=by
 unfold stepOf;split
 ·rfl
 ·split <;> rfl
theorem DO (n:Nat):bytesOf (List.replicate n 0)=List.replicate n 0:=by
 unfold bytesOf;rw [List.map_replicate];rfl
end Go.Mrl

namespace Go.Mrl
open Go.Vg
theorem fD {a:Int} (h0:0<=a) (h:a < 18446744073709551616):IntKind.u64.wrap a=a:=
 rb (by simp [IntKind.min,IntKind.max,IntKind.signed,IntKind.bits];omega)
theorem zQ {a:Int} (h0:0<=a) (h:a < 18446744073709551616):(BitVec.ofInt IntKind.u64.bits a).toNat=a.toNat:=by
 rw [BitVec.toNat_ofInt]
 show (a % (2 ^ 64:Nat)).toNat=a.toNat
 rw [Int.emod_eq_of_lt h0 (by simpa using h)]
theorem HF {a x:Int} (hx:x=IntKind.wrap .u64 ((BitVec.ofInt IntKind.u64.bits a &&& BitVec.ofInt IntKind.u64.bits 4294967295).toNat:Int)) (h0:0<=a) (h:a < 4294967296):x=a:=by
 rw [BitVec.toNat_and,zQ h0 (by omega),zQ (by omega) (by omega)] at hx
 rw [show (4294967295:Int).toNat=2 ^ 32 - 1 from rfl,Nat.and_two_pow_sub_one_eq_mod,Nat.mod_eq_of_lt (by omega),Int.toNat_of_nonneg h0,fD h0 (by omega)] at hx
 exact hx
theorem zR {a x:Int} {n:Nat} (hx:x=a.fdiv (2 ^ (min n IntKind.u64.bits))) (hn:n=32) (h0:0<=a) (h:a < 4294967296):x=0:=by
 subst hn
 rw [show min 32 IntKind.u64.bits=32 from rfl,Int.fdiv_eq_ediv_of_nonneg _ (by decide),Int.ediv_eq_zero_of_lt h0 (by simpa using h)] at hx
 exact hx
def fX (s:List UInt8) (n k:Nat):List (List UInt8):=List.replicate k s++List.replicate (n - k) []
theorem zS {s:List UInt8} {n k:Nat} (h:k<=n):(fX s n k).length=n:=by simp [fX];omega
theorem DP {s:List UInt8} {n:Nat} (hn:0 < n) {k:Nat} (hk:k=1) (x:List (List UInt8)) (hx:x = [s]):(List.replicate n ([]:List UInt8)).take 0++x.take k++(List.replicate n []).drop (0 + k)=fX s n 1:=by
 subst hk;subst hx
 simp [fX]
theorem Fy {s:List UInt8} {n k m:Nat} (hk:k + m<=n) (hm:m<=k):(fX s n k).take k++((fX s n k).take k).take m++(fX s n k).drop (k + m)=fX s n (k + m):=by
 have h1:(fX s n k).take k=List.replicate k s:=by
  unfold fX;rw [List.take_append_of_le_length (by simp),List.take_of_length_le (by simp)]
 rw [h1,List.take_replicate,Nat.min_eq_left hm]
 unfold fX
 rw [List.drop_append,List.drop_of_length_le (by simp),List.nil_append,List.drop_replicate,List.length_replicate,<-List.replicate_append_replicate]
 rw [show n - k - (k + m - k)=n - (k + m) by omega]
theorem Fz {s:List UInt8} {n:Nat}:fX s n n=List.replicate n s:=by simp [fX]
theorem aS {n:Int}:(au n).isNil=true ↔ n=0:=by
 unfold au;split
 ·rename_i h;simp [h,aF.isNil]
 ·rename_i h;simp [h,aF.isNil]
theorem DQ {d:Dk} {at_:Int} {s:List UInt8} (h:at_ < 0\/(d.2.2.1.length:Int)<=at_\/64 < s.length):aJ d at_ s=(d,1):=by unfold aJ;rw [if_pos h]
theorem BD {d:Dk} {at_:Int} {s:List UInt8} (h:¬ (at_ < 0\/(d.2.2.1.length:Int)<=at_\/64 < s.length)) (h2:¬ (stepOf d).2=0):aJ d at_ s=stepOf d:=by unfold aJ;rw [if_neg h,if_neg h2]
theorem FA {d:Dk} {at_:Int} {s:List UInt8} (h:¬ (at_ < 0\/(d.2.2.1.length:Int)<=at_\/64 < s.length)) (h2:(stepOf d).2=0) :
  aJ d at_ s=(((stepOf d).1.1,d.2.1,d.2.2.1.set at_.toNat (bE s),d.2.2.2.1++[(at_,bE s,())],()),0):=by unfold aJ;rw [if_neg h,if_pos h2]
theorem Jg {t:Ty} {l:List (D t)} {i:Nat} {x:D t} (h:i < l.length):nth t (l.set i x) i=x:=by
 unfold nth;simp [List.getD_eq_getElem?_getD,h]
theorem HG {a b:List (List UInt8)} (h:a.length=b.length):a.take 0++b.take (min b.length a.length)++a.drop (0 + min b.length a.length)=b:=by
 rw [h,Nat.min_self];simp [h]
theorem BE {d:Dk} (h:d.1.2.1=true):stepOf d=(d,9):=by unfold stepOf;rw [if_pos h]
theorem BF {d:Dk} (h:d.1.2.1=false) (h0:d.1.1=0):stepOf d=(((-1,true,()),d.2),9):=by unfold stepOf;rw [if_neg (by rw [h];decide),if_pos h0]
theorem FB {d:Dk} (h:d.1.2.1=false) (h0:¬ d.1.1=0) (hf : -1<=d.1.1):stepOf d=(((if (-1:Int) > d.1.1 - 1 then (-1:Int) else d.1.1 - 1,d.1.2.1,()),d.2),0):=by
 unfold stepOf
 rw [if_neg (by rw [h];decide),if_neg h0,h]
 by_cases c:0 < d.1.1
 ·rw [if_pos c,if_neg (by omega)]
 ·rw [if_neg c,if_pos (by omega),show d.1.1 = -1 by omega]
theorem DR {d:Dk} {a:Int} (h:d.1.2.1=true):kX d a=([],9):=by unfold kX;rw [if_pos h]
theorem FC {d:Dk} {a:Int} (h:d.1.2.1=false) (h2:a < 0\/(d.2.2.1.length:Int)<=a):kX d a=([],1):=by unfold kX;rw [if_neg (by rw [h];decide),if_pos h2]
theorem HH {d:Dk} {a:Int} (h:d.1.2.1=false) (h2:¬ (a < 0\/(d.2.2.1.length:Int)<=a)):kX d a=(nth .str d.2.2.1 a.toNat,0):=by unfold kX;rw [if_neg (by rw [h];decide),if_neg h2]
theorem FD {d:Dk} (h:(stepOf d).2=0):aN d=(((stepOf d).1.1,d.2.2.1,d.2.2.1,[],()),0):=by unfold aN;rw [if_pos h]
theorem BG {d:Dk} (h:¬ (stepOf d).2=0):aN d=stepOf d:=by unfold aN;rw [if_neg h]
theorem fE {a:Int} (h0 : -9223372036854775808<=a) (h:a < 9223372036854775808):IntKind.i64.wrap a=a:=
 rb (by rw [lZ];unfold aC;omega)
end Go.Mrl
namespace Go.Mrl
open Go.Vg
def lq (e:D af):Prop:=e.1.length<=20/\e.2.1.length<=8/\e.2.2.1.length<=40/\∀i,i < e.2.1.length->(nth ai e.2.1 i).1.length<=20
def qG (a:D bW):Prop:=a.2.1.length<=100/\a.2.2.1.length<=1300/\lq a.2.2.2.2.2.1
def l6 (l:List (D bW)) (m:Int):Prop:=(l.length:Int)<=m/\∀i,i < l.length->qG (nth bW l i)
end Go.Mrl

namespace Go.Mrl
open Go.Vg
end Go.Mrl

namespace Go.Mrl
open Go.Vg
end Go.Mrl

namespace Go.Mrl
open Go.Vg
end Go.Mrl

namespace Go.Mrl
open Go.Vg
end Go.Mrl

namespace Go.Mrl
open Go.Vg
def _root_.Go.Vg.wZ:List UInt8->UInt8
 | c :: _=>c
 | []=>0
def iA (c:UInt8):List aj->aj
 | []=>[]
 | [x]=>x
 | x :: y :: r=>x++c :: iA c (y :: r)
def parts (c:UInt8):aj->List aj
 | []=>[[]]
 | b :: r=>if b=c then [] :: parts c r else match parts c r with
  | h :: t=>(b :: h) :: t
  | []=>[[b]]
theorem HI (c:UInt8):∀s:aj,parts c s≠[]
 | []=>by simp [parts]
 | b :: r=>by
  unfold parts
  split
  ·simp
  ·split <;> simp
theorem gp {c b:UInt8} {r:aj} (h:b≠c):∃x t,parts c r=x :: t/\parts c (b :: r)=(b :: x) :: t:=by
 cases hp:parts c r with
 | nil=>exact absurd hp (HI c r)
 | cons x t=>
  refine ⟨x,t,rfl,?_⟩
  conv=>lhs;unfold parts
  rw [if_neg h,hp]
theorem ji {c:UInt8} {r:aj}:parts c (c :: r) = [] :: parts c r:=by
 conv=>lhs;unfold parts
 rw [if_pos rfl]
theorem fL {c:UInt8}:∀{x:aj},c∉x->parts c x = [x]
 | [],_=>rfl
 | b :: r,h=>by
  obtain ⟨x,t,h1,h2⟩:=gp (c:=c) (b:=b) (r:=r) (fun e=>h (by simp [e]))
  rw [fL (x:=r) (fun e=>h (by simp [e]))] at h1
  cases h1
  exact h2
theorem cZ {c:UInt8}:∀{x:aj} {s:aj},c∉x->parts c (x++c :: s)=x :: parts c s
 | [],s,_=>ji
 | b :: r,s,h=>by
  obtain ⟨x,t,h1,h2⟩:=gp (c:=c) (b:=b) (r:=r++c :: s) (fun e=>h (by simp [e]))
  rw [cZ (x:=r) (fun e=>h (by simp [e]))] at h1
  cases h1
  exact h2
theorem nG {c:UInt8}:∀{L:List aj},L≠[]->(∀y∈L,c∉y)->parts c (iA c L)=L
 | [],h,_=>absurd rfl h
 | [x],_,h=>fL (h x (by simp))
 | x :: y :: r,_,h=>by
  show parts c (x++c :: iA c (y :: r))=_
  rw [cZ (h x (by simp)),nG (by simp) fun z hz=>h z (List.mem_cons_of_mem _ hz)]
theorem qH (c:UInt8):∀(s:aj),(parts c s).length<=s.length + 1
 | []=>by simp [parts]
 | b :: r=>by
  by_cases h:b=c
  ·subst h;rw [ji];have:=qH b r;simp;omega
  ·obtain ⟨x,t,h1,h2⟩:=gp (c:=c) (b:=b) (r:=r) h
   have:=qH c r
   rw [h1] at this
   rw [h2];simp at this ⊢;omega
theorem mw (c:UInt8):∀(s:aj),∀y∈parts c s,y.length<=s.length
 | [],y,h=>by simp [parts] at h;simp [h]
 | b :: r,y,h=>by
  by_cases hb:b=c
  ·subst hb;rw [ji] at h
   rcases List.mem_cons.1 h with rfl | h
   ·simp
   ·have:=mw b r y h;simp;omega
  ·obtain ⟨x,t,h1,h2⟩:=gp (c:=c) (b:=b) (r:=r) hb
   rw [h2] at h
   rcases List.mem_cons.1 h with rfl | h
   ·have:=mw c r x (by rw [h1];simp);simp;omega
   ·have:=mw c r y (by rw [h1];simp [h]);simp;omega
theorem qI {b c:UInt8} {l:aj} (h:b≠c):Lib.index (b :: l) [c]=if Lib.index l [c] == -1 then -1 else Lib.index l [c] + 1:=by
 rw [Lib.index];simp [List.isPrefixOf,Ne.symm h]
theorem qJ {c:UInt8} {l:aj}:Lib.index (c :: l) [c]=0:=by
 rw [Lib.index];simp [List.isPrefixOf]
theorem my (c:UInt8):∀s:aj,Lib.splitK [c] 0 (s.count c) s=parts c s
 | []=>rfl
 | b :: l=>by
  by_cases h:b=c
  ·subst h
   rw [ji,List.count_cons_self,Lib.splitK,qJ,if_neg (by decide),<-my b l]
   simp
  ·obtain ⟨x,t,h1,h2⟩:=gp (c:=c) (b:=b) (r:=l) h
   rw [h2,List.count_cons_of_ne h]
   rw [<-my c l] at h1
   cases hk:l.count c with
   | zero=>
    rw [hk] at h1
    simp only [Lib.splitK] at h1 ⊢
    cases h1
    rfl
   | succ k=>
    rw [hk] at h1
    have hi:Lib.index l [c]≠-1:=by
     intro e
     have:=Lib.count_miss (s:=l) (sub:=[c]) e
     rw [Lib.count_one] at this
     omega
    have hge:=Lib.index_ge l [c]
    rw [Lib.splitK,if_neg (by simpa using hi)] at h1
    obtain ⟨i,e⟩:∃i:Nat,Lib.index l [c]=i:=⟨(Lib.index l [c]).toNat,by omega⟩
    have e2:Lib.index (b :: l) [c]=((i + 1:Nat):Int):=by rw [qI h,if_neg (by simpa using hi),e];rfl
    rw [Lib.splitK,e2,if_neg (by simp;omega)]
    rw [e] at h1
    simp only [Int.toNat_natCast,Nat.add_zero,List.length_singleton,List.take_succ_cons,List.drop_succ_cons,List.cons.injEq] at h1 ⊢
    exact ⟨⟨trivial,h1.1⟩,h1.2⟩
def lK (c:UInt8) (L:List aj):aj:=L.flatMap (· ++ [c])
theorem w4 (c:UInt8) (x:aj) (L:List aj):lK c (x :: L)=x++c :: lK c L:=by simp [lK]
theorem w5 {c:UInt8}:∀{L:List aj},L≠[]->lK c L=iA c L++[c]
 | [],h=>absurd rfl h
 | [x],_=>by simp [lK,iA]
 | x :: y :: r,_=>by
  rw [w4,w5 (L:=y :: r) (by simp)];simp [iA]
theorem od (x:aj) (c:UInt8):Lib.trimSuffix (x++[c]) [c]=x:=by
 have h:Lib.hasSuffix (x++[c]) [c]=true:=by unfold Lib.hasSuffix;simp [List.isSuffixOf_iff_suffix]
 unfold Lib.trimSuffix
 rw [if_pos h];simp
theorem DS {c:UInt8} {L:List aj} (h:L≠[]) (hf:∀y∈L,c∉y):parts c (Lib.trimSuffix (lK c L) [c])=L:=by
 rw [w5 h,od,nG h hf]
end Go.Mrl

namespace Go.Mrl
open Go.Vg
theorem qK {k:Nat} (h:k < 10):(UInt8.ofNat (48 + k)).toNat=48 + k:=by
 rw [UInt8.toNat_ofNat'];omega
theorem jZ:∀(u:Nat),∀c∈Lib.decDigits u,48<=c.toNat/\c.toNat<=57:=by
 intro u
 induction u using Nat.strongRecOn with
 | _ u ih=>
  intro c hc
  by_cases h:u < 10
  ·rw [Lib.decDigits,dif_pos h] at hc
   simp only [List.mem_singleton] at hc
   rw [hc,qK h];omega
  ·rw [Lib.decDigits,dif_neg h] at hc
   rcases List.mem_append.1 hc with hc | hc
   ·exact ih _ (by omega) c hc
   ·simp only [List.mem_singleton] at hc
    rw [hc,qK (Nat.mod_lt _ (by decide))];omega
theorem qL (u:Nat):Lib.decDigits u≠[]:=by
 rw [Lib.decDigits];split <;> simp
theorem jj:∀(k u:Nat),u < 10 ^ (k + 1)->(Lib.decDigits u).length<=k + 1
 | 0,u,h=>by rw [Lib.decDigits,dif_pos (by simpa using h)];simp
 | k + 1,u,h=>by
  rw [Lib.decDigits]
  split
  ·simp
  ·have:=jj k (u / 10) (by rw [Nat.pow_succ] at h;omega)
   simp;exact this
theorem w6:∀(l:aj) (c:UInt8) (a v:Nat),Lib.parseUint10 a l = .ok v->Lib.parseUint10 a (l++[c])=Lib.parseUint10 v [c]
 | [],c,a,v,h=>by simp [Lib.parseUint10] at h;rw [h];rfl
 | b :: l,c,a,v,h=>by
  rw [List.cons_append,Lib.parseUint10]
  rw [Lib.parseUint10] at h
  split at h
  ·rename_i hb
   rw [if_pos hb]
   split at h
   ·cases h
   ·rename_i h1
    rw [if_neg h1]
    split at h
    ·cases h
    ·rename_i h2
     rw [if_neg h2]
     exact w6 l c _ v h
  ·cases h
theorem zT {v d:Nat} (hd:d < 10) (h:10 * v + d < 18446744073709551616):Lib.parseUint10 v [UInt8.ofNat (48 + d)] = .ok (10 * v + d):=by
 unfold Lib.parseUint10
 rw [qK hd,if_pos (by omega),if_neg (by omega),if_neg (by omega)]
 unfold Lib.parseUint10
 congr 1;omega
theorem HJ:∀u:Nat,u < 18446744073709551616->Lib.parseUint10 0 (Lib.decDigits u) = .ok u:=by
 intro u
 induction u using Nat.strongRecOn with
 | _ u ih=>
  intro hu
  by_cases h:u < 10
  ·rw [Lib.decDigits,dif_pos h]
   have:=zT (v:=0) (d:=u) h (by omega)
   simpa using this
  ·rw [Lib.decDigits,dif_neg h,w6 _ _ _ _ (ih _ (by omega) (by omega)),zT (Nat.mod_lt _ (by decide)) (by omega)]
   congr 1;omega
theorem CF {u:Nat} (hu:u < 18446744073709551616):Lib.parseMag (Lib.decDigits u) = .ok u:=by
 unfold Lib.parseMag
 rw [if_neg (qL u),HJ u hu]
theorem FF {n:Int} (h0 : -9223372036854775808<=n) (h1:n<=9223372036854775807):Lib.atoiAll (Lib.itoa n) = .ok n:=by
 by_cases hn:n < 0
 ·have hm:=CF (u:=n.natAbs) (by omega)
  simp only [Lib.itoa,if_pos hn,Lib.atoiAll]
  rw [if_pos (Or.inr (by decide)),hm]
  simp only
  rw [if_neg (by simp),if_neg (by simp;omega)]
  simp;omega
 ·have hm:=CF (u:=n.toNat) (by omega)
  simp only [Lib.itoa,if_neg hn,Lib.atoiAll]
  cases hd:Lib.decDigits n.toNat with
  | nil=>exact absurd hd (qL _)
  | cons c r=>
   have hc:=jZ n.toNat c (by rw [hd];simp)
   rw [hd] at hm
   simp only
   rw [if_neg (by omega),hm]
   simp only
   rw [if_neg (by omega),if_neg (by omega),if_neg (by omega)]
   congr 1;omega
def eg (s:List UInt8):Int × aF:=match Lib.atoiAll s with
 | .ok n=>(n, .nil)
 | Lib.NumEnd.syntax=>(0, .other)
 | .range=>(Lib.atoiSat s, .other)
def cA (s:aj):Option Int:=match Lib.atoiAll s with
 | .ok n=>if Lib.itoa n=s then some n else none
 | _=>none
theorem FG {n:Int} (h0 : -9223372036854775808<=n) (h1:n<=9223372036854775807):cA (Lib.itoa n)=some n:=by
 unfold cA;rw [FF h0 h1];simp
theorem qM {s:aj}:(cA s).isNone=(!(eg s).2.isNil || !decide (Lib.itoa (eg s).1=s)):=by
 unfold cA eg
 cases Lib.atoiAll s with
 | ok v=>simp only [aF.isNil];by_cases h:Lib.itoa v=s <;> simp [h]
 | range=>rfl
 | _=>rfl
theorem w7 {n:Int} {c:UInt8} (h:c.toNat<=44):c∉Lib.itoa n:=by
 intro hc
 have h45:(45:UInt8).toNat=45:=rfl
 unfold Lib.itoa at hc
 split at hc
 ·rcases List.mem_cons.1 hc with rfl | hc
  ·omega
  ·have:=jZ _ c hc;omega
 ·have:=jZ _ c hc;omega
def mD (n:Int):Nat:=2 * n.natAbs + (if n < 0 then 1 else 0)
theorem Lc {n:Int} (h:n < 0):mD (-n) < mD n:=by unfold mD;rw [if_neg (by omega),if_pos h];omega
theorem FH {n:Int} (h:n < 0):Lib.itoa n = [45]++Lib.itoa (-n):=by
 unfold Lib.itoa;rw [if_pos h,if_neg (by omega)];congr 2;omega
end Go.Mrl

namespace Go.Mrl
open Go.Vg
theorem w8 {f:Int} (h0:0<=f) (h:(au f).isNil=false):f > 0:=by
 have:¬ f=0:=fun e=>by rw [aS.2 e] at h;cases h
 omega
theorem bY {f:Int} (h:(au f).isNil=true):f<=0:=by
 have:=aS.1 h;omega
def kY (b:Bool):List UInt8:=if b=true then [119,101,97,107,32] else []
def IF (s:aj):aj:=[110,101,101,100,32]++s++[10]
def IG (n:Int):aj:=[119,111,114,100,32]++Lib.itoa n++[10]
def Kj (y:D eR):aj:=kY y.2.2.1++[115,121,109,98,111,108,32]++y.1++[32]++Lib.itoa y.2.1++[10]
def Kk (t:D jV):aj:=
 if t.2.1=1 then [98,97,115,101,32]++Lib.itoa t.1++[32]++Lib.itoa t.2.2.1++[10]
 else if t.2.1=2 then kY t.2.2.2.2.1++[119,104,111,108,101,32]++Lib.itoa t.1++[32]++Lib.itoa t.2.2.1++[32]++t.2.2.2.1++[10]
 else kY t.2.2.2.2.1++[110,101,97,114,32]++Lib.itoa t.1++[32]++Lib.itoa t.2.2.1++[32]++t.2.2.2.1++[10]
def Kl (o:D aD) (i:Nat):aj:=(o.1.take i).flatMap IF
def Km (o:D aD) (i:Nat):aj:=Kl o o.1.length++(o.2.1.take i).flatMap IG
def Kn (o:D aD) (i:Nat):aj:=Km o o.2.1.length++(o.2.2.1.take i).flatMap Kj
def Ko (o:D aD) (i:Nat):aj:=Kn o o.2.2.1.length++(o.2.2.2.1.take i).flatMap Kk
def j0 (o:D aD):aj:=Ko o o.2.2.2.1.length
def Nm (s:aj):Prop:=s≠[]/\s.length<=8/\∀c∈s,c≠10/\c≠32
def dP (a b x:Int):Prop:=a<=x/\x<=b
structure DT (t:D jV):Prop where
 a:dP 0 39 t.1
 w:dP (-2147483648) 2147483647 t.2.2.1
 k:t.2.1=1\/t.2.1=2\/t.2.1=3
 base:t.2.1=1->t.2.2.2.1 = []/\t.2.2.2.2.1=false
 nm:t.2.1≠1->Nm t.2.2.2.1
structure IH (o:D aD):Prop where
 n4:o.1.length<=4
 w1:1<=o.2.1.length
 Ll:o.2.1.length<=40
 s8:o.2.2.1.length<=8
 t6:o.2.2.2.1.length<=6
 II:∀s∈o.1,Nm s
 words:∀n∈o.2.1,dP (-2147483648) 2147483647 n
 syms:∀y∈o.2.2.1,Nm y.1/\dP 0 39 y.2.1
 Kp:∀t∈o.2.2.2.1,DT t
end Go.Mrl

namespace Go.Mrl
open Go.Vg
theorem sh:∀(l p:List aj),qE p l=0->∀s∈l,ao s=0
 | [],_,_,s,h=>absurd h (by simp)
 | x :: r,p,h,s,hs=>by
  have hx:=dI x
  unfold qE at h
  split at h
  ·omega
  ·split at h
   ·cases h
   ·rcases List.mem_cons.1 hs with rfl | hs
    ·omega
    ·exact sh r _ h s hs
theorem si:∀(l:List Int),qF l=0->∀n∈l,dy n=true
 | [],_,s,h=>absurd h (by simp)
 | x :: r,h,s,hs=>by
  unfold qF at h
  split at h
  ·rename_i hx
   rcases List.mem_cons.1 hs with rfl | hs
   ·exact hx
   ·exact si r h s hs
  ·cases h
theorem uL (n:Nat):∀(l p:List (D eR)),uK n p l=0->∀y∈l,ao y.1=0/\dP 0 (n - 1) y.2.1
 | [],_,_,s,h=>absurd h (by simp)
 | x :: r,p,h,s,hs=>by
  have hx:=dI x.1
  unfold uK at h
  split at h
  ·omega
  ·split at h
   ·cases h
   ·rename_i h2
    split at h
    ·cases h
    ·rcases List.mem_cons.1 hs with rfl | hs
     ·exact ⟨by omega,Int.not_lt.1 fun e=>h2 (.inl e),Int.le_sub_one_of_lt (Int.not_le.1 fun e=>h2 (.inr e))⟩
     ·exact uL n r _ h s hs
theorem FI {n:Nat} {p:Option Int} {t:D jV} (h:zP n p t=0) :
  dP 0 (n - 1) t.1/\dy t.2.2.1=true/\dP 1 3 t.2.1/\(t.2.1=1->t.2.2.2.1 = []/\t.2.2.2.2.1=false)/\(t.2.1≠1->ao t.2.2.2.1=0):=by
 unfold zP at h
 split at h
 ·cases h
 ·rename_i h1
  split at h
  ·cases h
  ·rename_i h2
   refine ⟨⟨Int.not_lt.1 fun e=>h1 (.inl e),Int.le_sub_one_of_lt (Int.not_le.1 fun e=>h1 (.inr (.inl e)))⟩,?_,⟨Int.not_lt.1 fun e=>h2 (.inl e),Int.not_lt.1 fun e=>h2 (.inr (.inl e))⟩,?_,?_⟩
   ·cases hw:dy t.2.2.1 with
    | true=>rfl
    | false=>exact absurd (.inr (.inr hw)) h1
   ·intro e
    rw [if_pos e] at h
    split at h
    ·cases h
    ·rename_i h3
     refine ⟨Classical.byContradiction fun e=>h3 (.inl e),?_⟩
     cases hb:t.2.2.2.2.1 with
     | false=>rfl
     | true=>exact absurd (.inr hb) h3
   ·intro e
    rw [if_neg e] at h
    exact h
theorem uM (n:Nat):∀(l:List (D jV)) (p:Option Int),yj n p l=0->∀t∈l,∃p,zP n p t=0
 | [],_,_,s,h=>absurd h (by simp)
 | x :: r,p,h,s,hs=>by
  unfold yj at h
  split at h
  ·rename_i h0;exact absurd h h0
  ·rename_i h0
   rcases List.mem_cons.1 hs with rfl | hs
   ·exact ⟨p,Classical.byContradiction h0⟩
   ·exact uM n r _ h s hs
theorem uN {s:aj} (h:ao s=0):Nm s:=by
 unfold ao at h
 split at h
 ·cases h
 ·rename_i hl
  split at h
  ·cases h
  ·rename_i hb
   refine ⟨by rintro rfl;simp at hl,by omega,fun c hc => ?_⟩
   obtain ⟨i,hi,rfl⟩:=List.getElem_of_mem hc
   have hn:dF i (br s i)=false:=by
    unfold n9 at hb
    rw [Bool.not_eq_true,List.any_eq_false] at hb
    have:=hb i (by simpa using hi)
    simpa using this
   have he:br s i=s[i]:=by unfold br;simp [hi]
   rw [he] at hn
   constructor
   ·intro e;rw [e] at hn;unfold dF small other at hn;simp at hn
   ·intro e;rw [e] at hn;unfold dF small other at hn;simp at hn
theorem three {x:Int} (h:1<=x) (h':x<=3):x=1\/x=2\/x=3:=by omega
theorem Kq {o:D aD} (h:gY o=0):IH o:=by
 unfold gY at h
 split at h
 ·cases h
 ·rename_i hm
  split at h
  ·rename_i h1;exact absurd h h1
  ·rename_i h1
   split at h
   ·rename_i h2;exact absurd h h2
   ·rename_i h2
    split at h
    ·rename_i h3;exact absurd h h3
    ·rename_i h3
     have h1:=Classical.byContradiction h1
     have h2:=Classical.byContradiction h2
     have h3:=Classical.byContradiction h3
     unfold yk at hm
     have hw:o.2.1.length<=40:=Nat.not_lt.1 fun e=>hm (.inr (.inr (.inl e)))
     refine ⟨Nat.not_lt.1 fun e=>hm (.inl e),Nat.not_lt.1 fun e=>hm (.inr (.inl e)),hw,Nat.not_lt.1 fun e=>hm (.inr (.inr (.inr (.inl e)))),Nat.not_lt.1 fun e=>hm (.inr (.inr (.inr (.inr e)))),
      fun s hs=>uN (sh _ _ h1 s hs),fun n hn => ?_,fun y hy => ?_,fun t ht => ?_⟩
     ·have:=si _ h2 n hn
      unfold dy at this
      simp only [Bool.and_eq_true,decide_eq_true_eq] at this
      exact this
     ·obtain ⟨a,b,c⟩:=uL _ _ _ h3 y hy
      exact ⟨uN a,b,Int.le_trans c (by omega)⟩
     ·obtain ⟨p,hp⟩:=uM _ _ _ h t ht
      obtain ⟨⟨a,b⟩,c,⟨d,e⟩,f,g⟩:=FI hp
      unfold dy at c
      simp only [Bool.and_eq_true,decide_eq_true_eq] at c
      exact ⟨⟨a,Int.le_trans b (by omega)⟩,c,three d e,f,fun e=>uN (g e)⟩
theorem cI {a b n:Int} (h:dP a b n) (ha : -999999999999999999<=a) (hb:b<=999999999999999999):(Lib.itoa n).length<=19:=by
 obtain ⟨h0,h1⟩:=h
 unfold Lib.itoa
 split
 ·rw [List.length_cons]
  have:=jj 17 n.natAbs (by omega)
  omega
 ·have:=jj 17 n.toNat (by omega)
  omega
theorem tp {α:Type} {f:α->aj}:∀{l:List α},(∀x∈l,(f x).length<=64)->(l.flatMap f).length<=64 * l.length
 | [],_=>by simp
 | x :: r,h=>by
  have h1:=h x (by simp)
  have h2:=tp (f:=f) (l:=r) fun y hy=>h y (List.mem_cons_of_mem _ hy)
  rw [List.flatMap_cons,List.length_append,List.length_cons];omega
theorem BH (a b:aj):aI a++aI b=aI (a++b):=by simp [aI]
theorem sj (a:aj):(aI a).length=a.length:=by simp [aI]
theorem HK {p p' q:aj} {a b:Int} (h:p'=p++q):(((aI p++aI q,a,b,()):D iJ))=((aI p',a,b,()):D iJ):=by rw [h,BH]
end Go.Mrl

namespace Go.Mrl
open Go.Vg
@[reducible] def de:aj:=[119,101,97,107,32]
@[reducible] def yl:aj:=[110,101,101,100]
@[reducible] def rC:aj:=[119,111,114,100]
@[reducible] def vR:aj:=[115,121,109,98,111,108]
@[reducible] def DU:aj:=[98,97,115,101]
@[reducible] def zU:aj:=[119,104,111,108,101]
@[reducible] def ym:aj:=[110,101,97,114]
def oe (o:D aD) (s:aj):D aD:=(o.1++[s],o.2)
def og (o:D aD) (n:Int):D aD:=(o.1,o.2.1++[n],o.2.2)
def uO (o:D aD) (y:D eR):D aD:=(o.1,o.2.1,o.2.2.1++[y],o.2.2.2)
def qN (o:D aD) (t:D jV):D aD:=(o.1,o.2.1,o.2.2.1,o.2.2.2.1++[t],())
def zV (x y:aj) (k:Int->Int->D aD):Option (D aD):=
 match cA x,cA y with
 | some m,some n=>some (k m n)
 | _,_=>none
def lr (o:D aD) (b:Bool):List aj->Option (D aD)
 | [a,x]=>if a=yl then some (oe o x) else if a=rC then (cA x).map (og o) else none
 | [a,x,y]=>if a=vR then (cA y).map fun n=>uO o (x,n,b,()) else if a=DU then zV x y fun m n=>qN o (m,1,n,[],false,()) else none
 | [a,x,y,z]=>if a=zU\/a=ym then zV x y fun m n=>qN o (m,if a=ym then 3 else 2,n,z,b,()) else none
 | _=>none
def yn (o:D aD) (s:aj):Option (D aD):=lr o (Lib.hasPrefix s de) (parts 32 (Lib.trimPrefix s de))
def run (f:D aD->aj->Option (D aD)):D aD->List aj->Option (D aD)
 | o,[]=>some o
 | o,s :: r=>match f o s with
  | some p=>run f p r
  | none=>none
theorem rD {f:D aD->aj->Option (D aD)}:∀{l m:List aj} {o p:D aD},run f o l=some p->run f o (l++m)=run f p m
 | [],m,o,p,h=>by simp only [run,Option.some.injEq] at h;rw [h];rfl
 | x :: r,m,o,p,h=>by
  simp only [run] at h
  simp only [List.cons_append,run]
  cases hx:f o x with
  | none=>rw [hx] at h;cases h
  | some q=>rw [hx] at h;exact rD h
def j9 (s:aj):aj:=[110,101,101,100,32]++s
def kd (n:Int):aj:=[119,111,114,100,32]++Lib.itoa n
def tq (y:D eR):aj:=kY y.2.2.1++([115,121,109,98,111,108,32]++(y.1++32 :: Lib.itoa y.2.1))
def qO (t:D jV):aj:=
 if t.2.1=1 then [98,97,115,101,32]++(Lib.itoa t.1++32 :: Lib.itoa t.2.2.1)
 else if t.2.1=2 then kY t.2.2.2.2.1++([119,104,111,108,101,32]++(Lib.itoa t.1++32 :: (Lib.itoa t.2.2.1++32 :: t.2.2.2.1)))
 else kY t.2.2.2.2.1++([110,101,97,114,32]++(Lib.itoa t.1++32 :: (Lib.itoa t.2.2.1++32 :: t.2.2.2.1)))
def lu (o:D aD):List aj:=o.1.map j9++(o.2.1.map kd++(o.2.2.1.map tq++o.2.2.2.1.map qO))
theorem mz {α:Type} {f g:α->aj} (h:∀x,f x=g x++[10]):∀l:List α,l.flatMap f=lK 10 (l.map g)
 | []=>rfl
 | x :: r=>by rw [List.flatMap_cons,mz h r,List.map_cons,w4,h];simp
theorem tt (c:UInt8) (l m:List aj):lK c (l++m)=lK c l++lK c m:=by simp [lK]
theorem BI (o:D aD):j0 o=lK 10 (lu o):=by
 unfold j0 Ko Kn Km Kl lu
 rw [List.take_length,List.take_length,List.take_length,List.take_length,tt,tt,tt,
  mz (g:=j9) (fun s=>by simp [IF,j9]) o.1,mz (g:=kd) (fun s=>by simp [IG,kd]) o.2.1,
  mz (g:=tq) (fun s=>by simp [Kj,tq]) o.2.2.1,
  mz (g:=qO) (fun s=>by unfold Kk qO;split <;> (try split) <;> simp) o.2.2.2.1]
 simp
structure Reads (f:D aD->aj->Option (D aD)):Prop where
 Kr:∀(o:D aD) (s:aj),Nm s->f o (j9 s)=some (oe o s)
 word:∀(o:D aD) (n:Int),dP (-2147483648) 2147483647 n->f o (kd n)=some (og o n)
 sym:∀(o:D aD) (y:D eR),Nm y.1->dP 0 39 y.2.1->f o (tq y)=some (uO o y)
 tie:∀(o:D aD) (t:D jV),DT t->f o (qO t)=some (qN o t)
section
variable {f:D aD->aj->Option (D aD)} (h:Reads f)
include h
theorem w9:∀(l:List aj) (o:D aD),(∀s∈l,Nm s)->run f o (l.map j9)=some (o.1++l,o.2)
 | [],o,_=>by simp [run]
 | s :: r,o,hl=>by
  rw [List.map_cons,run,h.Kr o s (hl s (by simp))]
  show run f (oe o s) (r.map j9)=_
  rw [w9 r _ fun x hx=>hl x (List.mem_cons_of_mem _ hx)]
  simp [oe]
theorem xa:∀(l:List Int) (o:D aD),(∀n∈l,dP (-2147483648) 2147483647 n)->run f o (l.map kd)=some (o.1,o.2.1++l,o.2.2)
 | [],o,_=>by simp [run]
 | s :: r,o,hl=>by
  rw [List.map_cons,run,h.word o s (hl s (by simp))]
  show run f (og o s) (r.map kd)=_
  rw [xa r _ fun x hx=>hl x (List.mem_cons_of_mem _ hx)]
  simp [og]
theorem zW:∀(l:List (D eR)) (o:D aD),(∀y∈l,Nm y.1/\dP 0 39 y.2.1)->run f o (l.map tq)=some (o.1,o.2.1,o.2.2.1++l,o.2.2.2)
 | [],o,_=>by simp [run]
 | s :: r,o,hl=>by
  rw [List.map_cons,run,h.sym o s (hl s (by simp)).1 (hl s (by simp)).2]
  show run f (uO o s) (r.map tq)=_
  rw [zW r _ fun x hx=>hl x (List.mem_cons_of_mem _ hx)]
  simp [uO]
theorem zX:∀(l:List (D jV)) (o:D aD),(∀t∈l,DT t)->run f o (l.map qO)=some (o.1,o.2.1,o.2.2.1,o.2.2.2.1++l,())
 | [],o,_=>by simp [run]
 | s :: r,o,hl=>by
  rw [List.map_cons,run,h.tie o s (hl s (by simp))]
  show run f (qN o s) (r.map qO)=_
  rw [zX r _ fun x hx=>hl x (List.mem_cons_of_mem _ hx)]
  simp [qN]
theorem FJ {o:D aD} (ok:IH o):run f (bp aD) (lu o)=some o:=by
 unfold lu
 rw [rD (w9 h o.1 _ ok.II),rD (xa h o.2.1 _ ok.words),rD (zW h o.2.2.1 _ ok.syms),zX h o.2.2.2.1 _ ok.Kp]
 rfl
end
theorem uP {a:UInt8} {s:aj} (h:a≠119):Lib.hasPrefix (a :: s) de=false:=by
 unfold Lib.hasPrefix de;simp [List.isPrefixOf];intro e;exact absurd e.symm h
theorem Jh {s:aj} (h:Lib.hasPrefix s de=false):Lib.trimPrefix s de=s:=by unfold Lib.trimPrefix;rw [if_neg (by rw [h];decide)]
theorem CG (s:aj):Lib.hasPrefix (de++s) de=true:=by unfold Lib.hasPrefix de;simp [List.isPrefixOf]
theorem HM (s:aj):Lib.trimPrefix (de++s) de=s:=by unfold Lib.trimPrefix;rw [if_pos (CG s)];rfl
theorem CH {a b:UInt8} {s:aj} (h:b≠101):Lib.hasPrefix (a :: b :: s) de=false:=by
 unfold Lib.hasPrefix de;simp [List.isPrefixOf];intro _ e;exact absurd e.symm h
theorem iC (o:D aD) (b:Bool) (s:aj) (h:Lib.hasPrefix s de=false):yn o (kY b++s)=lr o b (parts 32 s):=by
 unfold yn
 cases b with
 | false=>show lr o (Lib.hasPrefix s de) (parts 32 (Lib.trimPrefix s de))=_;rw [h,Jh h]
 | true=>show lr o (Lib.hasPrefix (de++s) de) (parts 32 (Lib.trimPrefix (de++s) de))=_;rw [CG,HM]
theorem iF {s:aj} (h:Nm s):(32:UInt8)∉s/\(10:UInt8)∉s:=⟨fun hc=>(h.2.2 _ hc).2 rfl,fun hc=>(h.2.2 _ hc).1 rfl⟩
theorem dX (n:Int):(32:UInt8)∉Lib.itoa n:=w7 (by decide)
theorem gZ (n:Int):(10:UInt8)∉Lib.itoa n:=w7 (by decide)
theorem DV {s:aj} (h:Nm s):parts 32 (j9 s) = [yl,s]:=by
 show parts 32 (yl++32 :: s)=_
 rw [cZ (by decide),fL (iF h).1]
theorem DW (n:Int):parts 32 (kd n) = [rC,Lib.itoa n]:=by
 show parts 32 (rC++32 :: Lib.itoa n)=_
 rw [cZ (by decide),fL (dX n)]
theorem FK {s:aj} {n:Int} (h:Nm s):parts 32 ([115,121,109,98,111,108,32]++(s++32 :: Lib.itoa n)) = [vR,s,Lib.itoa n]:=by
 show parts 32 (vR++32 :: (s++32 :: Lib.itoa n))=_
 rw [cZ (by decide),cZ (iF h).1,fL (dX n)]
theorem DX (m n:Int):parts 32 ([98,97,115,101,32]++(Lib.itoa m++32 :: Lib.itoa n)) = [DU,Lib.itoa m,Lib.itoa n]:=by
 show parts 32 (DU++32 :: (Lib.itoa m++32 :: Lib.itoa n))=_
 rw [cZ (by decide),cZ (dX m),fL (dX n)]
theorem BJ {s:aj} (m n:Int) (h:Nm s):parts 32 ([119,104,111,108,101,32]++(Lib.itoa m++32 :: (Lib.itoa n++32 :: s))) = [zU,Lib.itoa m,Lib.itoa n,s]:=by
 show parts 32 (zU++32 :: (Lib.itoa m++32 :: (Lib.itoa n++32 :: s)))=_
 rw [cZ (by decide),cZ (dX m),cZ (dX n),fL (iF h).1]
theorem DY {s:aj} (m n:Int) (h:Nm s):parts 32 ([110,101,97,114,32]++(Lib.itoa m++32 :: (Lib.itoa n++32 :: s))) = [ym,Lib.itoa m,Lib.itoa n,s]:=by
 show parts 32 (ym++32 :: (Lib.itoa m++32 :: (Lib.itoa n++32 :: s)))=_
 rw [cZ (by decide),cZ (dX m),cZ (dX n),fL (iF h).1]
theorem l7 {a b n:Int} (h:dP a b n) (ha : -9223372036854775808<=a) (hb:b<=9223372036854775807):cA (Lib.itoa n)=some n:=FG (Int.le_trans ha h.1) (Int.le_trans h.2 hb)
theorem Ks:Reads yn where
 Kr o s h:=by
  have:=iC o false (j9 s) (uP (by decide))
  rw [show kY false++j9 s=j9 s from rfl,DV h] at this
  exact this
 word o n h:=by
  have:=iC o false (kd n) (CH (by decide))
  rw [show kY false++kd n=kd n from rfl,DW] at this
  rw [this]
  show (if rC=yl then some (oe o (Lib.itoa n)) else if rC=rC then (cA (Lib.itoa n)).map (og o) else none)=_
  rw [if_neg (by decide),if_pos rfl,l7 h (by decide) (by decide)];rfl
 sym o y h h':=by
  have:=iC o y.2.2.1 ([115,121,109,98,111,108,32]++(y.1++32 :: Lib.itoa y.2.1)) (uP (by decide))
  rw [FK h] at this
  refine Eq.trans this ?_
  dsimp only [lr]
  rw [if_pos rfl,l7 h' (by decide) (by decide)];rfl
 tie o t h:=by
  obtain ⟨at',k,ad,nm,b,_⟩:=t
  have ha:=l7 h.a (by decide) (by decide)
  have hw:=l7 h.w (by decide) (by decide)
  simp only at ha hw
  unfold qO
  rcases h.k with e | e | e
  ·have hb:=h.base e
   simp only at e hb
   obtain ⟨rfl,rfl⟩:=hb
   subst e
   rw [if_pos rfl]
   have:=iC o false ([98,97,115,101,32]++(Lib.itoa at'++32 :: Lib.itoa ad)) (uP (by decide))
   rw [DX] at this
   refine this.trans ?_
   dsimp only [lr]
   rw [if_neg (by decide),if_pos rfl];unfold zV;rw [ha,hw]
  ·have hn:=h.nm (by rw [show _=_ from e];decide)
   simp only at e hn
   subst e
   rw [if_neg (by simp),if_pos rfl]
   have:=iC o b ([119,104,111,108,101,32]++(Lib.itoa at'++32 :: (Lib.itoa ad++32 :: nm))) (CH (by decide))
   rw [BJ _ _ hn] at this
   refine this.trans ?_
   dsimp only [lr]
   rw [if_pos (.inl rfl),if_neg (by decide)];unfold zV;rw [ha,hw]
  ·have hn:=h.nm (by rw [show _=_ from e];decide)
   simp only at e hn
   subst e
   rw [if_neg (by simp),if_neg (by simp)]
   have:=iC o b ([110,101,97,114,32]++(Lib.itoa at'++32 :: (Lib.itoa ad++32 :: nm))) (uP (by decide))
   rw [DY _ _ hn] at this
   refine this.trans ?_
   dsimp only [lr]
   rw [if_pos (.inr rfl),if_pos rfl];unfold zV;rw [ha,hw]
end Go.Mrl

namespace Go.Mrl
open Go.Vg
theorem DZ {o:D aD} (h:IH o):∀l∈lu o,(10:UInt8)∉l:=by
 intro l hl
 unfold lu at hl
 simp only [List.mem_append,List.mem_map] at hl
 have hw:∀b,(10:UInt8)∉kY b:=by intro b;cases b <;> decide
 rcases hl with ⟨s,hs,rfl⟩ | ⟨n,hn,rfl⟩ | ⟨y,hy,rfl⟩ | ⟨t,ht,rfl⟩
 ·have:=(iF (h.II s hs)).2
  unfold j9;simp [this]
 ·have:=gZ n
  unfold kd;simp [this]
 ·have h1:=(iF (h.syms y hy).1).2
  have h2:=gZ y.2.1
  have h3:=hw y.2.2.1
  unfold tq;simp [h1,h2,h3]
 ·have h1:=gZ t.1
  have h2:=gZ t.2.2.1
  have h3:=hw t.2.2.2.2.1
  unfold qO
  split
  ·simp [h1,h2]
  ·rename_i hk
   have h4:=(iF ((h.Kp t ht).nm hk)).2
   split <;> simp [h1,h2,h3,h4]
theorem HN {o:D aD} (h:IH o):lu o≠[]:=by
 have h1:=h.w1
 unfold lu
 intro e
 simp only [List.append_eq_nil_iff,List.map_eq_nil_iff] at e
 rw [e.2.1] at h1
 simp at h1
def Kt (s:aj):Option (D aD):=run yn (bp aD) (parts 10 (Lib.trimSuffix s [10]))
theorem xb {o:D aD} (h:gY o=0):Kt (j0 o)=some o:=by
 have ok:=Kq h
 unfold Kt
 rw [BI,DS (HN ok) (DZ ok),FJ Ks ok]
theorem FL {o p:D aD} (h:gY o=0) (h':gY p=0) (e:j0 o=j0 p):o=p:=by
 have a:=xb h
 rw [e,xb h'] at a
 exact (Option.some.inj a).symm
open Classical in
noncomputable def fY (s:aj):D aD × Int:=
 if s.length > 1200 then (bp aD,2)
 else if h:∃o:D aD,gY o=0/\j0 o=s then (Classical.choose h,0) else (bp aD,4)
theorem FM {s:aj} (h:s.length > 1200):fY s=(bp aD,2):=by unfold fY;rw [if_pos h]
theorem Ji {s:aj} {o:D aD} (h:¬ s.length > 1200) (hf:gY o=0) (ht:j0 o=s):fY s=(o,0):=by
 have hx:∃o:D aD,gY o=0/\j0 o=s:=⟨o,hf,ht⟩
 have hc:=Classical.choose_spec hx
 unfold fY
 rw [if_neg h,dif_pos hx,FL hc.1 hf (hc.2.trans ht.symm)]
theorem HO {s:aj} (h:¬ s.length > 1200) (hn:∀o:D aD,gY o=0->j0 o≠s):fY s=(bp aD,4):=by
 unfold fY
 rw [if_neg h,dif_neg fun ⟨o,h1,h2⟩=>hn o h1 h2]
theorem FN {s:aj} {n:Int} (h:cA s=some n):(eg s).1=n:=by
 unfold cA at h
 unfold eg
 cases ha:Lib.atoiAll s with
 | ok v=>rw [ha] at h;simp only at h ⊢;split at h <;> simp_all
 | range=>rw [ha] at h;cases h
 | _=>rw [ha] at h;cases h
end Go.Mrl

namespace Go.Mrl
open Go.Vg
abbrev Rd:=aj->aj × Int × Int
theorem D0 (s:aj):((fY s).2=0/\gY (fY s).1=0/\j0 (fY s).1=s)\/fY s=(bp aD,2)\/fY s=(bp aD,4):=by
 by_cases h:s.length > 1200
 ·exact .inr (.inl (FM h))
 ·by_cases h2:∃o:D aD,gY o=0/\j0 o=s
  ·obtain ⟨o,h3,h4⟩:=h2
   rw [Ji h h3 h4];exact .inl ⟨rfl,h3,h4⟩
  ·exact .inr (.inr (HO h fun o h3 h4=>h2 ⟨o,h3,h4⟩))
theorem BK (s:aj):0<=(fY s).2:=by
 rcases D0 s with ⟨h,_⟩ | h | h <;> rw [h] <;> decide
theorem xc {t:Ty} {a b:List (D t)} {i:Nat} (h:i < a.length):nth t (a++b) i=nth t a i:=by rw [pg,if_pos h]
end Go.Mrl

namespace Go.Mrl
open Go.Vg
end Go.Mrl
namespace Go.Mrl
open Go.Vg
end Go.Mrl

namespace Go.Mrl
open Go.Vg
end Go.Mrl

namespace Go.Mrl
open Go.Vg
end Go.Mrl

namespace Go.Mrl
open Go.Vg
def Ld (p:D uG) (a:Int):Prop:=(p.2.1:Int)<=a/\a < (p.2.1:Int) + (p.2.2.1.length:Int)
instance (p:D uG) (a:Int):Decidable (Ld p a):=inferInstanceAs (Decidable (_/\_))
theorem c6 {f:Int} (h:(au f).isNil=false):¬ f=0:=fun e=>by rw [aS.2 e] at h;cases h
end Go.Mrl

namespace Go.Mrl
open Go.Vg
section
variable {o:D aD} {b:Bool} {s:aj} {w:List aj} (hw:w=parts 32 (Lib.trimPrefix s de))
include hw
end
end Go.Mrl

namespace Go.Mrl
open Go.Vg
end Go.Mrl

namespace Go.Mrl
open Go.Vg
theorem vS (s p:aj):(Lib.trimSuffix s p).length<=s.length:=by unfold Lib.trimSuffix;split <;> simp
end Go.Mrl

namespace Go.Mrl
open Go.Vg
section
variable {o:D aD} {b:Bool} {w:List aj} {k:Nat}
end
theorem eT {k n:Nat} (h:(k:Int) < (n:Int)):(decide ((k:Int) < 3))=true ↔ ((k:Int) < (n:Int)/\(k:Int) < 3):=by
 rw [decide_eq_true_eq];omega
end Go.Mrl

namespace Go.Mrl
open Go.Vg
noncomputable def rE (rd:Rd):List (D ai)->Int
 | []=>0
 | p :: r=>if (fY (rd p.1).1).2=0 then rE rd r else (fY (rd p.1).1).2
theorem HP {rd:Rd}:∀{l:List (D ai)} {i:Nat},(∀j,j < i->(fY (rd (nth ai l j).1).1).2=0)->i < l.length->¬ (fY (rd (nth ai l i).1).1).2=0->rE rd l=(fY (rd (nth ai l i).1).1).2
 | [],i,_,h,_=>by simp at h
 | p :: r,0,_,_,h=>by unfold rE;rw [if_neg (show ¬ (fY (rd p.1).1).2=0 from h)];rfl
 | p :: r,i + 1,h,h1,h2=>by
  unfold rE
  rw [if_pos (show (fY (rd p.1).1).2=0 from h 0 (by omega))]
  exact HP (l:=r) (i:=i) (fun j hj=>h (j + 1) (by omega)) (by simpa using h1) h2
theorem zY (rd:Rd):∀l:List (D ai),0<=rE rd l
 | []=>Int.le_refl _
 | p :: r=>by
  unfold rE
  split
  ·exact zY rd r
  ·exact BK _
theorem mA {t:Ty} {a b:List (D t)} (hl:a.length=b.length) (h:∀i,i < a.length->nth t a i=nth t b i):a=b:=kW (t:=t) hl h
def bJ (p:D ai):Int:=if ao p.1 > 0 then ao p.1 else if p.2.1 < 1\/p.2.1 > 1000000\/p.2.2.1 < 0\/p.2.2.1 > 255\/p.2.2.1 % 16 > 0 then 1 else 0
def gB:List (D ai)->Int
 | []=>0
 | p :: r=>if bJ p=0 then gB r else bJ p
def bx (n:Nat) (p:Pt):Int:=if p.1 < 0\/p.1>=(n:Int)\/p.2.1 < 0\/p.2.1 > 39\/dy p.2.2.1=false then 1 else 0
def fZ (n:Nat):List Pt->Int
 | []=>0
 | p :: r=>if bx n p=0 then fZ n r else bx n p
def lR (e:D af):Prop:=e.2.1.length < 1\/e.2.1.length > 6\/e.2.2.1.length > 36
instance (e:D af):Decidable (lR e):=by unfold lR;infer_instance
def ay (e:D af):Int:=
 if ao e.1 > 0 then ao e.1 else if lR e then 2 else if ¬ gB e.2.1=0 then gB e.2.1 else fZ e.2.1.length e.2.2.1
theorem x4 (p:D ai):0<=bJ p:=by
 unfold bJ
 split
 ·omega
 ·split <;> decide
theorem x5 (n:Nat) (p:Pt):0<=bx n p:=by unfold bx;split <;> decide
theorem oh:∀l:List (D ai),0<=gB l
 | []=>Int.le_refl _
 | p :: r=>by
  unfold gB
  split
  ·exact oh r
  ·exact x4 p
theorem nf (n:Nat):∀l:List Pt,0<=fZ n l
 | []=>Int.le_refl _
 | p :: r=>by
  unfold fZ
  split
  ·exact nf n r
  ·exact x5 n p
theorem pM (e:D af):0<=ay e:=by
 unfold ay
 split
 ·omega
 ·split
  ·decide
  ·split
   ·exact oh _
   ·exact nf _ _
theorem uQ:∀{l:List (D ai)} {i:Nat},(∀j,j < i->bJ (nth ai l j)=0)->i < l.length->¬ bJ (nth ai l i)=0->gB l=bJ (nth ai l i)
 | [],i,_,h,_=>by simp at h
 | p :: r,0,_,_,h=>by unfold gB;rw [if_neg (show ¬ bJ p=0 from h)];rfl
 | p :: r,i + 1,h,h1,h2=>by
  unfold gB
  rw [if_pos (show bJ p=0 from h 0 (by omega))]
  exact uQ (l:=r) (i:=i) (fun j hj=>h (j + 1) (by omega)) (by simpa using h1) h2
theorem mB:∀{l:List (D ai)},(∀j,j < l.length->bJ (nth ai l j)=0)->gB l=0
 | [],_=>rfl
 | p :: r,h=>by
  unfold gB
  rw [if_pos (show bJ p=0 from h 0 (by simp))]
  exact mB (l:=r) fun j hj=>h (j + 1) (by simpa using hj)
theorem sk {n:Nat}:∀{l:List Pt} {i:Nat},(∀j,j < i->bx n (nth aq l j)=0)->i < l.length->¬ bx n (nth aq l i)=0->fZ n l=bx n (nth aq l i)
 | [],i,_,h,_=>by simp at h
 | p :: r,0,_,_,h=>by unfold fZ;rw [if_neg (show ¬ bx n p=0 from h)];rfl
 | p :: r,i + 1,h,h1,h2=>by
  unfold fZ
  rw [if_pos (show bx n p=0 from h 0 (by omega))]
  exact sk (l:=r) (i:=i) (fun j hj=>h (j + 1) (by omega)) (by simpa using h1) h2
theorem pN {n:Nat}:∀{l:List Pt},(∀j,j < l.length->bx n (nth aq l j)=0)->fZ n l=0
 | [],_=>rfl
 | p :: r,h=>by
  unfold fZ
  rw [if_pos (show bx n p=0 from h 0 (by simp))]
  exact pN (l:=r) fun j hj=>h (j + 1) (by simpa using hj)
theorem nH {e:D af} (h:ao e.1 > 0):ay e=ao e.1:=by unfold ay;rw [if_pos h]
theorem fk {e:D af} (h:ao e.1<=0) (h1:lR e):ay e=2:=by unfold ay;rw [if_neg (by omega),if_pos h1]
theorem b5 {e:D af} (h:ao e.1<=0) (h1:¬ lR e) {i:Nat} (hs:∀j,j < i->bJ (nth ai e.2.1 j)=0) (hi:i < e.2.1.length) {f:Int} (hf:bJ (nth ai e.2.1 i)=f) (h0:f≠0):ay e=f:=by
 have:=uQ hs hi (by rw [hf];exact h0)
 unfold ay;rw [if_neg (by omega),if_neg h1,if_pos (by rw [this,hf];exact h0),this,hf]
theorem cm {e:D af} (h:ao e.1<=0) (h1:¬ lR e) (h2:∀j,j < e.2.1.length->bJ (nth ai e.2.1 j)=0) {i:Nat} (hs:∀j,j < i->bx e.2.1.length (nth aq e.2.2.1 j)=0) (hi:i < e.2.2.1.length)
  (hf:bx e.2.1.length (nth aq e.2.2.1 i)=1):ay e=1:=by
 unfold ay;rw [if_neg (by omega),if_neg h1,if_neg (not_not_intro (mB h2)),sk hs hi (by rw [hf];decide),hf]
theorem xe {e:D af} (h:ao e.1<=0) (h1:¬ lR e) (h2:∀j,j < e.2.1.length->bJ (nth ai e.2.1 j)=0) (h3:∀j,j < e.2.2.1.length->bx e.2.1.length (nth aq e.2.2.1 j)=0):ay e=0:=by
 unfold ay;rw [if_neg (by omega),if_neg h1,if_neg (not_not_intro (mB h2)),pN h3]
end Go.Mrl

namespace Go.Mrl
open Go.Vg
end Go.Mrl

namespace Go.Mrl
open Go.Vg
section
variable {rd:Rd} {root:aj} {i:Nat} {ns:List aj} {os:List (D aD)}
end
end Go.Mrl

namespace Go.Mrl
open Go.Vg
end Go.Mrl

namespace Go.Mrl
open Go.Vg
end Go.Mrl

namespace Go.Mrl
open Go.Vg
end Go.Mrl

namespace Go.Mrl
open Go.Vg
end Go.Mrl

namespace Go.Mrl
open Go.Vg
end Go.Mrl

namespace Go.Mrl
open Go.Vg
end Go.Mrl

namespace Go.Mrl
open Go.Vg
theorem uR {p:D ai} (h:ao p.1 > 0):bJ p=ao p.1:=by unfold bJ;rw [if_pos h]
theorem eu {p:D ai} (h:ao p.1<=0) (h2:p.2.1 < (1:Int)\/p.2.1 > (1000000:Int)\/p.2.2.1 < (0:Int)\/p.2.2.1 > (255:Int)\/p.2.2.1 % (16:Int) > 0):bJ p=1:=by
 unfold bJ;rw [if_neg (by omega),if_pos h2]
theorem zZ {p:D ai} (h:ao p.1<=0) (h1:(1:Int)<=p.2.1) (h2:p.2.1<=(1000000:Int)) (h3:(0:Int)<=p.2.2.1) (h4:p.2.2.1<=(255:Int)) (h5:p.2.2.1 % (16:Int)=0):bJ p=0:=by
 unfold bJ;rw [if_neg (by omega),if_neg]
 rintro (e | e | e | e | e)
 ·exact absurd e (Int.not_lt.2 h1)
 ·exact absurd e (Int.not_lt.2 h2)
 ·exact absurd e (Int.not_lt.2 h3)
 ·exact absurd e (Int.not_lt.2 h4)
 ·exact absurd (show (0:Int) < 0 from h5▸e) (by decide)
theorem pj {b x:Int} (h:0<=b) (e:x=Int.tmod b 16):x=b % 16:=by rw [e,Int.tmod_eq_emod_of_nonneg h]
theorem ey {n:Nat} {p:Pt} (h:p.1 < (0:Int)\/p.1>=(n:Int)\/p.2.1 < (0:Int)\/p.2.1 > (39:Int)\/p.2.2.1 < (-2147483648:Int)\/p.2.2.1 > (2147483647:Int)):bx n p=1:=by
 unfold bx;rw [if_pos]
 rcases h with h | h | h | h | h | h
 ·exact .inl h
 ·exact .inr (.inl h)
 ·exact .inr (.inr (.inl h))
 ·exact .inr (.inr (.inr (.inl h)))
 ·refine .inr (.inr (.inr (.inr ?_)));unfold dy;rw [decide_eq_false (Int.not_le.2 h)];rfl
 ·refine .inr (.inr (.inr (.inr ?_)));unfold dy;rw [decide_eq_false (Int.not_le.2 h),Bool.and_false]
theorem D1 {n:Nat} {p:Pt} (h1:(0:Int)<=p.1) (h2:p.1 < (n:Int)) (h3:(0:Int)<=p.2.1) (h4:p.2.1<=(39:Int)) (h5:(-2147483648:Int)<=p.2.2.1) (h6:p.2.2.1<=(2147483647:Int)):bx n p=0:=by
 unfold bx;rw [if_neg]
 rintro (e | e | e | e | e)
 ·exact absurd e (Int.not_lt.2 h1)
 ·exact absurd h2 (Int.not_lt.2 e)
 ·exact absurd e (Int.not_lt.2 h3)
 ·exact absurd e (Int.not_lt.2 h4)
 ·unfold dy at e;rw [decide_eq_true h5,decide_eq_true h6] at e;cases e
theorem bK {e:D af} (h1:(1:Int)<=(e.2.1.length:Int)) (h2:(e.2.1.length:Int)<=6) (h3:(e.2.2.1.length:Int)<=36):¬ lR e:=by
 rintro (k | k | k)
 ·have k:e.2.1.length < 1:=k;omega
 ·have k:e.2.1.length > 6:=k;omega
 ·have k:e.2.2.1.length > 36:=k;omega
end Go.Mrl

