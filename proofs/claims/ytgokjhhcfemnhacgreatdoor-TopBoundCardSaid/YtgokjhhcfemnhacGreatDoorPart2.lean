/- A part of the proof that the law TopBoundCard holds of the given program: facts that are used there. -/
import Derived.Test.YtgokjhhcfemnhacGreatDoorPart1
import Derived.Deep.LoopGhost
import Derived.ProofKit
import Derived.KernelRfl
import Derived.Deep.Heap
import Derived.Room.AppendFits
import Derived.Lib.UnsafeStr
set_option linter.unusedSimpArgs false
set_option linter.unusedVariables false
namespace Go.Vg
open Go.RowKit
def dX:List Cl->Bool
 | []=>true
 | .d t :: r=>t.flat && dX r
 | _ :: r=>dX r
def cM:List Ob->Bool
 | []=>true
 | .box _ cls :: r=>dX cls && cM r
 | .row _ t :: r=>t.flat && cM r
 | .tok t :: r=>t.flat && cM r
 | .ext _ _ :: r=>cM r
def me:List Ob->Bool
 | []=>true
 | .tok _ :: _=>false
 | _ :: r=>me r
section
variable {eT:TypeId} {X:Ext}
theorem VR.to {t:Ty} {x:D t} {S S':aZ} {v:Value} (hw:S'.w=S.w) (hA:t.flat=true\/∀b o,S'.A b o->S.A b o) (h:VR eT t x S.A S.w v):VR eT t x S'.A S'.w v:=by
 rcases hA with hA | hA
 ·exact VR.of_flat hA h
 ·rw [hw];exact VR.uq h fun b o k h'=>k (hA b o h')
def Laid (eT:TypeId) (S:aZ):(os:List Ob)->PD os->List Nat->List Loc->Prop
 | [],_,ns,ls=>ns = []/\ls = []
 | o :: r,x,n :: ns,l :: ls=>(S.loc n=l/\n < S.next/\(match o,x.1 with
  | .box _ _,_=>∃b,l.v = .pointer (some ⟨b,0,none⟩)
  | .tok t,y=>VR eT (.slice t) y S.A S.w l.v/\∀ys,S.ob n=some (.tok t ys)->ys=y
  | .row _ _,_=>∃a k c,l.v = .slice a k c
  | .ext 0 _,_=>∃v,∃hs:List Value,l.v = .tuple (v :: hs).toArray
  | .ext (_ + 1) _,_=>pB l.v=l.v))/\Laid eT S r x.2 ns ls
 | _,_,_,_=>False
theorem s6 {S:aZ}:∀{os:List Ob} {x:PD os} {ns:List Nat} {ls:List Loc} {k:Nat} {v:Value},Laid eT S os x ns ls->ur ls k v->CR eT S (dr os x ns k) v:=by
 intro os
 induction os with
 | nil=>intro x ns ls k v h hr;exact trivial
 | cons o r ih=>
  intro x ns ls k v h hr
  match ns,ls,h with
  | n :: ns,l :: ls,⟨⟨h1,h2,h3⟩,h4⟩=>
   obtain ⟨l0,hl,hv⟩:=hr
   cases k with
   | succ k=>exact ih h4 ⟨l0,by simpa using hl,hv⟩
   | zero=>
    simp at hl
    subst hl
    subst hv
    show CR eT S (HO o x.1 n) _
    cases o with
    | box T cls=>
     obtain ⟨b,hb⟩:=h3
     rw [hb]
     exact ⟨h2,fun T cs _=>⟨b,by rw [h1];exact hb,rfl⟩⟩
    | row kp t=>
     obtain ⟨a,k,c,hb⟩:=h3
     rw [hb]
     exact ⟨h2,fun t xs _=>by rw [h1,hb];rfl⟩
    | tok t=>
     obtain ⟨a,c,hb,_⟩:=nb h3.1
     rw [show pB l.v=l.v by rw [hb];rfl]
     exact ⟨h3.1,h2,fun ys hy=>by rw [h3.2 ys hy];exact ⟨Nat.le_refl _,fun _=>by rw [h1]⟩⟩
    | ext k t=>
     cases k with
     | zero=>
      obtain ⟨v,hs,hb⟩:=h3
      rw [hb]
      exact ⟨h2,fun t x _=>⟨hs,by rw [h1,hb];rfl⟩⟩
     | succ k=>
      rw [show pB l.v=l.v from h3]
      exact ⟨h2,fun oc _ _=>by rw [h1]⟩
theorem Fe {S S':aZ} {F:Nat->Value->Prop} {f:Nat->C} (hw:S'.w=S.w) (hF:∀k v,F k v->CR eT S' (f k) v):∀{cls:List Cl} {x:CD cls} {vs:List Value},
  (dX cls=true\/∀b o,S'.A b o->S.A b o)->mL eT S F cls x vs->(∀v∈vs,v.oneCell'=true)->b6 eT S' (xB f cls x) vs:=by
 intro cls
 induction cls with
 | nil=>intro x vs _ h _;rw [show vs = [] from h];exact .nil
 | cons cl r ih=>
  intro x vs hA h h1
  cases vs with
  | nil=>cases cl <;> exact h.elim
  | cons v vs=>
   have hr:dX r=true\/∀b o,S'.A b o->S.A b o:=by
    rcases hA with hA | hA
    ·left;cases cl <;> simp [dX] at hA <;> first | exact hA.2 | exact hA
    ·exact .inr hA
   cases cl with
   | d t=>
    refine .cons (VR.to hw ?_ h.1) (h1 v (by simp)) (ih hr h.2 fun u hu=>h1 u (by simp [hu]))
    rcases hA with hA | hA
    ·left;simp [dX] at hA;exact hA.1
    ·exact .inr hA
   | obj k=>exact .cons (hF k v h.1) (h1 v (by simp)) (ih hr h.2 fun u hu=>h1 u (by simp [hu]))
   | dm=>exact .cons h.1 (h1 v (by simp)) (ih hr h.2 fun u hu=>h1 u (by simp [hu]))
theorem xE {S S':aZ} {F:Nat->Value->Prop} {f:Nat->C} (hw:S'.w=S.w) (hF:∀k v,F k v->CR eT S' (f k) v):∀{cls:List Cl} {x:CD cls} {vs:List Value},
  (dX cls=true\/∀b o,S'.A b o->S.A b o)->mL eT S F cls x vs->bR eT S' (rS f cls x) vs:=by
 intro cls
 induction cls with
 | nil=>intro x vs _ h;rw [show vs = [] from h];exact .nil
 | cons cl r ih=>
  intro x vs hA h
  cases vs with
  | nil=>cases cl <;> exact h.elim
  | cons v vs=>
   have hr:dX r=true\/∀b o,S'.A b o->S.A b o:=by
    rcases hA with hA | hA
    ·left;cases cl <;> simp [dX] at hA <;> first | exact hA.2 | exact hA
    ·exact .inr hA
   cases cl with
   | d t=>
    refine .cons (show VR eT t x.1 S'.A S'.w v from VR.to hw ?_ h.1) (ih hr h.2)
    rcases hA with hA | hA
    ·left;simp [dX] at hA;exact hA.1
    ·exact .inr hA
   | obj k=>exact .cons (hF k v h.1) (ih hr h.2)
   | dm=>exact .cons h.1 (ih hr h.2)
theorem fD.to {S S':aZ} {t:Ty} {xs:List (D t)} {vs:Array Value} (hw:S'.w=S.w) (hA:t.flat=true\/∀b o,S'.A b o->S.A b o) (h:fD eT S t xs vs):fD eT S' t xs vs:=by
 intro i y hy
 obtain ⟨us,h1,h2⟩:=h i y hy
 refine ⟨us,?_,h2⟩
 rcases hA with hA | hA
 ·exact h1.of_flat hA
 ·rw [hw];exact h1.frame fun b o v k h'=>⟨h',fun h''=>k (hA b o h'')⟩
theorem xF.to {S S':aZ} {t:Ty} {xs:List (D t)} {l:Loc} (hw:S'.w=S.w) (hA:t.flat=true\/∀b o,S'.A b o->S.A b o) (h:OR eT X S l (.aS t xs)):OR eT X S' l (.aS t xs):=by
 rcases h with h | ⟨b,vs,T,cap,h1,h2,h3,h4,h5,h6,h7⟩
 ·exact .inl h
 ·exact .inr ⟨b,vs,T,cap,h1,h2,by rw [hw];exact h3,h4,h5,h6,h7.to hw hA⟩
def lF (o:Ob):Bool:=cM [o]
theorem HQ {S S':aZ} {F:Nat->Value->Prop} {f:Nat->C} (hw:S'.w=S.w) (hF:∀k v,F k v->CR eT S' (f k) v) {o:Ob} {x:OD o} {l:Loc}
  (hA:lF o=true\/∀b o,S'.A b o->S.A b o) (h:Dt eT X S F o x l):OR eT X S' l (lE f o x):=by
 cases o with
 | box T cls=>
  obtain ⟨b,vs,h1,h2,h3,h4,h5⟩:=h
  refine ⟨b,vs,h1,h2,by rw [hw];exact h3,Fe hw hF ?_ h4 h5⟩
  rcases hA with hA | hA
  ·left;simpa [lF,cM] using hA
  ·exact .inr hA
 | row kp t=>
  refine xF.to hw ?_ h
  rcases hA with hA | hA
  ·left;simpa [lF,cM] using hA
  ·exact .inr hA
 | tok t=>
  refine xF.to (X:=X) (l:=l) hw ?_ h
  rcases hA with hA | hA
  ·left;simpa [lF,cM] using hA
  ·exact .inr hA
 | ext k t=>show X.rel _ _ _ _ _;rw [hw];exact h
theorem Ff {S:aZ} {t:Ty} {xs:List (D t)} {l:Loc} (h:OR eT X S l (.tok t xs)) (hA:∀b∈l.bs,∀off,off < xs.length * t.size->¬ S.A b off):VR eT (.slice t) xs S.A S.w l.v:=by
 rcases h with ⟨rfl,⟨a,ha⟩,_⟩ | ⟨b,vs,T,cap,h1,h2,h3,h4,h5,h6,he⟩
 ·exact VR.bD rfl ⟨_,rfl,by simp, .inl ⟨rfl,a,0,ha⟩⟩
 ·refine VR.bD rfl ⟨_,rfl,h6, .inr ⟨b,0,cap,h1,h5,fun i y hy => ?_⟩⟩
  obtain ⟨us,r1,r2⟩:=he i y hy
  refine ⟨us,r1,fun j u hj=>⟨?_,?_⟩⟩
  ·rw [Nat.zero_add,cell_of_row S.w b _ vs T (0,0) h3];exact r2 j u hj
  ·rw [Nat.zero_add]
   refine hA b (by rw [h2];simp) _ ?_
   have hi:=aT hy
   have hjl:=aT hj
   rw [r1.length] at hjl
   have:(i + 1) * t.size<=xs.length * t.size:=Nat.mul_le_mul_right _ hi
   rw [Nat.add_mul] at this
   omega
def cr:List Nat->List Loc->(Nat->Loc)->Nat->Loc
 | n :: ns,l :: ls,d,m=>if n=m then l else cr ns ls d m
 | _,_,d,m=>d m
theorem iV:∀{ns:List Nat} {ls:List Loc} {d:Nat->Loc} {m:Nat},m∉ns->cr ns ls d m=d m
 | [],_,_,_,_=>by cases ‹List Loc› <;> rfl
 | n :: ns,[],_,_,_=>rfl
 | n :: ns,l :: ls,d,m,h=>by
  simp only [List.mem_cons,not_or] at h
  simp only [cr]
  rw [if_neg (fun e=>h.1 e.symm)]
  exact iV h.2
theorem rU {n:Nat} {l:List Nat}:iJ n l=true ↔ n∈l:=by
 refine ⟨n9,fun h => ?_⟩
 induction l with
 | nil=>simp at h
 | cons m r ih=>
  simp only [iJ]
  split
  ·rfl
  ·rename_i hb
   rcases List.mem_cons.1 h with h | h
   ·subst h;rw [Nat.beq_refl] at hb;cases hb
   ·exact ih h
theorem hU {n:Nat} {r:List Nat} (h:nodupB (n :: r)=true):n∉r/\nodupB r=true:=by
 simp only [nodupB,Bool.and_eq_true,Bool.not_eq_true'] at h
 exact ⟨fun hm=>by rw [rU.2 hm] at h;exact absurd h.1 (by decide),h.2⟩
theorem fw:∀{ns:List Nat} {ls:List Loc} {d:Nat->Loc} {i n:Nat} {l:Loc},nodupB ns=true->ns[i]?=some n->ls[i]?=some l->cr ns ls d n=l
 | [],_,_,_,_,_,_,h,_=>by simp at h
 | n :: ns,[],_,_,_,_,_,_,h=>by simp at h
 | n :: ns,l :: ls,d,0,m,k,_,h1,h2=>by simp at h1 h2;subst h1;subst h2;simp [cr]
 | n :: ns,l :: ls,d,i + 1,m,k,hn,h1,h2=>by
  obtain ⟨hm,hn⟩:=hU hn
  simp at h1 h2
  simp only [cr]
  rw [if_neg (fun e=>hm (by rw [e];exact List.mem_of_getElem? h1))]
  exact fw hn h1 h2
theorem kS {cv:Bool} {aC:List (Nat × OC)} {aN:List Ob} {ν:List Nat} {f:Nat->C} {S:aZ} {F:Nat->Value->Prop} {loc:Nat->Loc}:∀{os:List Ob} {x:PD os} {ns ms:List Nat} {m:Nat} {oc:OC},b7 cv aC aN ν os ns=some x->BL eT X S F os x (ns.map loc)->ns.length=ms.length->
  look (fJ f os x ms) m=some oc->∃(i n:Nat) (o:Ob) (y:OD o) (oc0:OC),ns[i]?=some n/\ms[i]?=some m/\os[i]?=some o/\look aC n=some oc0/\eA cv aC aN ν o oc0=some y/\oc=lE f o y/\Dt eT X S F o y (loc n):=by
 intro os
 induction os with
 | nil=>intro x ns ms m oc _ _ _ h;simp [fJ,look] at h
 | cons o r ih=>
  intro x ns ms m oc hg hR hl h
  cases ns with
  | nil=>simp [b7] at hg
  | cons n ns=>
   cases ms with
   | nil=>simp at hl
   | cons k ms=>
    simp only [b7] at hg
    split at hg
    case h_2=>cases hg
    rename_i oc0 hob
    split at hg
    case h_2=>cases hg
    rename_i x0 y0 h1 h2
    cases hg
    simp only [fJ,bw] at h
    split at h
    ·rename_i e
     cases h
     exact ⟨0,n,o,x0,oc0,rfl,by simp [e],rfl,hob,h1,rfl,hR.1⟩
    ·obtain ⟨i,n',o',y',oc',k1,k2,k3,k4⟩:=ih h2 hR.2 (by simpa using hl) h
     exact ⟨i + 1,n',o',y',oc',by simpa using k1,by simpa using k2,by simpa using k3,k4⟩
theorem uw {cv:Bool} {aC:List (Nat × OC)} {aN:List Ob} {ν:List Nat} {f:Nat->C} {o:Ob} {y:OD o} {oc:OC} (h:eA cv aC aN ν o oc=some y):(lE f o y).lo=oc.lo\/cv=true:=by
 cases o <;> cases oc <;> simp only [eA,reduceCtorEq] at h
 ·exact .inl rfl
 ·exact .inl rfl
 ·split at h
  ·exact .inr rfl
  ·cases h
 ·obtain ⟨e,h3⟩:=iP h
  subst e;simp only at h3;subst h3;exact .inl rfl
 ·exact .inl rfl
theorem ky {cv:Bool} {aC:List (Nat × OC)} {aN:List Ob} {ν:List Nat} {o:Ob} {y:OD o} {oc:OC} (h:eA cv aC aN ν o oc=some y) (f:Nat->C):(∀T cls,o = .box T cls->∃cs,oc = .cells T cs)/\
  (∀k t,o = .ext k t->∃x,oc = .ext k t x)/\(∀k t,o = .row k t->cv=false->∃xs,oc = .aS t xs)/\((∀t,o≠.tok t)->cv=false->∀t xs,oc≠.tok t xs):=by
 refine ⟨fun T cls e => ?_,fun k t e => ?_,fun k t e e2 => ?_,fun h1 h2 t xs e => ?_⟩
 ·subst e
  cases oc <;> simp only [eA,reduceCtorEq] at h
  split at h
  ·rename_i hT;rw [Nat.eq_of_beq_eq_true hT];exact ⟨_,rfl⟩
  ·cases h
 ·subst e
  cases oc <;> simp only [eA,reduceCtorEq] at h
  split at h
  ·rename_i hT
   obtain ⟨e,_⟩:=xD h
   subst e
   rw [Nat.eq_of_beq_eq_true hT];exact ⟨_,rfl⟩
  ·cases h
 ·subst e;subst e2
  cases oc <;> simp only [eA,reduceCtorEq] at h
  ·obtain ⟨e,_⟩:=iP h
   subst e
   exact ⟨_,rfl⟩
 ·subst e;subst h2
  cases o <;> simp only [eA,reduceCtorEq] at h
  exact h1 _ rfl
theorem kT {cv:Bool} {aC:List (Nat × OC)} {aN:List Ob} {ν:List Nat}:∀{os:List Ob} {ns:List Nat} {x:PD os},b7 cv aC aN ν os ns=some x->os.length=ns.length:=by
 intro os
 induction os with
 | nil=>intro ns x h;cases ns with | nil=>rfl | cons=>simp [b7] at h
 | cons o r ih=>
  intro ns x h
  cases ns with
  | nil=>simp [b7] at h
  | cons n ns=>
   simp only [b7] at h
   split at h
   case h_2=>cases h
   split at h
   case h_2=>cases h
   rename_i h2
   simp [ih h2]
theorem kz {f:Nat->C}:∀{os:List Ob} {x:PD os} {ms:List Nat} {m:Nat},os.length=ms.length->m∈ms->∃oc,look (fJ f os x ms) m=some oc:=by
 intro os
 induction os with
 | nil=>intro x ms m h hm;cases ms with | nil=>simp at hm | cons=>simp at h
 | cons o r ih=>
  intro x ms m h hm
  cases ms with
  | nil=>simp at h
  | cons k ms=>
   simp only [fJ,bw]
   by_cases e:k=m
   ·exact ⟨_,by rw [if_pos e]⟩
   ·rw [if_neg e]
    rcases List.mem_cons.1 hm with hm | hm
    ·exact (e hm.symm).elim
    ·exact ih (by simpa using h) hm
theorem kA:∀{l:List Nat} {i j n:Nat},nodupB l=true->l[i]?=some n->l[j]?=some n->i=j
 | [],_,_,_,_,h,_=>by simp at h
 | m :: r,0,0,_,_,_,_=>rfl
 | m :: r,0,j + 1,n,hn,h1,h2=>by
  simp at h1 h2;subst h1
  exact ((hU hn).1 (List.mem_of_getElem? h2)).elim
 | m :: r,i + 1,0,n,hn,h1,h2=>by
  simp at h1 h2;subst h2
  exact ((hU hn).1 (List.mem_of_getElem? h1)).elim
 | m :: r,i + 1,j + 1,n,hn,h1,h2=>by
  simp at h1 h2
  rw [kA (hU hn).2 h1 h2]
theorem pC {a:Ob} {r:List Ob} (h:cM (a :: r)=true):lF a=true/\cM r=true:=by
 cases a <;> simp [cM,lF] at h ⊢ <;> exact h
theorem qW:∀{l:List Ob} {i:Nat} {o:Ob},cM l=true->l[i]?=some o->lF o=true
 | [],_,_,_,h=>by simp at h
 | a :: r,0,o,hfl,h=>by simp at h;subst h;exact (pC hfl).1
 | a :: r,i + 1,o,hfl,h=>qW (pC hfl).2 (by simpa using h)
theorem GW {S S2:aZ} {F:Nat->Value->Prop} {f:Nat->C} {loc:Nat->Loc} (hNA:∀m t ys,S2.ob m=some (.tok t ys)->∀b∈(S2.loc m).bs,∀off,off < ys.length * t.size->¬ S2.A b off) (hw:S2.w=S.w) :
  ∀{os:List Ob} {x:PD os} {ns ms:List Nat},(cM os=true\/∀b o,S2.A b o->S.A b o)->BL eT X S F os x (ns.map loc)->nodupB ms=true->ns.length=ms.length->(∀n∈ms,S2.ob n=look (fJ f os x ms) n)->
   (∀(i n m:Nat),ns[i]?=some n->ms[i]?=some m->S2.loc m=loc n/\m < S2.next)->Laid eT S2 os x ms (ns.map loc):=by
 intro os
 induction os with
 | nil=>
  intro x ns ms _ h _ hl _ _
  have h:ns.map loc = []:=h
  cases ns with
  | nil=>cases ms with
   | nil=>exact ⟨rfl,rfl⟩
   | cons=>simp at hl
  | cons=>simp at h
 | cons o r ih=>
  intro x ns ms hA h hnd hl hob hloc
  cases ns with
  | nil=>exact h.elim
  | cons n ns=>
   cases ms with
   | nil=>simp at hl
   | cons m ms=>
    obtain ⟨hm,hnd'⟩:=hU hnd
    obtain ⟨h1,h2⟩:=hloc 0 n m rfl rfl
    have hA':cM r=true\/∀b o,S2.A b o->S.A b o:=by
     rcases hA with hA | hA
     ·left;cases o <;> simp [cM] at hA <;> first | exact hA.2 | exact hA
     ·exact .inr hA
    refine ⟨⟨h1,h2,?_⟩,ih hA' h.2 hnd' (by simpa using hl) (fun k hk => ?_) (fun i a b ha hb=>hloc (i + 1) a b (by simpa using ha) (by simpa using hb))⟩
    ·cases o with
     | box T cls=>obtain ⟨b,vs,k1,_⟩:=h.1;exact ⟨b,k1⟩
     | row kp t=>rcases h.1 with ⟨_,⟨a,ha⟩,_⟩ | ⟨b,vs,T,cap,ha,_⟩ <;> exact ⟨_,_,_,ha⟩
     | tok t=>
      have hobm:S2.ob m=some (.tok t x.1):=by rw [hob m (by simp)];simp [fJ,bw,lE]
      refine ⟨?_,fun ys hy=>by rw [hobm] at hy;cases hy;rfl⟩
      refine Ff (X:=X) (xF.to (X:=X) (l:=loc n) hw ?_ h.1) fun b hb off ho=>hNA m t x.1 hobm b (by rw [h1];exact hb) off ho
      rcases hA with hA | hA
      ·left;simp [cM] at hA;exact hA.1
      ·exact .inr hA
     | ext k t=>
      cases k with
      | zero=>
       have hd:=X.deep.1 h.1
       obtain ⟨e,s,rfl,_⟩:=lY hd
       obtain ⟨_,_,v,hs,hv,_⟩:=hd
       exact ⟨v,hs,hv⟩
      | succ k=>
       show pB (loc n).v=(loc n).v
       cases k with
       | zero=>obtain ⟨e,_,b,es,cf,hm⟩:=X.map.1 h.1;rw [hm.lv];rfl
       | succ k=>obtain ⟨a,ha⟩:=X.ptr (by omega) h.1;rw [ha];rfl
    ·rw [hob k (by simp [hk])]
     simp only [fJ,bw]
     rw [if_neg (fun e=>hm (by rw [e];exact hk))]
theorem BN {cv:Bool} {aN:List Ob} {ν:List Nat} {x:PD aN} {O:aD} {st:St} {loc:Nat->Loc} {w:World} (g:Good eT X (aB O st loc w)) (hx:b7 cv st.aC aN ν aN ν=some x)
  (hp:∀p∈dW aN x st.aC aN ν,p) (hnd:nodupB ν=true)
  {O2:aD} {ν2:List Nat} {rest:List (Nat × OC)} {locR:Nat->Loc} {st2:St} (hnd2:nodupB ν2=true) (hlen:ν.length=ν2.length)
  (hobjs:st2.aC=fJ (dr aN x ν2) aN x ν2++rest) (hlt:∀n∈ν2,n < st2.next)
  (hO2:∀n∈ν,∀b∈(loc n).bs,∀off,¬ O2 b off)
  (hD:∀n∈ν,∀b∈(loc n).bs,∀m oc,look rest m=some oc->m∉ν2->b∉(locR m).bs)
  (hR:∀m oc,look rest m=some oc->m∉ν2->m < st2.next/\OR eT X (aB O2 st2 (cr ν2 (ν.map loc) locR) w) (locR m) oc)
  (hR2:∀m m' oc oc' b,look rest m=some oc->look rest m'=some oc'->m∉ν2->m'∉ν2->b∈(locR m).bs->b∈(locR m').bs->m=m')
  (hR3:∀m oc b off,look rest m=some oc->m∉ν2->b∈(locR m).bs->¬ O2 b off)
  (hA:cM aN=true\/∀b o,(aB O2 st2 (cr ν2 (ν.map loc) locR) w).A b o->(aB O st loc w).A b o)
  (hGl:∀b∈X.AA,¬ (aB O2 st2 (cr ν2 (ν.map loc) locR) w).jC b) :
  Good eT X (aB O2 st2 (cr ν2 (ν.map loc) locR) w)/\Laid eT (aB O2 st2 (cr ν2 (ν.map loc) locR) w) aN x ν2 (ν.map loc):=by
 have hobs:=kR (X:=X) g hx hx hp
 have hol:=kT hx
 generalize hf:dr aN x ν2=f at hobjs
 have hob:∀m oc,(aB O2 st2 (cr ν2 (ν.map loc) locR) w).ob m=some oc->
   (∃(i n:Nat) (o:Ob) (y:OD o) (oc0:OC),ν[i]?=some n/\ν2[i]?=some m/\look st.aC n=some oc0/\eA cv st.aC aN ν o oc0=some y/\oc=lE f o y/\Dt eT X (aB O st loc w) (ur (ν.map loc)) o y (loc n)/\
    cr ν2 (ν.map loc) locR m=loc n/\aN[i]?=some o)\/
   (look rest m=some oc/\m∉ν2/\cr ν2 (ν.map loc) locR m=locR m):=by
  intro m oc h
  simp only [aB,hobjs] at h
  rw [cb] at h
  split at h
  ·rename_i oc' h'
   cases h
   obtain ⟨i,n,o,y,oc0,k1,k2,k3,k4,k5,k6,k7⟩:=kS hx hobs hlen h'
   exact .inl ⟨i,n,o,y,oc0,k1,k2,k4,k5,k6,k7,fw hnd2 k2 (by simp [k1]),k3⟩
  ·rename_i h'
   have:m∉ν2:=fun hm=>by
    obtain ⟨oc1,h1⟩:=kz (f:=f) (x:=x) (by omega) hm
    rw [h1] at h';cases h'
   exact .inr ⟨h,this,iV this⟩
 have hap:∀m m' oc oc' b,(aB O2 st2 (cr ν2 (ν.map loc) locR) w).ob m=some oc->(aB O2 st2 (cr ν2 (ν.map loc) locR) w).ob m'=some oc'->
   b∈(cr ν2 (ν.map loc) locR m).bs->b∈(cr ν2 (ν.map loc) locR m').bs->m=m':=by
  intro m m' oc oc' b h1 h2 h3 h4
  rcases hob m oc h1 with ⟨i,n,o,y,oc0,k1,k2,k4,_,_,_,k8,_⟩ | ⟨k1,k2,k3⟩ <;> rcases hob m' oc' h2 with ⟨i',n',o',y',oc0',j1,j2,j4,_,_,_,j8,_⟩ | ⟨j1,j2,j3⟩
  ·rw [k8] at h3;rw [j8] at h4
   have e:=g.apart n n' oc0 oc0' b k4 j4 h3 h4
   subst e
   have:=kA hnd k1 j1
   subst this
   rw [k2] at j2;cases j2;rfl
  ·rw [k8] at h3;rw [j3] at h4
   exact (hD n (List.mem_of_getElem? k1) b h3 m' oc' j1 j2 h4).elim
  ·rw [k3] at h3;rw [j8] at h4
   exact (hD n' (List.mem_of_getElem? j1) b h4 m oc k1 k2 h3).elim
  ·rw [k3] at h3;rw [j3] at h4
   exact hR2 m m' oc oc' b k1 j1 k2 j2 h3 h4
 have hout:∀m oc b off,(aB O2 st2 (cr ν2 (ν.map loc) locR) w).ob m=some oc->b∈(cr ν2 (ν.map loc) locR m).bs->¬ O2 b off:=by
  intro m oc b off h1 h2
  rcases hob m oc h1 with ⟨i,n,o,y,oc0,k1,k2,k4,_,_,_,k8,_⟩ | ⟨k1,k2,k3⟩
  ·rw [k8] at h2;exact hO2 n (List.mem_of_getElem? k1) b h2 off
  ·rw [k3] at h2;exact hR3 m oc b off k1 k2 h2
 have hNA:∀m t ys,(aB O2 st2 (cr ν2 (ν.map loc) locR) w).ob m=some (.tok t ys)->∀b∈((aB O2 st2 (cr ν2 (ν.map loc) locR) w).loc m).bs,∀off,off < ys.length * t.size->¬ (aB O2 st2 (cr ν2 (ν.map loc) locR) w).A b off:=by
  rintro m t ys h1 b hb off ho (h2 | ⟨m',oc',h2,h3,h4⟩)
  ·exact hout m _ b off h1 hb h2
  ·have:=hap m m' _ oc' b h1 h2 hb h3
   subst this
   rw [h1] at h2;cases h2
   simp only [OC.lo] at h4
   omega
 have hlaid:Laid eT (aB O2 st2 (cr ν2 (ν.map loc) locR) w) aN x ν2 (ν.map loc):=by
  refine GW (X:=X) (S:=aB O st loc w) (f:=f) hNA rfl hA hobs hnd2 hlen (fun n hn => ?_) (fun i n m h1 h2=>⟨fw hnd2 h2 (by simp [h1]),hlt m (List.mem_of_getElem? h2)⟩)
  show look st2.aC n=_
  rw [hobjs,cb]
  obtain ⟨oc1,h1⟩:=kz (f:=f) (x:=x) (by omega) hn
  rw [h1]
 refine ⟨⟨fun m oc h => ?_,fun m m' oc oc' b h1 h2 h3 h4=>hap m m' oc oc' b h1 h2 h3 h4,fun m oc b off h1 h2=>hout m oc b off h1 h2,g.iH.1,hGl⟩,hlaid⟩
 rcases hob m oc h with ⟨i,n,o,y,oc0,k1,k2,k4,k5,k6,k7,k8,k9⟩ | ⟨k1,k2,k3⟩
 ·refine ⟨hlt m (List.mem_of_getElem? k2),?_⟩
  show OR _ _ _ (cr ν2 (ν.map loc) locR m) oc
  rw [k8,k6]
  refine HQ (S:=aB O st loc w) (S':=aB O2 st2 (cr ν2 (ν.map loc) locR) w) rfl (fun k v hk=>by rw [<-hf];exact s6 hlaid hk) ?_ k7
  rcases hA with hA | hA
  ·left
   exact qW hA k9
  ·exact .inr hA
 ·obtain ⟨h1,h2⟩:=hR m oc k1 k2
  refine ⟨h1,?_⟩
  show OR _ _ _ (cr ν2 (ν.map loc) locR m) oc
  rw [k3];exact h2
def upto:Nat->Nat->List Nat
 | _,0=>[]
 | k,m + 1=>k :: upto (k + 1) m
def Gr (aN:List Ob) (cls:List Cl) (vs:List bH) (aC:List (Nat × OC)) (as:List (Nat × Nat)):Option (List Nat):=
 match Dr cls vs as with
 | some as1=>match qx aC 0 aN as1 with
  | some as2=>pz as2 0 aN.length
  | none=>none
 | none=>none
theorem rV:∀(m k i:Nat),i < m->(upto k m)[i]?=some (k + i)
 | m + 1,k,0,_=>by simp [upto]
 | m + 1,k,i + 1,h=>by
  simp only [upto,List.getElem?_cons_succ]
  rw [rV m (k + 1) i (by omega)]
  congr 1;omega
theorem od:∀{m k n:Nat},n∈upto k m->k<=n/\n < k + m
 | 0,k,n,h=>by simp [upto] at h
 | m + 1,k,n,h=>by
  simp only [upto,List.mem_cons] at h
  rcases h with h | h
  ·omega
  ·have:=od h;omega
theorem oe:∀(m k:Nat),(upto k m).length=m
 | 0,_=>rfl
 | m + 1,k=>by simp [upto,oe m]
theorem eO:∀(m k:Nat),nodupB (upto k m)=true
 | 0,_=>rfl
 | m + 1,k=>by
  simp only [upto,nodupB,eO m,Bool.and_true,Bool.not_eq_true']
  rw [Bool.eq_false_iff]
  intro h
  have:=od (rU.1 h)
  omega
theorem fV {cv:Bool} {aC:List (Nat × OC)} {aN:List Ob} {ν:List Nat}:∀{os:List Ob} {ns:List Nat} {x:PD os} {n:Nat},b7 cv aC aN ν os ns=some x->n∈ns->
  ∃o oc y,o∈os/\look aC n=some oc/\eA cv aC aN ν o oc=some y:=by
 intro os
 induction os with
 | nil=>intro ns x n h hn;cases ns with | nil=>simp at hn | cons=>simp [b7] at h
 | cons o r ih=>
  intro ns x n h hn
  cases ns with
  | nil=>simp at hn
  | cons k ns=>
   simp only [b7] at h
   split at h
   case h_2=>cases h
   rename_i oc hob
   split at h
   case h_2=>cases h
   rename_i x0 y0 h1 h2
   rcases List.mem_cons.1 hn with e | hn
   ·subst e;exact ⟨o,oc,x0,by simp,hob,h1⟩
   ·obtain ⟨o',oc',y',k1,k2⟩:=ih h2 hn
    exact ⟨o',oc',y',by simp [k1],k2⟩
end
end Go.Vg

namespace Go.Vg
open Go.RowKit
inductive Ex where
 | normal
 | exit (n:Nat)
 | ret
def wJ:(cls:List Cl)->CD cls
 | []=>()
 | .d t :: r=>(bL t,wJ r)
 | .obj _ :: r=>wJ r
 | .dm :: r=>wJ r
def Io:(o:Ob)->OD o
 | .box _ cls=>wJ cls
 | .row _ _=>[]
 | .tok _=>[]
 | .ext _ t=>bL t
def Gs:(os:List Ob)->PD os
 | []=>()
 | o :: r=>(Io o,Gs r)
structure fO:Type 1 where
 X:Type
 inv:X->Prop
 bC:X->Nat
 bk:X->List (Nat × SV)
 aC:X->List (Nat × OC):=fun _=>[]
 bn:List Nat
 ew:List Nat:=[]
 eH:List Nat:=[]
 aN:List Ob:=[]
 refs:List (Nat × Nat):=[]
 pd:X->PD aN:=fun _=>Gs aN
@[reducible] def sI (x:Int):SV:=.s (.one (.d (.int .i64) x))
@[reducible] def sB (x:Bool):SV:=.s (.one (.d .bool x))
@[reducible] def sD (t:Ty) (x:D t):SV:=.s (.one (.d t x))
abbrev cp:=List (Nat × (St->fO))
def og:C->C->Prop
 | .lit b, .d .bool c=>b=c
 | .d t x, .d t' y=>match h:Ty.beq t t' with
  | true=>bx h x=y
  | false=>False
 | .app t xs n, .app t' ys m=>match h:Ty.beq (.slice t) (.slice t'),Nat.beq n m with
  | true,true=>bx h (a:=.slice t) (b:=.slice t') xs=ys
  | _,_=>False
 | a,b=>a=b
def kB:SV->SV->Prop
 | .s (.one a), .s (.one b)=>og a b
 | a,b=>a=b
def pD:List C->List C->Prop
 | [],[]=>True
 | a :: as,b :: bs=>og a b/\pD as bs
 | _,_=>False
def gr:OC->OC->Prop
 | .cells T cs, .cells T' cs'=>match Nat.beq T T' with
  | true=>pD cs cs'
  | false=>False
 | .aS t xs, .aS t' ys=>match h:Ty.beq (.slice t) (.slice t') with
  | true=>bx h (a:=.slice t) (b:=.slice t') xs=ys
  | false=>False
 | .arr t xs, .arr t' ys=>match h:Ty.beq (.slice t) (.slice t') with
  | true=>bx h (a:=.slice t) (b:=.slice t') xs=ys
  | false=>False
 | .tok t xs, .tok t' ys=>match h:Ty.beq (.slice t) (.slice t') with
  | true=>bx h (a:=.slice t) (b:=.slice t') xs=ys
  | false=>False
 | .ext k t x, .ext k' t' y=>match Nat.beq k k',h:Ty.beq t t' with
  | true,true=>bx h x=y
  | _,_=>False
 | .iter cs seen cl, .iter cs' seen' cl'=>pD cs cs'/\seen=seen'/\cl=cl'
 | _,_=>False
def hY (st:St):List (Nat × SV)->Prop
 | []=>True
 | (n,v) :: r=>match look st.env n with
  | some u=>kB u v/\hY st r
  | none=>False
def hZ (st:St):List (Nat × OC)->Prop
 | []=>True
 | (n,v) :: r=>match look st.aC n with
  | some u=>gr u v/\hZ st r
  | none=>False
def jK (st:St):List Nat->List (Nat × SV)
 | []=>[]
 | t :: r=>match look st.env t with
  | some v=>(t,v) :: jK st r
  | none=>jK st r
def ee (st:St):List Nat->List (Nat × OC)
 | []=>[]
 | t :: r=>match look st.aC t with
  | some v=>(t,v) :: ee st r
  | none=>ee st r
def bh (an:fO) (st:St) (x:an.X):St:=
 {env:=an.bk x++jK st an.bn,aC:=an.aC x++ee st an.ew,next:=st.next}
def dh (l:List Oper):List Nat:=l.filterMap (·.dst)
def writes (anns:cp):Nat->Code->List Nat
 | _, .region _ ops _=>dh ops.toList
 | k, .seq a b=>writes anns k a++writes anns k b
 | k, .cond _ a b=>writes anns k a++writes anns k b
 | _, .block id b=>writes anns id b
 | k, .loop b=>match look anns (k + 200000) with
  | some _=>allM :: writes anns k b
  | none=>writes anns k b
 | _,_=>[]
def oh (n:Nat):List Nat->Bool
 | []=>false
 | m :: r=>match Nat.beq m n with
  | true=>true
  | false=>oh n r
def mf (l:List Nat) (W:List Nat):Bool:=match l with
 | []=>true
 | _ => !(oh allM W) && l.all fun n => !(oh n W)
def eP (k:Nat):List Nat->Bool
 | []=>true
 | n :: r=>Nat.blt n k && eP k r
def kC (k:Nat):C->Bool
 | .app _ _ n | .aS n | .iG n | .ct n | .xd n _ | .ref n _ | .lp n | .fC n _ _ _ | .ja n _ _ _=>Nat.blt n k
 | .fn _ caps=>eP k caps
 | _=>true
def iW (k:Nat):List C->Bool
 | []=>true
 | c :: r=>kC k c && iW k r
def xG (k:Nat):bH->Bool
 | .one c=>kC k c
 | .agg cs=>iW k cs
def ef (k:Nat):List (Nat × SV)->Bool
 | []=>true
 | (_, .s v) :: r=>xG k v && ef k r
 | (_, .gU _) :: _=>false
def AU (k:Nat):OC->Bool
 | .cells _ cs=>iW k cs
 | .iter cs _ _=>iW k cs
 | _=>true
def dU (k:Nat):List (Nat × OC)->Bool
 | []=>true
 | (n,oc) :: r=>Nat.blt n k && AU k oc && dU k r
def gu (env:List (Nat × SV)):List Nat->Bool
 | []=>true
 | t :: r=>match look env t with
  | some _=>gu env r
  | none=>false
def gv (W:List Nat):List (Nat × SV)->Bool
 | []=>true
 | (n,_) :: r=>oh n W && gv W r
def wK (env:List (Nat × SV)):List Nat->List Nat
 | []=>[]
 | t :: r=>match look env t with
  | some (.s _)=>t :: wK env r
  | _=>wK env r
def mg (eH:List Nat):List (Nat × OC)->List Nat
 | []=>[]
 | (n,_) :: r=>match oh n eH with
  | true=>mg eH r
  | false=>n :: mg eH r
def qy (st:St) (an:fO):fO:=
 {an with bn:=wK st.env an.bn,ew:=match an.ew with
  | []=>mg an.eH st.aC
  | l=>l}
def bS (ty:Ty) (st:St) (t:Nat):D ty:=
 match look st.env t with
 | some (.s c)=>match kH ty c with
  | some x=>x
  | none=>bL ty
 | _=>bL ty
def bI (st:St) (t:Nat):Nat:=
 match look st.env t with
 | some (.s (.one (.aS n)))=>n
 | some (.s (.one (.iG n)))=>n
 | some (.s (.one (.ct n)))=>n
 | some (.s (.one (.xd n _)))=>n
 | some (.s (.one (.ref n _)))=>n
 | some (.s (.one (.app _ _ n)))=>n
 | _=>0
def IP (st:St) (n k:Nat):Nat:=
 match look st.aC n with
 | some (.cells _ cs)=>match cs[k]? with
  | some (.aS m)=>m
  | some (.ref m _)=>m
  | some (.app _ _ m)=>m
  | some (.ct m)=>m
  | some (.xd m _)=>m
  | _=>0
 | _=>0
def BO (ty:Ty) (st:St) (n k:Nat):D ty:=
 match look st.aC n with
 | some (.cells _ cs)=>match cs[k]? with
  | some c=>match oU ty c with
   | some x=>x
   | none=>bL ty
  | none=>bL ty
 | _=>bL ty
def GX (_:Nat) (_:St):Prop:=False
def fo (an:fO) (st st':St):VC:=
 match gu st'.env an.bn with
 | true => .leaf (∃x',an.inv x'/\hY st' (an.bk x')/\hZ st' (an.aC x'++ee st an.ew))
 | false => .ff
def Gt (st:St):List (Nat × Nat)->Option (List (Nat × Nat))
 | []=>some []
 | (t,k) :: r=>match look st.env t,Gt st r with
  | some (.s (.one c)),some as=>match Gq c with
   | some n=>match look as k with
    | some _=>some as
    | none=>some ((k,n) :: as)
   | none=>none
  | _,_=>none
def Du (st:St) (an:fO):Option (List Nat):=
 match Gt st an.refs with
 | some as1=>match qx st.aC 0 an.aN as1 with
  | some as2=>pz as2 0 an.aN.length
  | none=>none
 | none=>none
def pE (st:St) (an:fO) (ν:List Nat):List (Nat × Nat)->Bool
 | []=>true
 | (t,k) :: r=>(match look st.env t with
  | some (.s (.one c))=>eu false st.aC an.aN ν k c
  | _=>false) && pE st an ν r
def s7 (st:St) (an:fO) (y:PD an.aN):List (Nat × Nat)->List Prop
 | []=>[]
 | (t,k) :: r=>(match look st.env t with
  | some (.s (.one c))=>mK an.aN y k c
  | _=>[])++s7 st an y r
def pF (an:fO) (y:PD an.aN) (us:List Nat):List (Nat × Nat)->List (Nat × SV)
 | []=>[]
 | (t,k) :: r=>(t, .s (.one (dr an.aN y us k))) :: pF an y us r
def s9 (an:fO) (st:St) (x:an.X):List (Nat × SV):=an.bk x++jK st an.bn
def kU (an:fO) (st:St) (x:an.X):List (Nat × OC):=an.aC x++ee st an.ew
def bT (an:fO) (st:St) (x:an.X):St:=
 {env:=pF an (an.pd x) (upto st.next an.aN.length) an.refs++s9 an st x,
  aC:=fJ (dr an.aN (an.pd x) (upto st.next an.aN.length)) an.aN (an.pd x) (upto st.next an.aN.length)++kU an st x,next:=st.next + an.aN.length}
def lk (ν:List Nat):List (Nat × OC)->Bool
 | []=>true
 | (n,_) :: r => !(iJ n ν) && lk ν r
def pG (bn:List Nat):List (Nat × Nat)->Bool
 | []=>true
 | (t,_) :: r => !(oh t bn) && pG bn r
def np (an:fO) (st:St) (W:List Nat) (x:an.X):Bool:=ef st.next (s9 an st x) && (dU st.next (kU an st x) && (gv W (an.bk x) && pG an.bn an.refs))
def xH (st:St) (an:fO):fO:=
 {an with bn:=(wK st.env an.bn).filter (fun t=>pG [t] an.refs),ew:=match an.ew with
  | []=>mg (an.eH++(match Du st an with | some l=>l | none=>[])) st.aC
  | l=>l}
def ta (an:fO) (st st':St) (more:an.X->Prop):VC:=
 match Du st' an with
 | some ν=>match nodupB ν && (pE st' an ν an.refs),b7 false st'.aC an.aN ν an.aN ν with
  | true,some y => .leaf (BK (s7 st' an y an.refs++dW an.aN y st'.aC an.aN ν++[∃x',an.inv x'/\more x'/\hY st' (an.bk x')/\hZ st' (an.aC x'++ee st an.ew)/\(lk ν (kU an st x')=true/\y=an.pd x')]))
  | _,_ => .ff
 | none => .ff
def wL (cx:Cx) (ops:Array Oper) (draw:Bool) (st:St) (K:St->VC):VC:=
 match draw with
 | false=>wF cx ops.toList ops.toList st K
 | true=>match nZ ops with
  | true=>HG cx ops st fun st'=>K (canon st.next (dh ops.toList) st')
  | false => .ff
def gw:Code->Nat->Nat
 | .region id _ _,_=>id
 | .seq a b,d=>gw a (gw b d)
 | .cond _ a b,d=>gw a (gw b d)
 | .block _ b,d=>gw b d
 | .loop b,d=>gw b d
 | _,d=>d
def vc (cx:Cx) (anns:cp):Code->Nat->St->(Ex->St->VC)->VC
 | .skip,_,st,K=>K .normal st
 | .region id ops draw,_,st,K=>match (look anns (id + 300000)).map (fun f=>qy st (f st)) with
  | none=>wL cx ops draw st (K .normal)
  | some an=>match mf an.bn (dh ops.toList) with
   | true => .both (wL cx ops draw st (fo an st))
    (.all an.X fun x => .imp (an.inv x) (match ef st.next (bh an st x).env && (dU st.next (bh an st x).aC && gv (dh ops.toList) (an.bk x)) with
     | true=>K .normal (bh an st x)
     | false => .ff))
   | false => .ff
 | .seq a b,cur,st,K=>vc cx anns a cur st fun e st'=>match e with
  | .normal=>vc cx anns b cur st' K
  | e=>K e st'
 | .cond c a b,cur,st,K=>match (look anns (gw a (gw b 0) + 400000)).map (fun f=>qy st (f st)) with
  | none=>match b5 st.env c with
   | .lit true=>vc cx anns a cur st K
   | .lit false=>vc cx anns b cur st K
   | .d .bool g => .ite g (vc cx anns a cur st K) (vc cx anns b cur st K)
   | _ => .ff
  | some an=>match mf an.bn (writes anns cur (.cond c a b)) with
   | true => .both (match b5 st.env c with
    | .lit true=>vc cx anns a cur st fun e st'=>match e with
     | .normal=>fo an st st'
     | e=>K e st'
    | .lit false=>vc cx anns b cur st fun e st'=>match e with
     | .normal=>fo an st st'
     | e=>K e st'
    | .d .bool g => .ite g (vc cx anns a cur st fun e st'=>match e with
     | .normal=>fo an st st'
     | e=>K e st') (vc cx anns b cur st fun e st'=>match e with
     | .normal=>fo an st st'
     | e=>K e st')
    | _ => .ff)
    (.all an.X fun x => .imp (an.inv x) (match ef st.next (bh an st x).env && (dU st.next (bh an st x).aC && gv (writes anns cur (.cond c a b)) (an.bk x)) with
     | true=>K .normal (bh an st x)
     | false => .ff))
   | false => .ff
 | .block id b,_,st,K=>match (look anns (id + 100000)).map (fun f=>qy st (f st)) with
  | none=>vc cx anns b id st fun e st'=>match e with
   | .exit i=>match Nat.beq i id with
    | true=>K .normal st'
    | false=>K (.exit i) st'
   | e=>K e st'
  | some an=>match mf an.bn (writes anns id b) with
   | true => .both (vc cx anns b id st fun e st'=>match e with
    | .exit i=>match Nat.beq i id with
     | true=>fo an st st'
     | false=>K (.exit i) st'
    | .normal=>fo an st st'
    | .ret=>K .ret st')
    (.all an.X fun x => .imp (an.inv x) (match ef st.next (bh an st x).env && (dU st.next (bh an st x).aC && gv (writes anns id b) (an.bk x)) with
     | true=>K .normal (bh an st x)
     | false => .ff))
   | false => .ff
 | .loop b,cur,st,K=>match look anns (cur + 200000) with
  | none=>match (look anns cur).map (fun f=>qy st (f st)) with
   | some an=>match mf an.bn (writes anns cur b) with
    | true => .and (∃x,an.inv x/\hY st (an.bk x)/\hZ st (an.aC x))
      (.all an.X fun x => .imp (an.inv x) (match ef st.next (bh an st x).env && (dU st.next (bh an st x).aC && gv (writes anns cur b) (an.bk x)) with
       | true=>vc cx anns b cur (bh an st x) fun e st'=>match e with
        | .normal=>match gu st'.env an.bn with
         | true => .leaf (∃x',an.inv x'/\an.bC x' < an.bC x/\hY st' (an.bk x')/\hZ st' (an.aC x'++ee st an.ew))
         | false => .ff
        | e=>K e st'
       | false => .ff))
    | false => .ff
   | none => .leaf (GX cur st)
  | some f=>match xH st (f st) with
   | an=>match mf an.bn (writes anns cur b) with
    | true => .both (ta an st st fun _=>True)
      (.all an.X fun x => .imp (an.inv x) (match np an st (writes anns cur b) x with
       | true=>vc cx anns b cur (bT an st x) fun e st'=>match e with
        | .normal=>match gu st'.env an.bn with
         | true=>ta an st st' fun x'=>an.bC x' < an.bC x
         | false => .ff
        | e=>K e st'
       | false => .ff))
    | false => .ff
 | .exit id,_,st,K=>K (.exit id) st
 | .ret,_,st,K=>K .ret st
 | _,_,_,_ => .ff
section
variable {X:Ext} {P:Program} {cx:Cx}
theorem uZ {S:aZ} {a b:C} {v:Value} (h:og a b) (hv:CR cx.eT S a v):CR cx.eT S b v:=by
 unfold og at h
 split at h
 ·subst h;exact ca.2 hv
 ·split at h
  ·rename_i hb
   subst h
   exact fF hb _ hv
  ·exact h.elim
 ·split at h
  ·rename_i t xs n t' ys m _ hb hn
   have hn:=Nat.eq_of_beq_eq_true hn
   subst hn
   have:t=t':=by have:=Ty.eq_of_beq hb;cases this;rfl
   subst this
   rw [cH] at h
   subst h
   exact hv
  ·exact h.elim
 ·subst h;exact hv
theorem tc {S:aZ} {a b:SV} {v:Value} (h:kB a b) (hv:b4 cx.eT S a v):b4 cx.eT S b v:=by
 unfold kB at h
 split at h
 ·exact uZ h hv
 ·subst h;exact hv
theorem tf {S:aZ}:∀{as bs:List C} {vs:List Value},pD as bs->b6 cx.eT S as vs->b6 cx.eT S bs vs:=by
 intro as
 induction as with
 | nil=>
  intro bs vs h hv
  cases bs with
  | nil=>exact hv
  | cons=>exact h.elim
 | cons a as ih=>
  intro bs vs h hv
  cases bs with
  | nil=>exact h.elim
  | cons b bs=>
   cases hv with
   | cons h1 h2 h3=>exact .cons (uZ h.1 h1) h2 (ih h.2 h3)
theorem tg {S:aZ} {l:Loc} {a b:OC} (h:gr a b) (hv:OR cx.eT X S l a):OR cx.eT X S l b/\aQ l l a b/\a.lo=b.lo:=by
 unfold gr at h
 split at h
 ·split at h
  ·rename_i hT
   have:=Nat.eq_of_beq_eq_true hT
   subst this
   obtain ⟨b,vs,h1,h2,h3,h4⟩:=hv
   exact ⟨⟨b,vs,h1,h2,h3,tf h h4⟩,rfl,rfl⟩
  ·exact h.elim
 ·split at h
  ·rename_i t xs t' ys hb
   have:t=t':=by have:=Ty.eq_of_beq hb;cases this;rfl
   subst this;rw [cH] at h;subst h
   exact ⟨hv,rfl,rfl⟩
  ·exact h.elim
 ·split at h
  ·rename_i t xs t' ys hb
   have:t=t':=by have:=Ty.eq_of_beq hb;cases this;rfl
   subst this;rw [cH] at h;subst h
   exact ⟨hv,rfl,rfl⟩
  ·exact h.elim
 ·split at h
  ·rename_i t xs t' ys hb
   have:t=t':=by have:=Ty.eq_of_beq hb;cases this;rfl
   subst this;rw [cH] at h;subst h
   exact ⟨hv,⟨rfl,Nat.le_refl _,fun _=>rfl⟩,rfl⟩
  ·exact h.elim
 ·split at h
  ·rename_i k t x k' t' y hk hb
   have:=Nat.eq_of_beq_eq_true hk
   subst this
   have:=Ty.eq_of_beq hb
   subst this;rw [ej] at h;subst h
   exact ⟨hv,⟨rfl,rfl⟩,rfl⟩
  ·exact h.elim
 ·obtain ⟨h1,rfl,rfl⟩:=h
  obtain ⟨b,m,c,sn,k1,k2,k3,k4,k5,k6⟩:=hv
  exact ⟨⟨b,m,c,sn,k1,k2,k3,tf h1 k4,k5,k6⟩,trivial,rfl⟩
 ·exact h.elim
theorem om {n:Nat} {l:List Nat}:oh n l=true ↔ n∈l:=by
 induction l with
 | nil=>simp [oh]
 | cons m r ih=>
  simp only [oh,List.mem_cons]
  by_cases h:m=n
  ·subst h;simp [Nat.beq_refl]
  ·rw [gZ h];simp only [ih]
   constructor
   ·exact .inr
   ·rintro (h' | h')
    ·exact absurd h'.symm h
    ·exact h'
theorem mh {l W:List Nat} (h:mf l W=true):∀n∈l,allM∉W/\n∉W:=by
 intro n hn
 unfold mf at h
 split at h
 ·simp at hn
 ·simp only [Bool.and_eq_true,List.all_eq_true,Bool.not_eq_true'] at h
  exact ⟨fun hW=>by rw [om.2 hW] at h;exact absurd h.1 (by decide),fun hW=>by have:=h.2 n hn;rw [om.2 hW] at this;cases this⟩
def mi (cx:Cx) (X:Ext) (O:aD) (K:Ex->St->VC) (W:List Nat) (st:St) (S:aZ):Exit->Act->World->Prop
 | .normal,a,w=>cN cx X O (K .normal) W st S a w
 | .exit n,a,w=>cN cx X O (K (.exit n)) W st S a w
 | .ret,a,w=>cN cx X O (K .ret) W st S a w
 | _,_,_=>False
theorem mi.mono {O:aD} {K:Ex->St->VC} {W W':List Nat} {st st1:St} {S S1:aZ} {e:Exit} {a:Act} {w:World} (h:mi cx X O K W st1 S1 e a w) (ht:Tr S S1) (ha:iu W' st st1) (hW:∀n∈W,n∈W'):mi cx X O K W' st S e a w:=by
 have key:∀K:St->VC,cN cx X O K W st1 S1 a w->cN cx X O K W' st S a w:=by
  rintro K ⟨st',loc',k1,k2,k3,k4,k5⟩
  exact ⟨st',loc',k1,k2,ht.trans k3,k4,ha.trans fun hm t ht=>k5 (fun h=>hm (hW _ h)) t fun h=>ht (hW t h)⟩
 cases e with
 | normal=>exact key _ h
 | exit n=>exact key _ h
 | ret=>exact key _ h
 | goto l=>exact h
 | panic c=>exact h
 | outgrown=>exact h
theorem dt {st:St} {l:List Nat} {n:Nat} {v:SV} (h:look (jK st l) n=some v):n∈l/\look st.env n=some v:=by
 induction l with
 | nil=>simp [jK,look] at h
 | cons t r ih=>
  simp only [jK] at h
  split at h
  ·rename_i u hu
   rw [bw] at h
   by_cases e:t=n
   ·rw [if_pos e] at h;cases h;subst e;exact ⟨by simp,hu⟩
   ·rw [if_neg e] at h;have:=ih h;exact ⟨by simp [this.1],this.2⟩
  ·have:=ih h;exact ⟨by simp [this.1],this.2⟩
theorem wz {st:St} {l:List Nat} {n:Nat} {v:OC} (h:look (ee st l) n=some v):look st.aC n=some v:=by
 induction l with
 | nil=>simp [ee,look] at h
 | cons t r ih=>
  simp only [ee] at h
  split at h
  ·rename_i u hu
   rw [bw] at h
   by_cases e:t=n
   ·rw [if_pos e] at h;cases h;subst e;exact hu
   ·rw [if_neg e] at h;exact ih h
  ·exact ih h
theorem ia {st:St} {l:List (Nat × SV)} (h:hY st l):∀{n v},look l n=some v->∃u,look st.env n=some u/\kB u v:=by
 induction l with
 | nil=>intro n v hl;simp [look] at hl
 | cons p r ih=>
  obtain ⟨m,x⟩:=p
  intro n v hl
  simp only [hY] at h
  split at h
  ·rename_i u hu
   rw [bw] at hl
   by_cases e:m=n
   ·rw [if_pos e] at hl;cases hl;subst e;exact ⟨u,hu,h.1⟩
   ·rw [if_neg e] at hl;exact ih h.2 hl
  ·exact h.elim
theorem ib {st:St} {l:List (Nat × OC)} (h:hZ st l):∀{n v},look l n=some v->∃u,look st.aC n=some u/\gr u v:=by
 induction l with
 | nil=>intro n v hl;simp [look] at hl
 | cons p r ih=>
  obtain ⟨m,x⟩:=p
  intro n v hl
  simp only [hZ] at h
  split at h
  ·rename_i u hu
   rw [bw] at hl
   by_cases e:m=n
   ·rw [if_pos e] at hl;cases hl;subst e;exact ⟨u,hu,h.1⟩
   ·rw [if_neg e] at hl;exact ih h.2 hl
  ·exact h.elim
theorem bG {a b:Nat} (h:Nat.blt a b=true):a < b:=hE h
theorem BP {S S':aZ} (hO:∀b o v,¬ S.A b o->S.w.cell? ⟨b,o,none⟩=some v->S'.w.cell? ⟨b,o,none⟩=some v/\¬ S'.A b o) (hloc:S'.loc=S.loc)
  (hob:∀n oc,S'.ob n=some oc->∃oc0,S.ob n=some oc0/\aQ (S.loc n) (S.loc n) oc0 oc) {c:C} {v:Value} (hb:kC S'.next c=true) (hv:CR cx.eT S c v):CR cx.eT S' c v:=by
 cases c with
 | lit b=>exact hv
 | d t x=>exact VR.frame hv hO
 | app t xs n=>
  obtain ⟨h1,h2,h3⟩:=hv
  refine ⟨VR.frame h1 hO,bG hb,fun ys hy => ?_⟩
  obtain ⟨oc0,k1,k2⟩:=hob n _ hy
  cases oc0 <;> simp [aQ] at k2
  obtain ⟨rfl,k3⟩:=k2
  obtain ⟨m1,m2⟩:=h3 _ k1
  rw [hloc]
  exact ⟨by omega,fun e=>m2 (by omega)⟩
 | eh=>exact hv
 | dm=>exact hv
 | emp=>exact hv
 | aS n=>
  refine ⟨bG hb,fun t xs e => ?_⟩
  obtain ⟨oc0,k1,k2⟩:=hob n _ e
  cases oc0 <;> simp [aQ] at k2
  rw [hloc];exact hv.2 _ _ k1
 | ja n t lo len=>
  refine ⟨bG hb,fun xs e => ?_⟩
  obtain ⟨oc0,k1,k2⟩:=hob n _ e
  cases oc0 <;> simp [aQ] at k2
  subst k2
  rw [hloc];exact hv.2 _ k1
 | iG n=>
  refine ⟨bG hb,fun t xs e => ?_⟩
  obtain ⟨oc0,k1,k2⟩:=hob n _ e
  cases oc0 <;> simp [aQ] at k2
  rw [hloc];exact hv.2 _ _ k1
 | ct n=>
  refine ⟨bG hb,fun oc e hx => ?_⟩
  obtain ⟨oc0,k1,k2⟩:=hob n _ e
  rw [hloc];exact hv.2 _ k1 (by cases oc0 <;> cases oc <;> first | rfl | exact k2.elim | cases hx)
 | xd n p=>
  refine ⟨bG hb,fun t x e => ?_⟩
  obtain ⟨oc0,k1,k2⟩:=hob n _ e
  cases oc0 <;> simp [aQ] at k2
  obtain ⟨rfl,rfl⟩:=k2
  rw [hloc];exact hv.2 _ _ k1
 | ref n off=>
  refine ⟨bG hb,fun T cs e => ?_⟩
  obtain ⟨oc0,k1,k2⟩:=hob n _ e
  cases oc0 <;> simp [aQ] at k2
  rw [hloc];exact hv.2 _ _ k1
 | lp n=>
  refine ⟨bG hb,?_⟩
  rcases hv.2 with hn | hn
  ·exact .inl hn
  ·refine .inr fun T cs e => ?_
   obtain ⟨oc0,k1,k2⟩:=hob n _ e
   cases oc0 <;> simp [aQ] at k2
   rw [hloc];exact hn _ _ k1
 | fC n t i off=>
  refine ⟨bG hb,fun ⟨xs,e⟩ => ?_⟩
  rw [hloc]
  rcases e with e | e
  ·obtain ⟨oc0,k1,k2⟩:=hob n _ e
   cases oc0 <;> simp [aQ] at k2
   subst k2;exact hv.2 ⟨_, .inl k1⟩
  ·obtain ⟨oc0,k1,k2⟩:=hob n _ e
   cases oc0 <;> simp [aQ] at k2
   subst k2;exact hv.2 ⟨_, .inr k1⟩
 | jb t x=>
  obtain ⟨b,o,us,rfl,h1,h2⟩:=hv
  exact ⟨b,o,us,rfl,h1.frame hO,h2.frame hO⟩
 | fn f caps=>
  obtain ⟨rfl,h2⟩:=hv
  refine ⟨by rw [hloc],fun n hn=>⟨?_,fun t ys e => ?_⟩⟩
  ·have:∀l:List Nat,eP S'.next l=true->n∈l->n < S'.next:=by
    intro l
    induction l with
    | nil=>intro _ h;simp at h
    | cons m r ih=>
     intro h hm
     simp only [eP,Bool.and_eq_true] at h
     rcases List.mem_cons.1 hm with rfl | hm
     ·exact bG h.1
     ·exact ih h.2 hm
   exact this caps hb hn
  ·obtain ⟨oc0,k1,k2⟩:=hob n _ e
   cases oc0 <;> simp [aQ] at k2
   exact (h2 n hn).2 _ _ k1
 | any=>trivial
theorem nq {k:Nat}:∀{l:List Nat} {n:Nat},eP k l=true->n∈l->n < k
 | [],_,_,h=>by simp at h
 | m :: r,n,h,hn=>by
  simp only [eP,Bool.and_eq_true] at h
  rcases List.mem_cons.1 hn with e | hn
  ·rw [e];exact bG h.1
  ·exact nq h.2 hn
theorem lG {S S':aZ} {k:Nat} (hrel:∀{c:C} {v:Value},kC k c=true->CR cx.eT S c v->CR cx.eT S' c v):∀{cs:List C} {vs:List Value},iW k cs=true->b6 cx.eT S cs vs->b6 cx.eT S' cs vs:=by
 intro cs
 induction cs with
 | nil=>intro vs _ h;cases h;exact .nil
 | cons c cs ih=>
  intro vs hb h
  simp only [iW,Bool.and_eq_true] at hb
  cases h with
  | cons h1 h2 h3=>exact .cons (hrel hb.1 h1) h2 (ih hb.2 h3)
theorem zO {S S':aZ} (hO:∀b o v,¬ S.A b o->S.w.cell? ⟨b,o,none⟩=some v->S'.w.cell? ⟨b,o,none⟩=some v/\¬ S'.A b o) {k:Nat} (hk:k<=S'.next) (hloc:∀n,n < k->S'.loc n=S.loc n)
  (hob:∀n oc,n < k->S'.ob n=some oc->∃oc0,S.ob n=some oc0/\aQ (S.loc n) (S.loc n) oc0 oc) {c:C} {v:Value} (hb:kC k c=true) (hv:CR cx.eT S c v):CR cx.eT S' c v:=by
 cases c with
 | lit b=>exact hv
 | d t x=>exact VR.frame hv hO
 | app t xs n=>
  obtain ⟨h1,h2,h3⟩:=hv
  refine ⟨VR.frame h1 hO,Nat.lt_of_lt_of_le (bG hb) hk,fun ys hy => ?_⟩
  obtain ⟨oc0,k1,k2⟩:=hob n _ (bG hb) hy
  cases oc0 <;> simp [aQ] at k2
  obtain ⟨rfl,k3⟩:=k2
  obtain ⟨m1,m2⟩:=h3 _ k1
  rw [hloc n (bG hb)]
  exact ⟨by omega,fun e=>m2 (by omega)⟩
 | eh=>exact hv
 | dm=>exact hv
 | emp=>exact hv
 | aS n=>
  refine ⟨Nat.lt_of_lt_of_le (bG hb) hk,fun t xs e => ?_⟩
  obtain ⟨oc0,k1,k2⟩:=hob n _ (bG hb) e
  cases oc0 <;> simp [aQ] at k2
  rw [hloc n (bG hb)];exact hv.2 _ _ k1
 | ja n t lo len=>
  refine ⟨Nat.lt_of_lt_of_le (bG hb) hk,fun xs e => ?_⟩
  obtain ⟨oc0,k1,k2⟩:=hob n _ (bG hb) e
  cases oc0 <;> simp [aQ] at k2
  subst k2
  rw [hloc n (bG hb)];exact hv.2 _ k1
 | iG n=>
  refine ⟨Nat.lt_of_lt_of_le (bG hb) hk,fun t xs e => ?_⟩
  obtain ⟨oc0,k1,k2⟩:=hob n _ (bG hb) e
  cases oc0 <;> simp [aQ] at k2
  rw [hloc n (bG hb)];exact hv.2 _ _ k1
 | ct n=>
  refine ⟨Nat.lt_of_lt_of_le (bG hb) hk,fun oc e hx => ?_⟩
  obtain ⟨oc0,k1,k2⟩:=hob n _ (bG hb) e
  rw [hloc n (bG hb)];exact hv.2 _ k1 (by cases oc0 <;> cases oc <;> first | rfl | exact k2.elim | cases hx)
 | xd n p=>
  refine ⟨Nat.lt_of_lt_of_le (bG hb) hk,fun t x e => ?_⟩
  obtain ⟨oc0,k1,k2⟩:=hob n _ (bG hb) e
  cases oc0 <;> simp [aQ] at k2
  obtain ⟨rfl,rfl⟩:=k2
  rw [hloc n (bG hb)];exact hv.2 _ _ k1
 | ref n off=>
  refine ⟨Nat.lt_of_lt_of_le (bG hb) hk,fun T cs e => ?_⟩
  obtain ⟨oc0,k1,k2⟩:=hob n _ (bG hb) e
  cases oc0 <;> simp [aQ] at k2
  rw [hloc n (bG hb)];exact hv.2 _ _ k1
 | lp n=>
  refine ⟨Nat.lt_of_lt_of_le (bG hb) hk,?_⟩
  rcases hv.2 with hn | hn
  ·exact .inl hn
  ·refine .inr fun T cs e => ?_
   obtain ⟨oc0,k1,k2⟩:=hob n _ (bG hb) e
   cases oc0 <;> simp [aQ] at k2
   rw [hloc n (bG hb)];exact hn _ _ k1
 | fC n t i off=>
  refine ⟨Nat.lt_of_lt_of_le (bG hb) hk,fun ⟨xs,e⟩ => ?_⟩
  rw [hloc n (bG hb)]
  rcases e with e | e
  ·obtain ⟨oc0,k1,k2⟩:=hob n _ (bG hb) e
   cases oc0 <;> simp [aQ] at k2
   subst k2;exact hv.2 ⟨_, .inl k1⟩
  ·obtain ⟨oc0,k1,k2⟩:=hob n _ (bG hb) e
   cases oc0 <;> simp [aQ] at k2
   subst k2;exact hv.2 ⟨_, .inr k1⟩
 | jb t x=>
  obtain ⟨b,o,us,rfl,h1,h2⟩:=hv
  exact ⟨b,o,us,rfl,h1.frame hO,h2.frame hO⟩
 | fn f caps=>
  obtain ⟨rfl,h2⟩:=hv
  have hlt:∀n∈caps,n < k:=fun n hn=>nq hb hn
  refine ⟨by rw [show (caps.map fun n=>(S.loc n).v)=(caps.map fun n=>(S'.loc n).v) from List.map_congr_left fun n hn=>by rw [hloc n (hlt n hn)]],fun n hn=>⟨Nat.lt_of_lt_of_le (hlt n hn) hk,fun t ys e => ?_⟩⟩
  obtain ⟨oc0,k1,k2⟩:=hob n _ (hlt n hn) e
  cases oc0 <;> simp [aQ] at k2
  exact (h2 n hn).2 _ _ k1
 | any=>trivial
theorem aQ.comp {l1 l2 l3:Loc} {a b c:OC} (h:aQ l1 l2 a b) (h':aQ l2 l3 b c):aQ l1 l3 a c:=by
 cases a <;> cases b <;> simp [aQ] at h <;> cases c <;> simp [aQ] at h' ⊢
 all_goals (try (simp_all;done))
 obtain ⟨rfl,a1,a2⟩:=h
 obtain ⟨rfl,b1,b2⟩:=h'
 refine ⟨rfl,by omega,fun e => ?_⟩
 rw [b2 (by omega),a2 (by omega)]
theorem mM {S S':aZ} (hrel:∀{c:C} {v:Value},kC S'.next c=true->CR cx.eT S c v->CR cx.eT S' c v):∀{cs:List C} {vs:List Value},iW S'.next cs=true->b6 cx.eT S cs vs->b6 cx.eT S' cs vs:=by
 intro cs
 induction cs with
 | nil=>intro vs _ h;cases h;exact .nil
 | cons c cs ih=>
  intro vs hb h
  simp only [iW,Bool.and_eq_true] at hb
  cases h with
  | cons h1 h2 h3=>exact .cons (hrel hb.1 h1) h2 (ih hb.2 h3)
theorem oX {k:Nat}:∀{l:List (Nat × SV)},ef k l=true->∀{n v},look l n=some v->∃v0,v = .s v0/\xG k v0=true:=by
 intro l
 induction l with
 | nil=>intro _ n v h;simp [look] at h
 | cons p r ih=>
  obtain ⟨m,x⟩:=p
  intro hb n v h
  cases x with
  | gU vs=>simp [ef] at hb
  | s v0=>
   simp only [ef,Bool.and_eq_true] at hb
   rw [bw] at h
   by_cases e:m=n
   ·rw [if_pos e] at h;cases h;exact ⟨v0,rfl,hb.1⟩
   ·rw [if_neg e] at h;exact ih hb.2 h
theorem gL {k:Nat}:∀{l:List (Nat × OC)},dU k l=true->∀{n v},look l n=some v->n < k/\AU k v=true:=by
 intro l
 induction l with
 | nil=>intro _ n v h;simp [look] at h
 | cons p r ih=>
  obtain ⟨m,x⟩:=p
  intro hb n v h
  simp only [dU,Bool.and_eq_true] at hb
  rw [bw] at h
  by_cases e:m=n
  ·rw [if_pos e] at h;cases h;subst e;exact ⟨bG hb.1.1,hb.1.2⟩
  ·rw [if_neg e] at h;exact ih hb.2 h
theorem oq {an:fO} {O:aD} {st st':St} {loc loc0:Nat->Loc} {w w0:World} {a:Act} (x:an.X) (g:Good cx.eT X (aB O st' loc w)) (hA:dS cx (aB O st' loc w) st' a) (ht:Tr (aB O st loc0 w0) (aB O st' loc w))
  (he:∀n v,look (bh an st x).env n=some v->∃u,look st'.env n=some u/\kB u v)
  (ho:∀n v,look (bh an st x).aC n=some v->∃u,look st'.aC n=some u/\gr u v)
  (hb1:ef st.next (bh an st x).env=true) (hb2:dU st.next (bh an st x).aC=true) :
  Good cx.eT X (aB O (bh an st x) loc w)/\dS cx (aB O (bh an st x) loc w) (bh an st x) a/\Tr (aB O st loc0 w0) (aB O (bh an st x) loc w):=by
 have hob:∀n oc,look (bh an st x).aC n=some oc->∃oc0,look st'.aC n=some oc0/\aQ (loc n) (loc n) oc0 oc/\oc0.lo=oc.lo/\OR cx.eT X (aB O st' loc w) (loc n) oc:=by
  intro n oc h
  obtain ⟨u,hu,hs⟩:=ho n oc h
  obtain ⟨h1,h2,h3⟩:=tg hs (g.obj n u hu).2
  exact ⟨u,hu,h2,h3,h1⟩
 have hAsub:∀b o,(aB O (bh an st x) loc w).A b o->(aB O st' loc w).A b o:=by
  rintro b o (h | ⟨n,oc,h1,h2,h3⟩)
  ·exact .inl h
  ·obtain ⟨oc0,k1,_,k3,_⟩:=hob n oc h1
   exact .inr ⟨n,oc0,k1,h2,by rw [k3];exact h3⟩
 have hcell:∀b o v,¬ (aB O st' loc w).A b o->w.cell? ⟨b,o,none⟩=some v->w.cell? ⟨b,o,none⟩=some v/\¬ (aB O (bh an st x) loc w).A b o:=fun b o v h1 h2=>⟨h2,fun h=>h1 (hAsub b o h)⟩
 have hrel:∀{c:C} {v:Value},kC st.next c=true->CR cx.eT (aB O st' loc w) c v->CR cx.eT (aB O (bh an st x) loc w) c v:=fun hb hv=>
  BP (S:=aB O st' loc w) (S':=aB O (bh an st x) loc w) hcell rfl (fun n oc h=>let ⟨oc0,k1,k2,_⟩:=hob n oc h;⟨oc0,k1,k2⟩) hb hv
 have hor:∀n oc,look (bh an st x).aC n=some oc->OR cx.eT X (aB O (bh an st x) loc w) (loc n) oc:=by
  intro n oc h
  obtain ⟨_,_,_,_,k4⟩:=hob n oc h
  have hb:=(gL hb2 h).2
  cases oc with
  | cells T cs=>
   obtain ⟨b,vs,h1,h2,h3,h4⟩:=k4
   exact ⟨b,vs,h1,h2,h3,mM hrel hb h4⟩
  | aS t xs=>
   rcases k4 with k4 | ⟨b,vs,T,cap,h1,h2,h3,h4,h5,h6,h7⟩
   ·exact .inl k4
   ·exact .inr ⟨b,vs,T,cap,h1,h2,h3,h4,h5,h6,fun i y hy=>let ⟨us,r1,r2⟩:=h7 i y hy;⟨us,r1.frame hcell,r2⟩⟩
  | arr t xs=>
   obtain ⟨b,vs,T,h1,h2,h3,h4,h5⟩:=k4
   exact ⟨b,vs,T,h1,h2,h3,h4,fun i y hy=>let ⟨us,r1,r2⟩:=h5 i y hy;⟨us,r1.frame hcell,r2⟩⟩
  | tok t xs=>
   rcases k4 with k4 | ⟨b,vs,T,cap,h1,h2,h3,h4,h5,h6,h7⟩
   ·exact .inl k4
   ·exact .inr ⟨b,vs,T,cap,h1,h2,h3,h4,h5,h6,fun i y hy=>let ⟨us,r1,r2⟩:=h7 i y hy;⟨us,r1.frame hcell,r2⟩⟩
  | ext k t x=>exact k4
  | iter cs seen cl=>obtain ⟨b,m,c,sn,k1,k2,k3,k4,k5⟩:=k4;exact ⟨b,m,c,sn,k1,k2,k3,mM hrel hb k4,k5⟩
 refine ⟨⟨fun n oc h=>⟨(gL hb2 h).1,hor n oc h⟩,fun n m oc oc' b h1 h2 h3 h4 => ?_,fun n oc b off h1 h2 => ?_,g.iH.sub rfl fun b ⟨n,oc,h1,h2⟩=>by obtain ⟨oc0,k1,_⟩:=hob n oc h1;exact ⟨n,oc0,k1,h2⟩⟩,⟨hA.size,hA.defers,fun n v h => ?_⟩,?_⟩
 ·obtain ⟨oc0,k1,_⟩:=hob n oc h1
  obtain ⟨oc0',k1',_⟩:=hob m oc' h2
  exact g.apart n m oc0 oc0' b k1 k1' h3 h4
 ·obtain ⟨oc0,k1,_⟩:=hob n oc h1
  exact g.out n oc0 b off k1 h2
 ·obtain ⟨u,hu,hs⟩:=he n v h
  have hv:=tc hs (hA.env n u hu)
  obtain ⟨v0,rfl,hb⟩:=oX hb1 h
  cases v0 with
  | one c=>exact hrel hb hv
  | agg cs=>obtain ⟨vs,h1,h2⟩:=hv;exact ⟨vs,h1,mM hrel hb h2⟩
 ·refine {O:=ht.O,next:=Nat.le_refl _,os:=ht.os,output:=ht.output,size:=ht.size,own:=fun b hb => ?_,cell:=fun b o v h1 h2 => ?_,block:=ht.block,loc:=ht.loc,kind:=fun n oc hn h => ?_}
  ·obtain ⟨n,oc,h1,h2⟩:=hb
   obtain ⟨oc0,k1,_⟩:=hob n oc h1
   exact ht.own b ⟨n,oc0,k1,h2⟩
  ·obtain ⟨k1,k2⟩:=ht.cell b o v h1 h2
   exact ⟨k1,fun h=>k2 (hAsub b o h)⟩
  ·obtain ⟨oc0,k1,k2,_⟩:=hob n oc h
   obtain ⟨oc1,m1,m2⟩:=ht.kind n oc0 hn k1
   exact ⟨oc1,m1,m2.comp k2⟩
theorem Ty.beq_refl:∀t:Ty,Ty.beq t t=true:=by
 intro t
 induction t with
 | prod a b iha ihb=>simp [Ty.beq,iha,ihb]
 | slice e ih=>simp [Ty.beq,ih]
 | int k=>simp [Ty.beq]
 | _=>rfl
theorem th (c:C):og c c:=by
 cases c with
 | d t x=>
  simp only [og]
  split
  ·rfl
  ·rename_i h;rw [Ty.beq_refl] at h;cases h
 | app t xs n=>
  simp only [og]
  split
  ·rfl
  ·rename_i h;exact (h (Ty.beq_refl _) (Nat.beq_refl _)).elim
 | _=>rfl
theorem fW (v:SV):kB v v:=by
 cases v with
 | s v=>
  cases v with
  | one c=>exact th c
  | agg cs=>rfl
 | gU vs=>rfl
theorem mN:∀cs:List C,pD cs cs
 | []=>trivial
 | c :: cs=>⟨th c,mN cs⟩
theorem zP (v:OC):gr v v:=by
 cases v with
 | cells T cs=>
  simp only [gr,Nat.beq_refl]
  exact mN cs
 | aS t xs=>
  simp only [gr]
  split
  ·rfl
  ·rename_i h;rw [Ty.beq_refl] at h;cases h
 | arr t xs=>
  simp only [gr]
  split
  ·rfl
  ·rename_i h;rw [Ty.beq_refl] at h;cases h
 | tok t xs=>
  simp only [gr]
  split
  ·rfl
  ·rename_i h;rw [Ty.beq_refl] at h;cases h
 | ext k t x=>
  simp only [gr]
  split
  ·rfl
  ·rename_i h;exact (h (Nat.beq_refl _) (Ty.beq_refl _)).elim
 | iter cs seen cl=>exact ⟨mN cs,rfl,rfl⟩
theorem kg {W:List Nat}:∀{l:List (Nat × SV)},gv W l=true->∀{n v},look l n=some v->n∈W:=by
 intro l
 induction l with
 | nil=>intro _ n v h;simp [look] at h
 | cons p r ih=>
  obtain ⟨m,x⟩:=p
  intro hb n v h
  simp only [gv,Bool.and_eq_true] at hb
  rw [bw] at h
  by_cases e:m=n
  ·subst e;exact om.1 hb.1
  ·rw [if_neg e] at h;exact ih hb.2 h
theorem iv {env:List (Nat × SV)}:∀{l:List Nat},gu env l=true->∀{n},n∈l->∃v,look env n=some v:=by
 intro l
 induction l with
 | nil=>intro _ n h;simp at h
 | cons t r ih=>
  intro hb n h
  simp only [gu] at hb
  split at hb
  ·rename_i u hu
   rcases List.mem_cons.1 h with rfl | h
   ·exact ⟨u,hu⟩
   ·exact ih hb h
  ·cases hb
theorem GY {O:aD} {K:Ex->St->VC} {W:List Nat} {st:St} {S:aZ} {next:Act->World->Prop} {Q:Exit->Act->World->Prop} {K':Ex->St->VC}
  (hn:∀a w,cN cx X O (K' .normal) W st S a w->next a w) (hK:∀e,e≠.normal->K' e=K e) (hQ:∀e a w,mi cx X O K W st S e a w->e≠.normal->Q e a w) {e:Exit} {a:Act} {w:World}
  (h:mi cx X O K' W st S e a w):Exit.then next Q e a w:=by
 cases e with
 | normal=>exact hn a w h
 | exit n=>exact hQ _ _ _ (by simpa [mi,hK (.exit n) (by simp)] using h) (by simp)
 | ret=>exact hQ _ _ _ (by simpa [mi,hK .ret (by simp)] using h) (by simp)
 | goto l=>exact h.elim
 | panic c=>exact h.elim
 | outgrown=>exact h.elim
structure HR (an:fO) (st st':St) (x:an.X) (ν:List Nat):Prop where
 nodup:nodupB ν=true
 refs:pE st' an ν an.refs=true
 get:b7 false st'.aC an.aN ν an.aN ν=some (an.pd x)
 IA:∀p∈s7 st' an (an.pd x) an.refs,p
 conds:∀p∈dW an.aN (an.pd x) st'.aC an.aN ν,p
 env:hY st' (an.bk x)
 aC:hZ st' (kU an st x)
 out:lk ν (kU an st x)=true
theorem u3 {an:fO} {st st':St} {more:an.X->Prop} (h:(ta an st st' more).holds):∃x,an.inv x/\more x/\∃ν,HR an st st' x ν:=by
 unfold ta at h
 split at h
 ·rename_i ν _
  split at h
  ·rename_i y hc hy
   simp only [Bool.and_eq_true] at hc
   have hall:=rT h
   obtain ⟨x,h1,h2,h3,h4,h5,h6⟩:=hall (∃x',an.inv x'/\more x'/\hY st' (an.bk x')/\hZ st' (an.aC x'++ee st an.ew)/\(lk ν (kU an st x')=true/\y=an.pd x')) (List.mem_append_right _ (List.mem_singleton.2 rfl))
   subst h6
   obtain ⟨k1,_⟩:=eX.1 hall
   obtain ⟨k1,k2⟩:=eX.1 k1
   exact ⟨x,h1,h2,ν,hc.1,hc.2,hy,k1,k2,h3,h4,h5⟩
  ·exact h.elim
 ·exact h.elim
theorem pH {ν:List Nat}:∀{l:List (Nat × OC)},lk ν l=true->∀{n v},look l n=some v->n∉ν
 | [],_,n,v,h=>by simp [look] at h
 | (m,u) :: r,hk,n,v,h=>by
  simp only [lk,Bool.and_eq_true,Bool.not_eq_true'] at hk
  rw [bw] at h
  split at h
  ·rename_i e;subst e
   intro hm;rw [rU.2 hm] at hk;exact absurd hk.1 (by decide)
  ·exact pH hk.2 h
theorem mO {an:fO} {y:PD an.aN} {us:List Nat}:∀{l:List (Nat × Nat)} {t:Nat} {v:SV},look (pF an y us l) t=some v->∃k,(t,k)∈l/\v = .s (.one (dr an.aN y us k))
 | [],t,v,h=>by simp [pF,look] at h
 | (m,k) :: r,t,v,h=>by
  simp only [pF,bw] at h
  split at h
  ·rename_i e;subst e;cases h;exact ⟨k,by simp,rfl⟩
  ·obtain ⟨k',h1,h2⟩:=mO h;exact ⟨k',by simp [h1],h2⟩
theorem tj {st:St} {an:fO} {ν:List Nat}:∀{l:List (Nat × Nat)} {t k:Nat},pE st an ν l=true->(t,k)∈l->∃c,look st.env t=some (.s (.one c))/\eu false st.aC an.aN ν k c=true
 | [],_,_,_,h=>by simp at h
 | (m,i) :: r,t,k,h,hm=>by
  simp only [pE,Bool.and_eq_true] at h
  rcases List.mem_cons.1 hm with e | hm
  ·cases e
   obtain ⟨h1,_⟩:=h
   split at h1
   ·rename_i c hc;exact ⟨c,hc,h1⟩
   ·cases h1
  ·exact tj h.2 hm
theorem u4 {st:St} {an:fO} {y:PD an.aN}:∀{l:List (Nat × Nat)} {t k:Nat} {c:C},(∀p∈s7 st an y l,p)->(t,k)∈l->look st.env t=some (.s (.one c))->∀p∈mK an.aN y k c,p
 | [],_,_,_,_,h,_=>by simp at h
 | (m,i) :: r,t,k,c,h,hm,hl=>by
  simp only [s7] at h
  obtain ⟨h1,h2⟩:=eX.1 h
  rcases List.mem_cons.1 hm with e | hm
  ·cases e
   rw [hl] at h1
   exact h1
  ·exact u4 h2 hm hl
theorem tl {bn:List Nat}:∀{l:List (Nat × Nat)} {t k:Nat},pG bn l=true->(t,k)∈l->t∉bn
 | [],_,_,_,h=>by simp at h
 | (m,i) :: r,t,k,h,hm=>by
  simp only [pG,Bool.and_eq_true,Bool.not_eq_true'] at h
  rcases List.mem_cons.1 hm with e | hm
  ·cases e
   intro hk;rw [om.2 hk] at h;exact absurd h.1 (by decide)
  ·exact tl h.2 hm
theorem u5 {an:fO} {O:aD} {st st':St} {loc loc0:Nat->Loc} {w w0:World} {a:Act} {W:List Nat} (x:an.X) (g:Good cx.eT X (aB O st' loc w)) (hA:dS cx (aB O st' loc w) st' a) (ht:Tr (aB O st loc0 w0) (aB O st' loc w))
  (hok:np an st W x=true) (hkeep:∀n∈an.bn,∀v,look st.env n=some v->∃u,look st'.env n=some u/\kB u v) (hf:∃ν,HR an st st' x ν) :
  ∃loc',Good cx.eT X (aB O (bT an st x) loc' w)/\dS cx (aB O (bT an st x) loc' w) (bT an st x) a/\Tr (aB O st loc0 w0) (aB O (bT an st x) loc' w):=by
 obtain ⟨ν,hf⟩:=hf
 simp only [np,Bool.and_eq_true] at hok
 obtain ⟨hb1,hb2,hkeys,hnr⟩:=hok
 generalize husd:upto st.next an.aN.length=us
 have husl:us.length=an.aN.length:=by rw [<-husd];exact oe _ _
 have hus:nodupB us=true:=by rw [<-husd];exact eO _ _
 have husm:∀n∈us,st.next<=n/\n < st.next + an.aN.length:=fun n hn=>by rw [<-husd] at hn;exact od hn
 have hlen:ν.length=us.length:=by rw [husl];exact (kT hf.get).symm
 let loc':=cr us (ν.map loc) loc
 have hlow:∀n,n < st.next->loc' n=loc n:=fun n hn=>iV fun hm=>by have:=(husm n hm).1;omega
 have hnu:∀n,n < st.next->n∉us:=fun n hn hm=>by have:=(husm n hm).1;omega
 have hrest:∀m oc,look (kU an st x) m=some oc->m < st.next/\m∉ν/\∃u,look st'.aC m=some u/\aQ (loc m) (loc m) u oc/\u.lo=oc.lo/\OR cx.eT X (aB O st' loc w) (loc m) oc:=by
  intro m oc hm
  obtain ⟨u,hu,hs⟩:=ib hf.aC hm
  obtain ⟨h1,h2,h3⟩:=tg hs (g.obj m u hu).2
  exact ⟨(gL hb2 hm).1,pH hf.out hm,u,hu,h2,h3,h1⟩
 have hob:∀m oc,look (bT an st x).aC m=some oc->(∃(i n:Nat) (o:Ob) (y:OD o) (oc0:OC),ν[i]?=some n/\us[i]?=some m/\look st'.aC n=some oc0/\eA false st'.aC an.aN ν o oc0=some y/\
   oc=lE (dr an.aN (an.pd x) us) o y/\loc' m=loc n)\/(m∉us/\look (kU an st x) m=some oc/\loc' m=loc m):=by
  intro m oc hm
  simp only [bT,husd,cb] at hm
  split at hm
  ·rename_i oc' hm'
   cases hm
   obtain ⟨i,n,o,y,oc0,k1,k2,k3,k4,k5,k6,_⟩:=kS hf.get (kR (X:=X) g hf.get hf.get hf.conds) hlen hm'
   exact .inl ⟨i,n,o,y,oc0,k1,k2,k4,k5,k6,fw hus k2 (by simp [k1])⟩
  ·rename_i hm'
   have hnin:m∉us:=fun hmem=>by
    obtain ⟨oc1,h2⟩:=kz (f:=dr an.aN (an.pd x) us) (x:=an.pd x) husl.symm hmem
    rw [h2] at hm';cases hm'
   exact .inr ⟨hnin,hm,iV hnin⟩
 have hAsub:∀b o,(aB O (bT an st x) loc' w).A b o->(aB O st' loc w).A b o:=by
  rintro b off (h | ⟨m,oc,h1,h2,h3⟩)
  ·exact .inl h
  ·rcases hob m oc h1 with ⟨i,n,o,y,oc0,k1,k2,k4,k5,k6,k7⟩ | ⟨k1,k2,k3⟩
   ·refine .inr ⟨n,oc0,k4,by simp only [aB] at h2;rw [k7] at h2;exact h2,?_⟩
    rcases uw (f:=dr an.aN (an.pd x) us) k5 with e | e
    ·rw [<-e,<-k6];exact h3
    ·cases e
   ·obtain ⟨_,_,u,hu,_,hlo,_⟩:=hrest m oc k2
    exact .inr ⟨m,u,hu,by simp only [aB] at h2;rw [k3] at h2;exact h2,by rw [hlo];exact h3⟩
 have hcell:∀b o v,¬ (aB O st' loc w).A b o->w.cell? ⟨b,o,none⟩=some v->w.cell? ⟨b,o,none⟩=some v/\¬ (aB O (bT an st x) loc' w).A b o:=fun b o v h1 h2=>⟨h2,fun h=>h1 (hAsub b o h)⟩
 have hrel:∀{c:C} {v:Value},kC st.next c=true->CR cx.eT (aB O st' loc w) c v->CR cx.eT (aB O (bT an st x) loc' w) c v:=fun hb hv=>
  zO (S:=aB O st' loc w) (S':=aB O (bT an st x) loc' w) (k:=st.next) hcell (by simp [aB,bT]) (fun n hn=>hlow n hn) (fun n oc hn h=>by
   rcases hob n oc h with ⟨i,n',o,y,oc0,k1,k2,_⟩ | ⟨k1,k2,k3⟩
   ·exact absurd (List.mem_of_getElem? k2) (hnu n hn)
   ·obtain ⟨_,_,u,hu,hk,_,_⟩:=hrest n oc k2
    exact ⟨u,hu,hk⟩) hb hv
 obtain ⟨gN,laid⟩:=BN (X:=X) g hf.get hf.conds hf.nodup (O2:=O) (ν2:=us) (rest:=kU an st x) (locR:=loc) (st2:=bT an st x) hus hlen (by simp only [bT,husd])
  (fun n hn=>by have:=(husm n hn).2;simp only [bT];exact this)
  (fun n hn b hb off h=>by
   obtain ⟨_,oc,_,_,k,_⟩:=fV hf.get hn
   exact g.out n oc b off k hb h)
  (fun n hn b hb m oc h1 h2 h3=>by
   obtain ⟨_,oc0,_,_,k,_⟩:=fV hf.get hn
   obtain ⟨_,hmν,u,hu,_⟩:=hrest m oc h1
   have:=g.apart n m oc0 u b k hu hb h3
   exact hmν (by rw [<-this];exact hn))
  (fun m oc h1 h2=>by
   obtain ⟨hm,_,u,hu,hk,hlo,hor⟩:=hrest m oc h1
   refine ⟨by simp only [bT];omega,?_⟩
   have hb:=(gL hb2 h1).2
   cases oc with
   | cells T cs=>
    obtain ⟨b,vs,h1,h2,h3,h4⟩:=hor
    exact ⟨b,vs,h1,h2,h3,lG (k:=st.next) hrel hb h4⟩
   | aS t xs=>exact xF.to (S:=aB O st' loc w) (S':=aB O (bT an st x) loc' w) rfl (.inr hAsub) hor
   | tok t xs=>exact xF.to (X:=X) (S:=aB O st' loc w) (S':=aB O (bT an st x) loc' w) (l:=loc m) rfl (.inr hAsub) hor
   | arr t xs=>
    obtain ⟨b,vs,T,h1,h2,h3,h4,h5⟩:=hor
    exact ⟨b,vs,T,h1,h2,h3,h4,fun i y hy=>let ⟨us,r1,r2⟩:=h5 i y hy;⟨us,r1.frame hcell,r2⟩⟩
   | ext k t x=>exact hor
   | iter cs seen cl=>obtain ⟨b,m,c,sn,k1,k2,k3,k4,k5⟩:=hor;exact ⟨b,m,c,sn,k1,k2,k3,lG (k:=st.next) hrel hb k4,k5⟩)
  (fun m m' oc oc' b h1 h2 _ _ h3 h4=>by
   obtain ⟨_,_,u,hu,_⟩:=hrest m oc h1
   obtain ⟨_,_,u',hu',_⟩:=hrest m' oc' h2
   exact g.apart m m' u u' b hu hu' h3 h4)
  (fun m oc b off h1 _ h2=>by
   obtain ⟨_,_,u,hu,_⟩:=hrest m oc h1
   exact g.out m u b off hu h2)
  (.inr hAsub)
  (fun b hb ⟨m,oc,h1,h2⟩=>by
   rcases hob m oc h1 with ⟨i,n,o,y,oc0,k1,k2,k4,k5,k6,k7⟩ | ⟨k1,k2,k3⟩
   ·refine g.iH.2 b hb ⟨n,oc0,k4,?_⟩
    have e:cr us (ν.map loc) loc m=loc n:=k7
    simp only [aB] at h2;rw [e] at h2;exact h2
   ·obtain ⟨_,_,u,hu,_⟩:=hrest m oc k2
    have e:cr us (ν.map loc) loc m=loc m:=k3
    refine g.iH.2 b hb ⟨m,u,hu,?_⟩
    simp only [aB] at h2;rw [e] at h2;exact h2)
 refine ⟨loc',gN,⟨hA.size,hA.defers,fun t sv hl => ?_⟩,?_⟩
 ·simp only [bT,husd,cb] at hl
  split at hl
  ·rename_i v hv
   cases hl
   obtain ⟨k,hk,rfl⟩:=mO hv
   obtain ⟨c,hc,hs⟩:=tj hf.refs hk
   have hcv:CR cx.eT (aB O st' loc w) c (a.tmps.getD t undef):=hA.env t _ hc
   exact s6 laid (uu g hcv hf.get hs (u4 hf.IA hk hc))
  ·have hl2:look (s9 an st x) t=some sv:=hl
   have hst:∃u,look st'.env t=some u/\kB u sv:=by
    simp only [s9,cb] at hl2
    split at hl2
    ·rename_i v hv;cases hl2;exact ia hf.env hv
    ·obtain ⟨h1,h2⟩:=dt hl2;exact hkeep t h1 sv h2
   obtain ⟨u,hu,hs⟩:=hst
   have hv:=tc hs (hA.env t u hu)
   obtain ⟨v0,rfl,hb⟩:=oX hb1 hl2
   cases v0 with
   | one c=>exact hrel hb hv
   | agg cs=>obtain ⟨vs,h1,h2⟩:=hv;exact ⟨vs,h1,lG (k:=st.next) hrel hb h2⟩
 ·refine {O:=ht.O,next:=by simp [aB,bT],os:=ht.os,output:=ht.output,size:=ht.size,own:=fun b hb => ?_,cell:=fun b o v h1 h2 => ?_,block:=ht.block,loc:=fun n hn hfx => ?_,kind:=fun n oc hn h => ?_}
  ·obtain ⟨m,oc,h1,h2⟩:=hb
   rcases hob m oc h1 with ⟨i,n,o,y,oc0,k1,k2,k4,k5,k6,k7⟩ | ⟨k1,k2,k3⟩
   ·exact ht.own b ⟨n,oc0,k4,by simp only [aB] at h2;rw [k7] at h2;exact h2⟩
   ·obtain ⟨_,_,u,hu,_⟩:=hrest m oc k2
    exact ht.own b ⟨m,u,hu,by simp only [aB] at h2;rw [k3] at h2;exact h2⟩
  ·obtain ⟨k1,k2⟩:=ht.cell b o v h1 h2
   exact ⟨k1,fun h=>k2 (hAsub b o h)⟩
  ·show (loc' n).v=_/\(_->loc' n=_)
   rw [hlow n hn];exact ht.loc n hn hfx
  ·rcases hob n oc h with ⟨i,n',o,y,oc0,k1,k2,_⟩ | ⟨k1,k2,k3⟩
   ·exact absurd (List.mem_of_getElem? k2) (hnu n hn)
   ·obtain ⟨_,_,u,hu,hk,_,_⟩:=hrest n oc k2
    obtain ⟨oc1,m1,m2⟩:=ht.kind n u hn hu
    refine ⟨oc1,m1,?_⟩
    show aQ _ (loc' n) _ _
    rw [hlow n hn]
    exact m2.comp hk
theorem BQ {an:fO} {st:St} {W:List Nat} {x:an.X} (hok:np an st W x=true) {n:Nat} (hn:n∈an.bn) {v:SV} (h:look (bT an st x).env n=some v) (hW:n∉W):look st.env n=some v:=by
 simp only [np,Bool.and_eq_true] at hok
 obtain ⟨_,_,hkeys,hnr⟩:=hok
 simp only [bT,s9,cb] at h
 split at h
 ·rename_i u hu
  obtain ⟨k,hk,_⟩:=mO hu
  exact absurd hn (tl hnr hk)
 ·split at h
  ·rename_i u hu;exact absurd (kg hkeys hu) hW
  ·exact (dt h).2
theorem u6 {O:aD} {st:St} {loc:Nat->Loc} {w:World} {an:fO} {W:List Nat} {K:St->VC} (hdis:mf an.bn W=true)
  (hk:(VC.all an.X fun x => .imp (an.inv x) (match ef st.next (bh an st x).env && (dU st.next (bh an st x).aC && gv W (an.bk x)) with
     | true=>K (bh an st x)
     | false => .ff)).holds) {a':Act} {w':World}:cN cx X O (fo an st) W st (aB O st loc w) a' w'->cN cx X O K W st (aB O st loc w) a' w':=by
 have hkeepW:=mh hdis
 rintro ⟨st2,loc2,k1,k2,k3,k4,k5⟩
 simp only [fo] at k1
 split at k1
 case h_2=>exact k1.elim
 rename_i hpres
 obtain ⟨x',hx',hs',ho'⟩:=k1
 have hvx:=hk x' hx'
 split at hvx
 case h_2=>exact hvx.elim
 rename_i hbb
 simp only [Bool.and_eq_true] at hbb
 have hhead:∀t,t∉W->∀v,look (bh an st x').env t=some v->look st.env t=some v:=by
  intro t ht v hv
  simp only [bh,cb] at hv
  split at hv
  ·rename_i u hu;exact absurd (kg hbb.2.2 hu) ht
  ·exact (dt hv).2
 obtain ⟨m1,m2,m3⟩:=oq (an:=an) (st:=st) x' k2 k4 k3 (by
   intro n v hv
   simp only [bh,cb] at hv
   split at hv
   ·rename_i u hu;cases hv;exact ia hs' hu
   ·obtain ⟨hmem,hl⟩:=dt hv
    refine ⟨v,?_,fW v⟩
    obtain ⟨v',hv'⟩:=iv hpres hmem
    have:=k5 (hkeepW n hmem).1 n (hkeepW n hmem).2 v' hv'
    rw [hl] at this
    cases this
    exact hv')
  (by
   intro n v hv
   simp only [bh] at hv
   exact ib ho' hv) hbb.1 hbb.2.1
 exact ⟨bh an st x',loc2,hvx,m1,m3,m2,fun _ t ht v hv=>hhead t ht v hv⟩
theorem u7 (hok:iO P cx X) {O:aD} {id:Nat} {ops:Array Oper} {draw:Bool} {st:St} {loc:Nat->Loc} {w:World} {a:Act} {K:Ex->St->VC} (hA:dS cx (aB O st loc w) st a) (g:Good cx.eT X (aB O st loc w)) (hO:cC O w)
  (h:(wL cx ops draw st (K .normal)).holds):(Code.region id ops draw).wp P (mi cx X O K (dh ops.toList) st (aB O st loc w)) a w:=by
 have hW:∀(j:Nat) (oj:Oper) (d:Nat),ops[j]?=some oj->oj.dst=some d->d∈dh ops.toList:=by
  intro j oj d hj hd
  exact List.mem_filterMap.2 ⟨oj,by rw [<-Array.getElem?_toList] at hj;exact List.mem_of_getElem? hj,hd⟩
 have hq:∀st' loc' a' w',(K .normal st').holds->Good cx.eT X (aB O st' loc' w')->Tr (aB O st loc w) (aB O st' loc' w')->dS cx (aB O st' loc' w') st' a'->iu (dh ops.toList) st st'->
   mi cx X O K (dh ops.toList) st (aB O st loc w) .normal a' w':=fun st' loc' a' w' h1 h2 h3 h4 h5=>⟨st',loc',h1,h2,h3,h4,h5⟩
 unfold wL at h
 cases draw with
 | false=>
  refine wp_region_list ?_
  exact zM hok hW ops.toList (fun o ho d hd=>List.mem_filterMap.2 ⟨o,ho,hd⟩) hA g hO h hq
 | true=>
  split at h
  ·rename_i e;cases e
  ·rename_i e
   split at h
   ·rename_i hreg
    rw [GS] at h
    refine wp_region_any hok.mixed (AP (loud:=eM cx ops.toList) _ _ _ _ (aB O st loc {w with drawn:=w.drawn + 1}).A ?_)
    have hdrew:Below w.heap.size w {w with drawn:=w.drawn + 1}:=⟨rfl,rfl,Nat.le_refl _,fun _ _=>rfl⟩
    obtain ⟨tr,g'⟩:=nK (S:=aB O st loc w) (S':=aB O st loc {w with drawn:=w.drawn + 1}) g rfl rfl rfl rfl hdrew
    refine zN hok hW hreg (fun c a w h=>h) ops.size _ ?_ ⟨hA.size,hA.defers,hA.env.tr tr⟩ g' (hO.tr (Nat.le_refl _)) h ?_
    ·intro j o ho hj
     rw [Array.getD_eq_getD_getElem?,Array.getElem?_replicate] at hj
     split at hj <;> simp at hj
    ·intro st' loc' a' w' h1 h2 h3 h4 h5
     obtain ⟨st2,loc2,k1,k2,k3,k4,k5⟩:=cN.II (K:=K .normal) (f:=canon st.next (dh ops.toList)) (W:=dh ops.toList) hA (fun st'=>by
      rcases BJ st.next (dh ops.toList) st' with e | ⟨r,q,k1,k2⟩
      ·exact .inl e
      ·exact .inr ⟨r,q,k1,k2⟩) (⟨st',loc',h1,h2,tr.trans h3,h4,h5⟩:cN cx X O (fun st'=>K .normal (canon st.next (dh ops.toList) st')) (dh ops.toList) st (aB O st loc w) a' w')
     exact hq st2 loc2 a' w' k1 k2 k3 k4 k5
   ·exact h.elim
theorem Fg (hok:iO P cx X) (anns:cp) {O:aD}:∀(c:Code) (cur:Nat) {st:St} {loc:Nat->Loc} {w:World} {a:Act} {K:Ex->St->VC},
  dS cx (aB O st loc w) st a->Good cx.eT X (aB O st loc w)->cC O w->(vc cx anns c cur st K).holds->c.wp P (mi cx X O K (writes anns cur c) st (aB O st loc w)) a w:=by
 intro c
 induction c with
 | skip=>intro cur st loc w a K hA g hO h;exact wp_skip ⟨st,loc,h,g,Tr.refl _,hA,fun _ _ _ _ h=>h⟩
 | region id ops draw=>
  intro cur st loc w a K hA g hO h
  simp only [vc] at h
  split at h
  ·exact u7 hok hA g hO h
  ·rename_i an _
   split at h
   case h_2=>exact h.elim
   rename_i hdis
   obtain ⟨hb,hk⟩:=h
   refine wp_mono (u7 (K:=fun e=>match e with | .normal=>fo an st | e=>K e) hok hA g hO hb) ?_
   intro e a' w' hq
   cases e with
   | normal=>exact u6 hdis hk hq
   | exit i=>exact hq
   | ret=>exact hq
   | goto l=>exact hq.elim
   | panic c=>exact hq.elim
   | outgrown=>exact hq.elim
 | seq c1 c2 ih1 ih2=>
  intro cur st loc w a K hA g hO h
  refine wp_seq ?_
  refine wp_mono (ih1 cur hA g hO h) ?_
  intro e a' w' hq
  refine GY (K:=K) (W:=writes anns cur c1) ?_ (fun e he=>by cases e <;> simp_all) ?_ hq
  ·rintro a1 w1 ⟨st',loc',k1,k2,k3,k4,k5⟩
   refine wp_mono (ih2 cur k4 k2 (hO.tr k3.size) k1) ?_
   intro e a2 w2 hq2
   exact hq2.mono k3 (W':=writes anns cur (.seq c1 c2)) (fun hm t ht=>k5 (fun h=>hm (List.mem_append.2 (.inl h))) t fun hm=>ht (List.mem_append.2 (.inl hm))) (fun n hn=>List.mem_append.2 (.inr hn))
  ·intro e a1 w1 hq1 _
   exact hq1.mono (Tr.refl _) (fun _ _ _ _ h=>h) (fun n hn=>List.mem_append.2 (.inl hn))
 | cond x c1 c2 ih1 ih2=>
  intro cur st loc w a K hA g hO h
  have hx:=bc hA.env x
  have h1:∀{K},(vc cx anns c1 cur st K).holds->c1.wp P (mi cx X O K (writes anns cur (.cond x c1 c2)) st (aB O st loc w)) a w:=fun h=>
   wp_mono (ih1 cur hA g hO h) fun e a' w' hq=>hq.mono (Tr.refl _) (fun _ _ _ _ h=>h) (fun n hn=>List.mem_append.2 (.inl hn))
  have h2:∀{K},(vc cx anns c2 cur st K).holds->c2.wp P (mi cx X O K (writes anns cur (.cond x c1 c2)) st (aB O st loc w)) a w:=fun h=>
   wp_mono (ih2 cur hA g hO h) fun e a' w' hq=>hq.mono (Tr.refl _) (fun _ _ _ _ h=>h) (fun n hn=>List.mem_append.2 (.inr hn))
  have base:∀{K:Ex->St->VC},(match b5 st.env x with
    | .lit true=>vc cx anns c1 cur st K
    | .lit false=>vc cx anns c2 cur st K
    | .d .bool g => .ite g (vc cx anns c1 cur st K) (vc cx anns c2 cur st K)
    | _ => .ff).holds->(Code.cond x c1 c2).wp P (mi cx X O K (writes anns cur (.cond x c1 c2)) st (aB O st loc w)) a w:=by
   intro K h
   split at h
   ·rename_i hl;rw [hl] at hx;exact wp_cond_true hx (h1 h)
   ·rename_i hl;rw [hl] at hx;exact wp_cond_false hx (h2 h)
   ·rename_i b hl
    rw [hl] at hx
    have hx:=(ca (eT:=cx.eT) (S:=aB O st loc w) (b:=b)).1 hx
    cases b
    ·exact wp_cond_false hx (h2 (h.2 rfl))
    ·exact wp_cond_true hx (h1 (h.1 rfl))
   ·exact h.elim
  simp only [vc] at h
  split at h
  ·exact base h
  ·rename_i an _
   split at h
   case h_2=>exact h.elim
   rename_i hdis
   obtain ⟨hb,hk⟩:=h
   refine wp_mono (base (K:=fun e st'=>match e with | .normal=>fo an st st' | e=>K e st') hb) ?_
   intro e a' w' hq
   cases e with
   | normal=>exact u6 hdis hk hq
   | exit i=>exact hq
   | ret=>exact hq
   | goto l=>exact hq.elim
   | panic c=>exact hq.elim
   | outgrown=>exact hq.elim
 | block id b ih=>
  intro cur st loc w a K hA g hO h
  refine wp_block ?_
  simp only [vc] at h
  split at h
  case h_2=>
   rename_i an _
   split at h
   case h_2=>exact h.elim
   rename_i hdis
   have hkeepW:=mh hdis
   obtain ⟨hb,hk⟩:=h
   refine wp_mono (ih id hA g hO hb) ?_
   intro e a' w' hq
   have join:cN cx X O (fo an st) (writes anns id b) st (aB O st loc w) a' w'->mi cx X O K (writes anns cur (.block id b)) st (aB O st loc w) .normal a' w':=by
    rintro ⟨st2,loc2,k1,k2,k3,k4,k5⟩
    simp only [fo] at k1
    split at k1
    case h_2=>exact k1.elim
    rename_i hpres
    obtain ⟨x',hx',hs',ho'⟩:=k1
    have hvx:=hk x' hx'
    split at hvx
    case h_2=>exact hvx.elim
    rename_i hbb
    simp only [Bool.and_eq_true] at hbb
    have hhead:∀t,t∉writes anns id b->∀v,look (bh an st x').env t=some v->look st.env t=some v:=by
     intro t ht v hv
     simp only [bh,cb] at hv
     split at hv
     ·rename_i u hu;exact absurd (kg hbb.2.2 hu) ht
     ·exact (dt hv).2
    obtain ⟨m1,m2,m3⟩:=oq (an:=an) (st:=st) x' k2 k4 k3 (by
      intro n v hv
      simp only [bh,cb] at hv
      split at hv
      ·rename_i u hu;cases hv;exact ia hs' hu
      ·obtain ⟨hmem,hl⟩:=dt hv
       refine ⟨v,?_,fW v⟩
       obtain ⟨v',hv'⟩:=iv hpres hmem
       have:=k5 (hkeepW n hmem).1 n (hkeepW n hmem).2 v' hv'
       rw [hl] at this
       cases this
       exact hv')
     (by
      intro n v hv
      simp only [bh] at hv
      exact ib ho' hv) hbb.1 hbb.2.1
    exact ⟨bh an st x',loc2,hvx,m1,m3,m2,fun _ t ht v hv=>hhead t ht v hv⟩
   cases e with
   | normal=>exact join hq
   | exit i=>
    show if i=id then _ else _
    by_cases hi:i=id
    ·rw [if_pos hi]
     subst hi
     obtain ⟨st',loc',k1,k2⟩:=hq
     simp only [Nat.beq_refl] at k1
     exact join ⟨st',loc',k1,k2⟩
    ·rw [if_neg hi]
     obtain ⟨st',loc',k1,k2⟩:=hq
     simp only [gZ hi] at k1
     exact ⟨st',loc',k1,k2⟩
   | ret=>exact hq
   | goto l=>exact hq.elim
   | panic c=>exact hq.elim
   | outgrown=>exact hq.elim
  refine wp_mono (ih id hA g hO h) ?_
  intro e a' w' hq
  cases e with
  | normal=>exact hq
  | exit i=>
   obtain ⟨st',loc',k1,k2,k3,k4,k5⟩:=hq
   simp only at k1
   show if i=id then _ else _
   split at k1
   ·rename_i hi
    rw [if_pos (Nat.eq_of_beq_eq_true hi)]
    exact ⟨st',loc',k1,k2,k3,k4,k5⟩
   ·rename_i hi
    rw [if_neg (fun e=>by rw [e,Nat.beq_refl] at hi;cases hi)]
    exact ⟨st',loc',k1,k2,k3,k4,k5⟩
  | ret=>exact hq
  | goto l=>exact hq.elim
  | panic c=>exact hq.elim
  | outgrown=>exact hq.elim
 | loop b ih=>
  intro cur st loc w a K hA g hO h
  simp only [vc] at h
  split at h
  ·rename_i hnone
   have hwl:writes anns cur (.loop b)=writes anns cur b:=by simp only [writes,hnone]
   split at h
   case h_2=>exact h.elim
   rename_i an _
   split at h
   ·rename_i hdis
    have hkeepW:=mh hdis
    obtain ⟨⟨x0,hx0,hs0,ho0⟩,h⟩:=h
    have hobk:∀x n v,look (bh an st x).aC n=some v->look (an.aC x) n=some v\/look st.aC n=some v:=by
     intro x n v hv
     simp only [bh,cb] at hv
     split at hv
     ·rename_i u hu;cases hv;exact .inl hu
     ·exact .inr (wz hv)
    have hhead:∀x,gv (writes anns cur b) (an.bk x)=true->∀t,t∉writes anns cur b->∀v,look (bh an st x).env t=some v->look st.env t=some v:=by
     intro x hk t ht v hv
     simp only [bh,cb] at hv
     split at hv
     ·rename_i u hu;exact absurd (kg hk hu) ht
     ·exact (dt hv).2
    refine wp_loop_ghost (fun n a' w'=>∃x loc',an.inv x/\an.bC x=n/\ef st.next (bh an st x).env=true/\(dU st.next (bh an st x).aC=true/\gv (writes anns cur b) (an.bk x)=true)/\
     (vc cx anns b cur (bh an st x) fun e st'=>match e with
       | .normal=>match gu st'.env an.bn with
        | true => .leaf (∃x',an.inv x'/\an.bC x' < an.bC x/\hY st' (an.bk x')/\hZ st' (an.aC x'++ee st an.ew))
        | false => .ff
       | e=>K e st').holds/\
     Good cx.eT X (aB O (bh an st x) loc' w')/\dS cx (aB O (bh an st x) loc' w') (bh an st x) a'/\Tr (aB O st loc w) (aB O (bh an st x) loc' w')) (an.bC x0) ?_ ?_
    ·have hx:=h x0 hx0
     split at hx
     ·rename_i hb
      simp only [Bool.and_eq_true] at hb
      obtain ⟨m1,m2,m3⟩:=oq (an:=an) (st:=st) x0 g hA (Tr.refl _) (by
        intro n v hv
        simp only [bh,cb] at hv
        split at hv
        ·rename_i u hu;cases hv;exact ia hs0 hu
        ·obtain ⟨_,hl⟩:=dt hv
         exact ⟨v,hl,fW v⟩)
       (by
        intro n v hv
        rcases hobk x0 n v hv with hv | hv
        ·exact ib ho0 hv
        ·exact ⟨v,hv,zP v⟩) hb.1 hb.2.1
      exact ⟨x0,loc,hx0,rfl,hb.1,hb.2,hx,m1,m2,m3⟩
     ·exact hx.elim
    ·rintro n a1 w1 ⟨x,loc1,hx,hn,hb1,hb2,hvc,g1,hA1,tr1⟩
     refine wp_mono (ih cur hA1 g1 (hO.tr tr1.size) hvc) ?_
     intro e a2 w2 hq
     have up:∀Kx:St->VC,cN cx X O Kx (writes anns cur b) (bh an st x) (aB O (bh an st x) loc1 w1) a2 w2->cN cx X O Kx (writes anns cur (.loop b)) st (aB O st loc w) a2 w2:=by
      rintro Kx ⟨st2,loc2,k1,k2,k3,k4,k5⟩
      exact ⟨st2,loc2,k1,k2,tr1.trans k3,k4,fun hm t ht v hv=>by rw [hwl] at hm ht;exact hhead x hb2.2 t ht v (k5 hm t ht v hv)⟩
     cases e with
     | normal=>
      obtain ⟨st2,loc2,k1,k2,k3,k4,k5⟩:=hq
      simp only at k1
      split at k1
      case h_2=>exact k1.elim
      rename_i hpres
      obtain ⟨x',hx',hlt,hs',ho'⟩:=k1
      have hvx:=h x' hx'
      refine ⟨an.bC x',by rw [<-hn];exact hlt,?_⟩
      split at hvx
      ·rename_i hb
       simp only [Bool.and_eq_true] at hb
       obtain ⟨m1,m2,m3⟩:=oq (an:=an) (st:=st) x' k2 k4 (tr1.trans k3) (by
         intro n v hv
         simp only [bh,cb] at hv
         split at hv
         ·rename_i u hu;cases hv;exact ia hs' hu
         ·obtain ⟨hmem,hl⟩:=dt hv
          refine ⟨v,?_,fW v⟩
          obtain ⟨v',hv'⟩:=iv hpres hmem
          have:=hhead x hb2.2 n (hkeepW n hmem).2 v' (k5 (hkeepW n hmem).1 n (hkeepW n hmem).2 v' hv')
          rw [hl] at this
          cases this
          exact hv')
        (by
         intro n v hv
         simp only [bh] at hv
         exact ib ho' hv) hb.1 hb.2.1
       exact ⟨x',loc2,hx',rfl,hb.1,hb.2,hvx,m1,m2,m3⟩
      ·exact hvx.elim
     | exit i=>exact up _ hq
     | ret=>exact up _ hq
     | goto l=>exact hq.elim
     | panic c=>exact hq.elim
     | outgrown=>exact hq.elim
   ·exact h.elim
  ·rename_i f hsome
   have hwl:writes anns cur (.loop b)=allM :: writes anns cur b:=by simp only [writes,hsome]
   generalize xH st (f st)=an at h
   split at h
   case h_2=>exact h.elim
   rename_i hdis
   have hkeepW:=mh hdis
   obtain ⟨hfit,h⟩:=h
   obtain ⟨x0,hx0,_,hf0⟩:=u3 hfit
   refine wp_loop_ghost (fun n a' w'=>∃x loc',an.inv x/\an.bC x=n/\np an st (writes anns cur b) x=true/\
    (vc cx anns b cur (bT an st x) fun e st'=>match e with
      | .normal=>match gu st'.env an.bn with
       | true=>ta an st st' fun x'=>an.bC x' < an.bC x
       | false => .ff
      | e=>K e st').holds/\
    Good cx.eT X (aB O (bT an st x) loc' w')/\dS cx (aB O (bT an st x) loc' w') (bT an st x) a'/\Tr (aB O st loc w) (aB O (bT an st x) loc' w')) (an.bC x0) ?_ ?_
   ·have hx:=h x0 hx0
    split at hx
    case h_2=>exact hx.elim
    rename_i hok2
    obtain ⟨loc',m1,m2,m3⟩:=u5 (an:=an) (st:=st) x0 g hA (Tr.refl _) hok2 (fun n hn v hv=>⟨v,hv,fW v⟩) hf0
    exact ⟨x0,loc',hx0,rfl,hok2,hx,m1,m2,m3⟩
   ·rintro n a1 w1 ⟨x,loc1,hx,hn,hokx,hvc,g1,hA1,tr1⟩
    refine wp_mono (ih cur hA1 g1 (hO.tr tr1.size) hvc) ?_
    intro e a2 w2 hq
    have up:∀Kx:St->VC,cN cx X O Kx (writes anns cur b) (bT an st x) (aB O (bT an st x) loc1 w1) a2 w2->cN cx X O Kx (writes anns cur (.loop b)) st (aB O st loc w) a2 w2:=by
     rintro Kx ⟨st2,loc2,k1,k2,k3,k4,k5⟩
     exact ⟨st2,loc2,k1,k2,tr1.trans k3,k4,fun hm=>by rw [hwl] at hm;exact absurd (List.mem_cons_self) hm⟩
    cases e with
    | normal=>
     obtain ⟨st2,loc2,k1,k2,k3,k4,k5⟩:=hq
     simp only at k1
     split at k1
     case h_2=>exact k1.elim
     rename_i hpres
     obtain ⟨x',hx',hlt,hf'⟩:=u3 k1
     have hvx:=h x' hx'
     split at hvx
     case h_2=>exact hvx.elim
     rename_i hok2
     refine ⟨an.bC x',by rw [<-hn];exact hlt,?_⟩
     obtain ⟨loc',m1,m2,m3⟩:=u5 (an:=an) (st:=st) x' k2 k4 (tr1.trans k3) hok2 (fun n hn v hv=>by
      obtain ⟨v',hv'⟩:=iv hpres hn
      have h1:=k5 (hkeepW n hn).1 n (hkeepW n hn).2 v' hv'
      refine ⟨v',hv',?_⟩
      have h2:=BQ hokx hn h1 (hkeepW n hn).2
      rw [hv] at h2;cases h2
      exact fW v) hf'
     exact ⟨x',loc',hx',rfl,hok2,hvx,m1,m2,m3⟩
    | exit i=>exact up _ hq
    | ret=>exact up _ hq
    | goto l=>exact hq.elim
    | panic c=>exact hq.elim
    | outgrown=>exact hq.elim
 | rangeFunc f ps as b _ _=>intro cur st loc w a K _ _ _ h;exact h.elim
 | exit id=>intro cur st loc w a K hA g hO h;exact wp_exit ⟨st,loc,h,g,Tr.refl _,hA,fun _ _ _ _ h=>h⟩
 | scope b _=>intro cur st loc w a K _ _ _ h;exact h.elim
 | label l=>intro cur st loc w a K _ _ _ h;exact h.elim
 | goto l=>intro cur st loc w a K _ _ _ h;exact h.elim
 | ret=>intro cur st loc w a K hA g hO h;exact wp_ret ⟨st,loc,h,g,Tr.refl _,hA,fun _ _ _ _ h=>h⟩
 | refuse why=>intro cur st loc w a K _ _ _ h;exact h.elim
end
end Go.Vg

namespace Go.Vg
open Go.RowKit
@[reducible] def HL:List Ty->Type
 | []=>Unit
 | [t]=>D t
 | t :: u :: r=>D t × HL (u :: r)
def eQ:List Ty->Bool
 | []=>true
 | t :: r=>t.flat && eQ r
def wM (st:St) (want:Ty) (n:Nat):Option (D want):=
 match look st.aC n with
 | some (.ext 0 t xs)=>match h:Ty.beq t want with
  | true=>some (bx h (a:=t) xs)
  | false=>none
 | _=>none
def BR (lend:Bool) (st:St) (t:Ty) (a:bH):Option (D t):=
 match lend,t,a with
 | true, .slice e, .one (.aS n)=>pa st e (.aS n)
 | true,t, .one (.xd n .top)=>wM st t n
 | _,t,a=>kH t a
def iw (lend:Bool) (st:St):(ts:List Ty)->List bH->Option (HL ts)
 | [],[]=>some ()
 | [t],[a]=>BR lend st t a
 | t :: u :: r,a :: as=>match BR lend st t a,iw lend st (u :: r) as with
  | some x,some xs=>some (x,xs)
  | _,_=>none
 | _,_=>none
def jL:(ts:List Ty)->HL ts->List bH
 | [],_=>[]
 | [t],y=>[.one (.d t y)]
 | t :: u :: r,ys => .one (.d t ys.1) :: jL (u :: r) ys.2
def mj:List bH->SV
 | [v] => .s v
 | vs => .gU vs
def pI (st:St) (c:C):C × St:=
 match c with
 | .aS n=>match look st.aC n with
  | some (.aS t xs)=>(.d (.slice t) xs,aW st n)
  | _=>(c,st)
 | .xd n .top=>match look st.aC n with
  | some (.ext 0 t xs)=>(.d t xs,aW st n)
  | _=>(c,st)
 | c=>(c,st)
def ot:St->List C->List C × St
 | st,[]=>([],st)
 | st,c :: cs=>match pI st c with
  | (c',st1)=>match ot st1 cs with
   | (cs',st2)=>(c' :: cs',st2)
def rW (st:St) (v:bH):bH × St:=
 match v with
 | .one c=>match pI st c with
  | (c',st')=>(.one c',st')
 | .agg cs=>match ot st cs with
  | (cs',st')=>(.agg cs',st')
def ux (lend:Bool) (st:St) (v:bH):bH × St:=
 match lend,v with
 | true, .one c=>(.one c,st)
 | _,v=>rW st v
def mP (lend:Bool):St->List bH->List bH × St
 | st,[]=>([],st)
 | st,v :: vs=>match ux lend st v with
  | (v',st1)=>match mP lend st1 vs with
   | (vs',st2)=>(v' :: vs',st2)
def eY (ts rts:List Ty) (pre:HL ts->Prop) (post:HL ts->HL rts->Prop):bA:=fun args st K=>
 match mP (eQ rts) st args with
 | (args,st)=>match iw (eQ rts) st ts args with
  | some xs => .and (pre xs) (.all (HL rts) fun ys => .imp (post xs ys) (K (mj (jL rts ys)) st))
  | none => .ff
def aR (ts rts:List Ty) (pre:HL ts->Prop) (g:HL ts->HL rts):bA:=fun args st K=>
 match mP (eQ rts) st args with
 | (args,st)=>match iw (eQ rts) st ts args with
  | some xs => .and (pre xs) (K (mj (jL rts (g xs))) st)
  | none => .ff
inductive HS (α:Type) where
 | ret (a:α)
 | ite (c:Bool) (a b:HS α)
def HS.eval {α:Type}:HS α->α
 | .ret a=>a
 | .ite c a b=>match c with
  | true=>a.eval
  | false=>b.eval
def Dv (st:St) (want:Ty) (c:C):Option (D want):=
 match c with
 | .aS n=>match look st.aC n with
  | some (.aS t xs)=>match h:Ty.beq (.slice t) want with
   | true=>some (bx h (a:=.slice t) xs)
   | false=>none
  | _=>none
 | .xd n .top=>wM st want n
 | c=>oU want c
def iy (st:St):(t:Ty)->List C->Option (D t × List C)
 | .prod a b,cs=>match iy st a cs with
  | some (x,cs1)=>match iy st b cs1 with
   | some (y,cs2)=>some ((x,y),cs2)
   | none=>none
  | none=>none
 | .unit,cs=>some ((),cs)
 | t,c :: cs=>match Dv st t c with
  | some x=>some (x,cs)
  | none=>none
 | _,[]=>none
def BS (st:St) (want:Ty):bH->Option (D want)
 | .one c=>Dv st want c
 | .agg cs=>match want.one with
  | true=>none
  | false=>match iy st want cs with
   | some (x,[])=>some x
   | _=>none
def pJ (st:St):(ts:List Ty)->List bH->Option (HL ts)
 | [],[]=>some ()
 | [t],[a]=>BS st t a
 | t :: u :: r,a :: as=>match BS st t a,pJ st (u :: r) as with
  | some x,some xs=>some (x,xs)
  | _,_=>none
 | _,_=>none
def ou (cx:Cx) (st:St):List ResultVar->(List bH->VC)->VC
 | [],K=>K []
 | .tmp t :: r,K=>match ev st.env (.tmp t) with
  | .s v=>ou cx st r fun vs=>K (v :: vs)
  | _ => .ff
 | .cell a t :: r,K=>o8 cx st t (b5 st.env (.tmp a)) fun sv=>match sv with
  | .s v=>ou cx st r fun vs=>K (v :: vs)
  | _ => .ff
def BT (cx:Cx) (anns:cp) (res:List ResultVar) (c:Code) (st:St) (K:List bH->St->VC):VC:=
 vc cx anns c 0 st fun e st'=>match e with
  | .exit _ => .ff
  | _=>ou cx st' res fun vs=>K vs st'
def lH (B:Cx) (Γ:List (FuncId × (Bool × bA))) (N:Nat):Cx:={B with Γ:=Γ,N:=N}
def nr:Nat->(ts:List Ty)->HL ts->List (Nat × SV)
 | _,[],_=>[]
 | k,[t],x=>[(k, .s (.one (.d t x)))]
 | k,t :: u :: r,xs=>(k, .s (.one (.d t xs.1))) :: nr (k + 1) (u :: r) xs.2
def ki (ts:List Ty) (xs:HL ts):St:={env:=nr 0 ts xs,aC:=[],next:=0}
def AV (B:Cx) (Γ:List (FuncId × (Bool × bA))) (N:Nat) (anns:cp) (res:List ResultVar) (c:Code) (ts rts:List Ty) (post:HL ts->HL rts->Prop) (xs:HL ts):VC:=
 BT (lH B Γ N) anns res c (ki ts xs) fun vs st=>match pJ st rts vs with
  | some ys => .leaf (post xs ys)
  | none => .ff
section
variable {eT:TypeId} {X:Ext} {P:Program} {cx:Cx}
def fK (eT:TypeId) (A:aD) (w:World):(ts:List Ty)->HL ts->List Value->Prop
 | [],_,vs=>vs = []
 | [t],x,vs=>∃v,vs = [v]/\VR eT t x A w v
 | t :: u :: r,xs,vs=>∃v vs',vs=v :: vs'/\VR eT t xs.1 A w v/\fK eT A w (u :: r) xs.2 vs'
def xI:List Value->Value
 | [v]=>v
 | vs => .tuple vs.toArray
structure bB (P:Program) (eT:TypeId) (X:Ext) (f:FuncId) (ts rts:List Ty) (pre:HL ts->Prop) (post:HL ts->HL rts->Prop):Prop where
 fn:∃fn,P.funcs[f]?=some fn/\fn.body.isNone=false/\(fn.name == "runtime.NumGoroutine")=false
 ok:∀O w xs vs,X.o3 w->cC O w->fK eT O w ts xs vs->pre xs->
  Calls P f vs.toArray w fun e w'=>∃us ys,e = .returned (xI us)/\post xs ys/\fK eT O w' rts ys us/\Below w.heap.size w w'
def pK (tmps:Array Value):ResultVar->Sem Value
 | .tmp t=>pure (tmps.getD t undef)
 | .cell b t=>do loadVar t (<-asAddr (tmps.getD b undef))
theorem zQ (hok:TyOK P cx) {O:aD} {st:St} {loc:Nat->Loc} {w:World} {a:Act} (g:Good cx.eT X (aB O st loc w)) (he:dH cx.eT (aB O st loc w) st.env a) :
  ∀{rs:List ResultVar} {K:List bH->VC},(ou cx st rs K).holds->
  ∃vs us,(K vs).holds/\bR cx.eT (aB O st loc w) vs us/\(rs.mapM (pK a.tmps):Sem (List Value)).run P w = .ok us w:=by
 intro rs
 induction rs with
 | nil=>intro K h;exact ⟨[],[],h, .nil,rfl⟩
 | cons r rs ih=>
  intro K h
  cases r with
  | tmp t=>
   simp only [ou] at h
   split at h
   ·rename_i v hv
    obtain ⟨vs,us,h1,h2,h3⟩:=ih h
    have hr:=gl he (.tmp t)
    rw [hv] at hr
    refine ⟨v :: vs,a.tmps.getD t undef :: us,h1, .cons hr h2,?_⟩
    rw [List.mapM_cons]
    simp only [pK,Sem.run_bind,Sem.run_pure,Result.andThen_ok,h3]
   ·exact h.elim
  | cell b t=>
   simp only [ou] at h
   obtain ⟨sv,u,h1,h2,h3⟩:=nO (P:=P) hok g (bc he (.tmp b)) h
   split at h1
   ·rename_i v
    obtain ⟨vs,us,k1,k2,k3⟩:=ih h1
    have h3:=h3 w (Below.refl _ _)
    refine ⟨v :: vs,u :: us,k1, .cons h2 k2,?_⟩
    rw [List.mapM_cons]
    have h4:(do loadVar t (<-asAddr (a.tmps.getD b undef)):Sem Value).run P w = .ok u w:=by
     have h3:(Instr.loadAt t (a.tmps.getD b undef)).run P w = .ok u w:=h3
     generalize a.tmps.getD b undef=p at h3
     cases p with
     | pointer q=>
      cases q with
      | none=>simp [Instr.loadAt,Instr.sureAddr] at h3
      | some q=>simpa [Instr.loadAt,Instr.sureAddr,asAddr] using h3
     | _=>simp [Instr.loadAt,Instr.sureAddr] at h3
    simp only [pK,Sem.run_bind] at h4 ⊢
    simp only [h4,Sem.run_pure,Result.andThen_ok,k3]
   ·exact h1.elim
theorem bR.len {S:aZ} {xs:List bH} {us:List Value} (h:bR eT S xs us):xs.length=us.length:=by
 induction h with
 | nil=>rfl
 | cons _ _ ih=>simp [ih]
theorem pL {S:aZ} {vs:List bH} {us:List Value} (h:bR eT S vs us):b4 eT S (mj vs) (xI us):=by
 match vs,us,h with
 | [],[],h=>exact ⟨[],rfl,h⟩
 | [v],[u], .cons h1 .nil=>exact h1
 | _ :: _ :: _,_ :: _ :: _,h=>exact ⟨_,rfl,h⟩
theorem mQ (hok:iO P cx X) {f:FuncId} {fn:Func} {c:Code} (hf:P.funcs[f]?=some fn) (hb:fn.body=some c) (hN:cx.N=fn.ntmps) (anns:cp) {O:aD} {st:St} {loc:Nat->Loc} {w:World}
  {args:Array Value} {K:List bH->St->VC} (hsz:args.size<=fn.ntmps) (g:Good cx.eT X (aB O st loc w)) (hO:cC O w)
  (henv:∀t sv,look st.env t=some sv->∃v,args[t]?=some v/\b4 cx.eT (aB O st loc w) sv v)
  (h:(BT cx anns fn.results.toList c st K).holds) :
  Calls P f args w fun e w'=>∃vs us st' loc',e = .returned (xI us)/\(K vs st').holds/\bR cx.eT (aB O st' loc' w') vs us/\Good cx.eT X (aB O st' loc' w')/\Tr (aB O st loc w) (aB O st' loc' w'):=by
 refine calls_of_wp hf hb ?_
 have hA:dS cx (aB O st loc w) st {tmps:=args++Array.replicate (fn.ntmps - args.size) undef,defers:=[]}:=by
  refine ⟨by simp [hN];omega,rfl,fun t sv ht => ?_⟩
  obtain ⟨v,hv,hr⟩:=henv t sv ht
  have hlt:t < args.size:=by
   rcases Nat.lt_or_ge t args.size with hh | hh
   ·exact hh
   ·rw [Array.getElem?_eq_none hh] at hv;cases hv
  rw [Array.getD_eq_getD_getElem?,Array.getElem?_append,if_pos hlt,hv]
  exact hr
 refine wp_mono (Fg hok anns c 0 hA g hO h) ?_
 have fin:∀(a':Act) (w':World),cN cx X O (fun st'=>ou cx st' fn.results.toList fun vs=>K vs st') (writes anns 0 c) st (aB O st loc w) a' w'->a'.defers = []/\∃v,(results fn a'.tmps).run P w' = .ok v w'/\
   ∃vs us st' loc',Ending.returned v = .returned (xI us)/\(K vs st').holds/\bR cx.eT (aB O st' loc' w') vs us/\Good cx.eT X (aB O st' loc' w')/\Tr (aB O st loc w) (aB O st' loc' w'):=by
  rintro a' w' ⟨st',loc',k1,k2,k3,k4,_⟩
  obtain ⟨vs,us,m1,m2,m3⟩:=zQ (P:=P) hok.toTyOK k2 k4.env k1
  refine ⟨k4.defers,xI us,?_,vs,us,st',loc',rfl,m1,m2,k2,k3⟩
  have hm:(fn.results.mapM (pK a'.tmps):Sem (Array Value)).run P w' = .ok us.toArray w':=by
   rw [<-Array.toArray_toList (xs:=fn.results),List.mapM_toArray,Sem.run_map,m3]
   rfl
  have he:results fn a'.tmps=(do
    let xs <-fn.results.mapM (pK a'.tmps)
    return if h:xs.size=1 then xs[0] else .tuple xs):=by
   unfold results
   congr 1
  rw [he,Sem.run_bind,hm]
  simp only [Result.andThen_ok,Sem.run_pure]
  match us with
  | []=>rfl
  | [u]=>rfl
  | _ :: _ :: _=>rfl
 intro e a' w' hq
 cases e with
 | normal=>exact fin a' w' hq
 | ret=>exact fin a' w' hq
 | exit n=>obtain ⟨st',loc',k1,_⟩:=hq;exact k1.elim
 | goto l=>exact hq.elim
 | panic c=>exact hq.elim
 | outgrown=>exact hq.elim
end
end Go.Vg

namespace Go.Vg
open Go.RowKit
section
variable {X:Ext} {P:Program} {cx:Cx}
theorem Dw {O:aD} {st:St} {loc:Nat->Loc} {w:World} {b o:Nat} (h:¬ (aB O st loc w).A b o):¬ O b o:=fun k=>h (.inl k)
theorem IB {O:aD} {st:St} {loc:Nat->Loc} {w:World} {t:Ty} {x:D t} {v:Value} {eT:TypeId} (h:VR eT t x (aB O st loc w).A w v):VR eT t x O w v:=
 VR.frame h fun _ _ _ ha hc=>⟨hc,Dw ha⟩
theorem AW {O:aD} {st:St} {loc:Nat->Loc} {w:World} (g:Good cx.eT X (aB O st loc w)) {n:Nat} {t:Ty} {xs:List (D t)} (hob:look st.aC n=some (.aS t xs))
  {v:Value} (hx:CR cx.eT (aB O st loc w) (.aS n) v):VR cx.eT (.slice t) xs O w v:=by
 rcases (g.obj _ _ hob).2 with ⟨rfl,⟨a,ha⟩,_⟩ | ⟨b,vs,T,cap,hl,df,hheap,hvs,hcap,hbig,he⟩
 ·exact VR.bD rfl ⟨_,rfl,by simp, .inl ⟨rfl,a,0,(hx.2 _ _ hob).trans ha⟩⟩
 refine VR.bD rfl ⟨_,rfl,hbig, .inr ⟨b,0,cap,(hx.2 _ _ hob).trans hl,hcap,fun i y hy => ?_⟩⟩
 obtain ⟨us,h1,h2⟩:=he i y hy
 refine ⟨us,h1.frame fun _ _ _ ha hc=>⟨hc,Dw ha⟩,fun j u hj=>⟨?_,?_⟩⟩
 ·rw [Nat.zero_add,cell_of_row w b _ vs T (0,0) hheap];exact h2 j u hj
 ·exact g.out n _ b _ hob (by rw [df];simp)
theorem AX {O:aD} {st:St} {loc:Nat->Loc} {w:World} (g:Good cx.eT X (aB O st loc w)) {n:Nat} {t:Ty} {xs:D t} (hob:look st.aC n=some (.ext 0 t xs))
  {v:Value} (hx:CR cx.eT (aB O st loc w) (.xd n .top) v) {A:aD} (hA:∀b∈(loc n).bs,∀o,¬ A b o):VR cx.eT t xs A w v:=by
 have hd:fj t xs (loc n) w:=X.deep.1 (g.obj _ _ hob).2
 obtain ⟨e,s,rfl,hs⟩:=lY hd
 exact hd.data (hx.2 _ _ hob) hA
theorem u9 {O:aD} {st:St} {loc:Nat->Loc} {w:World} (g:Good cx.eT X (aB O st loc w)) {n:Nat} {t:Ty} {xs:D t} (h:wM st t n=some xs)
  {v:Value} (hx:CR cx.eT (aB O st loc w) (.xd n .top) v):VR cx.eT t xs O w v:=by
 unfold wM at h
 split at h
 ·rename_i t' ys hob
  split at h
  ·cases h;rename_i hb
   exact fF hb _ (AX g hob hx fun b hb o=>g.out n _ b o hob hb)
  ·cases h
 ·cases h
theorem AY {O:aD} {st:St} {loc:Nat->Loc} {w:World} (g:Good cx.eT X (aB O st loc w)) {want:Ty} {c:C} {x:D want} {v:Value} (h:Dv st want c=some x)
  (hc:CR cx.eT (aB O st loc w) c v):VR cx.eT want x O w v:=by
 unfold Dv at h
 split at h
 ·rename_i n
  split at h
  ·rename_i t xs hob
   split at h
   ·cases h;rename_i hb;exact fF hb _ (AW g hob hc)
   ·cases h
  ·cases h
 ·exact u9 g h hc
 ·exact IB (mY h hc)
theorem Dx {O:aD} {st:St} {loc:Nat->Loc} {w:World} (g:Good cx.eT X (aB O st loc w)):∀{t:Ty} {cs cs':List C} {x:D t} {vs:List Value},iy st t cs=some (x,cs')->b6 cx.eT (aB O st loc w) cs vs->
  ∃us vs',vs=us++vs'/\R cx.eT t x O w us/\b6 cx.eT (aB O st loc w) cs' vs':=by
 have one:∀{t:Ty} {c:C} {cs cs':List C} {x:D t} {vs:List Value},(match Dv st t c with | some x=>some (x,cs) | none=>none)=some (x,cs')->b6 cx.eT (aB O st loc w) (c :: cs) vs->
   ∃us vs',vs=us++vs'/\R cx.eT t x O w us/\b6 cx.eT (aB O st loc w) cs' vs':=by
  intro t c cs cs' x vs h hc
  cases hc with
  | cons h1 h2 h3=>
   rename_i v vs0
   split at h
   ·rename_i y hy
    cases h
    exact ⟨[v],vs0,rfl,(qN h2 (AY g hy h1)).2,h3⟩
   ·cases h
 intro t
 induction t with
 | prod a b iha ihb=>
  intro cs cs' x vs h hc
  simp only [iy] at h
  split at h
  ·rename_i y cs1 h1
   split at h
   ·rename_i z cs2 h2
    cases h
    obtain ⟨u1,v1,rfl,r1,k1⟩:=iha h1 hc
    obtain ⟨u2,v2,rfl,r2,k2⟩:=ihb h2 k1
    exact ⟨u1++u2,v2,by simp,⟨u1,u2,rfl,r1,r2⟩,k2⟩
   ·cases h
  ·cases h
 | unit=>
  intro cs cs' x vs h hc
  simp only [iy] at h
  cases h
  exact ⟨[],vs,rfl,rfl,hc⟩
 | bool=>intro cs cs' x vs h hc;cases cs with | nil=>simp [iy] at h | cons c cs=>exact one (t:=.bool) h hc
 | int k=>intro cs cs' x vs h hc;cases cs with | nil=>simp [iy] at h | cons c cs=>exact one (t:=.int k) h hc
 | str=>intro cs cs' x vs h hc;cases cs with | nil=>simp [iy] at h | cons c cs=>exact one (t:=.str) h hc
 | err=>intro cs cs' x vs h hc;cases cs with | nil=>simp [iy] at h | cons c cs=>exact one (t:=.err) h hc
 | cX=>intro cs cs' x vs h hc;cases cs with | nil=>simp [iy] at h | cons c cs=>exact one (t:=.cX) h hc
 | slice e _=>intro cs cs' x vs h hc;cases cs with | nil=>simp [iy] at h | cons c cs=>exact one (t:=.slice e) h hc
theorem xJ {O:aD} {st:St} {loc:Nat->Loc} {w:World} (g:Good cx.eT X (aB O st loc w)) {want:Ty} {c:bH} {x:D want} {v:Value} (h:BS st want c=some x)
  (hc:dR cx.eT (aB O st loc w) c v):VR cx.eT want x O w v:=by
 cases c with
 | one c=>exact AY g h hc
 | agg cs=>
  simp only [BS] at h
  obtain ⟨vs,rfl,hcs⟩:=hc
  split at h
  ·cases h
  ·rename_i ho
   split at h
   ·rename_i y hy
    cases h
    obtain ⟨us,vs',rfl,r,k⟩:=Dx g hy hcs
    cases k
    unfold VR
    rw [if_neg (by simp [ho])]
    exact ⟨_,rfl,by simpa using r⟩
   ·cases h
theorem xK {O:aD} {st:St} {loc:Nat->Loc} {w:World} (g:Good cx.eT X (aB O st loc w)):∀{ts:List Ty} {vs:List bH} {ys:HL ts} {us:List Value},pJ st ts vs=some ys->
  bR cx.eT (aB O st loc w) vs us->fK cx.eT O w ts ys us
 | [],[],_,_,_, .nil=>rfl
 | [t],[a],ys,_,h, .cons h1 .nil=>⟨_,rfl,xJ g h h1⟩
 | t :: u :: r,a :: as,ys,_,h, .cons h1 h2=>by
  simp only [pJ] at h
  split at h
  ·rename_i x xs k1 k2
   cases h
   exact ⟨_,_,rfl,xJ g k1 h1,xK g k2 h2⟩
  ·cases h
 | [],_ :: _,_,_,h,_=>by simp [pJ] at h
 | [_],[],_,_,h,_=>by simp [pJ] at h
 | [_],_ :: _ :: _,_,_,h,_=>by simp [pJ] at h
 | _ :: _ :: _,[],_,_,h,_=>by simp [pJ] at h
theorem tm {eT:TypeId} {O:aD} {w:World} {S:aZ} (hS:S.w=w) (hA:∀b o,¬ O b o->¬ S.A b o):∀(ts:List Ty) (k:Nat) (xs:HL ts) (vs:List Value),fK eT O w ts xs vs->
  ∀t sv,look (nr k ts xs) t=some sv->k<=t/\∃v,vs[t - k]?=some v/\b4 eT S sv v
 | [],k,xs,vs,_,t,sv,h=>by simp [nr,look] at h
 | [ty],k,x,_,⟨v,rfl,hv⟩,t,sv,h=>by
  simp only [nr,bw] at h
  split at h
  ·cases h
   rename_i e;subst e
   exact ⟨Nat.le_refl _,v,by simp,VR.frame hv fun b o _ ha hc=>⟨by rw [hS];exact hc,hA b o ha⟩⟩
  ·simp [look] at h
 | ty :: u :: r,k,xs,_,⟨v,vs',rfl,hv,hr⟩,t,sv,h=>by
  simp only [nr,bw] at h
  split at h
  ·cases h
   rename_i e;subst e
   exact ⟨Nat.le_refl _,v,by simp,VR.frame hv fun b o _ ha hc=>⟨by rw [hS];exact hc,hA b o ha⟩⟩
  ·obtain ⟨h1,v',h2,h3⟩:=tm hS hA (u :: r) (k + 1) xs.2 vs' hr t sv h
   refine ⟨by omega,v',?_,h3⟩
   rw [show t - k=(t - (k + 1)) + 1 from by omega,List.getElem?_cons_succ]
   exact h2
theorem fK.length {eT:TypeId} {O:aD} {w:World}:∀{ts:List Ty} {xs:HL ts} {vs:List Value},fK eT O w ts xs vs->vs.length=ts.length
 | [],_,_,h=>by rw [show _ = [] from h];rfl
 | [_],_,_,⟨_,rfl,_⟩=>rfl
 | _ :: u :: r,_,_,⟨_,_,rfl,_,h⟩=>by simp [fK.length h]
def wf:(t:Ty)->D t->Prop
 | .int k,x=>k.min<=x/\x<=k.max
 | .str,x=>x.length<=aL
 | .prod a b,x=>wf a x.1/\wf b x.2
 | .slice e,x=>x.length<=aL/\∀(i:Nat) y,x[i]?=some y->wf e y
 | _,_=>True
def dN:(ts:List Ty)->HL ts->Prop
 | [],_=>True
 | [t],x=>wf t x
 | t :: u :: r,xs=>wf t xs.1/\dN (u :: r) xs.2
theorem R.wf {eT:TypeId}:∀{t:Ty} {x:D t} {A:aD} {w:World} {vs:List Value},R eT t x A w vs->Vg.wf t x:=by
 intro t
 induction t with
 | int k=>intro x A w vs h;exact h.2
 | str=>intro x A w vs h;exact h.2
 | prod a b iha ihb=>intro x A w vs h;obtain ⟨_,_,_,h1,h2⟩:=h;exact ⟨iha h1,ihb h2⟩
 | slice e ih=>
  intro x A w vs h
  obtain ⟨v,_,hl,h⟩:=h
  refine ⟨hl,fun i y hy => ?_⟩
  rcases h with ⟨rfl,_⟩ | ⟨b,o,cap,_,_,h⟩
  ·simp at hy
  ·obtain ⟨us,h1,_⟩:=h i y hy;exact ih h1
 | _=>intro x A w vs h;trivial
theorem VR.wf {eT:TypeId} {t:Ty} {x:D t} {A:aD} {w:World} {v:Value} (h:VR eT t x A w v):Vg.wf t x:=(VR.cells h).wf
theorem fK.wf {eT:TypeId} {O:aD} {w:World}:∀{ts:List Ty} {xs:HL ts} {vs:List Value},fK eT O w ts xs vs->dN ts xs
 | [],_,_,_=>trivial
 | [_],_,_,⟨_,_,h⟩=>h.wf
 | _ :: _ :: _,_,_,⟨_,_,_,h,h'⟩=>⟨h.wf,fK.wf h'⟩
theorem BU {B:Cx} {X:Ext} {Γ:List (FuncId × (Bool × bA))} {N:Nat} {f:FuncId} {fn:Func} {c:Code} (hok:iO P (lH B Γ N) X) (hf:P.funcs[f]?=some fn) (hb:fn.body=some c) (hn:(fn.name == "runtime.NumGoroutine")=false)
  (hN:fn.ntmps=N) {ts rts:List Ty} (anns:HL ts->cp) (hts:ts.length<=N) {pre:HL ts->Prop} {post:HL ts->HL rts->Prop}
  (h:∀xs,dN ts xs->pre xs->(AV B Γ N (anns xs) fn.results.toList c ts rts post xs).holds) :
  bB P B.eT X f ts rts pre post:=by
 refine ⟨⟨fn,hf,by rw [hb];rfl,hn⟩,fun O w xs vs hG hO ha hp => ?_⟩
 have g0:Good (lH B Γ N).eT X (aB O (ki ts xs) (fun _=>default) w):=
  ⟨fun n oc h=>by simp [aB,ki,look] at h,fun n m oc oc' b h=>by simp [aB,ki,look] at h,fun n oc b off h=>by simp [aB,ki,look] at h,hG,fun b hb ⟨n,oc,h,_⟩=>by simp [aB,ki,look] at h⟩
 have hA0:∀b o,¬ O b o->¬ (aB O (ki ts xs) (fun _=>default) w).A b o:=by
  rintro b o h (k | ⟨n,oc,k,_⟩)
  ·exact h k
  ·simp [aB,ki,look] at k
 refine Calls.mono (mQ hok hf hb hN.symm (anns xs) (by simpa [ha.length,hN] using hts) g0 hO ?_ (h xs ha.wf hp)) ?_
 ·intro t sv ht
  obtain ⟨_,v,h1,h2⟩:=tm (eT:=B.eT) (S:=aB O (ki ts xs) (fun _=>default) w) rfl hA0 ts 0 xs vs ha t sv ht
  exact ⟨v,by simpa using h1,h2⟩
 ·rintro e w' ⟨vs',us,st',loc',rfl,h1,h2,h3,h4⟩
  split at h1
  ·rename_i ys hys
   refine ⟨us,ys,rfl,h1,xK h3 hys h2,h4.os,h4.output,h4.size,fun k hk=>h4.block k hk ?_⟩
   rintro ⟨n,oc,k,_⟩
   simp [aB,ki,look] at k
  ·exact h1.elim
def fL:aD:=fun _ _=>False
def outer (lend:Bool) (A:aD):aD:=match lend with
 | true=>fL
 | false=>A
theorem xL {O:aD} {st:St} {loc:Nat->Loc} {w:World} (g:Good cx.eT X (aB O st loc w)) {lend:Bool} {t:Ty} {a:bH} {x:D t} {v:Value} (h:BR lend st t a=some x)
  (ha:dR cx.eT (aB O st loc w) a v):VR cx.eT t x (outer lend (aB O st loc w).A) w v:=by
 have base:kH t a=some x->VR cx.eT t x (outer lend (aB O st loc w).A) w v:=by
  intro h
  refine VR.uq (fG h ha) fun b o k => ?_
  cases lend with
  | true=>exact id
  | false=>exact k
 unfold BR at h
 split at h
 ·rename_i e n x' heq
  unfold pa at h
  simp only [ua] at h
  split at h
  ·rename_i e' ys hob
   split at h
   ·cases h;rename_i hb
    exact fF hb _ (VR.uq (AW g hob ha) fun _ _ _=>id)
   ·cases h
  ·cases h
 ·exact VR.uq (u9 g h ha) fun _ _ _=>id
 ·exact base h
theorem vb {O:aD} {st:St} {loc:Nat->Loc} {w:World} (g:Good cx.eT X (aB O st loc w)) {lend:Bool}:∀{ts:List Ty} {as:List bH} {xs:HL ts} {vs:List Value},iw lend st ts as=some xs->
  bR cx.eT (aB O st loc w) as vs->fK cx.eT (outer lend (aB O st loc w).A) w ts xs vs
 | [],[],_,_,_, .nil=>rfl
 | [t],[a],xs,_,h, .cons h1 .nil=>⟨_,rfl,xL g h h1⟩
 | t :: u :: r,a :: as,xs,_,h, .cons h1 h2=>by
  simp only [iw] at h
  split at h
  ·rename_i x xs k1 k2
   cases h
   exact ⟨_,_,rfl,xL g k1 h1,vb g k2 h2⟩
  ·cases h
 | [],_ :: _,_,_,h,_=>by simp [iw] at h
 | [_],[],_,_,h,_=>by simp [iw] at h
 | [_],_ :: _ :: _,_,_,h,_=>by simp [iw] at h
 | _ :: _ :: _,[],_,_,h,_=>by simp [iw] at h
theorem qX {eT:TypeId} {S:aZ} {O:aD} {w:World} (hS:S.w=w):∀{ts:List Ty} {ys:HL ts} {us:List Value},(eQ ts=true\/O=S.A)->fK eT O w ts ys us->bR eT S (jL ts ys) us
 | [],_,_,_,h=>by rw [show _ = [] from h];exact .nil
 | [t],y,_,hl,⟨v,rfl,hv⟩=>by
  refine .cons ?_ .nil
  subst hS
  rcases hl with hl | hl
  ·simp only [eQ,Bool.and_true] at hl
   exact VR.of_flat hl hv
  ·subst hl;exact hv
 | t :: u :: r,ys,_,hl,⟨v,vs',rfl,hv,hr⟩=>by
  refine .cons ?_ (qX hS ?_ hr)
  ·subst hS
   rcases hl with hl | hl
   ·simp only [eQ,Bool.and_eq_true] at hl
    exact VR.of_flat hl.1 hv
   ·subst hl;exact hv
  ·rcases hl with hl | hl
   ·simp only [eQ,Bool.and_eq_true] at hl ⊢;exact .inl hl.2
   ·exact .inr hl
theorem Ip {O:aD} {st:St} {loc:Nat->Loc} {w:World} {eT:TypeId} (g:Good eT X (aB O st loc w)) (hO:cC O w):cC (aB O st loc w).A w:=by
 rintro b off (h | ⟨n,oc,h1,h2,_⟩)
 ·exact hO b off h
 ·exact (g.obj n oc h1).2.inside b h2
theorem ve {eT:TypeId} {f:FuncId} {ts rts:List Ty} {pre:HL ts->Prop} {post:HL ts->HL rts->Prop} (h:bB P eT X f ts rts pre post)
  {O:aD} {st:St} {loc:Nat->Loc} {w:World} {args:List bH} {vs:List Value} {xs:HL ts} (hx:iw (eQ rts) st ts args=some xs) (hp:pre xs)
  {K:SV->St->VC} (hK:∀ys,post xs ys->(K (mj (jL rts ys)) st).holds)
  (g:Good eT X (aB O st loc w)) (hO:cC O w) (ha:bR eT (aB O st loc w) args vs) :
  Calls P f vs.toArray w fun e w'=>∃v sv st' loc',e = .returned v/\(K sv st').holds/\st'.env=st.env/\(true=true->Below w.heap.size w w')/\Good eT X (aB O st' loc' w')/\
   Tr (aB O st loc w) (aB O st' loc' w')/\b4 eT (aB O st' loc' w') sv v:=by
 have g':Good (Cx.mk eT [] [] [] 0 [] [] [] false [] []).eT X (aB O st loc w):=g
 have hOut:cC (outer (eQ rts) (aB O st loc w).A) w:=by
  intro b off hb
  cases hf:eQ rts with
  | true=>rw [hf] at hb;exact hb.elim
  | false=>rw [hf] at hb;exact Ip g hO b off hb
 refine Calls.mono (h.ok _ w xs vs g.iH.1 hOut (vb g' hx ha) hp) ?_
 rintro e w' ⟨us,ys,rfl,h1,h2,h3⟩
 obtain ⟨t,g2⟩:=nK (S':=aB O st loc w') g rfl rfl rfl rfl h3
 refine ⟨_,_,st,loc,rfl,hK ys h1,rfl,fun _=>h3,g2,t,pL (qX rfl ?_ h2)⟩
 cases hf:eQ rts with
 | true=>exact .inl rfl
 | false=>exact .inr (by simp only [outer];funext b off;simp [aZ.A,aB])
theorem tn {O:aD} {st:St} {loc:Nat->Loc} {w:World} (g:Good cx.eT X (aB O st loc w)) (c:C) :
  Tr (aB O st loc w) (aB O (pI st c).2 loc w)/\Good cx.eT X (aB O (pI st c).2 loc w)/\(pI st c).2.env=st.env/\
   ∀v,CR cx.eT (aB O st loc w) c v->CR cx.eT (aB O (pI st c).2 loc w) (pI st c).1 v:=by
 unfold pI
 split
 ·rename_i n
  split
  ·rename_i t xs hob
   obtain ⟨h1,h2⟩:=l6 g n
   exact ⟨h1,h2,rfl,fun v hv=>zH g hob hv⟩
  ·exact ⟨Tr.refl _,g,rfl,fun v hv=>hv⟩
 ·rename_i n
  split
  ·rename_i t xs hob
   obtain ⟨h1,h2⟩:=l6 g n
   refine ⟨h1,h2,rfl,fun v hv=>AX g hob hv fun b hb o => ?_⟩
   rintro (hA' | ⟨m,oc,k1,k2,k3⟩)
   ·exact g.out n _ b o hob hb hA'
   ·simp only [aB,aW] at k1 k2
    rw [gn] at k1
    split at k1
    ·cases k1
    ·rename_i h8;exact h8 (g.apart n m _ _ b hob k1 hb k2)
  ·exact ⟨Tr.refl _,g,rfl,fun v hv=>hv⟩
 ·exact ⟨Tr.refl _,g,rfl,fun v hv=>hv⟩
theorem qY {O:aD} {loc:Nat->Loc} {w:World}:∀(cs:List C) {st:St},Good cx.eT X (aB O st loc w)->
  Tr (aB O st loc w) (aB O (ot st cs).2 loc w)/\Good cx.eT X (aB O (ot st cs).2 loc w)/\(ot st cs).2.env=st.env/\
   ∀vs,b6 cx.eT (aB O st loc w) cs vs->b6 cx.eT (aB O (ot st cs).2 loc w) (ot st cs).1 vs
 | [],st,g=>⟨Tr.refl _,g,rfl,fun vs h=>h⟩
 | c :: cs,st,g=>by
  obtain ⟨t1,g1,e1,k1⟩:=tn g c
  obtain ⟨t2,g2,e2,k2⟩:=qY cs g1
  refine ⟨t1.trans t2,g2,e2.trans e1,fun vs h => ?_⟩
  cases h with
  | cons h1 h2 h3=>exact .cons ((k1 _ h1).tr t2) h2 (k2 _ (h3.tr t1))
theorem ov {O:aD} {st:St} {loc:Nat->Loc} {w:World} (g:Good cx.eT X (aB O st loc w)) (x:bH) :
  Tr (aB O st loc w) (aB O (rW st x).2 loc w)/\Good cx.eT X (aB O (rW st x).2 loc w)/\(rW st x).2.env=st.env/\
   ∀v,dR cx.eT (aB O st loc w) x v->dR cx.eT (aB O (rW st x).2 loc w) (rW st x).1 v:=by
 cases x with
 | one c=>exact tn g c
 | agg cs=>
  obtain ⟨t1,g1,e1,k1⟩:=qY cs g
  exact ⟨t1,g1,e1,fun v ⟨vs,h1,h2⟩=>⟨vs,h1,k1 _ h2⟩⟩
theorem BV {O:aD} {st:St} {loc:Nat->Loc} {w:World} (g:Good cx.eT X (aB O st loc w)) (lend:Bool) (x:bH) :
  Tr (aB O st loc w) (aB O (ux lend st x).2 loc w)/\Good cx.eT X (aB O (ux lend st x).2 loc w)/\(ux lend st x).2.env=st.env/\
   ∀v,dR cx.eT (aB O st loc w) x v->dR cx.eT (aB O (ux lend st x).2 loc w) (ux lend st x).1 v:=by
 cases lend with
 | false=>cases x <;> exact ov g _
 | true=>
  cases x with
  | one c=>exact ⟨Tr.refl _,g,rfl,fun v hv=>hv⟩
  | agg cs=>exact ov g _
theorem tp {O:aD} {loc:Nat->Loc} {w:World} (lend:Bool):∀(xs:List bH) {st:St},Good cx.eT X (aB O st loc w)->
  Tr (aB O st loc w) (aB O (mP lend st xs).2 loc w)/\Good cx.eT X (aB O (mP lend st xs).2 loc w)/\(mP lend st xs).2.env=st.env/\
   ∀vs,bR cx.eT (aB O st loc w) xs vs->bR cx.eT (aB O (mP lend st xs).2 loc w) (mP lend st xs).1 vs
 | [],st,g=>⟨Tr.refl _,g,rfl,fun vs h=>h⟩
 | x :: xs,st,g=>by
  obtain ⟨t1,g1,e1,k1⟩:=BV g lend x
  obtain ⟨t2,g2,e2,k2⟩:=tp lend xs g1
  refine ⟨t1.trans t2,g2,e2.trans e1,fun vs h => ?_⟩
  cases h with
  | cons h1 h3=>exact .cons ((k1 _ h1).tr t2) (k2 _ (h3.tr t1))
theorem vf {eT:TypeId} {f:FuncId} {q:Bool} {sp:bA} {lend:Bool}
  (h:∀O st loc w args vs K,(sp args st K).holds->Good eT X (aB O st loc w)->cC O w->bR eT (aB O st loc w) args vs->
   Calls P f vs.toArray w fun e w'=>∃v sv st' loc',e = .returned v/\(K sv st').holds/\st'.env=st.env/\(q=true->Below w.heap.size w w')/\Good eT X (aB O st' loc' w')/\
    Tr (aB O st loc w) (aB O st' loc' w')/\b4 eT (aB O st' loc' w') sv v)
  (O:aD) (st:St) (loc:Nat->Loc) (w:World) (args:List bH) (vs:List Value) (K:SV->St->VC) (hs:(sp (mP lend st args).1 (mP lend st args).2 K).holds)
  (g:Good eT X (aB O st loc w)) (hO:cC O w) (ha:bR eT (aB O st loc w) args vs) :
  Calls P f vs.toArray w fun e w'=>∃v sv st' loc',e = .returned v/\(K sv st').holds/\st'.env=st.env/\(q=true->Below w.heap.size w w')/\Good eT X (aB O st' loc' w')/\
   Tr (aB O st loc w) (aB O st' loc' w')/\b4 eT (aB O st' loc' w') sv v:=by
 have g':Good (Cx.mk eT [] [] [] 0 [] [] [] false [] []).eT X (aB O st loc w):=g
 obtain ⟨t1,g1,e1,k1⟩:=tp lend args g'
 refine Calls.mono (h O _ loc w _ vs K hs g1 hO (k1 _ ha)) ?_
 rintro e w' ⟨v,sv,st',loc',h1,h2,h3,h4,h5,h6,h7⟩
 exact ⟨v,sv,st',loc',h1,h2,h3.trans e1,h4,h5,t1.trans h6,h7⟩
theorem cU {eT:TypeId} {f:FuncId} {ts rts:List Ty} {pre:HL ts->Prop} {post:HL ts->HL rts->Prop} (h:bB P eT X f ts rts pre post) :
  cP P eT X f true (eY ts rts pre post):=by
 refine ⟨h.fn,vf (lend:=eQ rts) (sp:=fun args st K=>match iw (eQ rts) st ts args with
  | some xs => .and (pre xs) (.all (HL rts) fun ys => .imp (post xs ys) (K (mj (jL rts ys)) st))
  | none => .ff) fun O st loc w args vs K hs g hO ha => ?_⟩
 split at hs
 ·rename_i xs hx
  exact ve h hx hs.1 (fun ys hy=>hs.2 ys hy) g hO ha
 ·exact hs.elim
theorem aE {eT:TypeId} {f:FuncId} {ts rts:List Ty} {pre:HL ts->Prop} {g:HL ts->HL rts} (h:bB P eT X f ts rts pre (fun xs ys=>ys=g xs)) :
  cP P eT X f true (aR ts rts pre g):=by
 refine ⟨h.fn,vf (lend:=eQ rts) (sp:=fun args st K=>match iw (eQ rts) st ts args with
  | some xs => .and (pre xs) (K (mj (jL rts (g xs))) st)
  | none => .ff) fun O st loc w args vs K hs hg hO ha => ?_⟩
 split at hs
 ·rename_i xs hx
  exact ve h hx hs.1 (fun ys hy=>by rw [hy];exact hs.2) hg hO ha
 ·exact hs.elim
theorem GZ {B:Cx} {N:Nat} (h:TyOK P B):iO P (lH B [] N) X:=
 {fit:=h.fit,im:=h.im,eK:=h.eK,mixed:=h.mixed,arr:=h.arr,nM:=h.nM,eqs:=h.eqs,iI:=h.iI,kv:=h.kv,lZ:=h.lZ,calls:=fun f q sp hl=>by simp [lH,look] at hl}
theorem Fh {B:Cx} {Γ:List (FuncId × (Bool × bA))} {N:Nat} {f:FuncId} {q:Bool} {sp:bA} (h:cP P B.eT X f q sp) (hΓ:iO P (lH B Γ N) X):iO P (lH B ((f,q,sp) :: Γ) N) X:=
 {fit:=hΓ.fit,im:=hΓ.im,eK:=hΓ.eK,mixed:=hΓ.mixed,arr:=hΓ.arr,nM:=hΓ.nM,eqs:=hΓ.eqs,iI:=hΓ.iI,kv:=hΓ.kv,lZ:=hΓ.lZ,calls:=fun f' q' sp' hl=>by
   simp only [lH,bw] at hl
   split at hl
   ·rename_i e;subst e;cases hl;exact h
   ·exact hΓ.calls f' q' sp' hl}
end
end Go.Vg

namespace Go.Vg
open Go.RowKit
def Ty.plain:Ty->Bool
 | .err | .cX=>false
 | .prod a b=>a.plain && b.plain
 | .slice e=>e.plain
 | _=>true
def Ty.low:Ty->Bool
 | .slice e=>Nat.blt 0 e.size && e.low
 | .prod a b=>a.low && b.low
 | _=>true
section
variable {H:Type} {enc:TypeId × Value->H} {P:Program} {w:World} {base:Nat} {sp:Nat->Bool} {held:Bool} {eT:TypeId}
theorem Fit.cellsOf {t:TypeId} {ty:Ty} {i:TypeInfo} {d:TypeDesc} (h:Fit P t ty i d):P.cellsOf t=ty.size:=by
 unfold Program.cellsOf;rw [h.info];exact h.size
theorem zR {f:TypeId->Ty->Bool} {cs:List Value} {fuel:Nat}
  (ih:∀t ty,f t ty=true->P.cellsOf t=ty.size/\∀us d ps,ty.plain=true->ty.low=true->DataW.trod enc P w base sp held fuel t us=some (d,ps)->∃x,R eT ty x fL w us) :
  ∀(gs:List Field) (off:Nat) (ty:Ty) (xs:List (DataW H × List MemPlace)),bU f gs off ty=true->ty.plain=true->ty.low=true->
   gs.mapM (fun f=>DataW.trod enc P w base sp held fuel f.type ((cs.drop f.offset).take (P.cellsOf f.type)))=some xs->cs.length=off + ty.size->∃x,R eT ty x fL w (cs.drop off):=by
 intro gs
 induction gs with
 | nil=>
  intro off ty xs h hp hs hm hl
  cases ty <;> simp [bU] at h
  refine ⟨(),?_⟩
  show cs.drop off = []
  exact List.drop_eq_nil_of_le (by simp [Ty.size] at hl;omega)
 | cons g gs ihg=>
  intro off ty xs h hp hs hm hl
  cases ty <;> simp [bU] at h
  rename_i a b
  obtain ⟨⟨⟨h1,h2⟩,h3⟩,h4⟩:=h
  simp only [Ty.plain,Bool.and_eq_true] at hp
  simp only [Ty.size] at hl
  rw [List.mapM_cons] at hm
  obtain ⟨k1,k2⟩:=ih _ _ h2
  subst h1
  rw [k1] at hm
  cases hx:DataW.trod enc P w base sp held fuel g.type ((cs.drop g.offset).take a.size) with
  | none=>simp [hx] at hm
  | some y=>
   cases hxs:gs.mapM (fun f=>DataW.trod enc P w base sp held fuel f.type ((cs.drop f.offset).take (P.cellsOf f.type))) with
   | none=>simp [hx,hxs] at hm
   | some ys=>
    simp only [Ty.low,Bool.and_eq_true] at hs
    obtain ⟨x,rx⟩:=k2 _ y.1 y.2 hp.1 hs.1 hx
    obtain ⟨z,rz⟩:=ihg _ _ _ h4 hp.2 hs.2 hxs (by omega)
    refine ⟨(x,z),_,_,?_,rx,rz⟩
    rw [<-List.drop_drop,List.take_append_drop]
theorem BW:∀(n:Nat) (t:TypeId) (ty:Ty),fits P n t ty=true->P.cellsOf t=ty.size/\∀fuel us d ps,ty.plain=true->ty.low=true->
  DataW.trod enc P w base sp held fuel t us=some (d,ps)->∃x,R eT ty x fL w us:=by
 intro n
 induction n with
 | zero=>intro t ty h;simp [fits] at h
 | succ n ih=>
  intro t ty h
  obtain ⟨m,i,dsc,hm,fit,hsh⟩:=fE h
  cases hm
  refine ⟨fit.cellsOf,fun fuel us d ps hp hs hd => ?_⟩
  cases fuel with
  | zero=>simp [DataW.trod] at hd
  | succ fuel=>
   unfold DataW.trod at hd
   rw [fit.dM] at hd
   cases ty with
   | bool=>
    cases dsc <;> simp [bq] at hsh
    split at hd
    case h_1 _ _ b _=>exact ⟨b,rfl⟩
    all_goals simp_all
   | int k=>
    cases dsc <;> simp [bq] at hsh
    subst hsh
    split at hd
    case h_2 _ _ k1 k2 x h0=>
     cases h0
     split at hd
     ·rename_i h1
      obtain ⟨rfl,h1⟩:=h1
      simp only [Lit.wf,Bool.and_eq_true,decide_eq_true_eq] at h1
      exact ⟨x,rfl,h1⟩
     ·cases hd
    all_goals simp_all
   | str=>
    cases dsc <;> simp [bq] at hsh
    split at hd
    case h_4 _ _ s _=>
     split at hd
     ·rename_i h1
      refine ⟨s.data.toList,?_,?_⟩
      ·rw [Array.toArray_toList]
      ·unfold maxLen at h1
       unfold aL
       rw [Array.length_toList]
       exact h1
     ·cases hd
    all_goals simp_all
   | err=>simp [Ty.plain] at hp
   | cX=>simp [Ty.plain] at hp
   | unit=>
    cases dsc <;> simp [bq] at hsh
    rename_i fs
    simp only at hd
    split at hd
    ·rename_i hl
     rw [fit.cellsOf] at hl
     refine ⟨(),?_⟩
     exact List.length_eq_zero_iff.1 hl
    ·cases hd
   | prod a b=>
    cases dsc <;> simp [bq] at hsh
    rename_i fs
    simp only at hd
    split at hd
    ·rename_i hl
     rw [fit.cellsOf] at hl
     cases hxs:fs.toList.mapM (fun f=>DataW.trod enc P w base sp held fuel f.type ((us.drop f.offset).take (P.cellsOf f.type))) with
     | none=>rw [hxs] at hd;simp at hd
     | some xs=>
      obtain ⟨x,hx⟩:=zR (fun t ty hf=>⟨(ih t ty hf).1,(ih t ty hf).2 fuel⟩) _ _ _ _ hsh hp hs hxs (by omega)
      exact ⟨x,by simpa using hx⟩
    ·cases hd
   | slice e=>
    cases dsc <;> simp [bq] at hsh
    rename_i te
    simp only [Ty.low,Bool.and_eq_true] at hs
    have hpos:=hE hs.1
    obtain ⟨hce,hel⟩:=ih te e hsh
    split at hd
    case h_7=>exact ⟨[],_,rfl,by simp [aL], .inl ⟨rfl,_,_,rfl⟩⟩
    case h_8 _ _ te' b l c h0=>
     cases h0
     simp only at hd
     split at hd
     case isFalse=>cases hd
     rename_i hcond
     obtain ⟨hb,hlc,hcm⟩:=hcond
     obtain ⟨es,hes,_⟩:=Option.bind_eq_some_iff.1 hd
     rw [hce] at hes
     have hlen:=mapM_some_length hes
     simp only [List.length_range] at hlen
     by_cases hl0:l=0
     ·subst hl0
      exact ⟨[],_,rfl,by simp [aL], .inl ⟨rfl,_,_,rfl⟩⟩
     have hspot:b.spot=none:=by
      have h1:=mapM_some_get hes 0 0 (by rw [List.getElem?_range (by omega)])
      rw [List.getElem?_eq_getElem (by omega)] at h1
      obtain ⟨us,hu,hd1⟩:=Option.bind_eq_some_iff.1 h1
      obtain ⟨_,q1,q2⟩:=World.cells?_some hu
      have q3:=q2 0 hpos
      rw [List.getElem?_eq_getElem (by omega)] at q3
      have e0:(b.add (0 * e.size)).add 0=b:=by simp [Addr.add]
      rw [e0] at q3
      unfold World.cell? at q3
      split at q3
      ·cases hb0:b.spot with
       | none=>rfl
       | some k=>rw [hb0] at q3;simp at q3
      ·cases q3
     obtain ⟨bb,oo,so⟩:=b
     simp only at hspot
     subst hspot
     have hget:∀i,i < l->∃x us,R eT e x fL w us/\Row fL w bb (oo + i * e.size) us:=by
      intro i hi
      have h1:=mapM_some_get hes i i (by simp [hi])
      rw [List.getElem?_eq_getElem (by omega)] at h1
      obtain ⟨us,hu,hd1⟩:=Option.bind_eq_some_iff.1 h1
      obtain ⟨_,q1,q2⟩:=World.cells?_some hu
      obtain ⟨x,hx⟩:=hel fuel us (es[i]'(by omega)).1 (es[i]'(by omega)).2 hp hs.2 hd1
      refine ⟨x,us,hx,fun j u hj=>⟨?_,id⟩⟩
      have hjl:j < us.length:=by
       rcases Nat.lt_or_ge j us.length with h | h
       ·exact h
       ·rw [List.getElem?_eq_none h] at hj;cases hj
      have:=q2 j (by omega)
      rw [Addr.add_lit,Addr.add_lit] at this
      rw [this,hj]
     let xs:List (D e):=(List.range l).map fun i=>if h:i < l then (hget i h).choose else bL e
     have hxl:xs.length=l:=by simp [xs]
     have hxi:∀i y,xs[i]?=some y->∃us,R eT e y fL w us/\Row fL w bb (oo + i * e.size) us:=by
      intro i y hy
      have hi:i < l:=by
       rcases Nat.lt_or_ge i l with h | h
       ·exact h
       ·rw [List.getElem?_eq_none (by omega)] at hy;cases hy
      have:xs[i]?=some (hget i hi).choose:=by simp [xs,hi]
      rw [this] at hy
      cases hy
      exact (hget i hi).choose_spec
     refine ⟨xs,_,rfl,?_, .inr ⟨bb,oo,c,?_,?_,hxi⟩⟩
     ·rw [hxl];unfold maxLen at hcm;unfold aL;omega
     ·rw [hxl]
     ·rw [hxl];exact hlc
    all_goals simp_all
theorem Fi {n:Nat} {t:TypeId} {ty:Ty} (hf:fits P n t ty=true) (hp:ty.plain=true) (hlow:ty.low=true) {r:Reach} {b:Nat} {v:Value} (hval:Value.okWide P w r b t v) {d:DataW H} {ps:List MemPlace}
  (hd:DataW.Trod enc P w base sp held t v d ps):∃x,VR eT ty x fL w v:=by
 obtain ⟨m,i,dsc,hm,fit,hsh⟩:=fE hf
 obtain ⟨fuel,hd⟩:=hd
 have key:∃x,R eT ty x fL w v.cells.toList:=(BW (eT:=eT) n t ty hf).2 fuel _ _ _ hp hlow hd
 unfold Value.okWide at hval
 rw [fit.dM] at hval
 have one:ty.one=true->Cell.okWide P w r b t v->(v.cells.toList = [v])->∃x,VR eT ty x fL w v:=by
  intro h1 h2 h3
  rw [h3] at key
  obtain ⟨x,hx⟩:=key
  exact ⟨x,VR.bD h1 hx⟩
 have agg:ty.one=false->(∃cs,v = .agg cs/\cs.size=P.cellsOf t/\Row.okWide P w r b t cs)->∃x,VR eT ty x fL w v:=by
  rintro h1 ⟨cs,rfl,_,ts,_,_,h2⟩
  obtain ⟨x,hx⟩:=key
  refine ⟨x,?_⟩
  unfold VR
  rw [if_neg (by simp [h1])]
  exact ⟨cs,rfl,hx⟩
 cases ty with
 | err=>simp [Ty.plain] at hp
 | cX=>simp [Ty.plain] at hp
 | prod a b=>cases dsc <;> simp [bq] at hsh;exact agg rfl hval
 | unit=>cases dsc <;> simp [bq] at hsh;exact agg rfl hval
 | bool=>
  cases dsc <;> simp [bq] at hsh
  refine one rfl hval ?_
  cases v <;> simp [Cell.okWide,Cell.ok,fit.dM,Value.cells] at hval ⊢
 | int k=>
  cases dsc <;> simp [bq] at hsh
  refine one rfl hval ?_
  cases v <;> simp [Cell.okWide,Cell.ok,fit.dM,Value.cells] at hval ⊢
 | str=>
  cases dsc <;> simp [bq] at hsh
  refine one rfl hval ?_
  cases v <;> simp [Cell.okWide,Cell.ok,fit.dM,Value.cells] at hval ⊢
 | slice e=>
  cases dsc <;> simp [bq] at hsh
  refine one rfl hval ?_
  cases v <;> simp [Cell.okWide,Cell.ok,fit.dM,Value.cells] at hval ⊢
def nt (P:Program) (n:Nat):List TypeId->List Ty->Bool
 | [],[]=>true
 | t :: ts,ty :: tys=>fits P n t ty && ty.plain && ty.low && nt P n ts tys
 | _,_=>false
theorem Dy {n:Nat} {r:Reach} {b:Nat}:∀(ts:List TypeId) (tys:List Ty) (vs:List Value) (ds:List (DataW H)) (ps:List MemPlace),nt P n ts tys=true->
  (∀(j:Nat) t v,ts[j]?=some t->vs[j]?=some v->Value.okWide P w r b t v)->DataW.TrodAll enc P w base sp held ts vs ds ps->∃xs,fK eT fL w tys xs vs:=by
 intro ts
 induction ts with
 | nil=>
  intro tys vs ds ps hf hv h
  cases tys <;> simp [nt] at hf
  cases vs <;> cases ds <;> simp [DataW.TrodAll] at h
  exact ⟨(),rfl⟩
 | cons t ts ih=>
  intro tys vs ds ps hf hv h
  cases tys <;> simp [nt] at hf
  rename_i ty tys
  obtain ⟨⟨⟨h1,h2⟩,h3⟩,h4⟩:=hf
  cases vs <;> cases ds <;> simp [DataW.TrodAll] at h
  rename_i v vs d ds
  obtain ⟨p,hp,q,hq,_⟩:=h
  obtain ⟨x,hx⟩:=Fi (eT:=eT) h1 h2 h3 (hv 0 t v rfl rfl) hp
  obtain ⟨xs,hxs⟩:=ih tys vs ds q h4 (fun j t' v' h1 h2=>hv (j + 1) t' v' h1 h2) hq
  cases tys with
  | nil=>exact ⟨x,v,by rw [show vs = [] from hxs],hx⟩
  | cons ty' tys=>exact ⟨(x,xs),v,vs,rfl,hx,hxs⟩
theorem BX (hl:laidOutB P=true) {W W':World} (hb:Below W.heap.size W W'):∀(ts:List TypeId) (vs:List Value) (ds:List (DataW H)) (ps:List MemPlace),(ts.all fun t=>P.readableRec t && Nat.blt t P.types.size)=true->
  DataW.TrodAll enc P W 0 (fun _=>true) true ts vs ds ps->(∀x∈ps,x.block < W.heap.size)->DataW.TrodAll enc P W' 0 (fun b=>decide (b < W.heap.size)) true ts vs ds ps:=by
 intro ts
 induction ts with
 | nil=>intro vs ds ps _ h _;cases vs <;> cases ds <;> simp [DataW.TrodAll] at h ⊢;exact h
 | cons t ts ih=>
  intro vs ds ps hr h hlt
  simp only [List.all_cons,Bool.and_eq_true] at hr
  cases vs <;> cases ds <;> simp only [DataW.TrodAll] at h ⊢
  rename_i v vs d ds
  obtain ⟨p,q,hp,hq,rfl⟩:=h
  exact ⟨p,q,WideElems.Trod_stays hl hr.1.1 (hE hr.1.2) hp (fun x hx=>hb.same (hlt x (by simp [hx]))) (fun x hx=>by simpa using hlt x (by simp [hx])),ih vs ds q hr.2 hq (fun x hx=>hlt x (by simp [hx])),rfl⟩
theorem xM:∀{ts:List TypeId} {vs:List Value} {ds:List (DataW H)} {ps:List MemPlace},DataW.TrodAll enc P w base sp held ts vs ds ps->vs.length=ts.length/\ds.length=ts.length
 | [],[],[],_,_=>⟨rfl,rfl⟩
 | _ :: _,_ :: _,_ :: _,_,⟨_,_,_,h,_⟩=>by simp [xM h]
theorem Dz {X:Ext} {C:Checked} {f:FuncId} {fn:Func} {s:ChangeSpec} {tys:List Ty} {pre:HL tys->Prop} (hs:s.vars = []) (hl:laidOutB C.prog=true)
  (hsp:∀ds:List (DataW H),ds.length=tys.length->s.fn H ds = {results:=[.lit (.bool true)],args:=ds})
  {n:Nat} (hf:nt C.prog n fn.params.toList tys=true) (hr:(fn.params.toList.all fun t=>C.prog.readableRec t && Nat.blt t C.prog.types.size)=true)
  {tb:TypeId} (hres:fn.resultTypes = #[tb]) (hb:C.prog.underlying tb=some .bool)
  (h:bB C.prog eT X f tys [.bool] pre (fun _ y=>y=true))
  {W:World} {base:Nat} {args:Array Value} {ds gs:List (DataW H)} {before:List MemPlace}
  (hval:∀(j:Nat) t v,fn.params[j]?=some t->args[j]?=some v->Value.okWide C.prog W .any base t v)
  (hW:DataW.Whole enc C.prog fn.params.toList s.vars false W args.toList ds gs before)
  (hG:X.o3 W) (hpre:∀xs,fK eT fL W tys xs args.toList->pre xs) :
  Calls C.prog f args W fun e W'=>∃v,e = .returned v/\s.post enc C.prog fn false true false false W args v W':=by
 have hW0:=hW
 obtain ⟨p,q,hA,hV,rfl,_,_⟩:=hW
 rw [hs] at hV
 obtain ⟨rfl,rfl⟩:gs = []/\q = []:=by cases gs <;> simp [DataW.TrodVars] at hV;exact ⟨rfl,hV⟩
 obtain ⟨xs,hxs⟩:=Dy (eT:=eT) _ _ _ _ _ hf (fun j t v h1 h2=>hval j t v (by rw [<-Array.getElem?_toList];exact h1) (by rw [<-Array.getElem?_toList];exact h2)) hA
 have:=h.ok fL W xs args.toList hG (fun _ _ h=>h.elim) hxs (hpre xs hxs)
 rw [Array.toArray_toList] at this
 refine this.mono ?_
 rintro e W' ⟨us,ys,rfl,rfl,hr',hbel⟩
 obtain ⟨u,rfl,hu⟩:=hr'
 have hu:u = .bool true:=by
  have:=VR.one rfl hu
  simpa [R] using this
 subst hu
 have hlen:ds.length=tys.length:=by
  have h1:=hxs.length
  have h2:=xM hA
  omega
 simp only [List.append_nil] at hW0 ⊢
 have hlt:∀x∈p,x.block < W.heap.size:=hW0.lt
 refine ⟨_,rfl,ds,[],p,[],p,[],hW0,?_,?_,?_,hbel.frame _,fun hh=>by cases hh⟩
 ·rw [List.append_nil,hsp ds hlen,hres]
  exact ⟨[],[],shut_bool hb true,rfl,rfl⟩
 ·rw [List.append_nil,hsp ds hlen]
  exact BX hl hbel _ _ _ _ hr hA hlt
 ·rw [List.append_nil,hsp ds hlen,hs]
  rfl
end
end Go.Vg

namespace Go.Vg
open Go.RowKit
theorem holds_of {v:VC} {p:Prop} (e:v.holds=p) (h:p):v.holds:=by rw [e];exact h
section
variable {A B:Prop}
theorem iD {p:Prop} [Decidable p] (f:p->A) (g:¬ p->B):(decide p=true->A)/\(decide p=false->B):=⟨fun h=>f (of_decide_eq_true h),fun h=>g (of_decide_eq_false h)⟩
theorem iL {a b:Int} (f:a < b->A) (g:b<=a->B):(decide (a < b)=true->A)/\(decide (a < b)=false->B):=iD f fun h=>g (Int.not_lt.1 h)
theorem iE {a b:Int} (f:a<=b->A) (g:b < a->B):(decide (a<=b)=true->A)/\(decide (a<=b)=false->B):=iD f fun h=>g (Int.not_le.1 h)
theorem iB {b:Bool} (f:b=false->A) (g:b=true->B):((!b)=true->A)/\((!b)=false->B):=⟨fun h=>f (Bool.not_eq_true' b▸h),fun h=>g (Bool.not_eq_false' b▸h)⟩
theorem iQ {α:Type} [BEq α] [LawfulBEq α] {a b:α} (f:a=b->A) (g:¬ a=b->B):((a == b)=true->A)/\((a == b)=false->B):=⟨fun h=>f (eq_of_beq h),fun h=>g fun e=>by rw [e,beq_self_eq_true] at h;cases h⟩
theorem iN {α:Type} [BEq α] [LawfulBEq α] {a b:α} (f:¬ a=b->A) (g:a=b->B):((a != b)=true->A)/\((a != b)=false->B):=
 ⟨fun h=>f fun e=>(by rw [e,bne_self_eq_false] at h;cases h),fun h=>g (by simpa using h)⟩
end
def Iq:Ext where
 rel k t x l w:=match k with
  | 0=>fj t x l w
  | 1=>mF t x l w
  | 2=>nJ t x l w
  | _=>False
 inside {k t x l w} h:=by
  match k,h with
  | 0,h=>exact fj.inside h
  | 1,h=>exact mF.inside h
  | 2,h=>exact nJ.inside h
 ptr {k t x l w} hk h:=by
  match k,hk,h with
  | 0,hk,_=>omega
  | 1,hk,_=>omega
  | 2,_,h=>obtain ⟨rfl,b,p,v,h⟩:=h;exact ⟨_,h.lv⟩
 deep:=Iff.rfl
 map:=Iff.rfl
 Gk:=Iff.rfl
 frame {k t x l w w'} h hb:=by
  match k,h with
  | 0,h=>exact fj.frame h hb
  | 1,h=>exact mF.frame h hb
  | 2,h=>exact nJ.frame h hb
 o3 _:=True
 AA:=[]
 Gl _ _ hb:=by cases hb
 wR _ _:=trivial
def codeOf (fn:Func):Code:=fn.body.getD .skip
def cg (B:Cx) (Γ:List (FuncId × (Bool × bA))) (fn:Func) (anns:cp) (ts rts:List Ty) (post:HL ts->HL rts->Prop) (xs:HL ts):VC:=
 AV B Γ fn.ntmps anns fn.results.toList (codeOf fn) ts rts post xs
def nu (fn:Func) (n:Nat):Bool:=fn.body.isSome && !(fn.name == "runtime.NumGoroutine") && Nat.ble n fn.ntmps
def bM (P:Program) (B:Cx) (X:Ext) (Γ:List (FuncId × (Bool × bA))):Prop:=∀N,iO P (lH B Γ N) X
section
variable {P:Program} {B:Cx} {X:Ext} {Γ:List (FuncId × (Bool × bA))}
theorem bO {f:FuncId} {fn:Func} {ts rts:List Ty} {pre:HL ts->Prop} {post:HL ts->HL rts->Prop} (hok:bM P B X Γ) (hf:P.funcs[f]?=some fn) (hc:nu fn ts.length=true)
  (anns:HL ts->cp) (h:∀xs,dN ts xs->pre xs->(cg B Γ fn (anns xs) ts rts post xs).holds):bB P B.eT X f ts rts pre post:=by
 simp only [nu,Bool.and_eq_true,Bool.not_eq_true'] at hc
 obtain ⟨⟨h1,h2⟩,h3⟩:=hc
 refine BU (hok fn.ntmps) hf (c:=codeOf fn) ?_ h2 rfl anns (Nat.le_of_ble_eq_true h3) h
 unfold codeOf
 cases hb:fn.body with
 | none=>rw [hb] at h1;cases h1
 | some c=>rfl
theorem bY (h:TyOK P B):bM P B X []:=fun _=>GZ h
theorem aX {f:FuncId} {q:Bool} {sp:bA} (h:cP P B.eT X f q sp) (hΓ:bM P B X Γ):bM P B X ((f,q,sp) :: Γ):=fun N=>Fh h (hΓ N)
def kV (B:Cx) (l:List Nat):Cx:={B with hint:=l}
theorem bM.hint {l:List Nat} (h:bM P B X Γ):bM P (kV B l) X Γ:=fun N=>
 {fit:=(h N).fit,im:=(h N).im,eK:=(h N).eK,mixed:=(h N).mixed,arr:=(h N).arr,nM:=(h N).nM,eqs:=(h N).eqs,iI:=(h N).iI,kv:=(h N).kv,lZ:=(h N).lZ,calls:=(h N).calls}
def BY (B:Cx):Cx:={B with wr:=true}
theorem bM.wrap (h:bM P B X Γ):bM P (BY B) X Γ:=fun N=>
 {fit:=(h N).fit,im:=(h N).im,eK:=(h N).eK,mixed:=(h N).mixed,arr:=(h N).arr,nM:=(h N).nM,eqs:=(h N).eqs,iI:=(h N).iI,kv:=(h N).kv,lZ:=(h N).lZ,calls:=(h N).calls}
theorem lI {α:Type} {l:List (Nat × α)} {n:Nat} {x:α} (h:look l n=some x):(n,x)∈l:=by
 induction l with
 | nil=>cases h
 | cons p r ih=>
  obtain ⟨m,y⟩:=p
  rw [bw] at h
  split at h
  ·rename_i e;subst e;cases h;simp
  ·exact List.mem_cons_of_mem _ (ih h)
def DA (P:Program) (B:Cx) (n:Nat):Bool:=
 (B.τ.all fun p=>fits P n p.1 p.2) &&
 (match P.underlying B.eT with | some (.int .i64)=>true | _=>false) &&
 (match P.info? B.eT with | some i=>(match i.zero with | some (.int .i64 0)=>true | _=>false) | none=>false) &&
 P.follows .mixedOrders &&
 (B.rA.all fun p=>match P.underlying p.1 with | some (.array m e)=>Nat.beq m p.2.1 && Nat.beq e p.2.2 | _=>false) &&
 (B.rA.all fun p=>match look B.τ p.2.2 with
  | some e=>(match P.info? p.1 with
   | some i=>(match i.zero with
    | some z=>jE e p.2.1 z.cells.toList
    | none=>false)
   | none=>false)
  | none=>true) &&
 B.eqs.all (Bv P) && B.iI.all (wX P) &&
 (B.kv.all fun p=>match P.underlying p.1 with
  | some (.map k e)=>Nat.beq k p.2.1 && Nat.beq e p.2.2 && (match P.underlying p.2.1 with | some .string=>true | _=>false) &&
   (match P.info? p.2.2 with
    | some i=>(match i.zero with | some (.agg _)=>true | _=>false)
    | none=>false)
  | _=>false) &&
 (B.lZ.all fun p=>match P.info? p.1 with
  | some i=>(match i.zero with
   | some (.agg cs)=>(match cs.toList with
    | [.pointer none, .slice none 0 0]=>true
    | _=>false)
   | _=>false)
  | none=>false)
theorem G0 {n:Nat} (h:DA P B n=true):TyOK P B:=by
 simp only [DA,Bool.and_eq_true,List.all_eq_true] at h
 obtain ⟨⟨⟨⟨⟨⟨⟨⟨⟨h1,h2⟩,h3⟩,h4⟩,h5⟩,h6⟩,h7⟩,h8⟩,h9⟩,h10⟩:=h
 refine ⟨fun t ty hl=>⟨n,h1 _ (lI hl)⟩,?_,?_,h4,fun t ht=>h7 t (n9 ht),fun t ht=>h8 t (n9 ht),fun t m e hl => ?_,fun t k e hl => ?_,fun t e hl => ?_,fun t m te e hl he => ?_⟩
 ·split at h2
  ·assumption
  ·cases h2
 ·split at h3
  ·rename_i i hi
   refine ⟨i,hi,?_⟩
   split at h3
   ·assumption
   ·cases h3
  ·cases h3
 ·have:=h5 _ (lI hl)
  simp only at this
  split at this
  ·rename_i m' e' hu
   simp only [Bool.and_eq_true] at this
   rw [hu,Nat.eq_of_beq_eq_true this.1,Nat.eq_of_beq_eq_true this.2]
  ·cases this
 ·have:=h9 _ (lI hl)
  simp only at this
  split at this
  ·rename_i k' e' hu
   simp only [Bool.and_eq_true] at this
   obtain ⟨⟨⟨e1,e2⟩,e3⟩,e4⟩:=this
   rw [hu,Nat.eq_of_beq_eq_true e1,Nat.eq_of_beq_eq_true e2]
   refine ⟨rfl,?_,?_⟩
   ·split at e3
    ·assumption
    ·cases e3
   ·split at e4
    ·rename_i i hi
     split at e4
     ·rename_i cs hz;exact ⟨i,cs,hi,hz⟩
     ·cases e4
    ·cases e4
  ·cases this
 ·have:=h10 _ (lI hl)
  simp only at this
  split at this
  ·rename_i i hi
   split at this
   ·rename_i cs hz
    split at this
    ·rename_i hr
     exact ⟨i,hi,by rw [hz];congr 2;exact Array.toList_inj.1 hr⟩
    ·cases this
   ·cases this
  ·cases this
 ·have:=h6 _ (lI hl)
  simp only [he] at this
  split at this
  ·rename_i i hi
   split at this
   ·rename_i z hz
    exact ⟨i,z,hi,hz,this⟩
   ·cases this
  ·cases this
end
end Go.Vg

namespace Go.Vg
open Go.RowKit
def jM:Nat->List bH->List (Nat × SV)
 | _,[]=>[]
 | k,a :: r=>(k, .s a) :: jM (k + 1) r
def eR (B:Cx) (Γ:List (FuncId × (Bool × bA))) (fn:Func) (anns:cp):bA:=fun args st K=>
 match Nat.ble args.length fn.ntmps with
 | true=>BT (lH B Γ fn.ntmps) anns fn.results.toList (codeOf fn) {env:=jM 0 args,aC:=st.aC,next:=st.next} fun vs st'=>K (mj vs) {st' with env:=st.env}
 | false => .ff
theorem qZ {eT:TypeId} {S:aZ}:∀{args:List bH} {vs:List Value} (k:Nat),bR eT S args vs->∀t sv,look (jM k args) t=some sv->k<=t/\∃v,vs[t - k]?=some v/\b4 eT S sv v:=by
 intro args
 induction args with
 | nil=>intro vs k _ t sv h;simp [jM,look] at h
 | cons a r ih=>
  intro vs k hr t sv h
  cases hr with
  | cons h1 h2=>
   simp only [jM,bw] at h
   split at h
   ·rename_i e
    cases h
    subst e
    exact ⟨Nat.le_refl _,_,by simp,h1⟩
   ·rename_i e
    obtain ⟨k1,v,k2,k3⟩:=ih (k + 1) h2 t sv h
    refine ⟨by omega,v,?_,k3⟩
    rw [show t - k=(t - (k + 1)) + 1 by omega]
    simpa using k2
theorem eJ {P:Program} {B:Cx} {X:Ext} {Γ:List (FuncId × (Bool × bA))} (hok:bM P B X Γ) {f:FuncId} {fn:Func} (hf:P.funcs[f]?=some fn) (hg:nu fn 0=true) (anns:cp) :
  cP P B.eT X f false (eR B Γ fn anns):=by
 simp only [nu,Bool.and_eq_true,Bool.not_eq_true'] at hg
 obtain ⟨⟨h1,h2⟩,_⟩:=hg
 obtain ⟨c,hc⟩:=Option.isSome_iff_exists.1 h1
 refine ⟨⟨fn,hf,by rw [hc];rfl,h2⟩,fun O st loc w args vs K hK g hO ha => ?_⟩
 unfold eR at hK
 split at hK
 case h_2=>exact hK.elim
 rename_i hlen
 have hlen:=Nat.le_of_ble_eq_true hlen
 have hcode:codeOf fn=c:=by unfold codeOf;rw [hc];rfl
 rw [hcode] at hK
 have:=mQ (X:=X) (hok fn.ntmps) hf hc (by rfl) anns (O:=O) (loc:=loc) (w:=w) (args:=vs.toArray)
  (st:={env:=jM 0 args,aC:=st.aC,next:=st.next}) (by rw [List.size_toArray,<-ha.len];exact hlen) g hO
  (fun t sv h=>by
   obtain ⟨_,v,k1,k2⟩:=qZ 0 ha t sv h
   exact ⟨v,by simpa using k1,k2⟩) hK
 refine this.mono ?_
 rintro e w' ⟨rs,us,st',loc',he,hk,hr,g',tr⟩
 exact ⟨_,_,_,loc',he,hk,rfl,(fun h=>by cases h),g',tr,pL hr⟩
def Gu (st:St) (t k:Nat):Nat:=
 match look st.env t with
 | some (.s (.one (.fn _ caps)))=>caps.getD k 0
 | _=>0
def HT (ty:Ty) (st:St) (n:Nat):D ty:=
 match look st.aC n with
 | some (.cells _ cs)=>match gf ty cs with
  | some (x,_)=>x
  | none=>bL ty
 | _=>bL ty
end Go.Vg

namespace Go.Vg
open Go.RowKit
def eI:List Cl->St->List bH->List bH × St
 | .d _ :: r,st,v :: vs=>match rW st v with
  | (v',st1)=>match eI r st1 vs with
   | (vs',st2)=>(v' :: vs',st2)
 | .obj _ :: r,st,v :: vs=>match eI r st vs with
  | (vs',st2)=>(v :: vs',st2)
 | .dm :: r,st,v :: vs=>match eI r st vs with
  | (vs',st2)=>(v :: vs',st2)
 | _,st,vs=>(vs,st)
def kD:List (Nat × OC)->List Nat->List (Nat × OC)
 | l,[]=>l
 | l,n :: r=>kD (lz l n) r
def ml:Ob->Ob->Bool
 | .box T _, .box T' _=>Nat.beq T T'
 | .ext k t, .ext k' t'=>Nat.beq k k' && Ty.beq t t'
 | .row true t, .row true t'=>Ty.beq t t'
 | _,_=>false
def gx:List Ob->List Ob->List Nat->Nat->List Nat
 | o :: os,o' :: os',n :: ns,b=>(match ml o o' with | true=>n | false=>b) :: gx os os' ns (b + 1)
 | _,_ :: os',_,b=>b :: gx [] os' [] (b + 1)
 | _,[],_,_=>[]
def uy:Nat->List Ob->List Ob->List (Nat × Nat)
 | k,o :: os,o' :: os'=>match ml o o' with
  | true=>(k,k) :: uy (k + 1) os os'
  | false=>uy (k + 1) os os'
 | _,_,_=>[]
def ow:Nat->List Ob->List Ob->List Nat->Bool
 | k,o :: os,o' :: os',n :: ns=>(match ml o o' with | true=>Nat.beq n k | false=>true) && ow (k + 1) os os' ns
 | _,_,_,_=>true
structure Alt (aN:List Ob) (args:List Cl):Type 1 where
 cv:Bool:=false
 bu:List Ob
 res:List Cl
 ok:CD args->PD aN->Prop:=fun _ _=>True
 out:CD args->PD aN->PD bu
 ret:CD args->PD aN->CD res
section
variable {aN:List Ob} {args:List Cl}
def wN (al:Alt aN args) (a:CD args) (x:PD aN) (ν:List Nat) (st:St) (K:SV->St->VC):VC:=
 match nodupB (gx aN al.bu ν st.next) && eP (st.next + al.bu.length) (gx aN al.bu ν st.next) with
 | true => .imp (al.ok a x) (K (mj (rS (dr al.bu (al.out a x) (gx aN al.bu ν st.next)) al.res (al.ret a x)))
   {env:=st.env,aC:=fJ (dr al.bu (al.out a x) (gx aN al.bu ν st.next)) al.bu (al.out a x) (gx aN al.bu ν st.next)++kD st.aC ν,next:=st.next + al.bu.length})
 | false => .ff
def tq (a:CD args) (x:PD aN) (ν:List Nat) (st:St) (K:SV->St->VC):List (Alt aN args)->VC
 | [] => .leaf True
 | [al]=>wN al a x ν st K
 | al :: al2 :: r => .both (wN al a x ν st K) (tq a x ν st K (al2 :: r))
def bW (aN:List Ob) (args:List Cl) (pre:CD args->PD aN->Prop) (alts:List (Alt aN args)):bA:=fun as st K=>
 match eI args st as with
 | (as,st)=>match Gr aN args as st.aC [] with
  | some ν=>match nodupB ν,gi false st.aC aN ν args as,b7 false st.aC aN ν aN ν with
   | true,some a,some x=>Fc (gq aN x args as++dW aN x st.aC aN ν) (.and (pre a x) (tq a x ν st K alts))
   | _,_,_ => .ff
  | none => .ff
def ll (aN:List Ob) (args:List Cl) (a:CD args) (x:PD aN):St:=
 {env:=jM 0 (rS (dr aN x (upto 0 aN.length)) args a),aC:=fJ (dr aN x (upto 0 aN.length)) aN x (upto 0 aN.length),next:=aN.length}
def qz (a:CD args) (x:PD aN) (vs:List bH) (st:St):List (Alt aN args)->VC
 | [] => .ff
 | al :: r=>match eI al.res st vs with
  | (vs',st')=>match Gr al.bu al.res vs' st'.aC (uy 0 aN al.bu) with
   | some ν=>match nodupB ν && (ow 0 aN al.bu ν && (!al.cv || (me aN && (cM al.bu && dX al.res)))),gi al.cv st'.aC al.bu ν al.res vs',b7 al.cv st'.aC al.bu ν al.bu ν with
    | true,some b,some y => .leaf (BK (gq al.bu y al.res vs'++dW al.bu y st'.aC al.bu ν++[al.ok a x/\y=al.out a x/\b=al.ret a x]))
    | _,_,_=>qz a x vs st r
   | none=>qz a x vs st r
def fp (B:Cx) (Γ:List (FuncId × (Bool × bA))) (fn:Func) (anns:cp) (aN:List Ob) (args:List Cl) (alts:List (Alt aN args)) (a:CD args) (x:PD aN):VC:=
 BT (lH B Γ fn.ntmps) anns fn.results.toList (codeOf fn) (ll aN args a x) fun vs st'=>qz a x vs st' alts
def kO:(cls:List Cl)->CD cls->Prop
 | [],_=>True
 | .d t :: r,x=>wf t x.1/\kO r x.2
 | .obj _ :: r,x=>kO r x
 | .dm :: r,x=>kO r x
end
section
variable {eT:TypeId} {X:Ext}
theorem oY {k:Nat}:∀{l:List Nat} {n:Nat},eP k l=true->n∈l->n < k
 | [],_,_,h=>by simp at h
 | m :: r,n,h,hn=>by
  simp only [eP,Bool.and_eq_true] at h
  rcases List.mem_cons.1 hn with e | hn
  ·rw [e];exact hE h.1
  ·exact oY h.2 hn
theorem fX (m:Nat):∀(ns:List Nat) (l:List (Nat × OC)),look (kD l ns) m=if m∈ns then none else look l m
 | [],l=>by simp [kD]
 | n :: r,l=>by
  simp only [kD]
  rw [fX m r,gn]
  by_cases h1:m∈r
  ·simp [h1]
  ·by_cases h2:n=m
   ·subst h2;simp
   ·have:¬ m=n:=fun e=>h2 e.symm
    simp [h1,h2,this]
theorem mm:∀{aN bu:List Ob} {ν:List Nat} {b i n:Nat},(gx aN bu ν b)[i]?=some n->
  (∃o o',aN[i]?=some o/\bu[i]?=some o'/\ml o o'=true/\ν[i]?=some n)\/b<=n
 | aN,[],ν,b,i,n,h=>by
  cases aN <;> cases ν <;> simp [gx] at h
 | [],o' :: os',ν,b,i,n,h=>by
  simp only [gx] at h
  cases i with
  | zero=>simp at h;exact .inr (by omega)
  | succ i=>
   rcases mm (aN:=[]) (ν:=[]) (by simpa using h) with ⟨o,_,h1,_⟩ | h1
   ·simp at h1
   ·exact .inr (by omega)
 | o :: os,o' :: os',[],b,i,n,h=>by
  simp only [gx] at h
  cases i with
  | zero=>simp at h;exact .inr (by omega)
  | succ i=>
   rcases mm (aN:=[]) (ν:=[]) (by simpa using h) with ⟨o,_,h1,_⟩ | h1
   ·simp at h1
   ·exact .inr (by omega)
 | o :: os,o' :: os',n0 :: ns,b,i,n,h=>by
  simp only [gx] at h
  cases i with
  | zero=>
   simp only [List.getElem?_cons_zero,Option.some.injEq] at h
   split at h
   ·rename_i hk;exact .inl ⟨o,o',rfl,rfl,hk,by simp [h]⟩
   ·exact .inr (by omega)
  | succ i=>
   rcases mm (by simpa using h) with ⟨a,a',h1,h2,h3⟩ | h1
   ·exact .inl ⟨a,a',by simpa using h1,by simpa using h2,by simpa using h3⟩
   ·exact .inr (by omega)
theorem lJ:∀{aN bu:List Ob} {ν:List Nat} {b:Nat},(gx aN bu ν b).length=bu.length
 | aN,[],ν,b=>by cases aN <;> cases ν <;> rfl
 | [],o' :: os',ν,b=>by simp [gx,lJ]
 | o :: os,o' :: os',[],b=>by simp [gx,lJ]
 | o :: os,o' :: os',n0 :: ns,b=>by simp [gx,lJ]
theorem tt:∀{aN bu:List Ob} {ν:List Nat} {k i n:Nat} {o o':Ob},ow k aN bu ν=true->aN[i]?=some o->bu[i]?=some o'->ml o o'=true->ν[i]?=some n->n=k + i
 | [],_,_,_,_,_,_,_,_,h,_,_,_=>by simp at h
 | _ :: _,[],_,_,_,_,_,_,_,_,h,_,_=>by simp at h
 | _ :: _,_ :: _,[],_,_,_,_,_,_,_,_,_,h=>by simp at h
 | a :: os,a' :: os',m :: ns,k,0,n,o,o',h,h1,h2,h3,h4=>by
  simp at h1 h2 h4
  subst h1;subst h2;subst h4
  simp only [ow,h3,Bool.and_eq_true] at h
  have:=Nat.eq_of_beq_eq_true h.1
  omega
 | a :: os,a' :: os',m :: ns,k,i + 1,n,o,o',h,h1,h2,h3,h4=>by
  simp only [ow,Bool.and_eq_true] at h
  have:=tt h.2 (by simpa using h1) (by simpa using h2) h3 (by simpa using h4)
  omega
theorem vg:∀{l:List Ob} {o:Ob} {t:Ty},me l=true->o∈l->o≠.tok t
 | [],_,_,_,h=>by simp at h
 | a :: r,o,t,h,ho=>by
  rcases List.mem_cons.1 ho with e | ho
  ·subst e;intro e;subst e;simp [me] at h
  ·exact vg (by cases a <;> simp_all [me]) ho
theorem qA {S:aZ} {F:Nat->Value->Prop}:∀{cls:List Cl} {x:CD cls} {vs:List Value},mL eT S F cls x vs->kO cls x
 | [],_,_,_=>trivial
 | .d t :: r,x,v :: vs,h=>⟨h.1.wf,qA h.2⟩
 | .obj k :: r,x,v :: vs,h=>qA (cls:=r) h.2
 | .dm :: r,x,v :: vs,h=>qA (cls:=r) h.2
theorem ox {S:aZ} {F:Nat->Value->Prop}:∀{cls:List Cl} {x:CD cls} {vs:List Value},mL eT S F cls x vs->vs.length=cls.length
 | [],_,_,h=>by rw [show _ = [] from h];rfl
 | .d t :: r,x,v :: vs,h=>by simp [ox h.2]
 | .obj k :: r,x,v :: vs,h=>by simp [ox (cls:=r) h.2]
 | .dm :: r,x,v :: vs,h=>by simp [ox (cls:=r) h.2]
theorem tu {O:aD} {loc:Nat->Loc} {w:World}:∀(cls:List Cl) (xs:List bH) {st:St},Good eT X (aB O st loc w)->
  Tr (aB O st loc w) (aB O (eI cls st xs).2 loc w)/\Good eT X (aB O (eI cls st xs).2 loc w)/\(eI cls st xs).2.env=st.env/\
   ∀vs,bR eT (aB O st loc w) xs vs->bR eT (aB O (eI cls st xs).2 loc w) (eI cls st xs).1 vs:=by
 intro cls
 induction cls with
 | nil=>intro xs st g;exact ⟨Tr.refl _,g,rfl,fun vs h=>h⟩
 | cons cl r ih=>
  intro xs st g
  cases xs with
  | nil=>cases cl <;> exact ⟨Tr.refl _,g,rfl,fun vs h=>h⟩
  | cons x xs=>
   cases cl with
   | d t=>
    have g':Good (Cx.mk eT [] [] [] 0 [] [] [] false [] []).eT X (aB O st loc w):=g
    obtain ⟨t1,g1,e1,k1⟩:=ov g' x
    obtain ⟨t2,g2,e2,k2⟩:=ih xs g1
    refine ⟨t1.trans t2,g2,e2.trans e1,fun vs h => ?_⟩
    cases h with
    | cons h1 h3=>exact .cons ((k1 _ h1).tr t2) (k2 _ (h3.tr t1))
   | obj k=>
    obtain ⟨t2,g2,e2,k2⟩:=ih xs g
    refine ⟨t2,g2,e2,fun vs h => ?_⟩
    cases h with
    | cons h1 h3=>exact .cons (h1.tr t2) (k2 _ h3)
   | dm=>
    obtain ⟨t2,g2,e2,k2⟩:=ih xs g
    refine ⟨t2,g2,e2,fun vs h => ?_⟩
    cases h with
    | cons h1 h3=>exact .cons (h1.tr t2) (k2 _ h3)
end
end Go.Vg

namespace Go.Vg
open Go.RowKit
section
variable {X:Ext} {P:Program} {aN:List Ob} {args:List Cl}
theorem tw {a:CD args} {x:PD aN} {ν:List Nat} {st:St} {K:SV->St->VC}:∀{alts:List (Alt aN args)},(tq a x ν st K alts).holds->∀al∈alts,(wN al a x ν st K).holds
 | [],_,al,h=>by simp at h
 | [al0],h,al,ha=>by simp at ha;subst ha;exact h
 | al0 :: al1 :: r,h,al,ha=>by
  rcases List.mem_cons.1 ha with e | ha
  ·subst e;exact h.1
  ·exact tw h.2 al ha
theorem vh {a:CD args} {x:PD aN} {vs:List bH} {st:St}:∀{alts:List (Alt aN args)},(qz a x vs st alts).holds->∃al∈alts,∃ν,
  nodupB ν=true/\ow 0 aN al.bu ν=true/\(al.cv=false\/(me aN=true/\cM al.bu=true/\dX al.res=true))/\al.ok a x/\
  gi al.cv (eI al.res st vs).2.aC al.bu ν al.res (eI al.res st vs).1=some (al.ret a x)/\b7 al.cv (eI al.res st vs).2.aC al.bu ν al.bu ν=some (al.out a x)/\
  (∀p∈gq al.bu (al.out a x) al.res (eI al.res st vs).1,p)/\(∀p∈dW al.bu (al.out a x) (eI al.res st vs).2.aC al.bu ν,p)
 | [],h=>h.elim
 | al :: r,h=>by
  have rest:(qz a x vs st r).holds->∃al'∈al :: r,∃ν,
    nodupB ν=true/\ow 0 aN al'.bu ν=true/\(al'.cv=false\/(me aN=true/\cM al'.bu=true/\dX al'.res=true))/\al'.ok a x/\
    gi al'.cv (eI al'.res st vs).2.aC al'.bu ν al'.res (eI al'.res st vs).1=some (al'.ret a x)/\b7 al'.cv (eI al'.res st vs).2.aC al'.bu ν al'.bu ν=some (al'.out a x)/\
    (∀p∈gq al'.bu (al'.out a x) al'.res (eI al'.res st vs).1,p)/\(∀p∈dW al'.bu (al'.out a x) (eI al'.res st vs).2.aC al'.bu ν,p):=fun h=>by
   obtain ⟨al',h1,h2⟩:=vh h
   exact ⟨al',by simp [h1],h2⟩
  simp only [qz] at h
  split at h
  ·rename_i ν hν
   split at h
   ·rename_i b y hc hb hy
    simp only [Bool.and_eq_true,Bool.or_eq_true,Bool.not_eq_true'] at hc
    obtain ⟨h1,h2,h3⟩:=hc
    have hall:=rT h
    have k3:al.ok a x/\y=al.out a x/\b=al.ret a x:=hall _ (List.mem_append_right _ (by simp))
    obtain ⟨k4,k5,k6⟩:=k3
    subst k5;subst k6
    obtain ⟨k1,_⟩:=eX.1 hall
    obtain ⟨k1,k2⟩:=eX.1 k1
    exact ⟨al,by simp,ν,h1,h2,h3,k4,hb,hy,k1,k2⟩
   ·exact rest h
  ·exact rest h
theorem Fj {B:Cx} {Γ:List (FuncId × (Bool × bA))} (hok:bM P B X Γ) {f:FuncId} {fn:Func} {c:Code} (hf:P.funcs[f]?=some fn) (hb:fn.body=some c) (hN:args.length<=fn.ntmps) {anns:CD args->PD aN->cp}
  {pre:CD args->PD aN->Prop} {alts:List (Alt aN args)} (h:∀a x,kO args a->pre a x->(fp B Γ fn (anns a x) aN args alts a x).holds)
  {O:aD} {st:St} {loc:Nat->Loc} {w:World} {as:List bH} {vs:List Value} {K:SV->St->VC} (g:Good B.eT X (aB O st loc w)) (hO:cC O w) (ha:bR B.eT (aB O st loc w) as vs)
  {ν:List Nat} {a:CD args} {x:PD aN} (hnd:nodupB ν=true) (hga:gi false st.aC aN ν args as=some a) (hx:b7 false st.aC aN ν aN ν=some x)
  (hp1:∀p∈gq aN x args as,p) (hp2:∀p∈dW aN x st.aC aN ν,p) (hpre:pre a x) (hK:(tq a x ν st K alts).holds) :
  Calls P f vs.toArray w fun e w'=>∃v sv st' loc',e = .returned v/\(K sv st').holds/\st'.env=st.env/\Good B.eT X (aB O st' loc' w')/\
   Tr (aB O st loc w) (aB O st' loc' w')/\b4 B.eT (aB O st' loc' w') sv v:=by
 have hvals:=uY g hx hga ha hp1
 have hobsl:=kT hx
 let us:=upto 0 aN.length
 have hul:ν.length=us.length:=by rw [oe];exact hobsl.symm
 let O':aD:=fun b off=>O b off\/∃n oc,look st.aC n=some oc/\n∉ν/\b∈(loc n).bs/\oc.lo<=off
 let st0:=ll aN args a x
 have hOin':cC O' w:=by
  rintro b off (h | ⟨n,oc,h1,_,h2,_⟩)
  ·exact hO b off h
  ·exact (g.obj n oc h1).2.inside b h2
 have hlo:∀n∈ν,∀oc,look st.aC n=some oc->me aN=true->oc.lo=0:=by
  intro n hn oc h1 h2
  obtain ⟨o,oc',y,k1,k2,k3⟩:=fV hx hn
  rw [h1] at k2;cases k2
  have:=(ky k3 (fun _ => .any)).2.2.2 (fun t=>vg h2 k1) rfl
  cases oc <;> first | rfl | exact (this _ _ rfl).elim
 have hν:∀n∈ν,∃oc,look st.aC n=some oc:=fun n hn=>let ⟨_,oc,_,_,k,_⟩:=fV hx hn;⟨oc,k⟩
 let loc0:=cr us (ν.map loc) loc
 have hf0:∀k oc,look st0.aC k=some oc->∃(i n:Nat) (o:Ob) (y:OD o) (oc0:OC),ν[i]?=some n/\us[i]?=some k/\aN[i]?=some o/\look st.aC n=some oc0/\eA false st.aC aN ν o oc0=some y/\oc=lE (dr aN x us) o y/\loc0 k=loc n:=by
  intro k oc hk
  obtain ⟨i,n,o,y,oc0,k1,k2,k3,k4,k5,k6,_⟩:=kS hx (kR (X:=X) g hx hx hp2) hul hk
  exact ⟨i,n,o,y,oc0,k1,k2,k3,k4,k5,k6,fw (eO _ _) k2 (by simp [k1])⟩
 have hA0:∀b o,(aB O' st0 loc0 w).A b o->(aB O st loc w).A b o:=by
  rintro b off ((h | ⟨n,oc,h1,_,h2,h3⟩) | ⟨k,oc,h1,h2,h3⟩)
  ·exact .inl h
  ·exact .inr ⟨n,oc,h1,h2,h3⟩
  ·obtain ⟨i,n,o,y,oc0,_,_,_,k4,k5,k6,k7⟩:=hf0 k oc h1
   refine .inr ⟨n,oc0,k4,by simp only [aB] at h2;rw [k7] at h2;exact h2,?_⟩
   rcases uw (f:=dr aN x us) k5 with e | e
   ·rw [<-e,<-k6];exact h3
   ·cases e
 have hown0:∀b,(aB O' st0 loc0 w).jC b->∃n∈ν,b∈(loc n).bs:=by
  rintro b ⟨k,oc,h1,h2⟩
  obtain ⟨i,n,o,y,oc0,k1,_,_,_,_,_,k7⟩:=hf0 k oc h1
  exact ⟨n,List.mem_of_getElem? k1,by simp only [aB] at h2;rw [k7] at h2;exact h2⟩
 obtain ⟨g0,laid0⟩:=BN (X:=X) g hx hp2 hnd (O2:=O') (ν2:=us) (rest:=[]) (locR:=loc) (st2:=st0) (eO _ _) hul
  (by simp [st0,ll,us]) (fun n hn=>by have:=od hn;simp [st0,ll];omega)
  (fun n hn b hb off=>by
   obtain ⟨oc,k⟩:=hν n hn
   rintro (h | ⟨m,oc',h1,h2,h3,_⟩)
   ·exact g.out n oc b off k hb h
   ·exact h2 (by rw [<-g.apart n m oc oc' b k h1 hb h3];exact hn))
  (fun n hn b hb m oc h=>by simp [look] at h) (fun m oc h=>by simp [look] at h) (fun m m' oc oc' b h=>by simp [look] at h) (fun m oc b off h=>by simp [look] at h) (.inr hA0)
  (fun b hb h=>by
   obtain ⟨n,hn,hbn⟩:=hown0 b h
   obtain ⟨oc,k⟩:=hν n hn
   exact g.iH.2 b hb ⟨n,oc,k,hbn⟩)
 have hargs:bR B.eT (aB O' st0 loc0 w) (rS (dr aN x us) args a) vs:=xE (S:=aB O st loc w) (S':=aB O' st0 loc0 w) rfl (fun k v hk=>s6 laid0 hk) (.inr hA0) hvals
 have hcode:codeOf fn=c:=by unfold codeOf;rw [hb];rfl
 have hvc:=h a x (qA hvals) hpre
 unfold fp at hvc
 rw [hcode] at hvc
 have hcalls:=mQ (X:=X) (hok fn.ntmps) hf hb (by rfl) (anns a x) (O:=O') (loc:=loc0) (w:=w) (args:=vs.toArray) (st:=st0)
  (by rw [List.size_toArray,ox hvals];exact hN) g0 hOin'
  (fun t sv ht=>by
   obtain ⟨_,v,k1,k2⟩:=qZ 0 hargs t sv ht
   exact ⟨v,by simpa using k1,k2⟩) hvc
 refine hcalls.mono ?_
 rintro e w' ⟨rs,us',st',locE,he,hk,hr,gE',trE'⟩
 obtain ⟨al,hal,ν',hnd',hkept,hcv,hokal,hret,hout,hc1,hc2⟩:=vh hk
 obtain ⟨tF,gE,_,kF⟩:=tu al.res rs gE'
 generalize hst2:(eI al.res st' rs).2=st2 at *
 generalize hrs2:(eI al.res st' rs).1=rs2 at *
 have trE:=trE'.trans tF
 have hrE:=kF us' hr
 have hKal:=tw hK al hal
 unfold wN at hKal
 split at hKal
 case h_2=>exact hKal.elim
 rename_i hn1
 simp only [Bool.and_eq_true] at hn1
 obtain ⟨hnd1,hbel⟩:=hn1
 have hKal:=hKal hokal
 generalize hν1:gx aN al.bu ν st.next=ν1 at *
 have hl1:ν'.length=ν1.length:=by rw [<-hν1,lJ];exact (kT hout).symm
 generalize hst1:({env:=st.env,aC:=fJ (dr al.bu (al.out a x) ν1) al.bu (al.out a x) ν1++kD st.aC ν,next:=st.next + al.bu.length}:St)=st1 at hKal
 have h1env:st1.env=st.env:=by rw [<-hst1]
 have h1objs:st1.aC=fJ (dr al.bu (al.out a x) ν1) al.bu (al.out a x) ν1++kD st.aC ν:=by rw [<-hst1]
 have h1next:st1.next=st.next + al.bu.length:=by rw [<-hst1]
 let loc1:=cr ν1 (ν'.map locE) loc
 have hf1:∀m oc,look st1.aC m=some oc->(∃(i n:Nat) (o:Ob) (y:OD o) (oc0:OC),ν'[i]?=some n/\ν1[i]?=some m/\al.bu[i]?=some o/\look st2.aC n=some oc0/\eA al.cv st2.aC al.bu ν' o oc0=some y/\
   oc=lE (dr al.bu (al.out a x) ν1) o y/\loc1 m=locE n)\/(m∉ν1/\m∉ν/\look st.aC m=some oc/\loc1 m=loc m):=by
  intro m oc hm
  rw [h1objs,cb] at hm
  split at hm
  ·rename_i oc' hm'
   cases hm
   obtain ⟨i,n,o,y,oc0,k1,k2,k3,k4,k5,k6,_⟩:=kS hout (kR (X:=X) gE hout hout hc2) hl1 hm'
   exact .inl ⟨i,n,o,y,oc0,k1,k2,k3,k4,k5,k6,fw hnd1 k2 (by simp [k1])⟩
  ·rename_i hm'
   have hnin:m∉ν1:=fun hmem=>by
    obtain ⟨oc1,h2⟩:=kz (f:=dr al.bu (al.out a x) ν1) (x:=al.out a x) (by rw [<-hν1,lJ]) hmem
    rw [h2] at hm';cases hm'
   rw [fX] at hm
   split at hm
   ·cases hm
   ·rename_i hmn
    exact .inr ⟨hnin,hmn,hm,iV hnin⟩
 have hownE:∀n∈ν',∀b∈(locE n).bs,(aB O' st2 locE w').jC b:=by
  intro n hn b hb
  obtain ⟨_,oc,_,_,k,_⟩:=fV hout hn
  exact ⟨n,oc,k,hb⟩
 have hblk:∀m oc,look st.aC m=some oc->m∉ν->∀b∈(loc m).bs,¬ (aB O' st0 loc0 w).jC b:=by
  intro m oc h1 h2 b hb' ho
  obtain ⟨n,hn,hbn⟩:=hown0 b ho
  obtain ⟨oc',k⟩:=hν n hn
  have:=g.apart n m oc' oc b k h1 hbn hb'
  exact h2 (by rw [<-this];exact hn)
 have hA1:al.cv=false->∀b o,(aB O st1 loc1 w').A b o->(aB O' st2 locE w').A b o:=by
  rintro hcv0 b off (h | ⟨m,oc,h1,h2,h3⟩)
  ·exact .inl (.inl h)
  ·rcases hf1 m oc h1 with ⟨i,n,o,y,oc0,k1,k2,k3,k4,k5,k6,k7⟩ | ⟨k1,k2,k3,k4⟩
   ·refine .inr ⟨n,oc0,k4,by simp only [aB] at h2;rw [k7] at h2;exact h2,?_⟩
    rcases uw (f:=dr al.bu (al.out a x) ν1) k5 with e | e
    ·rw [<-e,<-k6];exact h3
    ·rw [hcv0] at e;cases e
   ·exact .inl (.inr ⟨m,oc,k3,k2,by simp only [aB] at h2;rw [k4] at h2;exact h2,h3⟩)
 have hkeep:∀(m i:Nat),ν1[i]?=some m->m < st.next->∃o o',aN[i]?=some o/\al.bu[i]?=some o'/\ml o o'=true/\ν[i]?=some m:=by
  intro m i h1 h2
  rw [<-hν1] at h1
  rcases mm h1 with h3 | h3
  ·exact h3
  ·omega
 have hT:Tr (aB O st loc w) (aB O st1 loc1 w'):={
  O:=rfl
  next:=by simp only [aB];omega
  os:=trE.os
  output:=trE.output
  size:=trE.size
  own:=by
   rintro b ⟨m,oc,h1,h2⟩
   rcases hf1 m oc h1 with ⟨i,n,o,y,oc0,k1,k2,k3,k4,k5,k6,k7⟩ | ⟨k1,k2,k3,k4⟩
   ·simp only [aB] at h2;rw [k7] at h2
    rcases trE.own b (hownE n (List.mem_of_getElem? k1) b h2) with h3 | h3
    ·obtain ⟨n',hn',hb'⟩:=hown0 b h3
     obtain ⟨oc',k⟩:=hν n' hn'
     exact .inl ⟨n',oc',k,hb'⟩
    ·exact .inr h3
   ·simp only [aB] at h2;rw [k4] at h2;exact .inl ⟨m,oc,k3,h2⟩
  cell:=by
   intro b off v hna hcell
   obtain ⟨h1,h2⟩:=trE.cell b off v (fun h=>hna (hA0 b off h)) hcell
   refine ⟨h1,fun h3 => ?_⟩
   rcases hcv with hcv | ⟨hnt,_,_⟩
   ·exact h2 (hA1 hcv b off h3)
   ·rcases h3 with h3 | ⟨m,oc,h3,h4,h5⟩
    ·exact hna (.inl h3)
    ·rcases hf1 m oc h3 with ⟨i,n,o,y,oc0,k1,k2,k3,k4,k5,k6,k7⟩ | ⟨k1,k2,k3,k4⟩
     ·simp only [aB] at h4;rw [k7] at h4
      rcases trE.own b (hownE n (List.mem_of_getElem? k1) b h4) with h6 | h6
      ·obtain ⟨n',hn',hb'⟩:=hown0 b h6
       obtain ⟨oc',k⟩:=hν n' hn'
       exact hna (.inr ⟨n',oc',k,hb',by rw [hlo n' hn' oc' k hnt];exact Nat.zero_le _⟩)
      ·have:=World.block_lt_of_cell? _ _ hcell
       simp only [aB] at this h6
       omega
     ·simp only [aB] at h4;rw [k4] at h4;exact hna (.inr ⟨m,oc,k3,h4,h5⟩)
  block:=fun b hb' ho=>trE.block b hb' fun h=>ho (by
   obtain ⟨n,hn,hbn⟩:=hown0 b h
   obtain ⟨oc,k⟩:=hν n hn
   exact ⟨n,oc,k,hbn⟩)
  loc:=by
   intro m hm hfix
   by_cases hin:m∈ν1
   ·obtain ⟨i,hi⟩:=List.getElem?_of_mem hin
    obtain ⟨o,o',e1,e2,e3,e4⟩:=hkeep m i hi hm
    have hiE:i < ν'.length:=by rw [hl1];exact aT hi
    have hn':ν'[i]?=some ν'[i]:=List.getElem?_eq_getElem hiE
    have hni:=tt hkept e1 e2 e3 hn'
    rw [Nat.zero_add] at hni
    have e5:loc1 m=locE i:=by
     have:=fw (d:=loc) hnd1 hi (ls:=ν'.map locE) (l:=locE i) (by simp [hn',hni])
     exact this
    have hui:us[i]?=some i:=by have:=rV aN.length 0 i (aT e1);simpa using this
    have e6:loc0 i=loc m:=fw (eO _ _) hui (by simp [e4])
    have e7:=trE.loc i (show i < st0.next by simp [st0,ll];exact aT e1) (fun t ys hy=>by
     obtain ⟨j,n,o2,y,oc0,k1,k2,k3,k4,k5,k6,k7⟩:=hf0 i _ hy
     have hj:j=i:=kA (eO _ _) k2 hui
     subst hj
     rw [e1] at k3;cases k3
     cases o <;> simp [lE] at k6
     cases o' <;> simp [ml] at e3)
    show (loc1 m).v=(loc m).v/\(_->loc1 m=loc m)
    rw [e5,<-e6]
    refine ⟨e7.1,fun hr=>e7.2 fun t z hy => ?_⟩
    obtain ⟨j,n,o2,y,oc0,k1,k2,k3,k4,k5,k6,k7⟩:=hf0 i _ hy
    have hj:j=i:=kA (eO _ _) k2 hui
    subst hj
    rw [e4] at k1;cases k1
    cases o2 <;> simp [lE] at k6
    obtain ⟨rfl,rfl,_⟩:=k6
    obtain ⟨z',rfl⟩:=(ky k5 (fun _ => .any)).2.1 _ _ rfl
    exact hr _ _ k4
   ·exact ik (iV hin)
  kind:=by
   intro m oc' hm hob
   rcases hf1 m oc' hob with ⟨i,n,o,y,oc0,k1,k2,k3,k4,k5,k6,k7⟩ | ⟨k1,k2,k3,k4⟩
   ·obtain ⟨o0,o',e1,e2,e3,e4⟩:=hkeep m i k2 hm
    rw [k3] at e2;cases e2
    have hui:us[i]?=some i:=by have:=rV aN.length 0 i (aT e1);simpa using this
    obtain ⟨oc2,h2⟩:=kz (f:=dr aN x us) (x:=x) (ms:=us) (by rw [oe]) (List.mem_of_getElem? hui)
    obtain ⟨j,n2,o2,y2,oc3,j1,j2,j3,j4,j5,j6,j7⟩:=hf0 i oc2 (by simpa [st0,ll] using h2)
    have hj:j=i:=kA (eO _ _) j2 hui
    subst hj
    rw [e1] at j3;cases j3
    rw [e4] at j1;cases j1
    refine ⟨oc3,j4,?_⟩
    cases o0 <;> cases o <;> simp [ml] at e3
    ·subst e3
     obtain ⟨cs,rfl⟩:=(ky j5 (fun _ => .any)).1 _ _ rfl
     rw [k6]
     rfl
    ·rename_i kp t kp' t'
     cases kp <;> cases kp' <;> simp at e3
     have e3:=Ty.eq_of_beq e3
     subst e3
     obtain ⟨xs,rfl⟩:=(ky j5 (fun _ => .any)).2.2.1 _ _ rfl rfl
     rw [k6]
     rfl
    ·obtain ⟨e3,e4⟩:=e3
     have e4:=Ty.eq_of_beq e4
     subst e3;subst e4
     obtain ⟨z,rfl⟩:=(ky j5 (fun _ => .any)).2.1 _ _ rfl
     rw [k6]
     exact ⟨rfl,rfl⟩
   ·refine ⟨oc',k3,?_⟩
    cases oc' <;> simp [aQ,aB,k4]}
 obtain ⟨g1,laid1⟩:=BN (X:=X) gE hout hc2 hnd' (O2:=O) (ν2:=ν1) (rest:=kD st.aC ν) (locR:=loc) (st2:=st1) hnd1 hl1 h1objs
  (fun n hn=>by rw [h1next];exact oY hbel hn)
  (fun n hn b hb' off h=>by
   obtain ⟨_,oc,_,_,k,_⟩:=fV hout hn
   exact gE.out n oc b off k hb' (.inl h))
  (fun n hn b hb' m oc h1 h2 h3=>by
   rw [fX] at h1
   split at h1
   ·cases h1
   ·rename_i hmn
    rcases trE.own b (hownE n hn b hb') with h4 | h4
    ·exact hblk m oc h1 hmn b h3 h4
    ·have:=(g.obj m oc h1).2.inside b h3
     simp only [aB] at this h4
     omega)
  (fun m oc h1 h2=>by
   rw [fX] at h1
   split at h1
   ·cases h1
   ·rename_i hmn
    obtain ⟨k1,k2⟩:=g.obj m oc h1
    refine ⟨by rw [h1next];simp only [aB] at k1;omega,k2.tr hT fun b hb' => ?_⟩
    exact trE.block b (k2.inside b hb') (hblk m oc h1 hmn b hb'))
  (fun m m' oc oc' b h1 h2 _ _ h3 h4=>by
   rw [fX] at h1 h2
   split at h1
   ·cases h1
   ·split at h2
    ·cases h2
    ·exact g.apart m m' oc oc' b h1 h2 h3 h4)
  (fun m oc b off h1 _ h2=>by
   rw [fX] at h1
   split at h1
   ·cases h1
   ·exact g.out m oc b off h1 h2)
  (by
   rcases hcv with hcv | ⟨_,hcv,_⟩
   ·exact .inr (hA1 hcv)
   ·exact .inl hcv)
  (g.iH.tr hT).2
 have hres:=uY gE hout hret hrE hc1
 refine ⟨_,_,st1,loc1,he,hKal,h1env,g1,hT,pL (xE (S:=aB O' st2 locE w') (S':=aB O st1 loc1 w') rfl (fun k v hk=>s6 laid1 hk) ?_ hres)⟩
 rcases hcv with hcv | ⟨_,_,hcv⟩
 ·exact .inr (hA1 hcv)
 ·exact .inl hcv
theorem cQ {B:Cx} {Γ:List (FuncId × (Bool × bA))} (hok:bM P B X Γ) {f:FuncId} {fn:Func} (hf:P.funcs[f]?=some fn) (hg:nu fn args.length=true) (anns:CD args->PD aN->cp)
  {pre:CD args->PD aN->Prop} {alts:List (Alt aN args)} (h:∀a x,kO args a->pre a x->(fp B Γ fn (anns a x) aN args alts a x).holds) :
  cP P B.eT X f false (bW aN args pre alts):=by
 simp only [nu,Bool.and_eq_true,Bool.not_eq_true'] at hg
 obtain ⟨⟨h1,h2⟩,h3⟩:=hg
 obtain ⟨c,hc⟩:=Option.isSome_iff_exists.1 h1
 refine ⟨⟨fn,hf,by rw [hc];rfl,h2⟩,fun O st loc w as vs K hK g hO ha => ?_⟩
 unfold bW at hK
 obtain ⟨t1,g1,e1,k1⟩:=tu args as g
 simp only at hK
 split at hK
 case h_2=>exact hK.elim
 rename_i ν hν
 split at hK
 case h_2=>exact hK.elim
 rename_i a x hnd hga hx
 obtain ⟨hp,hpre,hK⟩:=xC hK
 obtain ⟨hp1,hp2⟩:=eX.1 hp
 refine (Fj hok hf hc (Nat.le_of_ble_eq_true h3) h g1 hO (k1 vs ha) hnd hga hx hp1 hp2 hpre hK).mono ?_
 rintro e w' ⟨v,sv,st',loc',q1,q2,q3,q4,q5,q6⟩
 exact ⟨v,sv,st',loc',q1,q2,q3.trans e1,(fun hq=>by cases hq),q4,t1.trans q5,q6⟩
end
end Go.Vg

namespace Go.Vg
@[reducible] def aI:Ty:=.prod .str (.prod (.int .i64) (.prod .bool .unit))
@[reducible] def aP:Ty:=.prod (.int .i64) (.prod (.int .i64) .unit)
@[reducible] def aH:Ty:=.prod (.int .i64) (.prod (.int .i64) (.prod (.int .i64) (.prod .str (.prod .bool .unit))))
@[reducible] def bt:Ty:=.prod (.int .i64) (.prod (.int .i64) (.prod (.int .i64) .unit))
@[reducible] def eZ:Ty:=.prod .str (.prod (.int .i64) (.prod (.int .i64) .unit))
@[reducible] def aA:Ty:=.prod (.slice .str) (.prod (.slice (.int .i64)) (.prod (.slice aI) (.prod (.slice aH) .unit)))
@[reducible] def du:Ty:=.prod .str (.prod (.slice eZ) (.prod (.slice bt) .unit))
@[reducible] def bP:Ty:=.prod .str (.prod .str (.prod .str (.prod (.int .i64) (.prod (.int .u64) (.prod du .unit)))))
@[reducible] def ba:Ty:=.prod .str (.prod (.int .i64) (.prod (.slice (.int .i64)) .unit))
@[reducible] def wO:Ty:=.prod (.int .i64) (.prod .str .unit)
@[reducible] def Gv:Ty:=.prod (.slice .str) (.prod (.slice .str) (.prod (.slice wO) (.prod (.int .i64) (.prod .bool .unit))))
theorem bl :
  (∀(p:Prop) [Decidable p],(decide p=true)=p)/\(∀(p:Prop) [Decidable p],(decide p=false)=¬ p)/\
  (∀(α:Type) [BEq α] [LawfulBEq α] (a b:α),((a == b)=true)=(a=b))/\(∀(α:Type) [BEq α] [LawfulBEq α] (a b:α),((a == b)=false)=¬ a=b)/\
  (∀(α:Type) [BEq α] [LawfulBEq α] (a b:α),((a != b)=true)=¬ a=b)/\(∀(α:Type) [BEq α] [LawfulBEq α] (a b:α),((a != b)=false)=(a=b))/\
  (∀b:Bool,((!b)=true)=(b=false))/\(∀b:Bool,((!b)=false)=(b=true))/\(∀b:Bool,(¬ b=true)=(b=false))/\(∀b:Bool,(¬ b=false)=(b=true))/\
  (∀a b:Bool,((a && b)=true)=(a=true/\b=true))/\(∀a b:Bool,((a || b)=true)=(a=true\/b=true))/\
  (∀a b:Bool,((a && b)=false)=(a=false\/b=false))/\(∀a b:Bool,((a || b)=false)=(a=false/\b=false))/\
  (∀a b:Int,(¬ a < b)=(b<=a))/\(∀a b:Int,(¬ a<=b)=(b < a)):=by
 refine ⟨?_,?_,?_,?_,?_,?_,?_,?_,?_,?_,?_,?_,?_,?_,?_,?_⟩ <;> intros <;> first | (simp;done) | (rename_i a b;cases a <;> cases b <;> simp)
end Go.Vg

namespace Go.Vg
open Go.RowKit
theorem HU {w:World} {b i:Nat} {c:Array Value} {T:TypeId} {v:Value} (hb:w.heap[b]?=some (.cells c T (0,0))):(w.setCell ⟨b,i,none⟩ v).heap[b]?=some (.cells (c.setIfInBounds i v) T (0,0)):=by
 simp [World.setCell,Array.getElem?_modify,hb]
theorem G1 {P:Program} {w:World} {t u ty e:TypeId} {i:TypeInfo} (ht:P.underlying t=some (.slice e)) (hu:P.underlying u=some .string) (hi:P.info? e=some i) (hz:i.zero=some (.int .u8 0))
  (hsize:i.size=1) (hby:i.bytes=1) {v:Value} {xs:List Value} (hown:w.ownsRow 0 e 1 v xs.length xs) (hcap:∀a n c,v = .slice (some a) n c->0 < c) (s:ByteArray) (hlen:xs.length + s.size<=140737488355328) :
  ∃v' w',(Builtin.append_ #[t,u] ty #[v, .string s]).run P w = .ok v' w'/\w'.ownsRow 0 e 1 v' (xs.length + s.size) (xs++Lib.strCells s)/\w.grownBy w' v.ownBlock/\(∀a n c,v' = .slice (some a) n c->0 < c)/\
   (∀g,v'.ownBlock=some g->v.ownBlock=some g\/w.heap.size<=g):=by
 rcases hown.2 with ⟨rfl,h0⟩ | ⟨g,cap,cur,rfl,hbg,hg,hnc,hcm,hcs,htake⟩
 ·have hown':w.ownsRow w.heap.size e 1 (.slice none 0 0) xs.length xs:=⟨hown.1, .inl ⟨rfl,h0⟩⟩
  obtain ⟨v',w',h1,h2,h3,h4⟩:=Lib.run_append_own_string (P:=P) w w.heap.size t u ty e i ht hu hi hz hsize hby _ _ _ hown' s (by unfold maxLen;omega) hlen (Nat.le_refl _)
  rcases h2.2 with ⟨rfl,h6⟩ | ⟨g,cap,cur,rfl,k1,k2,k3,k4⟩
  ·exact ⟨_,w',h1,⟨h2.1, .inl ⟨rfl,h6⟩⟩,h3,(fun a n c hh=>by cases hh),(fun g hh=>by cases hh)⟩
  ·refine ⟨_,w',h1,⟨h2.1, .inr ⟨g,cap,cur,rfl,Nat.zero_le _,k2,k3,k4⟩⟩,h3,fun a n c hh => ?_,fun g' hh=>by cases hh;exact .inr k1⟩
   cases hh
   by_cases hs:s.size=0
   ·have:=h4.2 ⟨rfl,hs⟩;cases this
   ·omega
 ·have hc0:=hcap _ _ _ rfl
  by_cases hroom:xs.length + s.size<=cap
  ·obtain ⟨w',h1,h2,h3⟩:=Lib.run_append_fits_string (P:=P) w 0 t u ty e i ht hu hi hsize _ _ _ _ hown s hc0 hroom
   exact ⟨_,w',h1,h2,h3,(fun a n c hh=>by cases hh;exact hc0),(fun g' hh => .inl hh)⟩
  ·have holds:∀j u,xs[j]?=some u->w.cell? ((⟨g,0,none⟩:Addr).add j)=some u:=hown.cells (g:=g) rfl
   have hr:=Lib.run_append_grow_string (P:=P) w t u ty e i (.int .u8 0) ht hu hi hz ⟨g,0,none⟩ xs.length cap xs (by rw [hsize];simp) holds s (by omega) (by omega) (by rw [hby];exact growslice_fits (by omega) (by omega))
   have hge:=grownCap_ge w (xs.length + s.size) cap e
   have hcm':grownCap w (xs.length + s.size) cap e<=maxLen:=grownCap_le_maxLen w (xs.length + s.size) cap e (by unfold maxLen;omega)
   refine ⟨_,_,hr,⟨by simp [Lib.strCells_length], .inr ⟨w.heap.size,_,_,rfl,Nat.zero_le _,heap_alloc_new w.drew _,hge,hcm',?_,?_⟩⟩,⟨rfl,rfl,rfl,by simp,fun k hk _=>Go.Deep.blk_alloc_lt w.drew _ k hk⟩,(fun a n c hh=>by cases hh;omega),(fun g' hh=>by cases hh;exact .inr (Nat.le_refl _))⟩
   ·have hz1:(Value.int IntKind.u8 0).cells.size=1:=rfl
    simp only [Array.size_append,List.size_toArray,size_zeroCells,hz1,Lib.strCells_length]
    omega
   ·simp only [Array.toList_append,List.append_assoc]
    rw [<-List.append_assoc]
    have:(xs++Lib.strCells s).length=(xs.length + s.size) * 1:=by simp [Lib.strCells_length]
    rw [<-this]
    exact List.take_left
theorem qM {P:Program} {w w':World} {ops:Array Oper} {rest:List Oper} {o:Oper} {a:Act} {Q:Exit->Act->World->Prop} (hgd:o.guard=none) (sl x:Operand) (t u:TypeId)
  (ho:o.op = .call {callee:=.builtin .append,args:=#[sl,x],argTypes:=#[t,u]}) {v v' y:Value} (hs:a.eval sl=v) (hx:a.eval x=y)
  (hr:(Builtin.append_ #[t,u] o.type #[v,y]).run P w = .ok v' w') (h:wpList P ops Q rest (a.put o.dst v') w'):wpList P ops Q (o :: rest) a w:=by
 refine wpList_plain hgd fun K hK => ?_
 unfold Oper.wp execOp
 simp only [ho,resolve,invoke,builtin,Sem.run_bind,Sem.run_pure,Result.andThen_ok,List.map_toArray,List.map_cons,List.map_nil,hs,hx,hr]
 exact hK _ _ h
structure Kept (b:Nat) (v:Value) (w w':World):Prop where
 os:w'.os=w.os
 output:w'.output=w.output
 size:w.heap.size<=w'.heap.size
 block:∀k,k < w.heap.size->k≠b->v.ownBlock≠some k->w'.heap[k]?=w.heap[k]?
structure BZ (v:Value) (w w':World):Prop where
 os:w'.os=w.os
 output:w'.output=w.output
 size:w'.heap.size=w.heap.size
 block:∀k,v.ownBlock≠some k->w'.heap[k]?=w.heap[k]?
theorem zS {w:World} {g n c:Nat} {m:Nat}:BZ (.slice (some ⟨g,0,none⟩) n c) w (w.drew.freeze ⟨g,0,none⟩ m):=by
 unfold World.freeze
 split
 ·exact ⟨rfl,rfl,rfl,fun _ _=>rfl⟩
 ·refine ⟨rfl,rfl,by simp,fun k hk => ?_⟩
  have:k≠g:=fun e=>hk (by rw [e];rfl)
  simp only [Array.getElem?_modify]
  rw [if_neg (fun e=>this e.symm)]
  rfl
def oy (T e:Nat):bA:=fun args st K=>
 match args with
 | [.one (.ct n), .one (.d .str s)]=>match look st.aC n with
  | some (.ext 2 t x)=>match h:Ty.beq t eW with
   | true => .and ((bx h x).2.1=(T:Int)/\(bx h x).2.2.1=(e:Int)/\(bx h x).1.length + s.length<=140737488355328)
     (K (.gU [.one (.d (.int .i64) (s.length:Int)), .one (.d .err .nil)]) (setObj st n (.ext 2 eW ((bx h x).1++bK s,(T:Int),(e:Int),()))))
   | false => .ff
  | _ => .ff
 | _ => .ff
def mn (T e:Nat):bA:=fun args st K=>
 match args with
 | [.one (.ct n)]=>match look st.aC n with
  | some (.ext 2 t x)=>match h:Ty.beq t eW with
   | true => .and ((bx h x).2.1=(T:Int)/\(bx h x).2.2.1=(e:Int)) (K (.s (.one (.d .str (bytesOf (bx h x).1)))) (aW st n))
   | false => .ff
  | _ => .ff
 | _ => .ff
def tx (T e:Nat):bA:=fun args st K=>
 match args with
 | [.one (.ct n)]=>match look st.aC n with
  | some (.ext 2 t x)=>match h:Ty.beq t eW with
   | true => .and ((bx h x).2.1=(T:Int)/\(bx h x).2.2.1=(e:Int)) (K (.s (.one (.d (.int .i64) ((bx h x).1.length:Int)))) st)
   | false => .ff
  | _ => .ff
 | _ => .ff
section
variable {P:Program} {eT:TypeId} {X:Ext} {f:FuncId}
theorem xN {O:aD} {st:St} {loc:Nat->Loc} {w:World} (g:Good eT X (aB O st loc w)) {n:Nat} {x:D eW} (hob:look st.aC n=some (.ext 2 eW x)) {v:Value} (hv:CR eT (aB O st loc w) (.ct n) v) :
  ∃b p u,v = .pointer (some ⟨b,0,none⟩)/\Hu x (loc n) w b p u:=by
 obtain ⟨h0,b,p,u,hD⟩:=X.Gk.1 (g.obj n _ hob).2
 exact ⟨b,p,u,(hv.2 _ hob rfl).trans hD.lv,hD⟩
theorem B0 (s:List UInt8):bytesOf (bK s)=s:=by
 induction s with
 | nil=>rfl
 | cons c r ih=>
  simp only [bytesOf,bK,List.map_cons,List.map_map] at ih ⊢
  rw [ih]
  simp
theorem B1 {xs:List Int} (h:∀y∈xs,0<=(y:Int)/\(y:Int)<=255):bK (bytesOf xs)=xs:=by
 induction xs with
 | nil=>rfl
 | cons y r ih=>
  have h1:=h y (by simp)
  have h2:=ih fun z hz=>h z (by simp [hz])
  simp only [bK,bytesOf,List.map_map,List.map_cons] at h2 ⊢
  rw [h2]
  congr 1
  simp only [UInt8.toNat_ofNat']
  omega
theorem B2 (s:List UInt8):∀y∈bK s,0<=(y:Int)/\(y:Int)<=255:=by
 intro y hy
 simp only [bK,List.mem_map] at hy
 obtain ⟨c,_,rfl⟩:=hy
 have:=c.toNat_lt
 omega
theorem Fk {xs:List Int} (h:∀y∈xs,0<=(y:Int)/\(y:Int)<=255):xs.map (Value.int .u8)=(bytesOf xs).map fun c=>Value.int .u8 c.toNat:=by
 conv=>lhs;rw [<-B1 h]
 simp [bK]
theorem tz {T e:Nat} (hfn:∃fn,P.funcs[f]?=some fn/\fn.body.isNone=false/\(fn.name == "runtime.NumGoroutine")=false)
  (H:∀(b:Nat) (p v:Value) (xs:List Value) (s:ByteArray) (w:World),w.heap[b]?=some (.cells #[p,v] T (0,0))->(p = .pointer none\/p = .pointer (some ⟨b,0,none⟩))->w.ownsRow 0 e 1 v xs.length xs->v.ownBlock≠some b->
   (∀a n c,v = .slice (some a) n c->0 < c)->xs.length + s.size<=140737488355328->
   Calls P f #[.pointer (some ⟨b,0,none⟩), .string s] w fun r w'=>r = .returned (.tuple #[.int .i64 s.size, .nilIface])/\
    ∃v',w'.heap[b]?=some (.cells #[.pointer (some ⟨b,0,none⟩),v'] T (0,0))/\w'.ownsRow 0 e 1 v' (xs.length + s.size) (xs++Lib.strCells s)/\v'.ownBlock≠some b/\Kept b v w w'/\
     (∀a n c,v' = .slice (some a) n c->0 < c)/\(∀g,v'.ownBlock=some g->v.ownBlock=some g\/w.heap.size<=g)) :
  cP P eT X f false (oy T e):=by
 refine ⟨hfn,fun O st loc w args vs K hs g hO ha => ?_⟩
 unfold oy at hs
 split at hs
 case h_2=>exact hs.elim
 rename_i n s
 split at hs
 case h_2=>exact hs.elim
 rename_i t x hob
 split at hs
 case h_2=>exact hs.elim
 rename_i ht
 have ht':=Ty.eq_of_beq ht
 subst ht'
 rw [ej] at hs
 obtain ⟨⟨hT,he,hlen⟩,hs⟩:=hs
 match vs,ha with
 | [v0,v1], .cons h0 (.cons h1 .nil)=>
 obtain ⟨b,p,u,rfl,hD⟩:=xN g hob h0
 obtain ⟨rfl,hsl⟩:=et.1 (show CR eT _ (.d .str s) v1 from h1)
 have hsz:(⟨s.toArray⟩:ByteArray).size=s.length:=by simp [ByteArray.size]
 have hT':x.2.1.toNat=T:=by rw [hT];rfl
 have he':x.2.2.1.toNat=e:=by rw [he];rfl
 have hheap:=hD.heap
 have hrow:=hD.row
 rw [hT'] at hheap
 rw [he'] at hrow
 refine (H b p u (x.1.map (Value.int .u8)) ⟨s.toArray⟩ w hheap hD.ptr (by simpa using hrow) hD.ne hD.cap (by simpa [hsz] using hlen)).mono ?_
 rintro r w' ⟨rfl,v',k1,k2,k3,k4,k5,k6⟩
 have hlt:b < w.heap.size:=(Array.getElem?_eq_some_iff.1 hheap).1
 obtain ⟨tr1,g1⟩:=jD (S:=aB O st loc w) (S':=aB O (setObj st n (.ext 2 eW (x.1++bK s,(T:Int),(e:Int),()))) (bj loc n ⟨.pointer (some ⟨b,0,none⟩),b :: v'.ownBlock.toList⟩) w') (n:=n)
  (oc:=.ext 2 eW x) (oc':=.ext 2 eW (x.1++bK s,(T:Int),(e:Int),())) (l':=⟨.pointer (some ⟨b,0,none⟩),b :: v'.ownBlock.toList⟩) g rfl hO hob
  (fun m=>iK st n m _) (fun _=>rfl) rfl (fun _=>⟨hD.lv.symm,fun h=>(h _ _ rfl).elim⟩) ⟨rfl,rfl⟩ k4.os k4.output k4.size
  (fun b' h1 h2=>k4.block b' h1 (fun e=>h2 (by simp only [aB];rw [hD.bs,e];simp)) (fun e=>h2 (by simp only [aB];rw [hD.bs,e];simp)))
  (fun b' o v _ ho=>by simp [OC.lo] at ho)
  (fun b' hb'=>by
   rcases List.mem_cons.1 hb' with rfl | hb'
   ·exact .inl ⟨by simp only [aB];rw [hD.bs];simp,Nat.le_refl _⟩
   ·have hb':v'.ownBlock=some b':=by simpa using hb'
    rcases k6 b' hb' with h | h
    ·exact .inl ⟨by simp only [aB];rw [hD.bs,h];simp,Nat.le_refl _⟩
    ·exact .inr h)
 have g1:=g1 (X.Gk.2 ⟨rfl,b, .pointer (some ⟨b,0,none⟩),v',rfl, .inr rfl,k1,by
  have e1:x.1.map (Value.int .u8)++Lib.strCells ⟨s.toArray⟩=(x.1++bK s).map (Value.int .u8):=by rw [qS,List.map_append]
  have e2:(x.1.map (Value.int .u8)).length + (⟨s.toArray⟩:ByteArray).size=(x.1++bK s).length:=by simp [hsz,bK]
  rw [e1,e2] at k2
  exact k2,rfl,k3,(fun y hy=>by
   rcases List.mem_append.1 hy with h | h
   ·exact hD.u8 y h
   ·exact B2 s y h),k5⟩)
 refine ⟨_,_,_,_,rfl,hs,rfl,(fun hh=>by cases hh),g1,tr1,⟨[.int .i64 (⟨s.toArray⟩:ByteArray).size, .nilIface],rfl, .cons ?_ (.cons ?_ .nil)⟩⟩
 ·refine bJ.2 ⟨by rw [hsz],?_⟩
  simp only [IntKind.min,IntKind.max,IntKind.signed,IntKind.bits]
  unfold aL at hsl
  constructor <;> simp <;> omega
 ·exact gG.2 rfl
theorem B3 {O:aD} {st:St} {loc:Nat->Loc} {w w':World} (g:Good eT X (aB O st loc w)) {n:Nat} {oc0:OC} (hn:look st.aC n=some oc0) (h0:oc0.lo=0)
  (hos:w'.os=w.os) (hout:w'.output=w.output) (hsz:w.heap.size<=w'.heap.size) (hb:∀b,b < w.heap.size->b∉(loc n).bs->w'.heap[b]?=w.heap[b]?) :
  Tr (aB O st loc w) (aB O (aW st n) loc w')/\Good eT X (aB O (aW st n) loc w'):=by
 have hob:∀m oc,look (aW st n).aC m=some oc->m≠n/\look st.aC m=some oc:=by
  intro m oc h
  simp only [aW] at h
  rw [gn] at h
  split at h
  ·cases h
  ·rename_i hne;exact ⟨fun e=>hne e.symm,h⟩
 have hA:∀b o,(aB O (aW st n) loc w').A b o->(aB O st loc w).A b o:=by
  rintro b o (h | ⟨m,oc,h1,h2⟩)
  ·exact .inl h
  ·exact .inr ⟨m,oc,(hob _ _ h1).2,h2⟩
 have ht:Tr (aB O st loc w) (aB O (aW st n) loc w'):={
  O:=rfl
  next:=Nat.le_refl _
  os:=hos
  output:=hout
  size:=hsz
  own:=fun b h=>by obtain ⟨m,oc,h1,h2⟩:=h;exact .inl ⟨m,oc,(hob _ _ h1).2,h2⟩
  cell:=fun b o v h1 h2=>by
   have hlt:=World.block_lt_of_cell? w _ h2
   refine ⟨?_,fun h=>h1 (hA b o h)⟩
   show w'.cell? _=_
   rw [World.cell?_of_block (w:=w) (w':=w') (a:=⟨b,o,none⟩) (hb b hlt fun hm=>h1 (.inr ⟨n,oc0,hn,hm,by rw [h0];exact Nat.zero_le _⟩))]
   exact h2
  block:=fun b h1 h2=>hb b h1 fun hm=>h2 ⟨n,oc0,hn,hm⟩
  loc:=fun _ _ _=>ik rfl
  kind:=fun m oc _ h=>⟨oc,(hob _ _ h).2,by cases oc <;> simp [aQ,aB]⟩}
 refine ⟨ht,⟨fun m oc h => ?_,fun m1 m2 oc1 oc2 b h1 h2 h3 h4 => ?_,fun m oc b off h1 h2 => ?_,g.iH.tr ht⟩⟩
 ·obtain ⟨hne,h⟩:=hob _ _ h
  obtain ⟨h1,h2⟩:=g.obj m oc h
  exact ⟨h1,h2.tr ht fun b hbm=>hb b (h2.inside b hbm) fun hbn=>hne (g.apart m n oc oc0 b h hn hbm hbn)⟩
 ·exact g.apart m1 m2 oc1 oc2 b (hob _ _ h1).2 (hob _ _ h2).2 h3 h4
 ·exact g.out m oc b off (hob _ _ h1).2 h2
theorem rX {T e:Nat} (hfn:∃fn,P.funcs[f]?=some fn/\fn.body.isNone=false/\(fn.name == "runtime.NumGoroutine")=false)
  (H:∀(b:Nat) (p v:Value) (l:List UInt8) (w:World),w.heap[b]?=some (.cells #[p,v] T (0,0))->w.ownsRow 0 e 1 v l.length (l.map fun c=>Value.int .u8 c.toNat)->(∀a n c,v = .slice (some a) n c->0 < c)->
   Calls P f #[.pointer (some ⟨b,0,none⟩)] w fun r w'=>r = .returned (.string ⟨l.toArray⟩)/\BZ v w w') :
  cP P eT X f false (mn T e):=by
 refine ⟨hfn,fun O st loc w args vs K hs g hO ha => ?_⟩
 unfold mn at hs
 split at hs
 case h_2=>exact hs.elim
 rename_i n
 split at hs
 case h_2=>exact hs.elim
 rename_i t x hob
 split at hs
 case h_2=>exact hs.elim
 rename_i ht
 have ht':=Ty.eq_of_beq ht
 subst ht'
 rw [ej] at hs
 obtain ⟨⟨hT,he⟩,hs⟩:=hs
 match vs,ha with
 | [v0], .cons h0 .nil=>
 obtain ⟨b,p,u,rfl,hD⟩:=xN g hob h0
 have hT':x.2.1.toNat=T:=by rw [hT];rfl
 have he':x.2.2.1.toNat=e:=by rw [he];rfl
 have hheap:=hD.heap
 have hrow:=hD.row
 rw [hT'] at hheap
 rw [he',Fk hD.u8,show x.1.length=(bytesOf x.1).length by simp [bytesOf]] at hrow
 refine (H b p u (bytesOf x.1) w hheap hrow hD.cap).mono ?_
 rintro r w' ⟨rfl,k⟩
 obtain ⟨tr1,g1⟩:=B3 (w':=w') g hob rfl k.os k.output (by rw [k.size];exact Nat.le_refl _) (fun b' _ h2=>k.block b' fun e=>h2 (by rw [hD.bs,e];simp))
 refine ⟨_,_,_,_,rfl,hs,rfl,(fun hh=>by cases hh),g1,tr1,?_⟩
 refine (et (eT:=eT) (S:=aB O (aW st n) loc w')).2 ⟨rfl,?_⟩
 rcases hrow.2 with ⟨_,h⟩ | ⟨_,cap,_,_,_,_,h1,h2,_⟩
 ·rw [h];exact Nat.zero_le _
 ·unfold maxLen at h2;unfold aL;omega
theorem wA {T e:Nat} (hfn:∃fn,P.funcs[f]?=some fn/\fn.body.isNone=false/\(fn.name == "runtime.NumGoroutine")=false)
  (H:∀(b:Nat) (p q:Value) (a:Option Addr) (n c:Nat) (w:World),w.heap[b]?=some (.cells #[p, .slice a n c] T (0,0))->
   Calls P f #[.pointer (some ⟨b,0,none⟩)] w fun r w'=>r = .returned (.int .i64 n)/\w'=w) :
  cP P eT X f true (tx T e):=by
 refine ⟨hfn,fun O st loc w args vs K hs g hO ha => ?_⟩
 unfold tx at hs
 split at hs
 case h_2=>exact hs.elim
 rename_i n
 split at hs
 case h_2=>exact hs.elim
 rename_i t x hob
 split at hs
 case h_2=>exact hs.elim
 rename_i ht
 have ht':=Ty.eq_of_beq ht
 subst ht'
 rw [ej] at hs
 obtain ⟨⟨hT,he⟩,hs⟩:=hs
 match vs,ha with
 | [v0], .cons h0 .nil=>
 obtain ⟨b,p,u,rfl,hD⟩:=xN g hob h0
 have hT':x.2.1.toNat=T:=by rw [hT];rfl
 have hheap:=hD.heap
 rw [hT'] at hheap
 obtain ⟨a,c,rfl,hl⟩:∃a c,u = .slice a x.1.length c/\x.1.length<=aL:=by
  rcases hD.row.2 with ⟨rfl,h⟩ | ⟨g',cap,cur,h,_,_,h1,h2,_⟩
  ·exact ⟨none,0,by rw [h],by rw [h];exact Nat.zero_le _⟩
  ·exact ⟨_,_,h,by unfold maxLen at h2;unfold aL;omega⟩
 refine (H b p p a x.1.length c w hheap).mono ?_
 rintro r w' ⟨rfl,rfl⟩
 refine ⟨_,_,_,loc,rfl,hs,rfl,fun _=>Below.refl _ _,g,Tr.refl _,?_⟩
 refine (bJ (eT:=eT) (S:=aB O st loc w')).2 ⟨rfl,?_⟩
 unfold aL at hl
 simp only [IntKind.min,IntKind.max,IntKind.signed,IntKind.bits]
 constructor <;> simp <;> omega
end
end Go.Vg

namespace Go.Mrl
open Go.Vg
def small (c:UInt8):Bool:=decide ((97:Int)<=c.toNat) && decide ((c.toNat:Int)<=122)
def other (c:UInt8):Bool:=(decide ((48:Int)<=c.toNat) && decide ((c.toNat:Int)<=57)) || ((c.toNat:Int) == 95)
def dD (i:Nat) (c:UInt8):Bool:=!small c && ((i:Int) == 0 || !other c)
def nv (s:List UInt8):Bool:=(List.range s.length).any fun i=>dD i (ei s i)
def aK (s:List UInt8):Int:=if s.length < 1\/8 < s.length then 1 else if nv s=true then 3 else 0
def bd (n:Int):aY:=if n=0 then .nil else .no n
def qB:aY->Int->Bool
 | .nil,n=>n == 0
 | .no m,n=>decide (n > 0) && m == n
 | .other,_=>false
def dA:aY->Int
 | .nil=>0
 | .no m=>m
 | .other => -1
theorem dJ (s:List UInt8):0<=aK s:=by
 unfold aK;split
 ·decide
 ·split <;> decide
theorem zT {s:List UInt8} {i:Nat} (h:i < s.length) (hb:dD i (ei s i)=true):nv s=true:=by
 simp only [nv,List.any_eq_true,List.mem_range]
 exact ⟨i,h,hb⟩
theorem xO {s:List UInt8} (h:∀i,i < s.length->dD i (ei s i)=false):nv s=false:=by
 simp only [nv,List.any_eq_false,List.mem_range]
 intro i hi;rw [h i hi];simp
theorem oZ {s:List UInt8} (h:s.length < 1\/8 < s.length):aK s=1:=by unfold aK;rw [if_pos h]
theorem dv {s:List UInt8} {i:Nat} (h:¬ (s.length < 1\/8 < s.length)) (hi:i < s.length) (hb:dD i (ei s i)=true):aK s=3:=by
 unfold aK
 rw [if_neg h,if_pos (zT hi hb)]
theorem nw {s:List UInt8} (h:¬ (s.length < 1\/8 < s.length)) (hb:∀i,i < s.length->dD i (ei s i)=false):aK s=0:=by
 unfold aK
 rw [if_neg h,if_neg (by rw [xO hb];decide)]
theorem fy {i:Nat} {c:UInt8}:dD i c=true ↔ ¬ (97<=c.toNat/\c.toNat<=122)/\(i=0\/¬ ((48<=c.toNat/\c.toNat<=57)\/c.toNat=95)):=by
 simp only [dD,small,other,Bool.and_eq_true,Bool.not_eq_true',Bool.and_eq_false_iff,Bool.or_eq_true,Bool.or_eq_false_iff,decide_eq_false_iff_not,beq_iff_eq,beq_eq_false_iff_ne]
 omega
theorem e8 {i:Nat} {c:UInt8}:dD i c=false ↔ ¬ (¬ (97<=c.toNat/\c.toNat<=122)/\(i=0\/¬ ((48<=c.toNat/\c.toNat<=57)\/c.toNat=95))):=by
 rw [<-fy];simp
theorem iR {s:List UInt8} {i:Nat} (h:∀j,j < i->dD j (ei s j)=false) (hb:dD i (ei s i)=false):∀j,j < i + 1->dD j (ei s j)=false:=by
 intro j hj
 rcases Nat.lt_or_ge j i with hlt | hge
 ·exact h j hlt
 ·obtain rfl:j=i:=by omega
  exact hb
end Go.Mrl

namespace Go.Mrl
open Go.Vg
def c6 (p:D aI->Prop) (l:List (D aA)) (i k:Nat):Prop:=
 i < l.length/\k < (nth aA l i).2.2.1.length/\p (nth aI (nth aA l i).2.2.1 k)
def q0 (s:List UInt8) (x:D aI):Prop:=x.1=s
def gM (s:List UInt8) (x:D aI):Prop:=x.1=s/\x.2.2.1=false
def ahead (i k i' k':Nat):Prop:=i < i'\/(i=i'/\k < k')
def pM (p:D aI->Prop) (l:List (D aA)) (i k:Nat):Prop:=∀i' k',ahead i' k' i k->¬ c6 p l i' k'
def fP (p:D aI->Prop) (l:List (D aA)) (i k:Nat):Prop:=c6 p l i k/\pM p l i k
theorem pN {p:D aI->Prop} {l:List (D aA)} {i k i' k':Nat} (h:fP p l i k) (h':fP p l i' k'):i=i'/\k=k':=by
 have h1:¬ ahead i k i' k':=fun a=>h'.2 i k a h.1
 have h2:¬ ahead i' k' i k:=fun a=>h.2 i' k' a h'.1
 unfold ahead at h1 h2
 omega
theorem pO {p:D aI->Prop} {l:List (D aA)} {i k:Nat} (h:c6 p l i k):∃i k,fP p l i k:=by
 have hi:∀n,∀i,i<=n->∀k,c6 p l i k->∃i,(∃k,c6 p l i k)/\∀j,j < i->∀k,¬ c6 p l j k:=by
  intro n
  induction n with
  | zero=>intro i hi k h;exact ⟨i,⟨k,h⟩,fun j hj=>by omega⟩
  | succ n ih=>
   intro i hi k h
   by_cases c:∃j,j < i/\∃k,c6 p l j k
   ·obtain ⟨j,hj,k,hk⟩:=c
    exact ih j (by omega) k hk
   ·exact ⟨i,⟨k,h⟩,fun j hj k hk=>c ⟨j,hj,k,hk⟩⟩
 obtain ⟨i0,⟨k0,h0⟩,hmin⟩:=hi i i (Nat.le_refl _) k h
 have hk:∀n,∀k,k<=n->c6 p l i0 k->∃k,c6 p l i0 k/\∀j,j < k->¬ c6 p l i0 j:=by
  intro n
  induction n with
  | zero=>intro k hk h;exact ⟨k,h,fun j hj=>by omega⟩
  | succ n ih=>
   intro k hk h
   by_cases c:∃j,j < k/\c6 p l i0 j
   ·obtain ⟨j,hj,h2⟩:=c
    exact ih j (by omega) h2
   ·exact ⟨k,h,fun j hj h2=>c ⟨j,hj,h2⟩⟩
 obtain ⟨k1,h1,h2⟩:=hk k0 k0 (Nat.le_refl _) h0
 refine ⟨i0,k1,h1,fun i' k' ha hp => ?_⟩
 rcases ha with ha | ⟨rfl,ha⟩
 ·exact hmin i' ha k' hp
 ·exact h2 k' ha hp
open Classical in
noncomputable def bo (x:List (D aA) × List UInt8):Int × Int:=
 if h:∃p:Nat × Nat,fP (gM x.2) x.1 p.1 p.2 then (((Classical.choose h).1:Nat),((Classical.choose h).2:Nat))
 else if h:∃p:Nat × Nat,fP (q0 x.2) x.1 p.1 p.2 then (((Classical.choose h).1:Nat),((Classical.choose h).2:Nat))
 else (-1,-1)
theorem lK {l:List (D aA)} {s:List UInt8} {i k:Nat} (h:fP (gM s) l i k):bo (l,s)=((i:Int),(k:Int)):=by
 have hx:∃p:Nat × Nat,fP (gM s) l p.1 p.2:=⟨(i,k),h⟩
 unfold bo
 rw [dif_pos hx]
 have:=pN h (Classical.choose_spec hx)
 rw [<-this.1,<-this.2]
theorem tA {l:List (D aA)} {s:List UInt8} {i k:Nat} (hn:∀i k,¬ c6 (gM s) l i k) (h:fP (q0 s) l i k):bo (l,s)=((i:Int),(k:Int)):=by
 have hx:∃p:Nat × Nat,fP (q0 s) l p.1 p.2:=⟨(i,k),h⟩
 unfold bo
 rw [dif_neg (fun ⟨p,h⟩=>hn p.1 p.2 h.1),dif_pos hx]
 have:=pN h (Classical.choose_spec hx)
 rw [<-this.1,<-this.2]
theorem tB {l:List (D aA)} {s:List UInt8} (hn:∀i k,¬ c6 (q0 s) l i k):bo (l,s)=(-1,-1):=by
 unfold bo
 rw [dif_neg (fun ⟨p,h⟩=>hn p.1 p.2 ⟨h.1.1,h.1.2.1,h.1.2.2.1⟩),dif_neg (fun ⟨p,h⟩=>hn p.1 p.2 h.1)]
theorem zU (l:List (D aA)) (s:List UInt8):(∃i k:Nat,bo (l,s)=((i:Int),(k:Int))/\fP (gM s) l i k)\/
  (∃i k:Nat,bo (l,s)=((i:Int),(k:Int))/\fP (q0 s) l i k/\∀i k,¬ c6 (gM s) l i k)\/
  (bo (l,s)=(-1,-1)/\∀i k,¬ c6 (q0 s) l i k):=by
 by_cases h1:∃i k,c6 (gM s) l i k
 ·obtain ⟨i,k,h⟩:=h1
  obtain ⟨i,k,h⟩:=pO h
  exact .inl ⟨i,k,lK h,h⟩
 ·have h1':∀i k,¬ c6 (gM s) l i k:=fun i k h=>h1 ⟨i,k,h⟩
  by_cases h2:∃i k,c6 (q0 s) l i k
  ·obtain ⟨i,k,h⟩:=h2
   obtain ⟨i,k,h⟩:=pO h
   exact .inr (.inl ⟨i,k,tA h1' h,h,h1'⟩)
  ·have h2':∀i k,¬ c6 (q0 s) l i k:=fun i k h=>h2 ⟨i,k,h⟩
   exact .inr (.inr ⟨tB h2',h2'⟩)
def dB (l:List (D aA)) (s:List UInt8) (i k:Nat) (a b:Int):Prop:=
 pM (gM s) l i k/\((a = -1/\b = -1/\pM (q0 s) l i k)\/∃i0 k0:Nat,a=i0/\b=k0/\fP (q0 s) l i0 k0)
theorem dB.start (l:List (D aA)) (s:List UInt8):dB l s 0 0 (-1) (-1):=
 ⟨fun i' k' h=>by unfold ahead at h;omega, .inl ⟨rfl,rfl,fun i' k' h=>by unfold ahead at h;omega⟩⟩
theorem pM.next {p:D aI->Prop} {l:List (D aA)} {i k:Nat} (h:pM p l i k) (hn:¬ c6 p l i k):pM p l i (k + 1):=by
 intro i' k' ha hp
 by_cases e:i'=i/\k'=k
 ·rw [e.1,e.2] at hp;exact hn hp
 ·exact h i' k' (by unfold ahead at *;omega) hp
theorem dB.skip {l:List (D aA)} {s:List UInt8} {i k:Nat} {a b:Int} (h:dB l s i k a b) (hn:¬ (nth aI (nth aA l i).2.2.1 k).1=s):dB l s i (k + 1) a b:=by
 refine ⟨h.1.next fun hp=>hn hp.2.2.1,?_⟩
 rcases h.2 with ⟨h1,h2,h3⟩ | h3
 ·exact .inl ⟨h1,h2,h3.next fun hp=>hn hp.2.2⟩
 ·exact .inr h3
theorem dB.HV {l:List (D aA)} {s:List UInt8} {i k:Nat} {a b:Int} (h:dB l s i k a b) (hi:i < l.length) (hk:k < (nth aA l i).2.2.1.length)
  (hs:(nth aI (nth aA l i).2.2.1 k).1=s) (hw:(nth aI (nth aA l i).2.2.1 k).2.2.1=false):bo (l,s)=((i:Int),(k:Int)):=
 lK ⟨⟨hi,hk,hs,hw⟩,h.1⟩
theorem dB.uq {l:List (D aA)} {s:List UInt8} {i k:Nat} {a b:Int} (h:dB l s i k a b) (hi:i < l.length) (hk:k < (nth aA l i).2.2.1.length)
  (hs:(nth aI (nth aA l i).2.2.1 k).1=s) (hw:¬ (nth aI (nth aA l i).2.2.1 k).2.2.1=false) (ha:a < 0):dB l s i (k + 1) (i:Int) (k:Int):=by
 refine ⟨h.1.next fun hp=>hw hp.2.2.2, .inr ⟨i,k,rfl,rfl,⟨hi,hk,hs⟩,?_⟩⟩
 rcases h.2 with ⟨_,_,h3⟩ | ⟨i0,k0,h1,_⟩
 ·exact h3
 ·omega
theorem dB.more {l:List (D aA)} {s:List UInt8} {i k:Nat} {a b:Int} (h:dB l s i k a b)
  (hw:¬ (nth aI (nth aA l i).2.2.1 k).2.2.1=false) (ha:¬ a < 0):dB l s i (k + 1) a b:=by
 refine ⟨h.1.next fun hp=>hw hp.2.2.2,?_⟩
 rcases h.2 with ⟨h1,_,_⟩ | h3
 ·omega
 ·exact .inr h3
theorem pM.row {p:D aI->Prop} {l:List (D aA)} {i k:Nat} (h:pM p l i k) (hk:(nth aA l i).2.2.1.length<=k):pM p l (i + 1) 0:=by
 intro i' k' ha hp
 refine h i' k' ?_ hp
 unfold ahead at *
 by_cases e:i'=i
 ·subst e;have:=hp.2.1;omega
 ·omega
theorem dB.row {l:List (D aA)} {s:List UInt8} {i k:Nat} {a b:Int} (h:dB l s i k a b) (hk:(nth aA l i).2.2.1.length<=k):dB l s (i + 1) 0 a b:=by
 refine ⟨h.1.row hk,?_⟩
 rcases h.2 with ⟨h1,h2,h3⟩ | h3
 ·exact .inl ⟨h1,h2,h3.row hk⟩
 ·exact .inr h3
theorem pM.all {p:D aI->Prop} {l:List (D aA)} {i k:Nat} (h:pM p l i k) (hi:l.length<=i):∀i k,¬ c6 p l i k:=
 fun i' k' hp=>h i' k' (by have:=hp.1;unfold ahead;omega) hp
theorem dB.done {l:List (D aA)} {s:List UInt8} {i k:Nat} {a b:Int} (h:dB l s i k a b) (hi:l.length<=i):bo (l,s)=(a,b):=by
 rcases h.2 with ⟨rfl,rfl,h3⟩ | ⟨i0,k0,rfl,rfl,h3⟩
 ·exact tB (h3.all hi)
 ·exact tA (h.1.all hi) h3
theorem kj {p:Nat->Prop} {n:Nat} (h:∀j,j < n->p j) (hn:p n):∀j,j < n + 1->p j:=by
 intro j hj
 by_cases e:j=n
 ·rw [e];exact hn
 ·exact h j (by omega)
def fQ (o:D aA):Prop:=o.1.length<=6/\o.2.1.length<=50/\o.2.2.1.length<=10/\o.2.2.2.1.length<=10/\
 (∀i,i < o.1.length->(nth .str o.1 i).length<=20)/\(∀i,i < o.2.2.1.length->(nth aI o.2.2.1 i).1.length<=20)/\(∀i,i < o.2.2.2.1.length->(nth aH o.2.2.2.1 i).2.2.2.1.length<=20)
def nx (l:List (D aA)):Prop:=l.length<=8/\∀i,i < l.length->fQ (nth aA l i)
theorem fY {l:List (D aA)} {s:List UInt8} (h:0<=(bo (l,s)).1):(bo (l,s)).1 < l.length/\0<=(bo (l,s)).2/\(bo (l,s)).2 < (nth aA l (bo (l,s)).1.toNat).2.2.1.length/\
  (nth aI (nth aA l (bo (l,s)).1.toNat).2.2.1 (bo (l,s)).2.toNat).1=s:=by
 rcases zU l s with ⟨i0,k0,e,f⟩ | ⟨i0,k0,e,f,n⟩ | ⟨e,n⟩
 ·rw [e];obtain ⟨h1,h2,h3⟩:=f.1;exact ⟨by simp only;omega,by simp only;omega,by simp only [Int.toNat_natCast];omega,h3.1⟩
 ·rw [e];obtain ⟨h1,h2,h3⟩:=f.1;exact ⟨by simp only;omega,by simp only;omega,by simp only [Int.toNat_natCast];omega,h3⟩
 ·rw [e] at h;simp at h
end Go.Mrl

namespace Go.Mrl
open Go.Vg
end Go.Mrl
namespace Go.Mrl
open Go.Vg
end Go.Mrl
namespace Go.Mrl
open Go.Vg
end Go.Mrl

namespace Go.Mrl
open Go.Vg
end Go.Mrl
namespace Go.Mrl
open Go.Vg
end Go.Mrl
namespace Go.Mrl
open Go.Vg
end Go.Mrl
namespace Go.Mrl
open Go.Vg
end Go.Mrl
namespace Go.Mrl
open Go.Vg
end Go.Mrl
namespace Go.Mrl
open Go.Vg
end Go.Mrl

namespace Go.Mrl
open Go.Vg
def c7 (a b:Int × Int × Unit):Bool:=decide (a.2.1<=0) || (decide (b.2.1<=0) || (decide (a.1 + a.2.1<=b.1) || decide (b.1 + b.2.1<=a.1)))
theorem zV {a b:Int × Int × Unit}:c7 a b=true ↔ a.2.1<=0\/b.2.1<=0\/a.1 + a.2.1<=b.1\/b.1 + b.2.1<=a.1:=by simp [c7]
theorem pP {a b:Int × Int × Unit}:c7 a b=false ↔ 0 < a.2.1/\0 < b.2.1/\b.1 < a.1 + a.2.1/\a.1 < b.1 + b.2.1:=by simp [c7]
def bE (n:Int):Int:=(n + 15) / 16 * 16
def gV (r:Int × Int × Unit):Prop:=-1000000<=r.1/\r.1<=1000000/\-1000000<=r.2.1/\r.2.1<=1000000
def dE (r:D aP) (l:List (D aP)):Bool:=l.all (c7 r)
theorem lL {t:Ty} {xs:List (D t)} {i:Nat} (h:i < xs.length):xs[i]?=some (nth t xs i):=by
 rw [List.getElem?_eq_getElem h,<-dF (List.getElem?_eq_getElem h)]
theorem dY {t:Ty} {xs:List (D t)} {i:Nat} (h:i < xs.length):nth t xs i∈xs:=by
 have:=lL (t:=t) h
 exact List.mem_of_getElem? this
theorem jN {t:Ty} {xs:List (D t)} {x:D t} (h:x∈xs):∃i,i < xs.length/\nth t xs i=x:=by
 obtain ⟨i,hi,e⟩:=List.getElem_of_mem h
 exact ⟨i,hi,by rw [<-e];exact dF (List.getElem?_eq_getElem hi)⟩
theorem tC {r:D aP} {l:List (D aP)} (h:∀j,j < l.length->c7 r (nth aP l j)=true):dE r l=true:=by
 unfold dE;rw [List.all_eq_true]
 intro x hx
 obtain ⟨i,hi,e⟩:=jN hx
 rw [<-e];exact h i hi
theorem q7 {r:D aP} {l:List (D aP)} {j:Nat} (h:j < l.length) (hf:c7 r (nth aP l j)=false):dE r l=false:=by
 unfold dE;rw [List.all_eq_false]
 exact ⟨_,dY h,by rw [hf];decide⟩
theorem DB {r:D aP} {l:List (D aP)} (h:dE r l=false):∃x∈l,c7 r x=false:=by
 unfold dE at h;rw [List.all_eq_false] at h
 obtain ⟨x,hx,e⟩:=h
 exact ⟨x,hx,by simpa using e⟩
def cI (l:List (D aP)) (many:Int):Nat->Int->Int
 | 0,at_=>at_
 | n + 1,at_=>if dE (at_,many,()) l=true then at_ else cI l many n (at_ + 16)
def cV:List (D aP)->List Int->List Int->Option (List Int)
 | _,[],out=>some out
 | l,n :: r,out=>if 256 < cI l (bE n) 40 0 + bE n then none else cV (l++[(cI l (bE n) 40 0,bE n,())]) r (out++[cI l (bE n) 40 0])
def rY (s:List Int):Bool:=s.any fun (n:Int)=>decide (n < 1) || decide (40 < n)
def rZ (l:List (D aP)):Bool:=l.any fun (r:Int × Int × Unit)=>decide (r.1 < 0) || (decide (256 < r.1) || (decide (r.2.1 < 0) || decide (256 < r.2.1)))
def bz (x:List Int × List (D aP)):List Int × aY:=
 if 6 < x.1.length\/20 < x.2.length then ([], .no 2) else if rY x.1=true\/rZ x.2=true then ([], .no 1) else
  match cV x.2 x.1 [] with
  | some o=>(o, .nil)
  | none=>([], .no 8)
theorem AZ {t:Ty} {xs:List (D t)} {p:D t->Bool} {i:Nat} (h:i < xs.length) (hp:p (nth t xs i)=true):xs.any p=true:=by
 rw [List.any_eq_true];exact ⟨_,dY h,hp⟩
theorem A0 {t:Ty} {xs:List (D t)} {p:D t->Bool} (h:∀i,i < xs.length->p (nth t xs i)=false):xs.any p=false:=by
 rw [List.any_eq_false];intro x hx
 obtain ⟨i,hi,e⟩:=jN hx
 rw [<-e,h i hi];decide
theorem lM {l:List (D aP)} {s out:List Int} {k:Nat} (h:k < s.length):cV l (s.drop k) out =
  if 256 < cI l (bE (nth (.int .i64) s k)) 40 0 + bE (nth (.int .i64) s k) then none
  else cV (l++[(cI l (bE (nth (.int .i64) s k)) 40 0,bE (nth (.int .i64) s k),())]) (s.drop (k + 1)) (out++[cI l (bE (nth (.int .i64) s k)) 40 0]):=by
 have e:s.drop k=nth (.int .i64) s k :: s.drop (k + 1):=by
  rw [List.drop_eq_getElem_cons h]
  congr 1
  exact (dF (t:=.int .i64) (List.getElem?_eq_getElem h)).symm
 rw [e];rfl
theorem zW {l:List (D aP)} {s out:List Int} {k:Nat} (h:s.length<=k):cV l (s.drop k) out=some out:=by
 rw [List.drop_eq_nil_of_le h];rfl
def gW (r:Int × Int × Unit):Prop:=0<=r.1/\r.1<=256/\0<=r.2.1/\r.2.1<=256
theorem gW.gV {r:Int × Int × Unit} (h:gW r):Mrl.gV r:=by
 obtain ⟨h1,h2,h3,h4⟩:=h
 refine ⟨?_,?_,?_,?_⟩ <;> omega
theorem DC {l:List (D aP)} {at_ many:Int} (hl:∀x∈l,gW x) (h:dE (at_,many,()) l=false):at_ < 512:=by
 obtain ⟨x,hx,e⟩:=DB h
 obtain ⟨h1,h2,h3,h4⟩:=hl x hx
 obtain ⟨h5,h6,h7,h8⟩:=pP.1 e
 have h8:at_ < x.1 + x.2.1:=h8
 omega
theorem km {l:List (D aP)} {many at_:Int} {n:Nat} (h:dE (at_,many,()) l=true):cI l many n at_=at_:=by
 cases n with
 | zero=>rfl
 | succ n=>rw [cI,if_pos h]
theorem vj {l:List (D aP)} {many at_:Int} {n:Nat} (h:dE (at_,many,()) l=false):cI l many (n + 1) at_=cI l many n (at_ + 16):=by
 rw [cI,if_neg (by rw [h];decide)]
theorem fq {n:Int} (h1:1<=n) (h2:n<=40):16<=bE n/\bE n<=48:=by unfold bE;omega
end Go.Mrl
namespace Go.Mrl
open Go.Vg
theorem q8 {s:List Int} {l:List (D aP)} (h:6 < s.length\/20 < l.length):bz (s,l)=([], .no 2):=by
 unfold bz;rw [if_pos h]
theorem q9 {s:List Int} {l:List (D aP)} (h:¬ (6 < s.length\/20 < l.length)) {i:Nat} (hi:i < s.length) (hb:¬ (1<=(nth (.int .i64) s i:Int)/\(nth (.int .i64) s i:Int)<=40)):bz (s,l)=([], .no 1):=by
 unfold bz;rw [if_neg h,if_pos]
 refine .inl (AZ (t:=.int .i64) hi ?_)
 simp only [Bool.or_eq_true,decide_eq_true_eq]
 generalize nth (.int .i64) s i=x at hb
 have hb:¬ (1<=(x:Int)/\(x:Int)<=40):=hb
 dsimp only [D] at *;omega
theorem pQ {s:List Int} {l:List (D aP)} (h:¬ (6 < s.length\/20 < l.length)) {i:Nat} (hi:i < l.length) (hb:¬ gW (nth aP l i)):bz (s,l)=([], .no 1):=by
 unfold bz;rw [if_neg h,if_pos]
 refine .inr (AZ (t:=aP) hi ?_)
 simp only [Bool.or_eq_true,decide_eq_true_eq]
 unfold gW at hb
 dsimp only [D] at *;omega
theorem pR {s:List Int} {l:List (D aP)} (h:¬ (6 < s.length\/20 < l.length)) (hs:∀j,j < s.length->1<=(nth (.int .i64) s j:Int)/\(nth (.int .i64) s j:Int)<=40) (ht:∀j,j < l.length->gW (nth aP l j)) :
  bz (s,l)=match cV l s [] with | some o=>(o, .nil) | none=>([], .no 8):=by
 unfold bz;rw [if_neg h,if_neg]
 rintro (e | e)
 ·have:rY s=false:=A0 (t:=.int .i64) fun i hi=>by
   have:=hs i hi
   simp only [Bool.or_eq_false_iff,decide_eq_false_iff_not]
   dsimp only [D] at *;omega
  rw [this] at e;cases e
 ·have:rZ l=false:=A0 (t:=aP) fun i hi=>by
   have:=ht i hi
   unfold gW at this
   simp only [Bool.or_eq_false_iff,decide_eq_false_iff_not]
   dsimp only [D] at *;omega
  rw [this] at e;cases e
end Go.Mrl
namespace Go.Mrl
open Go.Vg
theorem Fl {l:List (Int × Int × Unit)} {r:Int × Int × Unit} (h:∀y∈l,gW y) (hr:gW r):∀y∈l++[r],gW y:=by
 intro y hy
 rcases List.mem_append.1 hy with hy | hy
 ·exact h y hy
 ·simp at hy;rw [hy];exact hr
end Go.Mrl
namespace Go.Mrl
open Go.Vg
end Go.Mrl
namespace Go.Mrl
open Go.Vg
end Go.Mrl

namespace Go.Mrl
open Go.Vg
theorem zX {t:Ty} {a b:List (D t)} (hl:a.length=b.length) (h:∀i,i < a.length->nth t a i=nth t b i):a=b:=by
 apply List.ext_getElem hl
 intro i h1 h2
 have:=h i h1
 rwa [show nth t a i=a[i] from dF (List.getElem?_eq_getElem h1),show nth t b i=b[i] from dF (List.getElem?_eq_getElem h2)] at this
def gO (a b:List Int):Bool:=decide (a=b)
theorem B4 {a b:List Int} (hl:(a.length:Int)=b.length) (h:∀i,i < a.length->nth (.int .i64) a i=nth (.int .i64) b i):true=gO a b:=by
 rw [zX (t:=.int .i64) (by omega) h];simp [gO]
theorem DD {a b:List Int} (hl:¬ (a.length:Int)=b.length):false=gO a b:=by
 symm;simp only [gO,decide_eq_false_iff_not];intro e;exact hl (by rw [e])
theorem Fm {a b:List Int} {i:Nat} (h:¬ nth (.int .i64) a i=nth (.int .i64) b i):false=gO a b:=by
 symm;simp only [gO,decide_eq_false_iff_not];intro e;exact h (by rw [e])
theorem IC {α:Type} {p:Nat->α->Prop} {f:Nat->α} {k:Nat} (h:∀j,j < k->p j (f j)) (hk:p k (f k)):∀j,j < k + 1->p j (f j):=by
 intro j hj
 by_cases e:j=k
 ·subst e;exact hk
 ·exact h j (by omega)
theorem DE {p:Nat->Prop} {k:Nat} (h:∀j,j < k->p j) (hk:p k):∀j,j < k + 1->p j:=by
 intro j hj
 by_cases e:j=k
 ·subst e;exact hk
 ·exact h j (by omega)
end Go.Mrl

namespace Go.Mrl
open Go.Vg
theorem oz {t:Ty} {a b:List (D t)} {i:Nat}:nth t (a++b) i=if i < a.length then nth t a i else nth t b (i - a.length):=by
 unfold nth
 simp only [List.getD_eq_getElem?_getD,List.getElem?_append]
 split <;> rfl
theorem xP {t:Ty} {a:List (D t)} {n i:Nat} (h:i < n):nth t (a.take n) i=nth t a i:=by
 unfold nth
 simp only [List.getD_eq_getElem?_getD,List.getElem?_take,if_pos h]
end Go.Mrl

namespace Go.Mrl
open Go.Vg
@[reducible] def cq:Ty:=.slice (.int .i64)
@[reducible] def fR:Ty:=.slice cq
abbrev Pt:=Int × Int × Int × Unit
abbrev Ws:=List (List Int)
def mo (w:Ws) (p:Pt):Prop:=0<=p.1/\p.1 < w.length/\0<=p.2.1/\p.2.1 < (nth cq w p.1.toNat).length
def lN (w:Ws) (p:Pt):Ws:=w.set p.1.toNat ((nth cq w p.1.toNat).set p.2.1.toNat p.2.2.1)
def cK (w:Ws) (l:List Pt):Ws:=l.foldl lN w
open Classical in
noncomputable def dw (x:Ws × List Pt):Ws × aY:=if ∀i,i < x.2.length->mo x.1 (nth bt x.2 i) then (cK x.1 x.2, .nil) else ([], .no 1)
theorem tD {t:Ty} {l:List (D t)} {i j:Nat} {x:D t} (h:¬ i=j):nth t (l.set i x) j=nth t l j:=by
 unfold nth;simp only [List.getD_eq_getElem?_getD];rw [List.getElem?_set_ne h]
theorem tE {t:Ty} {l:List (D t)} {i:Nat} {x:D t} (h:i < l.length):nth t (l.set i x) i=x:=by
 unfold nth;simp only [List.getD_eq_getElem?_getD];rw [List.getElem?_set_self h];rfl
theorem ra (w:Ws) (p:Pt):(lN w p).length=w.length:=by simp [lN]
theorem xQ (w:Ws) (p:Pt) (i:Nat):nth cq (lN w p) i=if i < w.length/\p.1.toNat=i then (nth cq w i).set p.2.1.toNat p.2.2.1 else nth cq w i:=by
 unfold lN
 by_cases c:p.1.toNat=i
 ·subst c
  by_cases c2:p.1.toNat < w.length
  ·rw [if_pos ⟨c2,rfl⟩,tE (t:=cq) c2]
  ·rw [if_neg (fun h=>c2 h.1),List.set_eq_of_length_le (by omega)]
 ·rw [if_neg (fun h=>c h.2),tD (t:=cq) c]
theorem DF (w:Ws) (p:Pt) (i:Nat):(nth cq (lN w p) i).length=(nth cq w i).length:=by
 rw [xQ];split <;> simp
theorem kn (l:List Pt):∀w:Ws,(cK w l).length=w.length:=by
 induction l with
 | nil=>intro w;rfl
 | cons p l ih=>intro w;show (cK (lN w p) l).length=_;rw [ih,ra]
theorem mq (l:List Pt):∀(w:Ws) (i:Nat),(nth cq (cK w l) i).length=(nth cq w i).length:=by
 induction l with
 | nil=>intro w i;rfl
 | cons p l ih=>intro w i;show (nth cq (cK (lN w p) l) i).length=_;rw [ih,DF]
theorem DG (w:Ws) (l:List Pt) (p:Pt):cK w (l++[p])=lN (cK w l) p:=by simp [cK]
theorem iX {t:Ty} {l:List (D t)} {k:Nat} (h:k < l.length):l.take (k + 1)=l.take k++[nth t l k]:=by
 rw [List.take_add_one,lL h];rfl
theorem DH {w:Ws} {l:List Pt} {k:Nat} (h:k < l.length):lN (cK w (l.take k)) (nth bt l k)=cK w (l.take (k + 1)):=by
 rw [iX (t:=bt) h,DG]
theorem nz {w:Ws} {l:List Pt} (h:∀i,i < l.length->mo w (nth bt l i)):dw (w,l)=(cK w l, .nil):=by unfold dw;rw [if_pos h]
theorem Fo {w:Ws} {l:List Pt} {i:Nat} (hi:i < l.length) (h:¬ mo w (nth bt l i)):dw (w,l)=([], .no 1):=by
 unfold dw;rw [if_neg (fun hh=>h (hh i hi))]
def r4 (r:List Int) (i:Nat):List Pt->List Int
 | []=>r
 | p :: l=>r4 (if p.1=(i:Int) then r.set p.2.1.toNat p.2.2.1 else r) i l
theorem DI {w:Ws} {i:Nat} (hi:i < w.length):∀{l:List Pt} (_:∀p∈l,0<=p.1),nth cq (cK w l) i=r4 (nth cq w i) i l:=by
 intro l
 induction l generalizing w with
 | nil=>intro _;rfl
 | cons p l ih=>
  intro h
  show nth cq (cK (lN w p) l) i=_
  rw [ih (by rw [ra];exact hi) (fun q hq=>h q (by simp [hq])),xQ,r4]
  have hp:=h p (by simp)
  by_cases c:p.1=(i:Int)
  ·rw [if_pos ⟨hi,by omega⟩,if_pos c]
  ·rw [if_neg (fun h=>by omega),if_neg c]
theorem Fp {w:Ws} {l:List Pt} {i:Nat} (hi:i < w.length) (h:∀j,j < l.length->mo w (nth bt l j)):nth cq (dw (w,l)).1 i=r4 (nth cq w i) i l:=by
 rw [nz h]
 refine DI hi fun p hp => ?_
 obtain ⟨j,hj,rfl⟩:=jN (t:=bt) hp
 exact (h j hj).1
def oA (v:Int) (i k:Nat):List Pt->Int
 | []=>v
 | p :: l=>oA (if p.1=(i:Int)/\p.2.1=(k:Int) then p.2.2.1 else v) i k l
theorem r5 (i k:Nat):∀(l:List Pt) (r:List Int),k < r.length->(∀p∈l,0<=p.2.1)->nth (.int .i64) (r4 r i l) k=oA (nth (.int .i64) r k) i k l
 | [],_,_,_=>rfl
 | p :: l,r,hk,hp=>by
  rw [r4,oA,r5 i k l _ (by split <;> simp [hk]) (fun q hq=>hp q (by simp [hq]))]
  congr 1
  have h0:=hp p (by simp)
  by_cases c:p.1=(i:Int)
  ·rw [if_pos c]
   by_cases c2:p.2.1=(k:Int)
   ·rw [if_pos ⟨c,c2⟩,c2];exact tE (t:=.int .i64) hk
   ·rw [if_neg (fun h=>c2 h.2)];exact tD (t:=.int .i64) (by omega)
  ·rw [if_neg c,if_neg (fun h=>c h.1)]
theorem Fq {w:Ws} {l:List Pt} (h:(dw (w,l)).2.isNil=true):∀i,i < l.length->mo w (nth bt l i):=by
 unfold dw at h
 split at h
 ·assumption
 ·cases h
theorem Fs {w:Ws} {l:List Pt} (h:(dw (w,l)).2.isNil=true):(dw (w,l)).1.length=w.length:=by rw [nz (Fq h)];exact kn l w
end Go.Mrl

namespace Go.Mrl
open Go.Vg
def Small (x:Int):Prop:=-1000000<=x/\x<=1000000
def Word (x:Int):Prop:=-2147483648<=x/\x<=2147483647
def Gw (o:D aA):Prop:=o.2.2.2.1.length<=10/\(∀i,i < o.2.2.1.length->Small (nth aI o.2.2.1 i).2.1)/\
 ∀i,i < o.2.2.2.1.length->Small (nth aH o.2.2.2.1 i).1/\Word (nth aH o.2.2.2.1 i).2.2.1
def eg (l:List (D aA)):Prop:=l.length<=8/\∀i,i < l.length->Gw (nth aA l i)
def jA (b:List Int):Prop:=∀i,i < b.length->0<=(nth (.int .i64) b i:Int)/\(nth (.int .i64) b i:Int)<=256
def dG (b:List Int) (i:Nat):Int:=nth (.int .i64) b i
noncomputable def bQ (l:List (D aA)) (b:List Int) (t:D aH):Int × aY:=
 if 0<=(bo (l,t.2.2.2.1)).1 then (dG b (bo (l,t.2.2.2.1)).1.toNat + (nth aI (nth aA l (bo (l,t.2.2.2.1)).1.toNat).2.2.1 (bo (l,t.2.2.2.1)).2.toNat).2.1, .nil)
 else if t.2.2.2.2.1=true then (0, .nil) else (0, .no 6)
def dP (b:List Int) (i:Int) (t:D aH) (n:Int):Int × aY:=
 if t.2.1=(3:Int) then
  if n - (dG b i.toNat + t.1) < -500\/500 < n - (dG b i.toNat + t.1) then (0, .no 7)
  else (n - (dG b i.toNat + t.1), .nil)
 else if n < -2147483648\/2147483647 < n then (0, .no 7) else (n, .nil)
noncomputable def cA (l:List (D aA)) (b:List Int) (i:Int) (t:D aH):Int × aY:=
 if t.2.1=(1:Int) then dP b i t (dG b i.toNat + t.2.2.1)
 else if (bQ l b t).2.isNil=true then dP b i t ((bQ l b t).1 + t.2.2.1) else (0,(bQ l b t).2)
noncomputable def ic (l:List (D aA)) (b:List Int) (i:Nat):List (D aH)->List Pt->List Pt × aY
 | [],out=>(out, .nil)
 | t :: r,out=>if (cA l b i t).2.isNil=true then ic l b i r (out++[((i:Int),t.1,(cA l b i t).1,())]) else ([],(cA l b i t).2)
noncomputable def iz (f:List Pt->List Pt × aY) (x:List Pt × aY):List Pt × aY:=if x.2.isNil=true then f x.1 else ([],x.2)
noncomputable def gX (l:List (D aA)) (b:List Int):List (D aA)->Nat->List Pt->List Pt × aY
 | [],_,out=>(out, .nil)
 | o :: r,i,out=>iz (gX l b r (i + 1)) (ic l b i o.2.2.2.1 out)
open Classical in
noncomputable def dx (x:List (D aA) × List Int):List Pt × aY:=
 if ¬ x.2.length=x.1.length then ([], .no 3) else if jA x.2 then gX x.1 x.2 x.1 0 [] else ([], .no 1)
theorem cW {t:Ty} {l:List (D t)} {i:Nat} (h:i < l.length):l.drop i=nth t l i :: l.drop (i + 1):=by
 rw [List.drop_eq_getElem_cons h]
 congr 1
 have:=lL h
 rw [List.getElem?_eq_getElem h] at this
 exact Option.some.inj this
theorem DJ {l:List (D aA)} {b:List Int} {i:Nat} {out:List Pt} (h:i < l.length) :
  gX l b (l.drop i) i out=iz (gX l b (l.drop (i + 1)) (i + 1)) (ic l b i ((nth aA l i).2.2.2.1.drop 0) out):=by
 rw [cW (t:=aA) h];rfl
theorem G2 {l:List (D aA)} {b:List Int} {i:Nat} {out:List Pt} (h:l.length<=i):gX l b (l.drop i) i out=(out, .nil):=by
 rw [List.drop_eq_nil_of_le h];rfl
theorem HW {l:List (D aA)} {b:List Int} {i k:Nat} {ts:List (D aH)} {out:List Pt} (h:k < ts.length) (hn:(cA l b i (nth aH ts k)).2.isNil=true) :
  ic l b i (ts.drop k) out=ic l b i (ts.drop (k + 1)) (out++[((i:Int),(nth aH ts k).1,(cA l b i (nth aH ts k)).1,())]):=by
 rw [cW (t:=aH) h,ic,if_pos hn]
theorem G3 {l:List (D aA)} {b:List Int} {i k:Nat} {ts:List (D aH)} {out:List Pt} {f:List Pt->List Pt × aY} (h:k < ts.length) (hn:(cA l b i (nth aH ts k)).2.isNil=false) :
  iz f (ic l b i (ts.drop k) out)=([],(cA l b i (nth aH ts k)).2):=by
 rw [cW (t:=aH) h,ic,if_neg (by simp [hn])]
 unfold iz
 rw [if_neg (by simp [hn])]
theorem G4 {l:List (D aA)} {b:List Int} {i k:Nat} {ts:List (D aH)} {out:List Pt} {f:List Pt->List Pt × aY} (h:ts.length<=k):iz f (ic l b i (ts.drop k) out)=f out:=by
 rw [List.drop_eq_nil_of_le h];rfl
theorem uz {l:List (D aA)} {b:List Int} (h:b.length=l.length) (hb:jA b):dx (l,b)=gX l b l 0 []:=by unfold dx;rw [if_neg (by simpa using h),if_pos hb]
theorem Ft {l:List (D aA)} {b:List Int} (h:¬ b.length=l.length):dx (l,b)=([], .no 3):=by unfold dx;rw [if_pos h]
theorem DK {l:List (D aA)} {b:List Int} {i:Nat} (h:b.length=l.length) (hi:i < b.length) (hn:¬ (0<=(nth (.int .i64) b i:Int)/\(nth (.int .i64) b i:Int)<=256)):dx (l,b)=([], .no 1):=by
 unfold dx;rw [if_neg (by simpa using h),if_neg (fun hh=>hn (hh i hi))]
theorem jO {b:List Int} {n:Nat} {i:Int} (hb:jA b) (hl:b.length=n) (h0:0<=i) (h1:i < n):0<=(nth (.int .i64) b i.toNat:Int)/\(nth (.int .i64) b i.toNat:Int)<=256:=hb _ (by omega)
theorem DL {l:List (D aA)} {s:List UInt8} (hm:eg l) (h:0<=(bo (l,s)).1):Small (nth aI (nth aA l (bo (l,s)).1.toNat).2.2.1 (bo (l,s)).2.toNat).2.1:=by
 have hf:=fY h
 exact (hm.2 _ (by omega)).2.1 _ (by omega)
theorem oB {l:List (D aA)} {b:List Int} {t:D aH} (h:0<=(bo (l,t.2.2.2.1)).1) :
  bQ l b t=(nth (.int .i64) b (bo (l,t.2.2.2.1)).1.toNat + (nth aI (nth aA l (bo (l,t.2.2.2.1)).1.toNat).2.2.1 (bo (l,t.2.2.2.1)).2.toNat).2.1, .nil):=by unfold bQ dG;rw [if_pos h]
theorem mR {l:List (D aA)} {b:List Int} {t:D aH} (h:(bo (l,t.2.2.2.1)).1 < 0) (hw:t.2.2.2.2.1=true):bQ l b t=(0, .nil):=by unfold bQ;rw [if_neg (by omega),if_pos hw]
theorem lO {l:List (D aA)} {b:List Int} {t:D aH} (h:(bo (l,t.2.2.2.1)).1 < 0) (hw:t.2.2.2.2.1=false):bQ l b t=(0, .no 6):=by unfold bQ;rw [if_neg (by omega),if_neg (by simp [hw])]
theorem pS {l:List (D aA)} {b:List Int} (t:D aH) (hm:eg l) (hl:b.length=l.length) (hb:jA b) : -2000000<=(bQ l b t).1/\(bQ l b t).1<=2000000:=by
 by_cases h:0<=(bo (l,t.2.2.2.1)).1
 ·have h1:=jO hb hl h (fY h).1
  have h2:=DL hm h
  rw [oB h];unfold Small at h2;dsimp only [D] at *;omega
 ·cases hw:t.2.2.2.2.1 with
  | true=>rw [mR (by omega) hw];simp
  | false=>rw [lO (by omega) hw];simp
theorem r6 {l:List (D aA)} {b:List Int} {i:Int} {t:D aH} (h:t.2.1=(1:Int)):cA l b i t=dP b i t (nth (.int .i64) b i.toNat + t.2.2.1):=by unfold cA;rw [if_pos h];rfl
theorem ln {l:List (D aA)} {b:List Int} {i:Int} {t:D aH} (h:¬ t.2.1=(1:Int)) (hn:(bQ l b t).2.isNil=true):cA l b i t=dP b i t ((bQ l b t).1 + t.2.2.1):=by unfold cA;rw [if_neg h,if_pos hn]
theorem uA {l:List (D aA)} {b:List Int} {i:Int} {t:D aH} (h:¬ t.2.1=(1:Int)) (hn:(bQ l b t).2.isNil=false):cA l b i t=(0,(bQ l b t).2):=by unfold cA;rw [if_neg h,if_neg (by simp [hn])]
theorem Fu {b:List Int} {i n:Int} {t:D aH} (h:t.2.1=(3:Int)) (hr:n - (nth (.int .i64) b i.toNat + t.1) < -500\/500 < n - (nth (.int .i64) b i.toNat + t.1)):dP b i t n=(0, .no 7):=by
 unfold dP dG;rw [if_pos h,if_pos hr]
theorem G5 {b:List Int} {i n m:Int} {t:D aH} (h:t.2.1=(3:Int)) (e:m=n - (nth (.int .i64) b i.toNat + t.1)) (hr : -500<=m/\m<=500):dP b i t n=(m, .nil):=by
 unfold dP dG;rw [if_pos h,if_neg (by omega),e]
theorem xR {b:List Int} {i n:Int} {t:D aH} (h:¬ t.2.1=(3:Int)) (hr:n < -2147483648\/2147483647 < n):dP b i t n=(0, .no 7):=by
 unfold dP;rw [if_neg h,if_pos hr]
theorem uB {b:List Int} {i n m:Int} {t:D aH} (h:¬ t.2.1=(3:Int)) (e:m=n) (hr : -2147483648<=n/\n<=2147483647):dP b i t n=(m, .nil):=by
 unfold dP;rw [if_neg h,if_neg (by omega),e]
def Told (e:aY):Prop:=qB e (dA e)=true
theorem vk (b:List Int) (i n:Int) (t:D aH):Told (dP b i t n).2:=by
 unfold dP;split <;> split <;> rfl
theorem zY (l:List (D aA)) (b:List Int) (t:D aH):Told (bQ l b t).2:=by
 unfold bQ;split
 ·rfl
 ·split <;> rfl
theorem Fv (l:List (D aA)) (b:List Int) (i:Int) (t:D aH):Told (cA l b i t).2:=by
 unfold cA;split
 ·exact vk _ _ _ _
 ·split
  ·exact vk _ _ _ _
  ·exact zY _ _ _
theorem xS (l:List (D aA)) (b:List Int) (i:Nat):∀(ts:List (D aH)) (out:List Pt),Told (ic l b i ts out).2
 | [],_=>rfl
 | t :: r,out=>by
  rw [ic];split
  ·exact xS l b i r _
  ·exact Fv _ _ _ _
theorem xT (l:List (D aA)) (b:List Int):∀(os:List (D aA)) (i:Nat) (out:List Pt),Told (gX l b os i out).2
 | [],_,_=>rfl
 | o :: r,i,out=>by
  rw [gX];unfold iz;split
  ·exact xT l b r _ _
  ·exact xS _ _ _ _ _
theorem xU (x:List (D aA) × List Int):qB (dx x).2 (dA (dx x).2)=true:=by
 unfold dx;split
 ·rfl
 ·split
  ·exact xT _ _ _ _ _
  ·rfl
end Go.Mrl

namespace Go.Mrl
open Go.Vg
abbrev aG:=List UInt8
def jB (a b:aG):Prop:=Op.bytesLess a b=true
theorem xV (a:UInt8):¬ a < a:=fun h=>by have:=UInt8.lt_iff_toNat_lt.1 h;omega
theorem jo:∀a:aG,¬ jB a a
 | []=>fun h=>by cases h
 | a :: x=>fun h=>by
  unfold jB at h
  simp only [Op.bytesLess,Bool.or_eq_true,decide_eq_true_eq,Bool.and_eq_true] at h
  rcases h with h | ⟨_,h⟩
  ·exact xV a h
  ·exact jo x h
theorem pT:∀{a b c:aG},jB a b->jB b c->jB a c
 | a,[],_,h,_=>by unfold jB at h;cases a <;> simp [Op.bytesLess] at h
 | _,_ :: _,[],_,h=>by unfold jB at h;simp [Op.bytesLess] at h
 | [],_ :: _,_ :: _,_,_=>rfl
 | a :: x,b :: y,c :: z,h1,h2=>by
  unfold jB at h1 h2 ⊢
  simp only [Op.bytesLess,Bool.or_eq_true,decide_eq_true_eq,Bool.and_eq_true,beq_iff_eq] at h1 h2 ⊢
  rcases h1 with h1 | ⟨rfl,h1⟩
  ·rcases h2 with h2 | ⟨rfl,h2⟩
   ·left;rw [UInt8.lt_iff_toNat_lt] at *;omega
   ·exact .inl h1
  ·rcases h2 with h2 | ⟨rfl,h2⟩
   ·exact .inl h2
   ·exact .inr ⟨rfl,pT h1 h2⟩
theorem pU:∀{a b:aG},¬ jB a b->¬ jB b a->a=b
 | [],[],_,_=>rfl
 | [],_ :: _,h,_=>(h rfl).elim
 | _ :: _,[],_,h=>(h rfl).elim
 | a :: x,b :: y,h1,h2=>by
  unfold jB at h1 h2
  simp only [Op.bytesLess,Bool.or_eq_true,decide_eq_true_eq,Bool.and_eq_true,beq_iff_eq,not_or,not_and] at h1 h2
  have hab:a=b:=by
   apply UInt8.toNat_inj.1
   have h3:=h1.1;have h4:=h2.1
   rw [UInt8.lt_iff_toNat_lt] at h3 h4
   omega
  subst hab
  rw [pU (h1.2 rfl) (h2.2 rfl)]
def tG (a b:aG):Prop:=¬ jB b a
theorem xW (a:aG):tG a a:=jo a
theorem vm {a b:aG} (h:jB a b):tG a b:=fun h'=>jo a (pT h h')
theorem DM {a b c:aG} (h1:tG a b) (h2:tG b c):tG a c:=by
 intro h
 by_cases hab:jB a b
 ·exact h2 (pT h hab)
 ·have:=pU hab h1;subst this;exact h2 h
theorem pV {a b:aG} (h1:tG a b) (h2:a≠b):jB a b:=Classical.byContradiction fun h=>h2 (pU h h1)
end Go.Mrl

namespace Go.Mrl
open Go.Vg
end Go.Mrl

namespace Go.Mrl
open Go.Vg
theorem bf {n:Int}:(bd n).isNil=true ↔ n=0:=by
 unfold bd;split
 ·rename_i h;simp [h,aY.isNil]
 ·rename_i h;simp [h,aY.isNil]
theorem nA {a:Int} (h0 : -9223372036854775808<=a) (h:a < 9223372036854775808):IntKind.i64.wrap a=a:=
 tY (by rw [lh];unfold aM;omega)
end Go.Mrl
namespace Go.Mrl
open Go.Vg
def jq (e:D du):Prop:=e.1.length<=20/\e.2.1.length<=8/\e.2.2.1.length<=40/\∀i,i < e.2.1.length->(nth eZ e.2.1 i).1.length<=20
def pW (a:D bP):Prop:=a.2.1.length<=100/\a.2.2.1.length<=1300/\jq a.2.2.2.2.2.1
def jP (l:List (D bP)) (m:Int):Prop:=(l.length:Int)<=m/\∀i,i < l.length->pW (nth bP l i)
end Go.Mrl

namespace Go.Mrl
open Go.Vg
@[reducible] def b9:Ty:=.prod .str (.prod (.int .i64) .unit)
abbrev FE:=aG × (aG × Int × Unit) × Int × Unit
abbrev bp:=(Int × Unit) × (List FE × Int × Unit) × Unit
def ko (y:FE):Int:=y.2.2.1
def lP (y:FE):aG:=y.1
def aJ (x:bp) (s:aG):aG × Int × Int:=
 if cu b9 x.2.1.1 s=true then ((jk b9 x.2.1.1 s).1,(jk b9 x.2.1.1 s).2.1,0) else ([],0,5)
def bX (x:bp) (s t:aG):bp × Int:=
 if ¬ aK s=0 then (x,aK s) else if 1200 < t.length then (x,2)
 else if (cu b9 x.2.1.1 s=false/\x.2.1.1.length=6)\/x.1.1=1000000 then (x,8)
 else (((x.1.1 + 1,()),(cz b9 x.2.1.1 s (t,x.1.1 + 1,()) x.2.1.2.1,fI b9 x.2.1.1 s x.2.1.2.1,()),()),0)
def db (x:bp) (s:aG):bp × Int:=
 if cu b9 x.2.1.1 s=true then ((x.1,(ed b9 x.2.1.1 s,x.2.1.2.1,()),()),0) else (x,5)
def kW:bp:=((0,()),([],0,()),())
theorem mr {x:bp} {s:aG} (h:cu b9 x.2.1.1 s=false):aJ x s=([],0,5):=by unfold aJ;rw [if_neg (by rw [h];simp)]
theorem oC {x:bp} {s:aG} (h:cu b9 x.2.1.1 s=true):aJ x s=((jk b9 x.2.1.1 s).1,(jk b9 x.2.1.1 s).2.1,0):=by unfold aJ;rw [if_pos h]
theorem pX {x:bp} {s t:aG} (h:¬ aK s=0):bX x s t=(x,aK s):=by unfold bX;rw [if_pos h]
theorem pY {x:bp} {s t:aG} (h:aK s=0) (h1:1200 < t.length):bX x s t=(x,2):=by unfold bX;rw [if_neg (by simp [h]),if_pos h1]
theorem pZ {x:bp} {s t:aG} (h:aK s=0) (h1:¬ 1200 < t.length) (h2:(cu b9 x.2.1.1 s=false/\x.2.1.1.length=6)\/x.1.1=1000000):bX x s t=(x,8):=by unfold bX;rw [if_neg (by simp [h]),if_neg h1,if_pos h2]
theorem tH {x:bp} {s t:aG} (h:aK s=0) (h1:¬ 1200 < t.length) (h2:¬ ((cu b9 x.2.1.1 s=false/\x.2.1.1.length=6)\/x.1.1=1000000)) :
  bX x s t=(((x.1.1 + 1,()),(cz b9 x.2.1.1 s (t,x.1.1 + 1,()) x.2.1.2.1,fI b9 x.2.1.1 s x.2.1.2.1,()),()),0):=by unfold bX;rw [if_neg (by simp [h]),if_neg h1,if_neg h2]
theorem kq {x:bp} {s:aG} (h:cu b9 x.2.1.1 s=false):db x s=(x,5):=by unfold db;rw [if_neg (by rw [h];simp)]
theorem jr {x:bp} {s:aG} (h:cu b9 x.2.1.1 s=true):db x s=((x.1,(ed b9 x.2.1.1 s,x.2.1.2.1,()),()),0):=by unfold db;rw [if_pos h]
theorem vo {α:Type} [DecidableEq α]:∀{a b:List α},a.Nodup->(∀y∈a,y∈b)->a.length<=b.length
 | [],_,_,_=>by simp
 | x :: a,b,hn,hs=>by
  have hn':=List.nodup_cons.1 hn
  have h1:(b.erase x).length=b.length - 1:=List.length_erase_of_mem (hs x (by simp))
  have h2:0 < b.length:=List.length_pos_of_mem (hs x (by simp))
  have:=vo (b:=b.erase x) hn'.2 fun y hy=>(List.mem_erase_of_ne (fun (e:y=x)=>hn'.1 (by rw [<-e];exact hy))).2 (hs y (by simp [hy]))
  simp only [List.length_cons]
  omega
end Go.Mrl

namespace Go.Mrl
open Go.Vg
def dZ (n:Int):Bool:=decide (-2147483648<=n) && decide (n<=2147483647)
def dV:List (List UInt8)->List (List UInt8)->Int
 | _,[]=>0
 | p,s :: r=>if aK s > 0 then aK s else if p.any (· == s)=true then 3 else dV (p++[s]) r
def eS:List Int->Int
 | []=>0
 | n :: r=>if dZ n=true then eS r else 1
def da (n:Nat):List (D aI)->List (D aI)->Int
 | _,[]=>0
 | p,s :: r=>if aK s.1 > 0 then aK s.1 else if s.2.1 < 0\/s.2.1>=(n:Int) then 1 else if p.any (fun x=>x.1 == s.1)=true then 3 else da n (p++[s]) r
def gy (a:Int):Option Int->Bool
 | some b=>decide (a<=b)
 | none=>false
def ga (n:Nat) (prev:Option Int) (t:D aH):Int:=
 if t.1 < 0\/t.1>=(n:Int)\/dZ t.2.2.1=false then 1
 else if t.2.1 < 1\/t.2.1 > 3\/gy t.1 prev=true then 3
 else if t.2.1=1 then (if t.2.2.2.1≠[]\/t.2.2.2.2.1=true then 3 else 0)
 else aK t.2.2.2.1
def en (n:Nat):Option Int->List (D aH)->Int
 | _,[]=>0
 | prev,t :: r=>if ga n prev t≠0 then ga n prev t else en n (some t.1) r
def fM (o:D aA):Prop:=o.1.length > 4\/o.2.1.length < 1\/o.2.1.length > 40\/o.2.2.1.length > 8\/o.2.2.2.1.length > 6
instance (o:D aA):Decidable (fM o):=by unfold fM;infer_instance
def bF (o:D aA):Int:=
 if fM o then 2 else if dV [] o.1≠0 then dV [] o.1 else if eS o.2.1≠0 then eS o.2.1
 else if da o.2.1.length [] o.2.2.1≠0 then da o.2.1.length [] o.2.2.1 else en o.2.1.length none o.2.2.2.1
theorem gz {t:Ty} {l:List (D t)} {i:Nat} (h:i < l.length):l.take (i + 1)=l.take i++[nth t l i]:=by
 rw [List.take_add_one];congr 1;unfold nth;simp [h]
theorem p0 (n:Nat):∀(l p:List (D aI)),0<=da n p l
 | [],_=>Int.le_refl _
 | s :: r,p=>by
  unfold da
  split
  ·omega
  ·split
   ·decide
   ·split
    ·decide
    ·exact p0 n r _
structure eB (l:List (List UInt8)) (i:Nat):Prop where
 le:i<=l.length
 eq:dV (l.take i) (l.drop i)=dV [] l
theorem eB.zero (l:List (List UInt8)):eB l 0:=⟨Nat.zero_le _,rfl⟩
theorem eB.fault {l:List (List UInt8)} {i:Nat} (h:eB l i) (hi:i < l.length) (hf:aK (nth .str l i) > 0):dV [] l=aK (nth .str l i):=by
 rw [<-h.eq,cW (t:=.str) hi];unfold dV;rw [if_pos hf]
theorem eB.dup {l:List (List UInt8)} {i:Nat} (h:eB l i) (hi:i < l.length) (hf:aK (nth .str l i)<=0) (ha:(l.take i).any (· == nth .str l i)=true):dV [] l=3:=by
 rw [<-h.eq,cW (t:=.str) hi];unfold dV;rw [if_neg (by omega),if_pos ha]
theorem eB.next {l:List (List UInt8)} {i:Nat} (h:eB l i) (hi:i < l.length) (hf:aK (nth .str l i)<=0) (ha:(l.take i).any (· == nth .str l i)=false):eB l (i + 1):=by
 refine ⟨hi,?_⟩
 rw [<-h.eq,cW (t:=.str) hi,gz (t:=.str) hi]
 conv=>rhs;unfold dV
 rw [if_neg (by omega),if_neg (by rw [ha];decide)]
theorem eB.done {l:List (List UInt8)} {i:Nat} (h:eB l i) (hi:¬ i < l.length):dV [] l=0:=by
 rw [<-h.eq,List.drop_eq_nil_of_le (by omega)];rfl
structure fr (l:List Int) (i:Nat):Prop where
 le:i<=l.length
 eq:eS (l.drop i)=eS l
theorem fr.zero (l:List Int):fr l 0:=⟨Nat.zero_le _,rfl⟩
theorem fr.fault {l:List Int} {i:Nat} (h:fr l i) (hi:i < l.length) (hf:dZ (nth (.int .i64) l i)=false):eS l=1:=by
 rw [<-h.eq,cW (t:=.int .i64) hi];unfold eS;rw [if_neg (by rw [hf];decide)]
theorem fr.next {l:List Int} {i:Nat} (h:fr l i) (hi:i < l.length) (hf:dZ (nth (.int .i64) l i)=true):fr l (i + 1):=by
 refine ⟨hi,?_⟩
 rw [<-h.eq,cW (t:=.int .i64) hi]
 conv=>rhs;unfold eS
 rw [if_pos hf]
theorem fr.done {l:List Int} {i:Nat} (h:fr l i) (hi:¬ i < l.length):eS l=0:=by
 rw [<-h.eq,List.drop_eq_nil_of_le (by omega)];rfl
structure eU (n:Nat) (l:List (D aI)) (i:Nat):Prop where
 le:i<=l.length
 eq:da n (l.take i) (l.drop i)=da n [] l
theorem eU.zero (n:Nat) (l:List (D aI)):eU n l 0:=⟨Nat.zero_le _,rfl⟩
theorem eU.fault {n:Nat} {l:List (D aI)} {i:Nat} (h:eU n l i) (hi:i < l.length) (hf:aK (nth aI l i).1 > 0):da n [] l=aK (nth aI l i).1:=by
 rw [<-h.eq,cW (t:=aI) hi];unfold da;rw [if_pos hf]
theorem eU.out {n:Nat} {l:List (D aI)} {i:Nat} (h:eU n l i) (hi:i < l.length) (hf:aK (nth aI l i).1<=0) (ho:(nth aI l i).2.1 < 0\/(nth aI l i).2.1>=(n:Int)):da n [] l=1:=by
 rw [<-h.eq,cW (t:=aI) hi];unfold da;rw [if_neg (by omega),if_pos ho]
theorem eU.dup {n:Nat} {l:List (D aI)} {i:Nat} (h:eU n l i) (hi:i < l.length) (hf:aK (nth aI l i).1<=0) (ho:¬ ((nth aI l i).2.1 < 0\/(nth aI l i).2.1>=(n:Int)))
  (ha:(l.take i).any (fun x=>x.1 == (nth aI l i).1)=true):da n [] l=3:=by
 rw [<-h.eq,cW (t:=aI) hi];unfold da;rw [if_neg (by omega),if_neg ho,if_pos ha]
theorem eU.next {n:Nat} {l:List (D aI)} {i:Nat} (h:eU n l i) (hi:i < l.length) (hf:aK (nth aI l i).1<=0) (ho:¬ ((nth aI l i).2.1 < 0\/(nth aI l i).2.1>=(n:Int)))
  (ha:(l.take i).any (fun x=>x.1 == (nth aI l i).1)=false):eU n l (i + 1):=by
 refine ⟨hi,?_⟩
 rw [<-h.eq,cW (t:=aI) hi,gz (t:=aI) hi]
 conv=>rhs;unfold da
 rw [if_neg (by omega),if_neg ho,if_neg (by rw [ha];decide)]
theorem eU.done {n:Nat} {l:List (D aI)} {i:Nat} (h:eU n l i) (hi:¬ i < l.length):da n [] l=0:=by
 rw [<-h.eq,List.drop_eq_nil_of_le (by omega)];rfl
def iA (l:List (D aH)) (i:Nat):Option Int:=if i=0 then none else some (nth aH l (i - 1)).1
structure gP (n:Nat) (l:List (D aH)) (i:Nat):Prop where
 le:i<=l.length
 eq:en n (iA l i) (l.drop i)=en n none l
theorem gP.zero (n:Nat) (l:List (D aH)):gP n l 0:=⟨Nat.zero_le _,rfl⟩
theorem gP.fault {n:Nat} {l:List (D aH)} {i:Nat} (h:gP n l i) (hi:i < l.length) {f:Int} (hf:ga n (iA l i) (nth aH l i)=f) (h0:f≠0):en n none l=f:=by
 rw [<-h.eq,cW (t:=aH) hi];unfold en;rw [if_pos (by rw [hf];exact h0),hf]
theorem gP.next {n:Nat} {l:List (D aH)} {i:Nat} (h:gP n l i) (hi:i < l.length) (hf:ga n (iA l i) (nth aH l i)=0):gP n l (i + 1):=by
 refine ⟨hi,?_⟩
 rw [<-h.eq,cW (t:=aH) hi]
 conv=>rhs;unfold en
 rw [if_neg (by rw [hf];decide)]
 rfl
theorem gP.done {n:Nat} {l:List (D aH)} {i:Nat} (h:gP n l i) (hi:¬ i < l.length):en n none l=0:=by
 rw [<-h.eq,List.drop_eq_nil_of_le (by omega)];rfl
theorem xX {t:Ty} {l:List (D t)} {i j:Nat} {f:D t->Bool} (hj:j < i) (hi:i<=l.length) (h:f (nth t l j)=true):(l.take i).any f=true:=by
 rw [List.any_eq_true]
 refine ⟨nth t l j,?_,h⟩
 have:(l.take i)[j]?=some (nth t l j):=by
  rw [List.getElem?_take,if_pos hj]
  unfold nth
  rw [List.getD_eq_getElem?_getD,List.getElem?_eq_getElem (by omega)];rfl
 exact List.mem_of_getElem? this
theorem vp {t:Ty} {l:List (D t)} {i:Nat} {f:D t->Bool} (h:∀j,j < i->f (nth t l j)=false):(l.take i).any f=false:=by
 rw [List.any_eq_false]
 intro x hx
 obtain ⟨j,hj,rfl⟩:=List.getElem_of_mem hx
 rw [List.length_take] at hj
 have:=h j (by omega)
 rw [List.getElem_take]
 have e:nth t l j=l[j]'(by omega):=by unfold nth;simp [show j < l.length by omega]
 rw [e] at this
 rw [this];decide
theorem contains_of {l:List (List UInt8)} {s:List UInt8} {y:Int} (h:(y = -1/\∀j,j < l.length->nth .str l j≠s)\/(0<=y/\y.toNat < l.length/\nth .str l y.toNat=s)):decide (y>=0)=l.any (· == s):=by
 rcases h with ⟨rfl,h⟩ | ⟨h1,h2,h3⟩
 ·have:=vp (t:=.str) (l:=l) (i:=l.length) (f:=(· == s)) fun j hj=>by simpa using h j hj
  rw [List.take_length] at this
  rw [this];rfl
 ·have:=xX (t:=.str) (l:=l) (i:=l.length) (f:=(· == s)) h2 (Nat.le_refl _) (by simpa using h3)
  rw [List.take_length] at this
  rw [this];simpa using h1
theorem zZ {o:D aA} (h:fM o):bF o=2:=by unfold bF;rw [if_pos h]
theorem p3 {o:D aA} (h:¬ fM o) {f:Int} (hf:dV [] o.1=f) (h0:f≠0):bF o=f:=by unfold bF;rw [if_neg h,if_pos (by rw [hf];exact h0),hf]
theorem xY {o:D aA} (h:¬ fM o) (h1:dV [] o.1=0) {f:Int} (hf:eS o.2.1=f) (h0:f≠0):bF o=f:=by
 unfold bF;rw [if_neg h,if_neg (by rw [h1];decide),if_pos (by rw [hf];exact h0),hf]
theorem z1 {o:D aA} (h:¬ fM o) (h1:dV [] o.1=0) (h2:eS o.2.1=0) {f:Int} (hf:da o.2.1.length [] o.2.2.1=f) (h0:f≠0):bF o=f:=by
 unfold bF;rw [if_neg h,if_neg (by rw [h1];decide),if_neg (by rw [h2];decide),if_pos (by rw [hf];exact h0),hf]
theorem z6 {o:D aA} (h:¬ fM o) (h1:dV [] o.1=0) (h2:eS o.2.1=0) (h3:da o.2.1.length [] o.2.2.1=0) {f:Int} (hf:en o.2.1.length none o.2.2.2.1=f):bF o=f:=by
 unfold bF;rw [if_neg h,if_neg (by rw [h1];decide),if_neg (by rw [h2];decide),if_neg (by rw [h3];decide),hf]
end Go.Mrl

namespace Go.Mrl
open Go.Vg
abbrev RF:=aG × aG × Int × Unit
abbrev RS:=List RF × Int × Unit
def qC (y:RF):aG:=y.1
def eC (s:aG) (y:RF):Bool:=!(y.1 == s)
def kX:List RF->aG->aG × Int × Int
 | [],_=>([],0,5)
 | y :: r,s=>if y.1=s then (y.2.1,y.2.2.1,0) else kX r s
def mS (s:aG) (e:RF):List RF->List RF
 | []=>[e]
 | y :: r=>if (Op.bytesLess s y.1 || s == y.1)=true then e :: (y :: r).filter (eC s) else y :: mS s e r
def nB (x:RS) (s t:aG):RS × Int:=
 if ¬ aK s=0 then (x,aK s) else if 1200 < t.length then (x,2)
 else if (0 < (kX x.1 s).2.2/\x.1.length=6)\/x.2.1=1000000 then (x,8)
 else ((mS s (s,t,x.2.1 + 1,()) x.1,x.2.1 + 1,()),0)
def qD (x:RS) (s:aG):RS × Int:=if (x.1.filter (eC s)).length=x.1.length then (x,5) else ((x.1.filter (eC s),x.2),0)
def mu (y:FE):RF:=(y.1,y.2.1.1,y.2.1.2.1,())
def nC (L:List RF):Prop:=L.Pairwise fun a b=>jB a.1 b.1
structure cE (x:bp) (r:RS):Prop where
 now:r.2.1=x.1.1
 lo:0<=x.1.1
 hi:x.1.1<=1000000
 len:x.2.1.1.length<=6
 born:(x.2.1.1.map ko).Nodup
 mX:∀y∈x.2.1.1,ko y < x.2.1.2.1
 xZ:nC r.1
 perm:r.1.Perm (x.2.1.1.map mu)
theorem cE.new:cE kW ([],0,()):=⟨rfl,Int.le_refl _,by decide,by decide,by decide,fun y hy=>by simp [kW] at hy, .nil, .refl _⟩
theorem p4 {L:List RF} (h:nC L):(L.map qC).Nodup:=by
 unfold List.Nodup
 rw [List.pairwise_map]
 exact h.imp fun hlt e=>by unfold qC at e;rw [e] at hlt;exact jo _ hlt
theorem cE.names {x:bp} {r:RS} (h:cE x r):(x.2.1.1.map lP).Nodup:=by
 have h1:=(h.perm.map qC).nodup_iff.1 (p4 h.xZ)
 rw [List.map_map] at h1
 exact h1
theorem vq:∀{L:List RF} {s:aG},(L.map qC).Nodup->∀y∈L,y.1=s->kX L s=(y.2.1,y.2.2.1,0)
 | [],_,_,_,h,_=>by simp at h
 | z :: r,s,hn,y,hy,e=>by
  simp only [List.map_cons,List.nodup_cons] at hn
  unfold kX
  rcases List.mem_cons.1 hy with rfl | hy
  ·rw [if_pos e]
  ·have:¬ z.1=s:=fun e2=>hn.1 (by rw [show qC z=qC y from e2.trans e.symm];exact List.mem_map_of_mem hy)
   rw [if_neg this]
   exact vq hn.2 y hy e
theorem x3:∀{L:List RF} {s:aG},(∀y∈L,¬ y.1=s)->kX L s=([],0,5)
 | [],_,_=>rfl
 | z :: r,s,h=>by
  unfold kX
  rw [if_neg (h z (by simp))]
  exact x3 fun y hy=>h y (by simp [hy])
theorem jQ:∀{es:List FE} {s:aG},cu b9 es s=true ↔ ∃y∈es,y.1=s
 | [],_=>by simp [cu]
 | z :: r,s=>by
  unfold cu
  by_cases c:z.1=s
  ·simp [c]
  ·rw [if_neg c,jQ];simp [c]
theorem x4:∀{es:List FE} {s:aG},(es.map lP).Nodup->∀y∈es,y.1=s->jk b9 es s=y.2.1
 | [],_,_,_,h,_=>by simp at h
 | z :: r,s,hn,y,hy,e=>by
  simp only [List.map_cons,List.nodup_cons] at hn
  unfold jk
  rcases List.mem_cons.1 hy with rfl | hy
  ·rw [if_pos e]
  ·have:¬ z.1=s:=fun e2=>hn.1 (by rw [show lP z=lP y from e2.trans e.symm];exact List.mem_map_of_mem hy)
   rw [if_neg this]
   exact x4 hn.2 y hy e
theorem cE.read {x:bp} {r:RS} (h:cE x r) (s:aG):aJ x s=kX r.1 s:=by
 by_cases c:cu b9 x.2.1.1 s=true
 ·obtain ⟨y,hy,e⟩:=jQ.1 c
  rw [oC c,x4 h.names y hy e]
  exact (vq (p4 h.xZ) (mu y) (h.perm.mem_iff.2 (List.mem_map_of_mem hy)) e).symm
 ·rw [mr (by simpa using c)]
  refine (x3 fun y hy e=>c ?_).symm
  obtain ⟨z,hz,rfl⟩:=List.mem_map.1 (h.perm.mem_iff.1 hy)
  exact jQ.2 ⟨z,hz,e⟩
theorem fz {s:aG} {y:RF}:eC s y=true ↔ ¬ y.1=s:=by simp [eC]
theorem x5 {s:aG} {e:RF}:∀{L:List RF} {y:RF},y∈mS s e L->y=e\/y∈L
 | [],y,h=>by simp [mS] at h;exact .inl h
 | z :: r,y,h=>by
  unfold mS at h
  split at h
  ·rcases List.mem_cons.1 h with h | h
   ·exact .inl h
   ·exact .inr (List.mem_filter.1 h).1
  ·rcases List.mem_cons.1 h with rfl | h
   ·exact .inr (by simp)
   ·rcases x5 h with h | h
    ·exact .inl h
    ·exact .inr (by simp [h])
theorem not_le {s a:aG} (h:¬ (Op.bytesLess s a || s == a)=true):jB a s:=by
 simp at h
 exact pV (a:=a) (b:=s) (by unfold tG jB;rw [h.1];simp) (fun e=>h.2 e.symm)
theorem rb {s:aG} {e:RF} (he:e.1=s):∀{L:List RF},nC L->nC (mS s e L)
 | [],_=>by simp [mS,nC]
 | z :: r,h=>by
  have h':=List.pairwise_cons.1 h
  unfold mS
  split
  ·rename_i c
   refine List.pairwise_cons.2 ⟨fun y hy => ?_,h.filter _⟩
   have hy':=List.mem_filter.1 hy
   have hn:=fz.1 hy'.2
   have hz:tG s z.1:=by
    simp at c
    rcases c with c | rfl
    ·exact vm c
    ·exact xW _
   have hzy:tG z.1 y.1:=by
    rcases List.mem_cons.1 hy'.1 with e2 | hy2
    ·rw [e2];exact xW _
    ·exact vm (h'.1 y hy2)
   rw [he]
   exact pV (DM hz hzy) (fun e2=>hn e2.symm)
  ·rename_i c
   have hlt:=not_le c
   refine List.pairwise_cons.2 ⟨fun y hy => ?_,rb he h'.2⟩
   rcases x5 hy with rfl | hy
   ·rw [he];exact hlt
   ·exact h'.1 y hy
theorem filter_all {s:aG}:∀{L:List RF},(∀y∈L,¬ y.1=s)->L.filter (eC s)=L:=fun h=>List.filter_eq_self.2 fun y hy=>fz.2 (h y hy)
theorem vr {s:aG} {e:RF}:∀{L:List RF},nC L->(mS s e L).Perm (e :: L.filter (eC s))
 | [],_ => .refl _
 | z :: r,h=>by
  have h':=List.pairwise_cons.1 h
  unfold mS
  split
  ·exact .refl _
  ·rename_i c
   have hlt:=not_le c
   have hz:eC s z=true:=fz.2 fun e=>by rw [e] at hlt;exact jo _ hlt
   rw [List.filter_cons,if_pos hz]
   exact ((vr h'.2).cons z).trans (List.Perm.swap e z _)
theorem p5 {s:aG} {v:aG × Int × Unit} {c:Int}:∀{es:List FE},(es.map lP).Nodup->((cz b9 es s v c).map mu).Perm ((s,v.1,v.2.1,()) :: (es.map mu).filter (eC s))
 | [],_ => .refl _
 | z :: r,hn=>by
  simp only [List.map_cons,List.nodup_cons] at hn
  unfold cz
  by_cases e:z.1=s
  ·rw [if_pos e]
   have h1:eC s (mu z)=false:=by
    cases h:eC s (mu z) with
    | false=>rfl
    | true=>exact absurd e (fz.1 h)
   rw [List.map_cons,List.map_cons,List.filter_cons,if_neg (by rw [h1];simp),filter_all]
   ·exact .refl _
   ·intro y hy e2
    obtain ⟨z2,hz2,rfl⟩:=List.mem_map.1 hy
    exact hn.1 (by rw [show lP z=lP z2 from e.trans (show s=z2.1 from e2.symm)];exact List.mem_map_of_mem hz2)
  ·rw [if_neg e]
   have h1:eC s (mu z)=true:=fz.2 e
   rw [List.map_cons,List.map_cons,List.filter_cons,if_pos h1]
   exact ((p5 hn.2).cons (mu z)).trans (List.Perm.swap _ _ _)
theorem mv {s:aG} {v:aG × Int × Unit} {c:Int}:∀{es:List FE},(cz b9 es s v c).map ko=if cu b9 es s=true then es.map ko else es.map ko++[c]
 | []=>rfl
 | z :: r=>by
  unfold cz cu
  by_cases e:z.1=s
  ·rw [if_pos e,if_pos e];rfl
  ·rw [if_neg e,if_neg e,List.map_cons,mv]
   split <;> rfl
theorem x6 {s:aG}:∀{es:List FE},(es.map lP).Nodup->(ed b9 es s).map mu=(es.map mu).filter (eC s)
 | [],_=>rfl
 | z :: r,hn=>by
  simp only [List.map_cons,List.nodup_cons] at hn
  unfold ed
  by_cases e:z.1=s
  ·have h1:¬ eC s (mu z)=true:=fun h=>fz.1 h e
   rw [if_pos e,List.map_cons,List.filter_cons,if_neg h1,filter_all]
   intro y hy e2
   obtain ⟨z2,hz2,rfl⟩:=List.mem_map.1 hy
   exact hn.1 (by rw [show lP z=lP z2 from e.trans (show s=z2.1 from e2.symm)];exact List.mem_map_of_mem hz2)
  ·have h1:eC s (mu z)=true:=fz.2 e
   rw [if_neg e,List.map_cons,List.map_cons,List.filter_cons,if_pos h1,x6 hn.2]
theorem jR {s:aG}:∀{es:List FE},(ed b9 es s).Sublist es
 | [] => .refl _
 | z :: r=>by
  unfold ed
  split
  ·exact List.sublist_cons_self _ _
  ·exact jR.cons_cons _
theorem cE.has {x:bp} {r:RS} (h:cE x r) (s:aG):0 < (kX r.1 s).2.2 ↔ cu b9 x.2.1.1 s=false:=by
 rw [<-h.read s]
 cases c:cu b9 x.2.1.1 s with
 | true=>rw [oC c];simp
 | false=>rw [mr c];simp
theorem cE.write {x:bp} {r:RS} (h:cE x r) (s t:aG):cE (bX x s t).1 (nB r s t).1/\(bX x s t).2=(nB r s t).2:=by
 have hlen:r.1.length=x.2.1.1.length:=by rw [h.perm.length_eq,List.length_map]
 have hc:((cu b9 x.2.1.1 s=false/\x.2.1.1.length=6)\/x.1.1=1000000) ↔ ((0 < (kX r.1 s).2.2/\r.1.length=6)\/r.2.1=1000000):=by rw [h.has,hlen,h.now]
 by_cases h1:aK s=0
 ·by_cases h2:1200 < t.length
  ·rw [pY h1 h2]
   unfold nB;rw [if_neg (by simp [h1]),if_pos h2]
   exact ⟨h,rfl⟩
  ·by_cases h3:(cu b9 x.2.1.1 s=false/\x.2.1.1.length=6)\/x.1.1=1000000
   ·rw [pZ h1 h2 h3]
    unfold nB;rw [if_neg (by simp [h1]),if_neg h2,if_pos (hc.1 h3)]
    exact ⟨h,rfl⟩
   ·rw [tH h1 h2 h3]
    unfold nB;rw [if_neg (by simp [h1]),if_neg h2,if_neg (fun h'=>h3 (hc.2 h'))]
    refine ⟨⟨by rw [h.now],by have:=h.lo;simp only;omega,by have:=h.hi;simp only;omega,?_,?_,?_,rb (s:=s) (e:=(s,t,r.2.1 + 1,())) rfl h.xZ,?_⟩,rfl⟩
    ·have hp:=(p5 (s:=s) (v:=(t,x.1.1 + 1,())) (c:=x.2.1.2.1) h.names).length_eq
     have hb:=congrArg List.length (mv (s:=s) (v:=(t,x.1.1 + 1,())) (c:=x.2.1.2.1) (es:=x.2.1.1))
     simp only [List.length_map] at hb
     show (cz b9 x.2.1.1 s (t,x.1.1 + 1,()) x.2.1.2.1).length<=6
     rw [hb]
     have:=h.len
     cases c:cu b9 x.2.1.1 s with
     | true=>simpa using this
     | false=>
      have:¬ x.2.1.1.length=6:=fun e=>h3 (.inl ⟨c,e⟩)
      simp;omega
    ·show ((cz b9 x.2.1.1 s (t,x.1.1 + 1,()) x.2.1.2.1).map ko).Nodup
     rw [mv]
     split
     ·exact h.born
     ·rw [List.nodup_append]
      refine ⟨h.born,by simp,fun a ha b hb e => ?_⟩
      simp at hb
      obtain ⟨y,hy,rfl⟩:=List.mem_map.1 ha
      have:=h.mX y hy
      omega
    ·intro y hy
     have hy':ko y∈(cz b9 x.2.1.1 s (t,x.1.1 + 1,()) x.2.1.2.1).map ko:=List.mem_map_of_mem hy
     rw [mv] at hy'
     show ko y < fI b9 x.2.1.1 s x.2.1.2.1
     unfold fI
     split at hy'
     ·rename_i c
      rw [if_pos c]
      obtain ⟨z,hz,e⟩:=List.mem_map.1 hy'
      rw [<-e];exact h.mX z hz
     ·rename_i c
      rw [if_neg c]
      rcases List.mem_append.1 hy' with hy' | hy'
      ·obtain ⟨z,hz,e⟩:=List.mem_map.1 hy'
       have:=h.mX z hz
       omega
      ·simp at hy';omega
    ·refine (vr h.xZ).trans ?_
     rw [h.now]
     exact ((h.perm.filter _).cons _).trans (p5 (v:=(t,x.1.1 + 1,())) (c:=x.2.1.2.1) h.names).symm
 ·rw [pX h1]
  unfold nB;rw [if_pos h1]
  exact ⟨h,rfl⟩
theorem cE.remove {x:bp} {r:RS} (h:cE x r) (s:aG):cE (db x s).1 (qD r s).1/\(db x s).2=(qD r s).2:=by
 have hp:(r.1.filter (eC s)).Perm ((ed b9 x.2.1.1 s).map mu):=by rw [x6 h.names];exact h.perm.filter _
 cases c:cu b9 x.2.1.1 s with
 | false=>
  have hall:r.1.filter (eC s)=r.1:=filter_all fun y hy e=>by
   obtain ⟨z,hz,rfl⟩:=List.mem_map.1 (h.perm.mem_iff.1 hy)
   have:=jQ.2 ⟨z,hz,e⟩
   rw [c] at this;cases this
  rw [kq c]
  unfold qD;rw [if_pos (by rw [hall])]
  exact ⟨h,rfl⟩
 | true=>
  obtain ⟨y,hy,e⟩:=jQ.1 c
  have hlt:(r.1.filter (eC s)).length < r.1.length:=List.length_filter_lt_length_iff_exists.2 ⟨mu y,h.perm.mem_iff.2 (List.mem_map_of_mem hy),by rw [fz];exact fun h=>h e⟩
  rw [jr c]
  unfold qD;rw [if_neg (by omega)]
  refine ⟨⟨h.now,h.lo,h.hi,Nat.le_trans jR.length_le h.len,(jR.map ko).nodup h.born,fun y hy=>h.mX y (jR.subset hy),List.Pairwise.filter _ h.xZ,hp⟩,rfl⟩
end Go.Mrl

namespace Go.Mrl
open Go.Vg
def lQ:aG:=[119,114,105,116,101]
theorem cE.pre {x:bp} {r:RS} (h:cE x r):x.2.1.1.length<=6/\0<=x.1.1/\x.1.1<=1000000:=⟨h.len,h.lo,h.hi⟩
end Go.Mrl

namespace Go.Mrl
open Go.Vg
def nD:aG:=[114,101,109,111,118,101]
def fl (x:bp) (a:D bP):bp:=if a.1=lQ then (bX x a.2.1 a.2.2.1).1 else if a.1=nD then (db x a.2.1).1 else x
def aO (x:bp) (l:List (D bP)):bp:=l.foldl fl x
theorem oD {x:bp} {l:List (D bP)} {i:Nat} (h:i < l.length):aO x (l.take (i + 1))=fl (aO x (l.take i)) (nth bP l i):=by rw [iX (t:=bP) h];simp [aO]
theorem z7 {x:bp} {a:D bP} (h:a.1=lQ):fl x a=(bX x a.2.1 a.2.2.1).1:=if_pos h
theorem x7 {x:bp} {a:D bP} (h:¬ a.1=lQ) (h2:a.1=nD):fl x a=(db x a.2.1).1:=by unfold fl;rw [if_neg h,if_pos h2]
theorem B5 {x:bp} {a:D bP} (h:¬ a.1=lQ) (h2:¬ a.1=nD):fl x a=x:=by unfold fl;rw [if_neg h,if_neg h2]
structure bN (x:bp):Prop where
 Fw:∃r,cE x r
 Gx:∀y∈x.2.1.1,y.2.1.2.1<=x.1.1
theorem bN.new:bN kW:=⟨⟨_,cE.new⟩,fun y hy=>by simp [kW] at hy⟩
theorem x8 {s:aG} {v:aG × Int × Unit} {c:Int}:∀{es:List FE} {y:FE},y∈cz b9 es s v c->y.2.1=v\/y∈es
 | [],y,h=>by simp [cz] at h;subst h;exact .inl rfl
 | z :: r,y,h=>by
  unfold cz at h
  split at h
  ·rcases List.mem_cons.1 h with rfl | h
   ·exact .inl rfl
   ·exact .inr (by simp [h])
  ·rcases List.mem_cons.1 h with rfl | h
   ·exact .inr (by simp)
   ·rcases x8 h with h | h
    ·exact .inl h
    ·exact .inr (by simp [h])
theorem o1 (x:bp) (s t:aG):((bX x s t).1=x/\¬ (bX x s t).2=0)\/
  ((bX x s t).1=((x.1.1 + 1,()),(cz b9 x.2.1.1 s (t,x.1.1 + 1,()) x.2.1.2.1,fI b9 x.2.1.1 s x.2.1.2.1,()),())/\(bX x s t).2=0):=by
 unfold bX
 split
 ·rename_i h;exact .inl ⟨rfl,h⟩
 ·split
  ·exact .inl ⟨rfl,by simp⟩
  ·split
   ·exact .inl ⟨rfl,by simp⟩
   ·exact .inr ⟨rfl,rfl⟩
theorem bN.write {x:bp} (h:bN x) (s t:aG):bN (bX x s t).1/\x.1.1<=(bX x s t).1.1.1:=by
 obtain ⟨r,hr⟩:=h.Fw
 have hg:=(hr.write s t).1
 rcases o1 x s t with ⟨e,_⟩ | ⟨e,_⟩
 ·rw [e];exact ⟨h,Int.le_refl _⟩
 ·rw [e] at hg ⊢
  refine ⟨⟨⟨_,hg⟩,fun y hy => ?_⟩,by simp only;omega⟩
  rcases x8 hy with hy | hy
  ·rw [hy];exact Int.le_refl _
  ·have:=h.Gx y hy;simp only;omega
theorem bN.remove {x:bp} (h:bN x) (s:aG):bN (db x s).1/\x.1.1<=(db x s).1.1.1:=by
 obtain ⟨r,hr⟩:=h.Fw
 have hg:=(hr.remove s).1
 cases c:cu b9 x.2.1.1 s with
 | false=>rw [kq c];exact ⟨h,Int.le_refl _⟩
 | true=>
  rw [jr c] at hg ⊢
  exact ⟨⟨⟨_,hg⟩,fun y hy=>h.Gx y (jR.subset hy)⟩,Int.le_refl _⟩
theorem bN.fl {x:bp} (h:bN x) (a:D bP):bN (fl x a)/\x.1.1<=(Mrl.fl x a).1.1:=by
 unfold Mrl.fl
 split
 ·exact h.write _ _
 ·split
  ·exact h.remove _
  ·exact ⟨h,Int.le_refl _⟩
theorem bN.done:∀(l:List (D bP)) {x:bp},bN x->bN (aO x l)
 | [],_,h=>h
 | a :: l,_,h=>bN.done l (h.fl a).1
theorem bN.pre {x:bp} (h:bN x):x.2.1.1.length<=6/\0<=x.1.1/\x.1.1<=1000000:=let ⟨_,hr⟩:=h.Fw;hr.pre
end Go.Mrl

