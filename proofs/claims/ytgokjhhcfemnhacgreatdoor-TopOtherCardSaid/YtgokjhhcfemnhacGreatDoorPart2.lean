/- A part of the proof that the law TopOtherCard holds of the given program: facts that are used there. -/
import Derived.Test.YtgokjhhcfemnhacGreatDoorPart1
import Derived.Deep.LoopGhost
import Derived.ProofKit
import Derived.KernelRfl
import Derived.Deep.Heap
import Derived.Room.AppendFits
import Derived.Lib.UnsafeStr
set_option linter.unusedSimpArgs false
set_option linter.unusedVariables false
namespace Go.Vg
open Go.RowKit
def dR:List Cl->Bool
 | []=>true
 | .d t :: r=>t.flat && dR r
 | _ :: r=>dR r
def cE:List Ob->Bool
 | []=>true
 | .box _ cls :: r=>dR cls && cE r
 | .row _ t :: r=>t.flat && cE r
 | .tok t :: r=>t.flat && cE r
 | .ext _ _ :: r=>cE r
def lQ:List Ob->Bool
 | []=>true
 | .tok _ :: _=>false
 | _ :: r=>lQ r
section
variable {eT:TypeId} {X:Ext}
theorem VR.to {t:Ty} {x:D t} {S S':aX} {v:Value} (hw:S'.w=S.w) (hA:t.flat=true\/∀b o,S'.A b o->S.A b o) (h:VR eT t x S.A S.w v):VR eT t x S'.A S'.w v:=by
 rcases hA with hA | hA
 ·exact VR.of_flat hA h
 ·rw [hw];exact VR.tH h fun b o k h'=>k (hA b o h')
def Laid (eT:TypeId) (S:aX):(os:List Ob)->PD os->List Nat->List Loc->Prop
 | [],_,ns,ls=>ns = []/\ls = []
 | o :: r,x,n :: ns,l :: ls=>(S.loc n=l/\n < S.next/\(match o,x.1 with
  | .box _ _,_=>∃b,l.v = .pointer (some ⟨b,0,none⟩)
  | .tok t,y=>VR eT (.slice t) y S.A S.w l.v/\∀ys,S.ob n=some (.tok t ys)->ys=y
  | .row _ _,_=>∃a k c,l.v = .slice a k c
  | .ext 0 _,_=>∃v,∃hs:List Value,l.v = .tuple (v :: hs).toArray
  | .ext (_ + 1) _,_=>oY l.v=l.v))/\Laid eT S r x.2 ns ls
 | _,_,_,_=>False
theorem sk {S:aX}:∀{os:List Ob} {x:PD os} {ns:List Nat} {ls:List Loc} {k:Nat} {v:Value},Laid eT S os x ns ls->tI ls k v->CR eT S (de os x ns k) v:=by
 intro os
 induction os with
 | nil=>intro x ns ls k v h hr;exact trivial
 | cons o r ih=>
  intro x ns ls k v h hr
  match ns,ls,h with
  | n :: ns,l :: ls,⟨⟨h1,h2,h3⟩,h4⟩=>
   obtain ⟨l0,hl,hv⟩:=hr
   cases k with
   | succ k=>exact ih h4 ⟨l0,by simpa using hl,hv⟩
   | zero=>
    simp at hl
    subst hl
    subst hv
    show CR eT S (G4 o x.1 n) _
    cases o with
    | box T cls=>
     obtain ⟨b,hb⟩:=h3
     rw [hb]
     exact ⟨h2,fun T cs _=>⟨b,by rw [h1];exact hb,rfl⟩⟩
    | row kp t=>
     obtain ⟨a,k,c,hb⟩:=h3
     rw [hb]
     exact ⟨h2,fun t xs _=>by rw [h1,hb];rfl⟩
    | tok t=>
     obtain ⟨a,c,hb,_⟩:=mE h3.1
     rw [show oY l.v=l.v by rw [hb];rfl]
     exact ⟨h3.1,h2,fun ys hy=>by rw [h3.2 ys hy];exact ⟨Nat.le_refl _,fun _=>by rw [h1]⟩⟩
    | ext k t=>
     cases k with
     | zero=>
      obtain ⟨v,hs,hb⟩:=h3
      rw [hb]
      exact ⟨h2,fun t x _=>⟨hs,by rw [h1,hb];rfl⟩⟩
     | succ k=>
      rw [show oY l.v=l.v from h3]
      exact ⟨h2,fun oc _ _=>by rw [h1]⟩
theorem EE {S S':aX} {F:Nat->Value->Prop} {f:Nat->C} (hw:S'.w=S.w) (hF:∀k v,F k v->CR eT S' (f k) v):∀{cls:List Cl} {x:CD cls} {vs:List Value},
  (dR cls=true\/∀b o,S'.A b o->S.A b o)->mj eT S F cls x vs->(∀v∈vs,v.oneCell'=true)->bZ eT S' (wS f cls x) vs:=by
 intro cls
 induction cls with
 | nil=>intro x vs _ h _;rw [show vs = [] from h];exact .nil
 | cons cl r ih=>
  intro x vs hA h h1
  cases vs with
  | nil=>cases cl <;> exact h.elim
  | cons v vs=>
   have hr:dR r=true\/∀b o,S'.A b o->S.A b o:=by
    rcases hA with hA | hA
    ·left;cases cl <;> simp [dR] at hA <;> first | exact hA.2 | exact hA
    ·exact .inr hA
   cases cl with
   | d t=>
    refine .cons (VR.to hw ?_ h.1) (h1 v (by simp)) (ih hr h.2 fun u hu=>h1 u (by simp [hu]))
    rcases hA with hA | hA
    ·left;simp [dR] at hA;exact hA.1
    ·exact .inr hA
   | obj k=>exact .cons (hF k v h.1) (h1 v (by simp)) (ih hr h.2 fun u hu=>h1 u (by simp [hu]))
   | c7=>exact .cons h.1 (h1 v (by simp)) (ih hr h.2 fun u hu=>h1 u (by simp [hu]))
theorem wV {S S':aX} {F:Nat->Value->Prop} {f:Nat->C} (hw:S'.w=S.w) (hF:∀k v,F k v->CR eT S' (f k) v):∀{cls:List Cl} {x:CD cls} {vs:List Value},
  (dR cls=true\/∀b o,S'.A b o->S.A b o)->mj eT S F cls x vs->bM eT S' (rl f cls x) vs:=by
 intro cls
 induction cls with
 | nil=>intro x vs _ h;rw [show vs = [] from h];exact .nil
 | cons cl r ih=>
  intro x vs hA h
  cases vs with
  | nil=>cases cl <;> exact h.elim
  | cons v vs=>
   have hr:dR r=true\/∀b o,S'.A b o->S.A b o:=by
    rcases hA with hA | hA
    ·left;cases cl <;> simp [dR] at hA <;> first | exact hA.2 | exact hA
    ·exact .inr hA
   cases cl with
   | d t=>
    refine .cons (show VR eT t x.1 S'.A S'.w v from VR.to hw ?_ h.1) (ih hr h.2)
    rcases hA with hA | hA
    ·left;simp [dR] at hA;exact hA.1
    ·exact .inr hA
   | obj k=>exact .cons (hF k v h.1) (ih hr h.2)
   | c7=>exact .cons h.1 (ih hr h.2)
theorem fr.to {S S':aX} {t:Ty} {xs:List (D t)} {vs:Array Value} (hw:S'.w=S.w) (hA:t.flat=true\/∀b o,S'.A b o->S.A b o) (h:fr eT S t xs vs):fr eT S' t xs vs:=by
 intro i y hy
 obtain ⟨us,h1,h2⟩:=h i y hy
 refine ⟨us,?_,h2⟩
 rcases hA with hA | hA
 ·exact h1.of_flat hA
 ·rw [hw];exact h1.frame fun b o v k h'=>⟨h',fun h''=>k (hA b o h'')⟩
theorem wW.to {S S':aX} {t:Ty} {xs:List (D t)} {l:Loc} (hw:S'.w=S.w) (hA:t.flat=true\/∀b o,S'.A b o->S.A b o) (h:OR eT X S l (.aQ t xs)):OR eT X S' l (.aQ t xs):=by
 rcases h with h | ⟨b,vs,T,cap,h1,h2,h3,h4,h5,h6,h7⟩
 ·exact .inl h
 ·exact .inr ⟨b,vs,T,cap,h1,h2,by rw [hw];exact h3,h4,h5,h6,h7.to hw hA⟩
def lh (o:Ob):Bool:=cE [o]
theorem G6 {S S':aX} {F:Nat->Value->Prop} {f:Nat->C} (hw:S'.w=S.w) (hF:∀k v,F k v->CR eT S' (f k) v) {o:Ob} {x:OD o} {l:Loc}
  (hA:lh o=true\/∀b o,S'.A b o->S.A b o) (h:CV eT X S F o x l):OR eT X S' l (lg f o x):=by
 cases o with
 | box T cls=>
  obtain ⟨b,vs,h1,h2,h3,h4,h5⟩:=h
  refine ⟨b,vs,h1,h2,by rw [hw];exact h3,EE hw hF ?_ h4 h5⟩
  rcases hA with hA | hA
  ·left;simpa [lh,cE] using hA
  ·exact .inr hA
 | row kp t=>
  refine wW.to hw ?_ h
  rcases hA with hA | hA
  ·left;simpa [lh,cE] using hA
  ·exact .inr hA
 | tok t=>
  refine wW.to (X:=X) (l:=l) hw ?_ h
  rcases hA with hA | hA
  ·left;simpa [lh,cE] using hA
  ·exact .inr hA
 | ext k t=>show X.rel _ _ _ _ _;rw [hw];exact h
theorem EF {S:aX} {t:Ty} {xs:List (D t)} {l:Loc} (h:OR eT X S l (.tok t xs)) (hA:∀b∈l.bs,∀off,off < xs.length * t.size->¬ S.A b off):VR eT (.slice t) xs S.A S.w l.v:=by
 rcases h with ⟨rfl,⟨a,ha⟩,_⟩ | ⟨b,vs,T,cap,h1,h2,h3,h4,h5,h6,he⟩
 ·exact VR.bt rfl ⟨_,rfl,by simp, .inl ⟨rfl,a,0,ha⟩⟩
 ·refine VR.bt rfl ⟨_,rfl,h6, .inr ⟨b,0,cap,h1,h5,fun i y hy => ?_⟩⟩
  obtain ⟨us,r1,r2⟩:=he i y hy
  refine ⟨us,r1,fun j u hj=>⟨?_,?_⟩⟩
  ·rw [Nat.zero_add,cell_of_row S.w b _ vs T (0,0) h3];exact r2 j u hj
  ·rw [Nat.zero_add]
   refine hA b (by rw [h2];simp) _ ?_
   have hi:=aS hy
   have hjl:=aS hj
   rw [r1.length] at hjl
   have:(i + 1) * t.size<=xs.length * t.size:=Nat.mul_le_mul_right _ hi
   rw [Nat.add_mul] at this
   omega
def cm:List Nat->List Loc->(Nat->Loc)->Nat->Loc
 | n :: ns,l :: ls,d,m=>if n=m then l else cm ns ls d m
 | _,_,d,m=>d m
theorem iI:∀{ns:List Nat} {ls:List Loc} {d:Nat->Loc} {m:Nat},m∉ns->cm ns ls d m=d m
 | [],_,_,_,_=>by cases ‹List Loc› <;> rfl
 | n :: ns,[],_,_,_=>rfl
 | n :: ns,l :: ls,d,m,h=>by
  simp only [List.mem_cons,not_or] at h
  simp only [cm]
  rw [if_neg (fun e=>h.1 e.symm)]
  exact iI h.2
theorem rn {n:Nat} {l:List Nat}:iu n l=true ↔ n∈l:=by
 refine ⟨nI,fun h => ?_⟩
 induction l with
 | nil=>simp at h
 | cons m r ih=>
  simp only [iu]
  split
  ·rfl
  ·rename_i hb
   rcases List.mem_cons.1 h with h | h
   ·subst h;rw [Nat.beq_refl] at hb;cases hb
   ·exact ih h
theorem gT {n:Nat} {r:List Nat} (h:nodupB (n :: r)=true):n∉r/\nodupB r=true:=by
 simp only [nodupB,Bool.and_eq_true,Bool.not_eq_true'] at h
 exact ⟨fun hm=>by rw [rn.2 hm] at h;exact absurd h.1 (by decide),h.2⟩
theorem fl:∀{ns:List Nat} {ls:List Loc} {d:Nat->Loc} {i n:Nat} {l:Loc},nodupB ns=true->ns[i]?=some n->ls[i]?=some l->cm ns ls d n=l
 | [],_,_,_,_,_,_,h,_=>by simp at h
 | n :: ns,[],_,_,_,_,_,_,h=>by simp at h
 | n :: ns,l :: ls,d,0,m,k,_,h1,h2=>by simp at h1 h2;subst h1;subst h2;simp [cm]
 | n :: ns,l :: ls,d,i + 1,m,k,hn,h1,h2=>by
  obtain ⟨hm,hn⟩:=gT hn
  simp at h1 h2
  simp only [cm]
  rw [if_neg (fun e=>hm (by rw [e];exact List.mem_of_getElem? h1))]
  exact fl hn h1 h2
theorem kI {cv:Bool} {aC:List (Nat × OC)} {aJ:List Ob} {ν:List Nat} {f:Nat->C} {S:aX} {F:Nat->Value->Prop} {loc:Nat->Loc}:∀{os:List Ob} {x:PD os} {ns ms:List Nat} {m:Nat} {oc:OC},b4 cv aC aJ ν os ns=some x->Be eT X S F os x (ns.map loc)->ns.length=ms.length->
  look (fz f os x ms) m=some oc->∃(i n:Nat) (o:Ob) (y:OD o) (oc0:OC),ns[i]?=some n/\ms[i]?=some m/\os[i]?=some o/\look aC n=some oc0/\eo cv aC aJ ν o oc0=some y/\oc=lg f o y/\CV eT X S F o y (loc n):=by
 intro os
 induction os with
 | nil=>intro x ns ms m oc _ _ _ h;simp [fz,look] at h
 | cons o r ih=>
  intro x ns ms m oc hg hR hl h
  cases ns with
  | nil=>simp [b4] at hg
  | cons n ns=>
   cases ms with
   | nil=>simp at hl
   | cons k ms=>
    simp only [b4] at hg
    split at hg
    case h_2=>cases hg
    rename_i oc0 hob
    split at hg
    case h_2=>cases hg
    rename_i x0 y0 h1 h2
    cases hg
    simp only [fz,bm] at h
    split at h
    ·rename_i e
     cases h
     exact ⟨0,n,o,x0,oc0,rfl,by simp [e],rfl,hob,h1,rfl,hR.1⟩
    ·obtain ⟨i,n',o',y',oc',k1,k2,k3,k4⟩:=ih h2 hR.2 (by simpa using hl) h
     exact ⟨i + 1,n',o',y',oc',by simpa using k1,by simpa using k2,by simpa using k3,k4⟩
theorem tK {cv:Bool} {aC:List (Nat × OC)} {aJ:List Ob} {ν:List Nat} {f:Nat->C} {o:Ob} {y:OD o} {oc:OC} (h:eo cv aC aJ ν o oc=some y):(lg f o y).lo=oc.lo\/cv=true:=by
 cases o <;> cases oc <;> simp only [eo,reduceCtorEq] at h
 ·exact .inl rfl
 ·exact .inl rfl
 ·split at h
  ·exact .inr rfl
  ·cases h
 ·obtain ⟨e,h3⟩:=iz h
  subst e;simp only at h3;subst h3;exact .inl rfl
 ·exact .inl rfl
theorem kg {cv:Bool} {aC:List (Nat × OC)} {aJ:List Ob} {ν:List Nat} {o:Ob} {y:OD o} {oc:OC} (h:eo cv aC aJ ν o oc=some y) (f:Nat->C):(∀T cls,o = .box T cls->∃cs,oc = .cells T cs)/\
  (∀k t,o = .ext k t->∃x,oc = .ext k t x)/\(∀k t,o = .row k t->cv=false->∃xs,oc = .aQ t xs)/\((∀t,o≠.tok t)->cv=false->∀t xs,oc≠.tok t xs):=by
 refine ⟨fun T cls e => ?_,fun k t e => ?_,fun k t e e2 => ?_,fun h1 h2 t xs e => ?_⟩
 ·subst e
  cases oc <;> simp only [eo,reduceCtorEq] at h
  split at h
  ·rename_i hT;rw [Nat.eq_of_beq_eq_true hT];exact ⟨_,rfl⟩
  ·cases h
 ·subst e
  cases oc <;> simp only [eo,reduceCtorEq] at h
  split at h
  ·rename_i hT
   obtain ⟨e,_⟩:=wU h
   subst e
   rw [Nat.eq_of_beq_eq_true hT];exact ⟨_,rfl⟩
  ·cases h
 ·subst e;subst e2
  cases oc <;> simp only [eo,reduceCtorEq] at h
  ·obtain ⟨e,_⟩:=iz h
   subst e
   exact ⟨_,rfl⟩
 ·subst e;subst h2
  cases o <;> simp only [eo,reduceCtorEq] at h
  exact h1 _ rfl
theorem kJ {cv:Bool} {aC:List (Nat × OC)} {aJ:List Ob} {ν:List Nat}:∀{os:List Ob} {ns:List Nat} {x:PD os},b4 cv aC aJ ν os ns=some x->os.length=ns.length:=by
 intro os
 induction os with
 | nil=>intro ns x h;cases ns with | nil=>rfl | cons=>simp [b4] at h
 | cons o r ih=>
  intro ns x h
  cases ns with
  | nil=>simp [b4] at h
  | cons n ns=>
   simp only [b4] at h
   split at h
   case h_2=>cases h
   split at h
   case h_2=>cases h
   rename_i h2
   simp [ih h2]
theorem ki {f:Nat->C}:∀{os:List Ob} {x:PD os} {ms:List Nat} {m:Nat},os.length=ms.length->m∈ms->∃oc,look (fz f os x ms) m=some oc:=by
 intro os
 induction os with
 | nil=>intro x ms m h hm;cases ms with | nil=>simp at hm | cons=>simp at h
 | cons o r ih=>
  intro x ms m h hm
  cases ms with
  | nil=>simp at h
  | cons k ms=>
   simp only [fz,bm]
   by_cases e:k=m
   ·exact ⟨_,by rw [if_pos e]⟩
   ·rw [if_neg e]
    rcases List.mem_cons.1 hm with hm | hm
    ·exact (e hm.symm).elim
    ·exact ih (by simpa using h) hm
theorem kj:∀{l:List Nat} {i j n:Nat},nodupB l=true->l[i]?=some n->l[j]?=some n->i=j
 | [],_,_,_,_,h,_=>by simp at h
 | m :: r,0,0,_,_,_,_=>rfl
 | m :: r,0,j + 1,n,hn,h1,h2=>by
  simp at h1 h2;subst h1
  exact ((gT hn).1 (List.mem_of_getElem? h2)).elim
 | m :: r,i + 1,0,n,hn,h1,h2=>by
  simp at h1 h2;subst h2
  exact ((gT hn).1 (List.mem_of_getElem? h1)).elim
 | m :: r,i + 1,j + 1,n,hn,h1,h2=>by
  simp at h1 h2
  rw [kj (gT hn).2 h1 h2]
theorem oZ {a:Ob} {r:List Ob} (h:cE (a :: r)=true):lh a=true/\cE r=true:=by
 cases a <;> simp [cE,lh] at h ⊢ <;> exact h
theorem qx:∀{l:List Ob} {i:Nat} {o:Ob},cE l=true->l[i]?=some o->lh o=true
 | [],_,_,_,h=>by simp at h
 | a :: r,0,o,hfl,h=>by simp at h;subst h;exact (oZ hfl).1
 | a :: r,i + 1,o,hfl,h=>qx (oZ hfl).2 (by simpa using h)
theorem Gd {S S2:aX} {F:Nat->Value->Prop} {f:Nat->C} {loc:Nat->Loc} (hNA:∀m t ys,S2.ob m=some (.tok t ys)->∀b∈(S2.loc m).bs,∀off,off < ys.length * t.size->¬ S2.A b off) (hw:S2.w=S.w) :
  ∀{os:List Ob} {x:PD os} {ns ms:List Nat},(cE os=true\/∀b o,S2.A b o->S.A b o)->Be eT X S F os x (ns.map loc)->nodupB ms=true->ns.length=ms.length->(∀n∈ms,S2.ob n=look (fz f os x ms) n)->
   (∀(i n m:Nat),ns[i]?=some n->ms[i]?=some m->S2.loc m=loc n/\m < S2.next)->Laid eT S2 os x ms (ns.map loc):=by
 intro os
 induction os with
 | nil=>
  intro x ns ms _ h _ hl _ _
  have h:ns.map loc = []:=h
  cases ns with
  | nil=>cases ms with
   | nil=>exact ⟨rfl,rfl⟩
   | cons=>simp at hl
  | cons=>simp at h
 | cons o r ih=>
  intro x ns ms hA h hnd hl hob hloc
  cases ns with
  | nil=>exact h.elim
  | cons n ns=>
   cases ms with
   | nil=>simp at hl
   | cons m ms=>
    obtain ⟨hm,hnd'⟩:=gT hnd
    obtain ⟨h1,h2⟩:=hloc 0 n m rfl rfl
    have hA':cE r=true\/∀b o,S2.A b o->S.A b o:=by
     rcases hA with hA | hA
     ·left;cases o <;> simp [cE] at hA <;> first | exact hA.2 | exact hA
     ·exact .inr hA
    refine ⟨⟨h1,h2,?_⟩,ih hA' h.2 hnd' (by simpa using hl) (fun k hk => ?_) (fun i a b ha hb=>hloc (i + 1) a b (by simpa using ha) (by simpa using hb))⟩
    ·cases o with
     | box T cls=>obtain ⟨b,vs,k1,_⟩:=h.1;exact ⟨b,k1⟩
     | row kp t=>rcases h.1 with ⟨_,⟨a,ha⟩,_⟩ | ⟨b,vs,T,cap,ha,_⟩ <;> exact ⟨_,_,_,ha⟩
     | tok t=>
      have hobm:S2.ob m=some (.tok t x.1):=by rw [hob m (by simp)];simp [fz,bm,lg]
      refine ⟨?_,fun ys hy=>by rw [hobm] at hy;cases hy;rfl⟩
      refine EF (X:=X) (wW.to (X:=X) (l:=loc n) hw ?_ h.1) fun b hb off ho=>hNA m t x.1 hobm b (by rw [h1];exact hb) off ho
      rcases hA with hA | hA
      ·left;simp [cE] at hA;exact hA.1
      ·exact .inr hA
     | ext k t=>
      cases k with
      | zero=>
       have hd:=X.deep.1 h.1
       obtain ⟨e,s,rfl,_⟩:=lG hd
       obtain ⟨_,_,v,hs,hv,_⟩:=hd
       exact ⟨v,hs,hv⟩
      | succ k=>
       show oY (loc n).v=(loc n).v
       cases k with
       | zero=>obtain ⟨e,_,b,es,b9,hm⟩:=X.map.1 h.1;rw [hm.lv];rfl
       | succ k=>obtain ⟨a,ha⟩:=X.ptr (by omega) h.1;rw [ha];rfl
    ·rw [hob k (by simp [hk])]
     simp only [fz,bm]
     rw [if_neg (fun e=>hm (by rw [e];exact hk))]
theorem Bg {cv:Bool} {aJ:List Ob} {ν:List Nat} {x:PD aJ} {O:aD} {st:St} {loc:Nat->Loc} {w:World} (g:Good eT X (aB O st loc w)) (hx:b4 cv st.aC aJ ν aJ ν=some x)
  (hp:∀p∈dQ aJ x st.aC aJ ν,p) (hnd:nodupB ν=true)
  {O2:aD} {ν2:List Nat} {rest:List (Nat × OC)} {locR:Nat->Loc} {st2:St} (hnd2:nodupB ν2=true) (hlen:ν.length=ν2.length)
  (hobjs:st2.aC=fz (de aJ x ν2) aJ x ν2++rest) (hlt:∀n∈ν2,n < st2.next)
  (hO2:∀n∈ν,∀b∈(loc n).bs,∀off,¬ O2 b off)
  (hD:∀n∈ν,∀b∈(loc n).bs,∀m oc,look rest m=some oc->m∉ν2->b∉(locR m).bs)
  (hR:∀m oc,look rest m=some oc->m∉ν2->m < st2.next/\OR eT X (aB O2 st2 (cm ν2 (ν.map loc) locR) w) (locR m) oc)
  (hR2:∀m m' oc oc' b,look rest m=some oc->look rest m'=some oc'->m∉ν2->m'∉ν2->b∈(locR m).bs->b∈(locR m').bs->m=m')
  (hR3:∀m oc b off,look rest m=some oc->m∉ν2->b∈(locR m).bs->¬ O2 b off)
  (hA:cE aJ=true\/∀b o,(aB O2 st2 (cm ν2 (ν.map loc) locR) w).A b o->(aB O st loc w).A b o)
  (hGl:∀b∈X.zX,¬ (aB O2 st2 (cm ν2 (ν.map loc) locR) w).jv b) :
  Good eT X (aB O2 st2 (cm ν2 (ν.map loc) locR) w)/\Laid eT (aB O2 st2 (cm ν2 (ν.map loc) locR) w) aJ x ν2 (ν.map loc):=by
 have hobs:=kH (X:=X) g hx hx hp
 have hol:=kJ hx
 generalize hf:de aJ x ν2=f at hobjs
 have hob:∀m oc,(aB O2 st2 (cm ν2 (ν.map loc) locR) w).ob m=some oc->
   (∃(i n:Nat) (o:Ob) (y:OD o) (oc0:OC),ν[i]?=some n/\ν2[i]?=some m/\look st.aC n=some oc0/\eo cv st.aC aJ ν o oc0=some y/\oc=lg f o y/\CV eT X (aB O st loc w) (tI (ν.map loc)) o y (loc n)/\
    cm ν2 (ν.map loc) locR m=loc n/\aJ[i]?=some o)\/
   (look rest m=some oc/\m∉ν2/\cm ν2 (ν.map loc) locR m=locR m):=by
  intro m oc h
  simp only [aB,hobjs] at h
  rw [b7] at h
  split at h
  ·rename_i oc' h'
   cases h
   obtain ⟨i,n,o,y,oc0,k1,k2,k3,k4,k5,k6,k7⟩:=kI hx hobs hlen h'
   exact .inl ⟨i,n,o,y,oc0,k1,k2,k4,k5,k6,k7,fl hnd2 k2 (by simp [k1]),k3⟩
  ·rename_i h'
   have:m∉ν2:=fun hm=>by
    obtain ⟨oc1,h1⟩:=ki (f:=f) (x:=x) (by omega) hm
    rw [h1] at h';cases h'
   exact .inr ⟨h,this,iI this⟩
 have hap:∀m m' oc oc' b,(aB O2 st2 (cm ν2 (ν.map loc) locR) w).ob m=some oc->(aB O2 st2 (cm ν2 (ν.map loc) locR) w).ob m'=some oc'->
   b∈(cm ν2 (ν.map loc) locR m).bs->b∈(cm ν2 (ν.map loc) locR m').bs->m=m':=by
  intro m m' oc oc' b h1 h2 h3 h4
  rcases hob m oc h1 with ⟨i,n,o,y,oc0,k1,k2,k4,_,_,_,k8,_⟩ | ⟨k1,k2,k3⟩ <;> rcases hob m' oc' h2 with ⟨i',n',o',y',oc0',j1,j2,j4,_,_,_,j8,_⟩ | ⟨j1,j2,j3⟩
  ·rw [k8] at h3;rw [j8] at h4
   have e:=g.apart n n' oc0 oc0' b k4 j4 h3 h4
   subst e
   have:=kj hnd k1 j1
   subst this
   rw [k2] at j2;cases j2;rfl
  ·rw [k8] at h3;rw [j3] at h4
   exact (hD n (List.mem_of_getElem? k1) b h3 m' oc' j1 j2 h4).elim
  ·rw [k3] at h3;rw [j8] at h4
   exact (hD n' (List.mem_of_getElem? j1) b h4 m oc k1 k2 h3).elim
  ·rw [k3] at h3;rw [j3] at h4
   exact hR2 m m' oc oc' b k1 j1 k2 j2 h3 h4
 have hout:∀m oc b off,(aB O2 st2 (cm ν2 (ν.map loc) locR) w).ob m=some oc->b∈(cm ν2 (ν.map loc) locR m).bs->¬ O2 b off:=by
  intro m oc b off h1 h2
  rcases hob m oc h1 with ⟨i,n,o,y,oc0,k1,k2,k4,_,_,_,k8,_⟩ | ⟨k1,k2,k3⟩
  ·rw [k8] at h2;exact hO2 n (List.mem_of_getElem? k1) b h2 off
  ·rw [k3] at h2;exact hR3 m oc b off k1 k2 h2
 have hNA:∀m t ys,(aB O2 st2 (cm ν2 (ν.map loc) locR) w).ob m=some (.tok t ys)->∀b∈((aB O2 st2 (cm ν2 (ν.map loc) locR) w).loc m).bs,∀off,off < ys.length * t.size->¬ (aB O2 st2 (cm ν2 (ν.map loc) locR) w).A b off:=by
  rintro m t ys h1 b hb off ho (h2 | ⟨m',oc',h2,h3,h4⟩)
  ·exact hout m _ b off h1 hb h2
  ·have:=hap m m' _ oc' b h1 h2 hb h3
   subst this
   rw [h1] at h2;cases h2
   simp only [OC.lo] at h4
   omega
 have hlaid:Laid eT (aB O2 st2 (cm ν2 (ν.map loc) locR) w) aJ x ν2 (ν.map loc):=by
  refine Gd (X:=X) (S:=aB O st loc w) (f:=f) hNA rfl hA hobs hnd2 hlen (fun n hn => ?_) (fun i n m h1 h2=>⟨fl hnd2 h2 (by simp [h1]),hlt m (List.mem_of_getElem? h2)⟩)
  show look st2.aC n=_
  rw [hobjs,b7]
  obtain ⟨oc1,h1⟩:=ki (f:=f) (x:=x) (by omega) hn
  rw [h1]
 refine ⟨⟨fun m oc h => ?_,fun m m' oc oc' b h1 h2 h3 h4=>hap m m' oc oc' b h1 h2 h3 h4,fun m oc b off h1 h2=>hout m oc b off h1 h2,g.iq.1,hGl⟩,hlaid⟩
 rcases hob m oc h with ⟨i,n,o,y,oc0,k1,k2,k4,k5,k6,k7,k8,k9⟩ | ⟨k1,k2,k3⟩
 ·refine ⟨hlt m (List.mem_of_getElem? k2),?_⟩
  show OR _ _ _ (cm ν2 (ν.map loc) locR m) oc
  rw [k8,k6]
  refine G6 (S:=aB O st loc w) (S':=aB O2 st2 (cm ν2 (ν.map loc) locR) w) rfl (fun k v hk=>by rw [<-hf];exact sk hlaid hk) ?_ k7
  rcases hA with hA | hA
  ·left
   exact qx hA k9
  ·exact .inr hA
 ·obtain ⟨h1,h2⟩:=hR m oc k1 k2
  refine ⟨h1,?_⟩
  show OR _ _ _ (cm ν2 (ν.map loc) locR m) oc
  rw [k3];exact h2
def upto:Nat->Nat->List Nat
 | _,0=>[]
 | k,m + 1=>k :: upto (k + 1) m
def FL (aJ:List Ob) (cls:List Cl) (vs:List bx) (aC:List (Nat × OC)) (as:List (Nat × Nat)):Option (List Nat):=
 match CT cls vs as with
 | some as1=>match p5 aC 0 aJ as1 with
  | some as2=>oW as2 0 aJ.length
  | none=>none
 | none=>none
theorem rp:∀(m k i:Nat),i < m->(upto k m)[i]?=some (k + i)
 | m + 1,k,0,_=>by simp [upto]
 | m + 1,k,i + 1,h=>by
  simp only [upto,List.getElem?_cons_succ]
  rw [rp m (k + 1) i (by omega)]
  congr 1;omega
theorem nJ:∀{m k n:Nat},n∈upto k m->k<=n/\n < k + m
 | 0,k,n,h=>by simp [upto] at h
 | m + 1,k,n,h=>by
  simp only [upto,List.mem_cons] at h
  rcases h with h | h
  ·omega
  ·have:=nJ h;omega
theorem nK:∀(m k:Nat),(upto k m).length=m
 | 0,_=>rfl
 | m + 1,k=>by simp [upto,nK m]
theorem eI:∀(m k:Nat),nodupB (upto k m)=true
 | 0,_=>rfl
 | m + 1,k=>by
  simp only [upto,nodupB,eI m,Bool.and_true,Bool.not_eq_true']
  rw [Bool.eq_false_iff]
  intro h
  have:=nJ (rn.1 h)
  omega
theorem fM {cv:Bool} {aC:List (Nat × OC)} {aJ:List Ob} {ν:List Nat}:∀{os:List Ob} {ns:List Nat} {x:PD os} {n:Nat},b4 cv aC aJ ν os ns=some x->n∈ns->
  ∃o oc y,o∈os/\look aC n=some oc/\eo cv aC aJ ν o oc=some y:=by
 intro os
 induction os with
 | nil=>intro ns x n h hn;cases ns with | nil=>simp at hn | cons=>simp [b4] at h
 | cons o r ih=>
  intro ns x n h hn
  cases ns with
  | nil=>simp at hn
  | cons k ns=>
   simp only [b4] at h
   split at h
   case h_2=>cases h
   rename_i oc hob
   split at h
   case h_2=>cases h
   rename_i x0 y0 h1 h2
   rcases List.mem_cons.1 hn with e | hn
   ·subst e;exact ⟨o,oc,x0,by simp,hob,h1⟩
   ·obtain ⟨o',oc',y',k1,k2⟩:=ih h2 hn
    exact ⟨o',oc',y',by simp [k1],k2⟩
end
end Go.Vg

namespace Go.Vg
open Go.RowKit
inductive Ex where
 | normal
 | exit (n:Nat)
 | ret
def vR:(cls:List Cl)->CD cls
 | []=>()
 | .d t :: r=>(bF t,vR r)
 | .obj _ :: r=>vR r
 | .c7 :: r=>vR r
def Hx:(o:Ob)->OD o
 | .box _ cls=>vR cls
 | .row _ _=>[]
 | .tok _=>[]
 | .ext _ t=>bF t
def FM:(os:List Ob)->PD os
 | []=>()
 | o :: r=>(Hx o,FM r)
structure fF:Type 1 where
 X:Type
 inv:X->Prop
 bw:X->Nat
 bg:X->List (Nat × SV)
 aC:X->List (Nat × OC):=fun _=>[]
 bh:List Nat
 ej:List Nat:=[]
 eU:List Nat:=[]
 aJ:List Ob:=[]
 refs:List (Nat × Nat):=[]
 pd:X->PD aJ:=fun _=>FM aJ
@[reducible] def sI (x:Int):SV:=.s (.one (.d (.int .i64) x))
@[reducible] def sB (x:Bool):SV:=.s (.one (.d .bool x))
@[reducible] def sD (t:Ty) (x:D t):SV:=.s (.one (.d t x))
abbrev ck:=List (Nat × (St->fF))
def nL:C->C->Prop
 | .lit b, .d .bool c=>b=c
 | .d t x, .d t' y=>match h:Ty.beq t t' with
  | true=>bo h x=y
  | false=>False
 | .app t xs n, .app t' ys m=>match h:Ty.beq (.slice t) (.slice t'),Nat.beq n m with
  | true,true=>bo h (a:=.slice t) (b:=.slice t') xs=ys
  | _,_=>False
 | a,b=>a=b
def km:SV->SV->Prop
 | .s (.one a), .s (.one b)=>nL a b
 | a,b=>a=b
def o1:List C->List C->Prop
 | [],[]=>True
 | a :: as,b :: bs=>nL a b/\o1 as bs
 | _,_=>False
def gf:OC->OC->Prop
 | .cells T cs, .cells T' cs'=>match Nat.beq T T' with
  | true=>o1 cs cs'
  | false=>False
 | .aQ t xs, .aQ t' ys=>match h:Ty.beq (.slice t) (.slice t') with
  | true=>bo h (a:=.slice t) (b:=.slice t') xs=ys
  | false=>False
 | .arr t xs, .arr t' ys=>match h:Ty.beq (.slice t) (.slice t') with
  | true=>bo h (a:=.slice t) (b:=.slice t') xs=ys
  | false=>False
 | .tok t xs, .tok t' ys=>match h:Ty.beq (.slice t) (.slice t') with
  | true=>bo h (a:=.slice t) (b:=.slice t') xs=ys
  | false=>False
 | .ext k t x, .ext k' t' y=>match Nat.beq k k',h:Ty.beq t t' with
  | true,true=>bo h x=y
  | _,_=>False
 | .iter cs seen cl, .iter cs' seen' cl'=>o1 cs cs'/\seen=seen'/\cl=cl'
 | _,_=>False
def gU (st:St):List (Nat × SV)->Prop
 | []=>True
 | (n,v) :: r=>match look st.env n with
  | some u=>km u v/\gU st r
  | none=>False
def gV (st:St):List (Nat × OC)->Prop
 | []=>True
 | (n,v) :: r=>match look st.aC n with
  | some u=>gf u v/\gV st r
  | none=>False
def jC (st:St):List Nat->List (Nat × SV)
 | []=>[]
 | t :: r=>match look st.env t with
  | some v=>(t,v) :: jC st r
  | none=>jC st r
def dV (st:St):List Nat->List (Nat × OC)
 | []=>[]
 | t :: r=>match look st.aC t with
  | some v=>(t,v) :: dV st r
  | none=>dV st r
def bc (an:fF) (st:St) (x:an.X):St:=
 {env:=an.bg x++jC st an.bh,aC:=an.aC x++dV st an.ej,next:=st.next}
def cY (l:List Oper):List Nat:=l.filterMap (·.dst)
def writes (anns:ck):Nat->Code->List Nat
 | _, .region _ ops _=>cY ops.toList
 | k, .seq a b=>writes anns k a++writes anns k b
 | k, .cond _ a b=>writes anns k a++writes anns k b
 | _, .block id b=>writes anns id b
 | k, .loop b=>match look anns (k + 200000) with
  | some _=>allM :: writes anns k b
  | none=>writes anns k b
 | _,_=>[]
def nM (n:Nat):List Nat->Bool
 | []=>false
 | m :: r=>match Nat.beq m n with
  | true=>true
  | false=>nM n r
def lR (l:List Nat) (W:List Nat):Bool:=match l with
 | []=>true
 | _ => !(nM allM W) && l.all fun n => !(nM n W)
def eJ (k:Nat):List Nat->Bool
 | []=>true
 | n :: r=>Nat.blt n k && eJ k r
def kn (k:Nat):C->Bool
 | .app _ _ n | .aQ n | .im n | .cn n | .xd n _ | .ref n _ | .kT n | .fq n _ _ _ | .iP n _ _ _=>Nat.blt n k
 | .fn _ caps=>eJ k caps
 | _=>true
def iJ (k:Nat):List C->Bool
 | []=>true
 | c :: r=>kn k c && iJ k r
def wX (k:Nat):bx->Bool
 | .one c=>kn k c
 | .agg cs=>iJ k cs
def dW (k:Nat):List (Nat × SV)->Bool
 | []=>true
 | (_, .s v) :: r=>wX k v && dW k r
 | (_, .gH _) :: _=>false
def Am (k:Nat):OC->Bool
 | .cells _ cs=>iJ k cs
 | .iter cs _ _=>iJ k cs
 | _=>true
def dO (k:Nat):List (Nat × OC)->Bool
 | []=>true
 | (n,oc) :: r=>Nat.blt n k && Am k oc && dO k r
def gg (env:List (Nat × SV)):List Nat->Bool
 | []=>true
 | t :: r=>match look env t with
  | some _=>gg env r
  | none=>false
def gh (W:List Nat):List (Nat × SV)->Bool
 | []=>true
 | (n,_) :: r=>nM n W && gh W r
def vS (env:List (Nat × SV)):List Nat->List Nat
 | []=>[]
 | t :: r=>match look env t with
  | some (.s _)=>t :: vS env r
  | _=>vS env r
def lS (eU:List Nat):List (Nat × OC)->List Nat
 | []=>[]
 | (n,_) :: r=>match nM n eU with
  | true=>lS eU r
  | false=>n :: lS eU r
def p6 (st:St) (an:fF):fF:=
 {an with bh:=vS st.env an.bh,ej:=match an.ej with
  | []=>lS an.eU st.aC
  | l=>l}
def cq (ty:Ty) (st:St) (t:Nat):D ty:=
 match look st.env t with
 | some (.s c)=>match kv ty c with
  | some x=>x
  | none=>bF ty
 | _=>bF ty
def bG (st:St) (t:Nat):Nat:=
 match look st.env t with
 | some (.s (.one (.aQ n)))=>n
 | some (.s (.one (.im n)))=>n
 | some (.s (.one (.cn n)))=>n
 | some (.s (.one (.xd n _)))=>n
 | some (.s (.one (.ref n _)))=>n
 | some (.s (.one (.app _ _ n)))=>n
 | _=>0
def HX (st:St) (n k:Nat):Nat:=
 match look st.aC n with
 | some (.cells _ cs)=>match cs[k]? with
  | some (.aQ m)=>m
  | some (.ref m _)=>m
  | some (.app _ _ m)=>m
  | some (.cn m)=>m
  | some (.xd m _)=>m
  | _=>0
 | _=>0
def Bh (ty:Ty) (st:St) (n k:Nat):D ty:=
 match look st.aC n with
 | some (.cells _ cs)=>match cs[k]? with
  | some c=>match ot ty c with
   | some x=>x
   | none=>bF ty
  | none=>bF ty
 | _=>bF ty
def Ge (_:Nat) (_:St):Prop:=False
def fe (an:fF) (st st':St):VC:=
 match gg st'.env an.bh with
 | true => .leaf (∃x',an.inv x'/\gU st' (an.bg x')/\gV st' (an.aC x'++dV st an.ej))
 | false => .ff
def FN (st:St):List (Nat × Nat)->Option (List (Nat × Nat))
 | []=>some []
 | (t,k) :: r=>match look st.env t,FN st r with
  | some (.s (.one c)),some as=>match FK c with
   | some n=>match look as k with
    | some _=>some as
    | none=>some ((k,n) :: as)
   | none=>none
  | _,_=>none
def CW (st:St) (an:fF):Option (List Nat):=
 match FN st an.refs with
 | some as1=>match p5 st.aC 0 an.aJ as1 with
  | some as2=>oW as2 0 an.aJ.length
  | none=>none
 | none=>none
def o3 (st:St) (an:fF) (ν:List Nat):List (Nat × Nat)->Bool
 | []=>true
 | (t,k) :: r=>(match look st.env t with
  | some (.s (.one c))=>ei false st.aC an.aJ ν k c
  | _=>false) && o3 st an ν r
def sq (st:St) (an:fF) (y:PD an.aJ):List (Nat × Nat)->List Prop
 | []=>[]
 | (t,k) :: r=>(match look st.env t with
  | some (.s (.one c))=>mi an.aJ y k c
  | _=>[])++sq st an y r
def o4 (an:fF) (y:PD an.aJ) (us:List Nat):List (Nat × Nat)->List (Nat × SV)
 | []=>[]
 | (t,k) :: r=>(t, .s (.one (de an.aJ y us k))) :: o4 an y us r
def sr (an:fF) (st:St) (x:an.X):List (Nat × SV):=an.bg x++jC st an.bh
def kK (an:fF) (st:St) (x:an.X):List (Nat × OC):=an.aC x++dV st an.ej
def bO (an:fF) (st:St) (x:an.X):St:=
 {env:=o4 an (an.pd x) (upto st.next an.aJ.length) an.refs++sr an st x,
  aC:=fz (de an.aJ (an.pd x) (upto st.next an.aJ.length)) an.aJ (an.pd x) (upto st.next an.aJ.length)++kK an st x,next:=st.next + an.aJ.length}
def kR (ν:List Nat):List (Nat × OC)->Bool
 | []=>true
 | (n,_) :: r => !(iu n ν) && kR ν r
def o5 (bh:List Nat):List (Nat × Nat)->Bool
 | []=>true
 | (t,_) :: r => !(nM t bh) && o5 bh r
def mN (an:fF) (st:St) (W:List Nat) (x:an.X):Bool:=dW st.next (sr an st x) && (dO st.next (kK an st x) && (gh W (an.bg x) && o5 an.bh an.refs))
def wY (st:St) (an:fF):fF:=
 {an with bh:=(vS st.env an.bh).filter (fun t=>o5 [t] an.refs),ej:=match an.ej with
  | []=>lS (an.eU++(match CW st an with | some l=>l | none=>[])) st.aC
  | l=>l}
def ss (an:fF) (st st':St) (more:an.X->Prop):VC:=
 match CW st' an with
 | some ν=>match nodupB ν && (o3 st' an ν an.refs),b4 false st'.aC an.aJ ν an.aJ ν with
  | true,some y => .leaf (Bd (sq st' an y an.refs++dQ an.aJ y st'.aC an.aJ ν++[∃x',an.inv x'/\more x'/\gU st' (an.bg x')/\gV st' (an.aC x'++dV st an.ej)/\(kR ν (kK an st x')=true/\y=an.pd x')]))
  | _,_ => .ff
 | none => .ff
def vT (cx:Cx) (ops:Array Oper) (draw:Bool) (st:St) (K:St->VC):VC:=
 match draw with
 | false=>vN cx ops.toList ops.toList st K
 | true=>match nE ops with
  | true=>GX cx ops st fun st'=>K (canon st.next (cY ops.toList) st')
  | false => .ff
def gi:Code->Nat->Nat
 | .region id _ _,_=>id
 | .seq a b,d=>gi a (gi b d)
 | .cond _ a b,d=>gi a (gi b d)
 | .block _ b,d=>gi b d
 | .loop b,d=>gi b d
 | _,d=>d
def vc (cx:Cx) (anns:ck):Code->Nat->St->(Ex->St->VC)->VC
 | .skip,_,st,K=>K .normal st
 | .region id ops draw,_,st,K=>match (look anns (id + 300000)).map (fun f=>p6 st (f st)) with
  | none=>vT cx ops draw st (K .normal)
  | some an=>match lR an.bh (cY ops.toList) with
   | true => .both (vT cx ops draw st (fe an st))
    (.all an.X fun x => .imp (an.inv x) (match dW st.next (bc an st x).env && (dO st.next (bc an st x).aC && gh (cY ops.toList) (an.bg x)) with
     | true=>K .normal (bc an st x)
     | false => .ff))
   | false => .ff
 | .seq a b,cur,st,K=>vc cx anns a cur st fun e st'=>match e with
  | .normal=>vc cx anns b cur st' K
  | e=>K e st'
 | .cond c a b,cur,st,K=>match (look anns (gi a (gi b 0) + 400000)).map (fun f=>p6 st (f st)) with
  | none=>match bY st.env c with
   | .lit true=>vc cx anns a cur st K
   | .lit false=>vc cx anns b cur st K
   | .d .bool g => .ite g (vc cx anns a cur st K) (vc cx anns b cur st K)
   | _ => .ff
  | some an=>match lR an.bh (writes anns cur (.cond c a b)) with
   | true => .both (match bY st.env c with
    | .lit true=>vc cx anns a cur st fun e st'=>match e with
     | .normal=>fe an st st'
     | e=>K e st'
    | .lit false=>vc cx anns b cur st fun e st'=>match e with
     | .normal=>fe an st st'
     | e=>K e st'
    | .d .bool g => .ite g (vc cx anns a cur st fun e st'=>match e with
     | .normal=>fe an st st'
     | e=>K e st') (vc cx anns b cur st fun e st'=>match e with
     | .normal=>fe an st st'
     | e=>K e st')
    | _ => .ff)
    (.all an.X fun x => .imp (an.inv x) (match dW st.next (bc an st x).env && (dO st.next (bc an st x).aC && gh (writes anns cur (.cond c a b)) (an.bg x)) with
     | true=>K .normal (bc an st x)
     | false => .ff))
   | false => .ff
 | .block id b,_,st,K=>match (look anns (id + 100000)).map (fun f=>p6 st (f st)) with
  | none=>vc cx anns b id st fun e st'=>match e with
   | .exit i=>match Nat.beq i id with
    | true=>K .normal st'
    | false=>K (.exit i) st'
   | e=>K e st'
  | some an=>match lR an.bh (writes anns id b) with
   | true => .both (vc cx anns b id st fun e st'=>match e with
    | .exit i=>match Nat.beq i id with
     | true=>fe an st st'
     | false=>K (.exit i) st'
    | .normal=>fe an st st'
    | .ret=>K .ret st')
    (.all an.X fun x => .imp (an.inv x) (match dW st.next (bc an st x).env && (dO st.next (bc an st x).aC && gh (writes anns id b) (an.bg x)) with
     | true=>K .normal (bc an st x)
     | false => .ff))
   | false => .ff
 | .loop b,cur,st,K=>match look anns (cur + 200000) with
  | none=>match (look anns cur).map (fun f=>p6 st (f st)) with
   | some an=>match lR an.bh (writes anns cur b) with
    | true => .and (∃x,an.inv x/\gU st (an.bg x)/\gV st (an.aC x))
      (.all an.X fun x => .imp (an.inv x) (match dW st.next (bc an st x).env && (dO st.next (bc an st x).aC && gh (writes anns cur b) (an.bg x)) with
       | true=>vc cx anns b cur (bc an st x) fun e st'=>match e with
        | .normal=>match gg st'.env an.bh with
         | true => .leaf (∃x',an.inv x'/\an.bw x' < an.bw x/\gU st' (an.bg x')/\gV st' (an.aC x'++dV st an.ej))
         | false => .ff
        | e=>K e st'
       | false => .ff))
    | false => .ff
   | none => .leaf (Ge cur st)
  | some f=>match wY st (f st) with
   | an=>match lR an.bh (writes anns cur b) with
    | true => .both (ss an st st fun _=>True)
      (.all an.X fun x => .imp (an.inv x) (match mN an st (writes anns cur b) x with
       | true=>vc cx anns b cur (bO an st x) fun e st'=>match e with
        | .normal=>match gg st'.env an.bh with
         | true=>ss an st st' fun x'=>an.bw x' < an.bw x
         | false => .ff
        | e=>K e st'
       | false => .ff))
    | false => .ff
 | .exit id,_,st,K=>K (.exit id) st
 | .ret,_,st,K=>K .ret st
 | _,_,_,_ => .ff
section
variable {X:Ext} {P:Program} {cx:Cx}
theorem um {S:aX} {a b:C} {v:Value} (h:nL a b) (hv:CR cx.eT S a v):CR cx.eT S b v:=by
 unfold nL at h
 split at h
 ·subst h;exact b6.2 hv
 ·split at h
  ·rename_i hb
   subst h
   exact fu hb _ hv
  ·exact h.elim
 ·split at h
  ·rename_i t xs n t' ys m _ hb hn
   have hn:=Nat.eq_of_beq_eq_true hn
   subst hn
   have:t=t':=by have:=Ty.eq_of_beq hb;cases this;rfl
   subst this
   rw [cC] at h
   subst h
   exact hv
  ·exact h.elim
 ·subst h;exact hv
theorem su {S:aX} {a b:SV} {v:Value} (h:km a b) (hv:bX cx.eT S a v):bX cx.eT S b v:=by
 unfold km at h
 split at h
 ·exact um h hv
 ·subst h;exact hv
theorem sw {S:aX}:∀{as bs:List C} {vs:List Value},o1 as bs->bZ cx.eT S as vs->bZ cx.eT S bs vs:=by
 intro as
 induction as with
 | nil=>
  intro bs vs h hv
  cases bs with
  | nil=>exact hv
  | cons=>exact h.elim
 | cons a as ih=>
  intro bs vs h hv
  cases bs with
  | nil=>exact h.elim
  | cons b bs=>
   cases hv with
   | cons h1 h2 h3=>exact .cons (um h.1 h1) h2 (ih h.2 h3)
theorem sx {S:aX} {l:Loc} {a b:OC} (h:gf a b) (hv:OR cx.eT X S l a):OR cx.eT X S l b/\aM l l a b/\a.lo=b.lo:=by
 unfold gf at h
 split at h
 ·split at h
  ·rename_i hT
   have:=Nat.eq_of_beq_eq_true hT
   subst this
   obtain ⟨b,vs,h1,h2,h3,h4⟩:=hv
   exact ⟨⟨b,vs,h1,h2,h3,sw h h4⟩,rfl,rfl⟩
  ·exact h.elim
 ·split at h
  ·rename_i t xs t' ys hb
   have:t=t':=by have:=Ty.eq_of_beq hb;cases this;rfl
   subst this;rw [cC] at h;subst h
   exact ⟨hv,rfl,rfl⟩
  ·exact h.elim
 ·split at h
  ·rename_i t xs t' ys hb
   have:t=t':=by have:=Ty.eq_of_beq hb;cases this;rfl
   subst this;rw [cC] at h;subst h
   exact ⟨hv,rfl,rfl⟩
  ·exact h.elim
 ·split at h
  ·rename_i t xs t' ys hb
   have:t=t':=by have:=Ty.eq_of_beq hb;cases this;rfl
   subst this;rw [cC] at h;subst h
   exact ⟨hv,⟨rfl,Nat.le_refl _,fun _=>rfl⟩,rfl⟩
  ·exact h.elim
 ·split at h
  ·rename_i k t x k' t' y hk hb
   have:=Nat.eq_of_beq_eq_true hk
   subst this
   have:=Ty.eq_of_beq hb
   subst this;rw [ed] at h;subst h
   exact ⟨hv,⟨rfl,rfl⟩,rfl⟩
  ·exact h.elim
 ·obtain ⟨h1,rfl,rfl⟩:=h
  obtain ⟨b,m,c,sn,k1,k2,k3,k4,k5,k6⟩:=hv
  exact ⟨⟨b,m,c,sn,k1,k2,k3,sw h1 k4,k5,k6⟩,trivial,rfl⟩
 ·exact h.elim
theorem nN {n:Nat} {l:List Nat}:nM n l=true ↔ n∈l:=by
 induction l with
 | nil=>simp [nM]
 | cons m r ih=>
  simp only [nM,List.mem_cons]
  by_cases h:m=n
  ·subst h;simp [Nat.beq_refl]
  ·rw [gM h];simp only [ih]
   constructor
   ·exact .inr
   ·rintro (h' | h')
    ·exact absurd h'.symm h
    ·exact h'
theorem lT {l W:List Nat} (h:lR l W=true):∀n∈l,allM∉W/\n∉W:=by
 intro n hn
 unfold lR at h
 split at h
 ·simp at hn
 ·simp only [Bool.and_eq_true,List.all_eq_true,Bool.not_eq_true'] at h
  exact ⟨fun hW=>by rw [nN.2 hW] at h;exact absurd h.1 (by decide),fun hW=>by have:=h.2 n hn;rw [nN.2 hW] at this;cases this⟩
def lU (cx:Cx) (X:Ext) (O:aD) (K:Ex->St->VC) (W:List Nat) (st:St) (S:aX):Exit->Act->World->Prop
 | .normal,a,w=>cF cx X O (K .normal) W st S a w
 | .exit n,a,w=>cF cx X O (K (.exit n)) W st S a w
 | .ret,a,w=>cF cx X O (K .ret) W st S a w
 | _,_,_=>False
theorem lU.mono {O:aD} {K:Ex->St->VC} {W W':List Nat} {st st1:St} {S S1:aX} {e:Exit} {a:Act} {w:World} (h:lU cx X O K W st1 S1 e a w) (ht:Tr S S1) (ha:hZ W' st st1) (hW:∀n∈W,n∈W'):lU cx X O K W' st S e a w:=by
 have key:∀K:St->VC,cF cx X O K W st1 S1 a w->cF cx X O K W' st S a w:=by
  rintro K ⟨st',loc',k1,k2,k3,k4,k5⟩
  exact ⟨st',loc',k1,k2,ht.trans k3,k4,ha.trans fun hm t ht=>k5 (fun h=>hm (hW _ h)) t fun h=>ht (hW t h)⟩
 cases e with
 | normal=>exact key _ h
 | exit n=>exact key _ h
 | ret=>exact key _ h
 | goto l=>exact h
 | panic c=>exact h
 | outgrown=>exact h
theorem df {st:St} {l:List Nat} {n:Nat} {v:SV} (h:look (jC st l) n=some v):n∈l/\look st.env n=some v:=by
 induction l with
 | nil=>simp [jC,look] at h
 | cons t r ih=>
  simp only [jC] at h
  split at h
  ·rename_i u hu
   rw [bm] at h
   by_cases e:t=n
   ·rw [if_pos e] at h;cases h;subst e;exact ⟨by simp,hu⟩
   ·rw [if_neg e] at h;have:=ih h;exact ⟨by simp [this.1],this.2⟩
  ·have:=ih h;exact ⟨by simp [this.1],this.2⟩
theorem vH {st:St} {l:List Nat} {n:Nat} {v:OC} (h:look (dV st l) n=some v):look st.aC n=some v:=by
 induction l with
 | nil=>simp [dV,look] at h
 | cons t r ih=>
  simp only [dV] at h
  split at h
  ·rename_i u hu
   rw [bm] at h
   by_cases e:t=n
   ·rw [if_pos e] at h;cases h;subst e;exact hu
   ·rw [if_neg e] at h;exact ih h
  ·exact ih h
theorem gW {st:St} {l:List (Nat × SV)} (h:gU st l):∀{n v},look l n=some v->∃u,look st.env n=some u/\km u v:=by
 induction l with
 | nil=>intro n v hl;simp [look] at hl
 | cons p r ih=>
  obtain ⟨m,x⟩:=p
  intro n v hl
  simp only [gU] at h
  split at h
  ·rename_i u hu
   rw [bm] at hl
   by_cases e:m=n
   ·rw [if_pos e] at hl;cases hl;subst e;exact ⟨u,hu,h.1⟩
   ·rw [if_neg e] at hl;exact ih h.2 hl
  ·exact h.elim
theorem gX {st:St} {l:List (Nat × OC)} (h:gV st l):∀{n v},look l n=some v->∃u,look st.aC n=some u/\gf u v:=by
 induction l with
 | nil=>intro n v hl;simp [look] at hl
 | cons p r ih=>
  obtain ⟨m,x⟩:=p
  intro n v hl
  simp only [gV] at h
  split at h
  ·rename_i u hu
   rw [bm] at hl
   by_cases e:m=n
   ·rw [if_pos e] at hl;cases hl;subst e;exact ⟨u,hu,h.1⟩
   ·rw [if_neg e] at hl;exact ih h.2 hl
  ·exact h.elim
theorem bu {a b:Nat} (h:Nat.blt a b=true):a < b:=gO h
theorem Bi {S S':aX} (hO:∀b o v,¬ S.A b o->S.w.cell? ⟨b,o,none⟩=some v->S'.w.cell? ⟨b,o,none⟩=some v/\¬ S'.A b o) (hloc:S'.loc=S.loc)
  (hob:∀n oc,S'.ob n=some oc->∃oc0,S.ob n=some oc0/\aM (S.loc n) (S.loc n) oc0 oc) {c:C} {v:Value} (hb:kn S'.next c=true) (hv:CR cx.eT S c v):CR cx.eT S' c v:=by
 cases c with
 | lit b=>exact hv
 | d t x=>exact VR.frame hv hO
 | app t xs n=>
  obtain ⟨h1,h2,h3⟩:=hv
  refine ⟨VR.frame h1 hO,bu hb,fun ys hy => ?_⟩
  obtain ⟨oc0,k1,k2⟩:=hob n _ hy
  cases oc0 <;> simp [aM] at k2
  obtain ⟨rfl,k3⟩:=k2
  obtain ⟨m1,m2⟩:=h3 _ k1
  rw [hloc]
  exact ⟨by omega,fun e=>m2 (by omega)⟩
 | dZ=>exact hv
 | c7=>exact hv
 | emp=>exact hv
 | aQ n=>
  refine ⟨bu hb,fun t xs e => ?_⟩
  obtain ⟨oc0,k1,k2⟩:=hob n _ e
  cases oc0 <;> simp [aM] at k2
  rw [hloc];exact hv.2 _ _ k1
 | iP n t lo len=>
  refine ⟨bu hb,fun xs e => ?_⟩
  obtain ⟨oc0,k1,k2⟩:=hob n _ e
  cases oc0 <;> simp [aM] at k2
  subst k2
  rw [hloc];exact hv.2 _ k1
 | im n=>
  refine ⟨bu hb,fun t xs e => ?_⟩
  obtain ⟨oc0,k1,k2⟩:=hob n _ e
  cases oc0 <;> simp [aM] at k2
  rw [hloc];exact hv.2 _ _ k1
 | cn n=>
  refine ⟨bu hb,fun oc e hx => ?_⟩
  obtain ⟨oc0,k1,k2⟩:=hob n _ e
  rw [hloc];exact hv.2 _ k1 (by cases oc0 <;> cases oc <;> first | rfl | exact k2.elim | cases hx)
 | xd n p=>
  refine ⟨bu hb,fun t x e => ?_⟩
  obtain ⟨oc0,k1,k2⟩:=hob n _ e
  cases oc0 <;> simp [aM] at k2
  obtain ⟨rfl,rfl⟩:=k2
  rw [hloc];exact hv.2 _ _ k1
 | ref n off=>
  refine ⟨bu hb,fun T cs e => ?_⟩
  obtain ⟨oc0,k1,k2⟩:=hob n _ e
  cases oc0 <;> simp [aM] at k2
  rw [hloc];exact hv.2 _ _ k1
 | kT n=>
  refine ⟨bu hb,?_⟩
  rcases hv.2 with hn | hn
  ·exact .inl hn
  ·refine .inr fun T cs e => ?_
   obtain ⟨oc0,k1,k2⟩:=hob n _ e
   cases oc0 <;> simp [aM] at k2
   rw [hloc];exact hn _ _ k1
 | fq n t i off=>
  refine ⟨bu hb,fun ⟨xs,e⟩ => ?_⟩
  rw [hloc]
  rcases e with e | e
  ·obtain ⟨oc0,k1,k2⟩:=hob n _ e
   cases oc0 <;> simp [aM] at k2
   subst k2;exact hv.2 ⟨_, .inl k1⟩
  ·obtain ⟨oc0,k1,k2⟩:=hob n _ e
   cases oc0 <;> simp [aM] at k2
   subst k2;exact hv.2 ⟨_, .inr k1⟩
 | iR t x=>
  obtain ⟨b,o,us,rfl,h1,h2⟩:=hv
  exact ⟨b,o,us,rfl,h1.frame hO,h2.frame hO⟩
 | fn f caps=>
  obtain ⟨rfl,h2⟩:=hv
  refine ⟨by rw [hloc],fun n hn=>⟨?_,fun t ys e => ?_⟩⟩
  ·have:∀l:List Nat,eJ S'.next l=true->n∈l->n < S'.next:=by
    intro l
    induction l with
    | nil=>intro _ h;simp at h
    | cons m r ih=>
     intro h hm
     simp only [eJ,Bool.and_eq_true] at h
     rcases List.mem_cons.1 hm with rfl | hm
     ·exact bu h.1
     ·exact ih h.2 hm
   exact this caps hb hn
  ·obtain ⟨oc0,k1,k2⟩:=hob n _ e
   cases oc0 <;> simp [aM] at k2
   exact (h2 n hn).2 _ _ k1
 | any=>trivial
theorem mO {k:Nat}:∀{l:List Nat} {n:Nat},eJ k l=true->n∈l->n < k
 | [],_,_,h=>by simp at h
 | m :: r,n,h,hn=>by
  simp only [eJ,Bool.and_eq_true] at h
  rcases List.mem_cons.1 hn with e | hn
  ·rw [e];exact bu h.1
  ·exact mO h.2 hn
theorem lj {S S':aX} {k:Nat} (hrel:∀{c:C} {v:Value},kn k c=true->CR cx.eT S c v->CR cx.eT S' c v):∀{cs:List C} {vs:List Value},iJ k cs=true->bZ cx.eT S cs vs->bZ cx.eT S' cs vs:=by
 intro cs
 induction cs with
 | nil=>intro vs _ h;cases h;exact .nil
 | cons c cs ih=>
  intro vs hb h
  simp only [iJ,Bool.and_eq_true] at hb
  cases h with
  | cons h1 h2 h3=>exact .cons (hrel hb.1 h1) h2 (ih hb.2 h3)
theorem yH {S S':aX} (hO:∀b o v,¬ S.A b o->S.w.cell? ⟨b,o,none⟩=some v->S'.w.cell? ⟨b,o,none⟩=some v/\¬ S'.A b o) {k:Nat} (hk:k<=S'.next) (hloc:∀n,n < k->S'.loc n=S.loc n)
  (hob:∀n oc,n < k->S'.ob n=some oc->∃oc0,S.ob n=some oc0/\aM (S.loc n) (S.loc n) oc0 oc) {c:C} {v:Value} (hb:kn k c=true) (hv:CR cx.eT S c v):CR cx.eT S' c v:=by
 cases c with
 | lit b=>exact hv
 | d t x=>exact VR.frame hv hO
 | app t xs n=>
  obtain ⟨h1,h2,h3⟩:=hv
  refine ⟨VR.frame h1 hO,Nat.lt_of_lt_of_le (bu hb) hk,fun ys hy => ?_⟩
  obtain ⟨oc0,k1,k2⟩:=hob n _ (bu hb) hy
  cases oc0 <;> simp [aM] at k2
  obtain ⟨rfl,k3⟩:=k2
  obtain ⟨m1,m2⟩:=h3 _ k1
  rw [hloc n (bu hb)]
  exact ⟨by omega,fun e=>m2 (by omega)⟩
 | dZ=>exact hv
 | c7=>exact hv
 | emp=>exact hv
 | aQ n=>
  refine ⟨Nat.lt_of_lt_of_le (bu hb) hk,fun t xs e => ?_⟩
  obtain ⟨oc0,k1,k2⟩:=hob n _ (bu hb) e
  cases oc0 <;> simp [aM] at k2
  rw [hloc n (bu hb)];exact hv.2 _ _ k1
 | iP n t lo len=>
  refine ⟨Nat.lt_of_lt_of_le (bu hb) hk,fun xs e => ?_⟩
  obtain ⟨oc0,k1,k2⟩:=hob n _ (bu hb) e
  cases oc0 <;> simp [aM] at k2
  subst k2
  rw [hloc n (bu hb)];exact hv.2 _ k1
 | im n=>
  refine ⟨Nat.lt_of_lt_of_le (bu hb) hk,fun t xs e => ?_⟩
  obtain ⟨oc0,k1,k2⟩:=hob n _ (bu hb) e
  cases oc0 <;> simp [aM] at k2
  rw [hloc n (bu hb)];exact hv.2 _ _ k1
 | cn n=>
  refine ⟨Nat.lt_of_lt_of_le (bu hb) hk,fun oc e hx => ?_⟩
  obtain ⟨oc0,k1,k2⟩:=hob n _ (bu hb) e
  rw [hloc n (bu hb)];exact hv.2 _ k1 (by cases oc0 <;> cases oc <;> first | rfl | exact k2.elim | cases hx)
 | xd n p=>
  refine ⟨Nat.lt_of_lt_of_le (bu hb) hk,fun t x e => ?_⟩
  obtain ⟨oc0,k1,k2⟩:=hob n _ (bu hb) e
  cases oc0 <;> simp [aM] at k2
  obtain ⟨rfl,rfl⟩:=k2
  rw [hloc n (bu hb)];exact hv.2 _ _ k1
 | ref n off=>
  refine ⟨Nat.lt_of_lt_of_le (bu hb) hk,fun T cs e => ?_⟩
  obtain ⟨oc0,k1,k2⟩:=hob n _ (bu hb) e
  cases oc0 <;> simp [aM] at k2
  rw [hloc n (bu hb)];exact hv.2 _ _ k1
 | kT n=>
  refine ⟨Nat.lt_of_lt_of_le (bu hb) hk,?_⟩
  rcases hv.2 with hn | hn
  ·exact .inl hn
  ·refine .inr fun T cs e => ?_
   obtain ⟨oc0,k1,k2⟩:=hob n _ (bu hb) e
   cases oc0 <;> simp [aM] at k2
   rw [hloc n (bu hb)];exact hn _ _ k1
 | fq n t i off=>
  refine ⟨Nat.lt_of_lt_of_le (bu hb) hk,fun ⟨xs,e⟩ => ?_⟩
  rw [hloc n (bu hb)]
  rcases e with e | e
  ·obtain ⟨oc0,k1,k2⟩:=hob n _ (bu hb) e
   cases oc0 <;> simp [aM] at k2
   subst k2;exact hv.2 ⟨_, .inl k1⟩
  ·obtain ⟨oc0,k1,k2⟩:=hob n _ (bu hb) e
   cases oc0 <;> simp [aM] at k2
   subst k2;exact hv.2 ⟨_, .inr k1⟩
 | iR t x=>
  obtain ⟨b,o,us,rfl,h1,h2⟩:=hv
  exact ⟨b,o,us,rfl,h1.frame hO,h2.frame hO⟩
 | fn f caps=>
  obtain ⟨rfl,h2⟩:=hv
  have hlt:∀n∈caps,n < k:=fun n hn=>mO hb hn
  refine ⟨by rw [show (caps.map fun n=>(S.loc n).v)=(caps.map fun n=>(S'.loc n).v) from List.map_congr_left fun n hn=>by rw [hloc n (hlt n hn)]],fun n hn=>⟨Nat.lt_of_lt_of_le (hlt n hn) hk,fun t ys e => ?_⟩⟩
  obtain ⟨oc0,k1,k2⟩:=hob n _ (hlt n hn) e
  cases oc0 <;> simp [aM] at k2
  exact (h2 n hn).2 _ _ k1
 | any=>trivial
theorem aM.comp {l1 l2 l3:Loc} {a b c:OC} (h:aM l1 l2 a b) (h':aM l2 l3 b c):aM l1 l3 a c:=by
 cases a <;> cases b <;> simp [aM] at h <;> cases c <;> simp [aM] at h' ⊢
 all_goals (try (simp_all;done))
 obtain ⟨rfl,a1,a2⟩:=h
 obtain ⟨rfl,b1,b2⟩:=h'
 refine ⟨rfl,by omega,fun e => ?_⟩
 rw [b2 (by omega),a2 (by omega)]
theorem ml {S S':aX} (hrel:∀{c:C} {v:Value},kn S'.next c=true->CR cx.eT S c v->CR cx.eT S' c v):∀{cs:List C} {vs:List Value},iJ S'.next cs=true->bZ cx.eT S cs vs->bZ cx.eT S' cs vs:=by
 intro cs
 induction cs with
 | nil=>intro vs _ h;cases h;exact .nil
 | cons c cs ih=>
  intro vs hb h
  simp only [iJ,Bool.and_eq_true] at hb
  cases h with
  | cons h1 h2 h3=>exact .cons (hrel hb.1 h1) h2 (ih hb.2 h3)
theorem ow {k:Nat}:∀{l:List (Nat × SV)},dW k l=true->∀{n v},look l n=some v->∃v0,v = .s v0/\wX k v0=true:=by
 intro l
 induction l with
 | nil=>intro _ n v h;simp [look] at h
 | cons p r ih=>
  obtain ⟨m,x⟩:=p
  intro hb n v h
  cases x with
  | gH vs=>simp [dW] at hb
  | s v0=>
   simp only [dW,Bool.and_eq_true] at hb
   rw [bm] at h
   by_cases e:m=n
   ·rw [if_pos e] at h;cases h;exact ⟨v0,rfl,hb.1⟩
   ·rw [if_neg e] at h;exact ih hb.2 h
theorem gB {k:Nat}:∀{l:List (Nat × OC)},dO k l=true->∀{n v},look l n=some v->n < k/\Am k v=true:=by
 intro l
 induction l with
 | nil=>intro _ n v h;simp [look] at h
 | cons p r ih=>
  obtain ⟨m,x⟩:=p
  intro hb n v h
  simp only [dO,Bool.and_eq_true] at hb
  rw [bm] at h
  by_cases e:m=n
  ·rw [if_pos e] at h;cases h;subst e;exact ⟨bu hb.1.1,hb.1.2⟩
  ·rw [if_neg e] at h;exact ih hb.2 h
theorem nO {an:fF} {O:aD} {st st':St} {loc loc0:Nat->Loc} {w w0:World} {a:Act} (x:an.X) (g:Good cx.eT X (aB O st' loc w)) (hA:dN cx (aB O st' loc w) st' a) (ht:Tr (aB O st loc0 w0) (aB O st' loc w))
  (he:∀n v,look (bc an st x).env n=some v->∃u,look st'.env n=some u/\km u v)
  (ho:∀n v,look (bc an st x).aC n=some v->∃u,look st'.aC n=some u/\gf u v)
  (hb1:dW st.next (bc an st x).env=true) (hb2:dO st.next (bc an st x).aC=true) :
  Good cx.eT X (aB O (bc an st x) loc w)/\dN cx (aB O (bc an st x) loc w) (bc an st x) a/\Tr (aB O st loc0 w0) (aB O (bc an st x) loc w):=by
 have hob:∀n oc,look (bc an st x).aC n=some oc->∃oc0,look st'.aC n=some oc0/\aM (loc n) (loc n) oc0 oc/\oc0.lo=oc.lo/\OR cx.eT X (aB O st' loc w) (loc n) oc:=by
  intro n oc h
  obtain ⟨u,hu,hs⟩:=ho n oc h
  obtain ⟨h1,h2,h3⟩:=sx hs (g.obj n u hu).2
  exact ⟨u,hu,h2,h3,h1⟩
 have hAsub:∀b o,(aB O (bc an st x) loc w).A b o->(aB O st' loc w).A b o:=by
  rintro b o (h | ⟨n,oc,h1,h2,h3⟩)
  ·exact .inl h
  ·obtain ⟨oc0,k1,_,k3,_⟩:=hob n oc h1
   exact .inr ⟨n,oc0,k1,h2,by rw [k3];exact h3⟩
 have hcell:∀b o v,¬ (aB O st' loc w).A b o->w.cell? ⟨b,o,none⟩=some v->w.cell? ⟨b,o,none⟩=some v/\¬ (aB O (bc an st x) loc w).A b o:=fun b o v h1 h2=>⟨h2,fun h=>h1 (hAsub b o h)⟩
 have hrel:∀{c:C} {v:Value},kn st.next c=true->CR cx.eT (aB O st' loc w) c v->CR cx.eT (aB O (bc an st x) loc w) c v:=fun hb hv=>
  Bi (S:=aB O st' loc w) (S':=aB O (bc an st x) loc w) hcell rfl (fun n oc h=>let ⟨oc0,k1,k2,_⟩:=hob n oc h;⟨oc0,k1,k2⟩) hb hv
 have hor:∀n oc,look (bc an st x).aC n=some oc->OR cx.eT X (aB O (bc an st x) loc w) (loc n) oc:=by
  intro n oc h
  obtain ⟨_,_,_,_,k4⟩:=hob n oc h
  have hb:=(gB hb2 h).2
  cases oc with
  | cells T cs=>
   obtain ⟨b,vs,h1,h2,h3,h4⟩:=k4
   exact ⟨b,vs,h1,h2,h3,ml hrel hb h4⟩
  | aQ t xs=>
   rcases k4 with k4 | ⟨b,vs,T,cap,h1,h2,h3,h4,h5,h6,h7⟩
   ·exact .inl k4
   ·exact .inr ⟨b,vs,T,cap,h1,h2,h3,h4,h5,h6,fun i y hy=>let ⟨us,r1,r2⟩:=h7 i y hy;⟨us,r1.frame hcell,r2⟩⟩
  | arr t xs=>
   obtain ⟨b,vs,T,h1,h2,h3,h4,h5⟩:=k4
   exact ⟨b,vs,T,h1,h2,h3,h4,fun i y hy=>let ⟨us,r1,r2⟩:=h5 i y hy;⟨us,r1.frame hcell,r2⟩⟩
  | tok t xs=>
   rcases k4 with k4 | ⟨b,vs,T,cap,h1,h2,h3,h4,h5,h6,h7⟩
   ·exact .inl k4
   ·exact .inr ⟨b,vs,T,cap,h1,h2,h3,h4,h5,h6,fun i y hy=>let ⟨us,r1,r2⟩:=h7 i y hy;⟨us,r1.frame hcell,r2⟩⟩
  | ext k t x=>exact k4
  | iter cs seen cl=>obtain ⟨b,m,c,sn,k1,k2,k3,k4,k5⟩:=k4;exact ⟨b,m,c,sn,k1,k2,k3,ml hrel hb k4,k5⟩
 refine ⟨⟨fun n oc h=>⟨(gB hb2 h).1,hor n oc h⟩,fun n m oc oc' b h1 h2 h3 h4 => ?_,fun n oc b off h1 h2 => ?_,g.iq.sub rfl fun b ⟨n,oc,h1,h2⟩=>by obtain ⟨oc0,k1,_⟩:=hob n oc h1;exact ⟨n,oc0,k1,h2⟩⟩,⟨hA.size,hA.defers,fun n v h => ?_⟩,?_⟩
 ·obtain ⟨oc0,k1,_⟩:=hob n oc h1
  obtain ⟨oc0',k1',_⟩:=hob m oc' h2
  exact g.apart n m oc0 oc0' b k1 k1' h3 h4
 ·obtain ⟨oc0,k1,_⟩:=hob n oc h1
  exact g.out n oc0 b off k1 h2
 ·obtain ⟨u,hu,hs⟩:=he n v h
  have hv:=su hs (hA.env n u hu)
  obtain ⟨v0,rfl,hb⟩:=ow hb1 h
  cases v0 with
  | one c=>exact hrel hb hv
  | agg cs=>obtain ⟨vs,h1,h2⟩:=hv;exact ⟨vs,h1,ml hrel hb h2⟩
 ·refine {O:=ht.O,next:=Nat.le_refl _,os:=ht.os,output:=ht.output,size:=ht.size,own:=fun b hb => ?_,cell:=fun b o v h1 h2 => ?_,block:=ht.block,loc:=ht.loc,kind:=fun n oc hn h => ?_}
  ·obtain ⟨n,oc,h1,h2⟩:=hb
   obtain ⟨oc0,k1,_⟩:=hob n oc h1
   exact ht.own b ⟨n,oc0,k1,h2⟩
  ·obtain ⟨k1,k2⟩:=ht.cell b o v h1 h2
   exact ⟨k1,fun h=>k2 (hAsub b o h)⟩
  ·obtain ⟨oc0,k1,k2,_⟩:=hob n oc h
   obtain ⟨oc1,m1,m2⟩:=ht.kind n oc0 hn k1
   exact ⟨oc1,m1,m2.comp k2⟩
theorem Ty.beq_refl:∀t:Ty,Ty.beq t t=true:=by
 intro t
 induction t with
 | prod a b iha ihb=>simp [Ty.beq,iha,ihb]
 | slice e ih=>simp [Ty.beq,ih]
 | int k=>simp [Ty.beq]
 | _=>rfl
theorem sy (c:C):nL c c:=by
 cases c with
 | d t x=>
  simp only [nL]
  split
  ·rfl
  ·rename_i h;rw [Ty.beq_refl] at h;cases h
 | app t xs n=>
  simp only [nL]
  split
  ·rfl
  ·rename_i h;exact (h (Ty.beq_refl _) (Nat.beq_refl _)).elim
 | _=>rfl
theorem fN (v:SV):km v v:=by
 cases v with
 | s v=>
  cases v with
  | one c=>exact sy c
  | agg cs=>rfl
 | gH vs=>rfl
theorem mm:∀cs:List C,o1 cs cs
 | []=>trivial
 | c :: cs=>⟨sy c,mm cs⟩
theorem yI (v:OC):gf v v:=by
 cases v with
 | cells T cs=>
  simp only [gf,Nat.beq_refl]
  exact mm cs
 | aQ t xs=>
  simp only [gf]
  split
  ·rfl
  ·rename_i h;rw [Ty.beq_refl] at h;cases h
 | arr t xs=>
  simp only [gf]
  split
  ·rfl
  ·rename_i h;rw [Ty.beq_refl] at h;cases h
 | tok t xs=>
  simp only [gf]
  split
  ·rfl
  ·rename_i h;rw [Ty.beq_refl] at h;cases h
 | ext k t x=>
  simp only [gf]
  split
  ·rfl
  ·rename_i h;exact (h (Nat.beq_refl _) (Ty.beq_refl _)).elim
 | iter cs seen cl=>exact ⟨mm cs,rfl,rfl⟩
theorem jX {W:List Nat}:∀{l:List (Nat × SV)},gh W l=true->∀{n v},look l n=some v->n∈W:=by
 intro l
 induction l with
 | nil=>intro _ n v h;simp [look] at h
 | cons p r ih=>
  obtain ⟨m,x⟩:=p
  intro hb n v h
  simp only [gh,Bool.and_eq_true] at hb
  rw [bm] at h
  by_cases e:m=n
  ·subst e;exact nN.1 hb.1
  ·rw [if_neg e] at h;exact ih hb.2 h
theorem ia {env:List (Nat × SV)}:∀{l:List Nat},gg env l=true->∀{n},n∈l->∃v,look env n=some v:=by
 intro l
 induction l with
 | nil=>intro _ n h;simp at h
 | cons t r ih=>
  intro hb n h
  simp only [gg] at hb
  split at hb
  ·rename_i u hu
   rcases List.mem_cons.1 h with rfl | h
   ·exact ⟨u,hu⟩
   ·exact ih hb h
  ·cases hb
theorem Gf {O:aD} {K:Ex->St->VC} {W:List Nat} {st:St} {S:aX} {next:Act->World->Prop} {Q:Exit->Act->World->Prop} {K':Ex->St->VC}
  (hn:∀a w,cF cx X O (K' .normal) W st S a w->next a w) (hK:∀e,e≠.normal->K' e=K e) (hQ:∀e a w,lU cx X O K W st S e a w->e≠.normal->Q e a w) {e:Exit} {a:Act} {w:World}
  (h:lU cx X O K' W st S e a w):Exit.then next Q e a w:=by
 cases e with
 | normal=>exact hn a w h
 | exit n=>exact hQ _ _ _ (by simpa [lU,hK (.exit n) (by simp)] using h) (by simp)
 | ret=>exact hQ _ _ _ (by simpa [lU,hK .ret (by simp)] using h) (by simp)
 | goto l=>exact h.elim
 | panic c=>exact h.elim
 | outgrown=>exact h.elim
structure G7 (an:fF) (st st':St) (x:an.X) (ν:List Nat):Prop where
 nodup:nodupB ν=true
 refs:o3 st' an ν an.refs=true
 get:b4 false st'.aC an.aJ ν an.aJ ν=some (an.pd x)
 HH:∀p∈sq st' an (an.pd x) an.refs,p
 conds:∀p∈dQ an.aJ (an.pd x) st'.aC an.aJ ν,p
 env:gU st' (an.bg x)
 aC:gV st' (kK an st x)
 out:kR ν (kK an st x)=true
theorem uo {an:fF} {st st':St} {more:an.X->Prop} (h:(ss an st st' more).holds):∃x,an.inv x/\more x/\∃ν,G7 an st st' x ν:=by
 unfold ss at h
 split at h
 ·rename_i ν _
  split at h
  ·rename_i y hc hy
   simp only [Bool.and_eq_true] at hc
   have hall:=rm h
   obtain ⟨x,h1,h2,h3,h4,h5,h6⟩:=hall (∃x',an.inv x'/\more x'/\gU st' (an.bg x')/\gV st' (an.aC x'++dV st an.ej)/\(kR ν (kK an st x')=true/\y=an.pd x')) (List.mem_append_right _ (List.mem_singleton.2 rfl))
   subst h6
   obtain ⟨k1,_⟩:=eS.1 hall
   obtain ⟨k1,k2⟩:=eS.1 k1
   exact ⟨x,h1,h2,ν,hc.1,hc.2,hy,k1,k2,h3,h4,h5⟩
  ·exact h.elim
 ·exact h.elim
theorem o6 {ν:List Nat}:∀{l:List (Nat × OC)},kR ν l=true->∀{n v},look l n=some v->n∉ν
 | [],_,n,v,h=>by simp [look] at h
 | (m,u) :: r,hk,n,v,h=>by
  simp only [kR,Bool.and_eq_true,Bool.not_eq_true'] at hk
  rw [bm] at h
  split at h
  ·rename_i e;subst e
   intro hm;rw [rn.2 hm] at hk;exact absurd hk.1 (by decide)
  ·exact o6 hk.2 h
theorem mn {an:fF} {y:PD an.aJ} {us:List Nat}:∀{l:List (Nat × Nat)} {t:Nat} {v:SV},look (o4 an y us l) t=some v->∃k,(t,k)∈l/\v = .s (.one (de an.aJ y us k))
 | [],t,v,h=>by simp [o4,look] at h
 | (m,k) :: r,t,v,h=>by
  simp only [o4,bm] at h
  split at h
  ·rename_i e;subst e;cases h;exact ⟨k,by simp,rfl⟩
  ·obtain ⟨k',h1,h2⟩:=mn h;exact ⟨k',by simp [h1],h2⟩
theorem sz {st:St} {an:fF} {ν:List Nat}:∀{l:List (Nat × Nat)} {t k:Nat},o3 st an ν l=true->(t,k)∈l->∃c,look st.env t=some (.s (.one c))/\ei false st.aC an.aJ ν k c=true
 | [],_,_,_,h=>by simp at h
 | (m,i) :: r,t,k,h,hm=>by
  simp only [o3,Bool.and_eq_true] at h
  rcases List.mem_cons.1 hm with e | hm
  ·cases e
   obtain ⟨h1,_⟩:=h
   split at h1
   ·rename_i c hc;exact ⟨c,hc,h1⟩
   ·cases h1
  ·exact sz h.2 hm
theorem uq {st:St} {an:fF} {y:PD an.aJ}:∀{l:List (Nat × Nat)} {t k:Nat} {c:C},(∀p∈sq st an y l,p)->(t,k)∈l->look st.env t=some (.s (.one c))->∀p∈mi an.aJ y k c,p
 | [],_,_,_,_,h,_=>by simp at h
 | (m,i) :: r,t,k,c,h,hm,hl=>by
  simp only [sq] at h
  obtain ⟨h1,h2⟩:=eS.1 h
  rcases List.mem_cons.1 hm with e | hm
  ·cases e
   rw [hl] at h1
   exact h1
  ·exact uq h2 hm hl
theorem sA {bh:List Nat}:∀{l:List (Nat × Nat)} {t k:Nat},o5 bh l=true->(t,k)∈l->t∉bh
 | [],_,_,_,h=>by simp at h
 | (m,i) :: r,t,k,h,hm=>by
  simp only [o5,Bool.and_eq_true,Bool.not_eq_true'] at h
  rcases List.mem_cons.1 hm with e | hm
  ·cases e
   intro hk;rw [nN.2 hk] at h;exact absurd h.1 (by decide)
  ·exact sA h.2 hm
theorem ur {an:fF} {O:aD} {st st':St} {loc loc0:Nat->Loc} {w w0:World} {a:Act} {W:List Nat} (x:an.X) (g:Good cx.eT X (aB O st' loc w)) (hA:dN cx (aB O st' loc w) st' a) (ht:Tr (aB O st loc0 w0) (aB O st' loc w))
  (hok:mN an st W x=true) (hkeep:∀n∈an.bh,∀v,look st.env n=some v->∃u,look st'.env n=some u/\km u v) (hf:∃ν,G7 an st st' x ν) :
  ∃loc',Good cx.eT X (aB O (bO an st x) loc' w)/\dN cx (aB O (bO an st x) loc' w) (bO an st x) a/\Tr (aB O st loc0 w0) (aB O (bO an st x) loc' w):=by
 obtain ⟨ν,hf⟩:=hf
 simp only [mN,Bool.and_eq_true] at hok
 obtain ⟨hb1,hb2,hkeys,hnr⟩:=hok
 generalize husd:upto st.next an.aJ.length=us
 have husl:us.length=an.aJ.length:=by rw [<-husd];exact nK _ _
 have hus:nodupB us=true:=by rw [<-husd];exact eI _ _
 have husm:∀n∈us,st.next<=n/\n < st.next + an.aJ.length:=fun n hn=>by rw [<-husd] at hn;exact nJ hn
 have hlen:ν.length=us.length:=by rw [husl];exact (kJ hf.get).symm
 let loc':=cm us (ν.map loc) loc
 have hlow:∀n,n < st.next->loc' n=loc n:=fun n hn=>iI fun hm=>by have:=(husm n hm).1;omega
 have hnu:∀n,n < st.next->n∉us:=fun n hn hm=>by have:=(husm n hm).1;omega
 have hrest:∀m oc,look (kK an st x) m=some oc->m < st.next/\m∉ν/\∃u,look st'.aC m=some u/\aM (loc m) (loc m) u oc/\u.lo=oc.lo/\OR cx.eT X (aB O st' loc w) (loc m) oc:=by
  intro m oc hm
  obtain ⟨u,hu,hs⟩:=gX hf.aC hm
  obtain ⟨h1,h2,h3⟩:=sx hs (g.obj m u hu).2
  exact ⟨(gB hb2 hm).1,o6 hf.out hm,u,hu,h2,h3,h1⟩
 have hob:∀m oc,look (bO an st x).aC m=some oc->(∃(i n:Nat) (o:Ob) (y:OD o) (oc0:OC),ν[i]?=some n/\us[i]?=some m/\look st'.aC n=some oc0/\eo false st'.aC an.aJ ν o oc0=some y/\
   oc=lg (de an.aJ (an.pd x) us) o y/\loc' m=loc n)\/(m∉us/\look (kK an st x) m=some oc/\loc' m=loc m):=by
  intro m oc hm
  simp only [bO,husd,b7] at hm
  split at hm
  ·rename_i oc' hm'
   cases hm
   obtain ⟨i,n,o,y,oc0,k1,k2,k3,k4,k5,k6,_⟩:=kI hf.get (kH (X:=X) g hf.get hf.get hf.conds) hlen hm'
   exact .inl ⟨i,n,o,y,oc0,k1,k2,k4,k5,k6,fl hus k2 (by simp [k1])⟩
  ·rename_i hm'
   have hnin:m∉us:=fun hmem=>by
    obtain ⟨oc1,h2⟩:=ki (f:=de an.aJ (an.pd x) us) (x:=an.pd x) husl.symm hmem
    rw [h2] at hm';cases hm'
   exact .inr ⟨hnin,hm,iI hnin⟩
 have hAsub:∀b o,(aB O (bO an st x) loc' w).A b o->(aB O st' loc w).A b o:=by
  rintro b off (h | ⟨m,oc,h1,h2,h3⟩)
  ·exact .inl h
  ·rcases hob m oc h1 with ⟨i,n,o,y,oc0,k1,k2,k4,k5,k6,k7⟩ | ⟨k1,k2,k3⟩
   ·refine .inr ⟨n,oc0,k4,by simp only [aB] at h2;rw [k7] at h2;exact h2,?_⟩
    rcases tK (f:=de an.aJ (an.pd x) us) k5 with e | e
    ·rw [<-e,<-k6];exact h3
    ·cases e
   ·obtain ⟨_,_,u,hu,_,hlo,_⟩:=hrest m oc k2
    exact .inr ⟨m,u,hu,by simp only [aB] at h2;rw [k3] at h2;exact h2,by rw [hlo];exact h3⟩
 have hcell:∀b o v,¬ (aB O st' loc w).A b o->w.cell? ⟨b,o,none⟩=some v->w.cell? ⟨b,o,none⟩=some v/\¬ (aB O (bO an st x) loc' w).A b o:=fun b o v h1 h2=>⟨h2,fun h=>h1 (hAsub b o h)⟩
 have hrel:∀{c:C} {v:Value},kn st.next c=true->CR cx.eT (aB O st' loc w) c v->CR cx.eT (aB O (bO an st x) loc' w) c v:=fun hb hv=>
  yH (S:=aB O st' loc w) (S':=aB O (bO an st x) loc' w) (k:=st.next) hcell (by simp [aB,bO]) (fun n hn=>hlow n hn) (fun n oc hn h=>by
   rcases hob n oc h with ⟨i,n',o,y,oc0,k1,k2,_⟩ | ⟨k1,k2,k3⟩
   ·exact absurd (List.mem_of_getElem? k2) (hnu n hn)
   ·obtain ⟨_,_,u,hu,hk,_,_⟩:=hrest n oc k2
    exact ⟨u,hu,hk⟩) hb hv
 obtain ⟨gN,laid⟩:=Bg (X:=X) g hf.get hf.conds hf.nodup (O2:=O) (ν2:=us) (rest:=kK an st x) (locR:=loc) (st2:=bO an st x) hus hlen (by simp only [bO,husd])
  (fun n hn=>by have:=(husm n hn).2;simp only [bO];exact this)
  (fun n hn b hb off h=>by
   obtain ⟨_,oc,_,_,k,_⟩:=fM hf.get hn
   exact g.out n oc b off k hb h)
  (fun n hn b hb m oc h1 h2 h3=>by
   obtain ⟨_,oc0,_,_,k,_⟩:=fM hf.get hn
   obtain ⟨_,hmν,u,hu,_⟩:=hrest m oc h1
   have:=g.apart n m oc0 u b k hu hb h3
   exact hmν (by rw [<-this];exact hn))
  (fun m oc h1 h2=>by
   obtain ⟨hm,_,u,hu,hk,hlo,hor⟩:=hrest m oc h1
   refine ⟨by simp only [bO];omega,?_⟩
   have hb:=(gB hb2 h1).2
   cases oc with
   | cells T cs=>
    obtain ⟨b,vs,h1,h2,h3,h4⟩:=hor
    exact ⟨b,vs,h1,h2,h3,lj (k:=st.next) hrel hb h4⟩
   | aQ t xs=>exact wW.to (S:=aB O st' loc w) (S':=aB O (bO an st x) loc' w) rfl (.inr hAsub) hor
   | tok t xs=>exact wW.to (X:=X) (S:=aB O st' loc w) (S':=aB O (bO an st x) loc' w) (l:=loc m) rfl (.inr hAsub) hor
   | arr t xs=>
    obtain ⟨b,vs,T,h1,h2,h3,h4,h5⟩:=hor
    exact ⟨b,vs,T,h1,h2,h3,h4,fun i y hy=>let ⟨us,r1,r2⟩:=h5 i y hy;⟨us,r1.frame hcell,r2⟩⟩
   | ext k t x=>exact hor
   | iter cs seen cl=>obtain ⟨b,m,c,sn,k1,k2,k3,k4,k5⟩:=hor;exact ⟨b,m,c,sn,k1,k2,k3,lj (k:=st.next) hrel hb k4,k5⟩)
  (fun m m' oc oc' b h1 h2 _ _ h3 h4=>by
   obtain ⟨_,_,u,hu,_⟩:=hrest m oc h1
   obtain ⟨_,_,u',hu',_⟩:=hrest m' oc' h2
   exact g.apart m m' u u' b hu hu' h3 h4)
  (fun m oc b off h1 _ h2=>by
   obtain ⟨_,_,u,hu,_⟩:=hrest m oc h1
   exact g.out m u b off hu h2)
  (.inr hAsub)
  (fun b hb ⟨m,oc,h1,h2⟩=>by
   rcases hob m oc h1 with ⟨i,n,o,y,oc0,k1,k2,k4,k5,k6,k7⟩ | ⟨k1,k2,k3⟩
   ·refine g.iq.2 b hb ⟨n,oc0,k4,?_⟩
    have e:cm us (ν.map loc) loc m=loc n:=k7
    simp only [aB] at h2;rw [e] at h2;exact h2
   ·obtain ⟨_,_,u,hu,_⟩:=hrest m oc k2
    have e:cm us (ν.map loc) loc m=loc m:=k3
    refine g.iq.2 b hb ⟨m,u,hu,?_⟩
    simp only [aB] at h2;rw [e] at h2;exact h2)
 refine ⟨loc',gN,⟨hA.size,hA.defers,fun t sv hl => ?_⟩,?_⟩
 ·simp only [bO,husd,b7] at hl
  split at hl
  ·rename_i v hv
   cases hl
   obtain ⟨k,hk,rfl⟩:=mn hv
   obtain ⟨c,hc,hs⟩:=sz hf.refs hk
   have hcv:CR cx.eT (aB O st' loc w) c (a.tmps.getD t undef):=hA.env t _ hc
   exact sk laid (tJ g hcv hf.get hs (uq hf.HH hk hc))
  ·have hl2:look (sr an st x) t=some sv:=hl
   have hst:∃u,look st'.env t=some u/\km u sv:=by
    simp only [sr,b7] at hl2
    split at hl2
    ·rename_i v hv;cases hl2;exact gW hf.env hv
    ·obtain ⟨h1,h2⟩:=df hl2;exact hkeep t h1 sv h2
   obtain ⟨u,hu,hs⟩:=hst
   have hv:=su hs (hA.env t u hu)
   obtain ⟨v0,rfl,hb⟩:=ow hb1 hl2
   cases v0 with
   | one c=>exact hrel hb hv
   | agg cs=>obtain ⟨vs,h1,h2⟩:=hv;exact ⟨vs,h1,lj (k:=st.next) hrel hb h2⟩
 ·refine {O:=ht.O,next:=by simp [aB,bO],os:=ht.os,output:=ht.output,size:=ht.size,own:=fun b hb => ?_,cell:=fun b o v h1 h2 => ?_,block:=ht.block,loc:=fun n hn hfx => ?_,kind:=fun n oc hn h => ?_}
  ·obtain ⟨m,oc,h1,h2⟩:=hb
   rcases hob m oc h1 with ⟨i,n,o,y,oc0,k1,k2,k4,k5,k6,k7⟩ | ⟨k1,k2,k3⟩
   ·exact ht.own b ⟨n,oc0,k4,by simp only [aB] at h2;rw [k7] at h2;exact h2⟩
   ·obtain ⟨_,_,u,hu,_⟩:=hrest m oc k2
    exact ht.own b ⟨m,u,hu,by simp only [aB] at h2;rw [k3] at h2;exact h2⟩
  ·obtain ⟨k1,k2⟩:=ht.cell b o v h1 h2
   exact ⟨k1,fun h=>k2 (hAsub b o h)⟩
  ·show (loc' n).v=_/\(_->loc' n=_)
   rw [hlow n hn];exact ht.loc n hn hfx
  ·rcases hob n oc h with ⟨i,n',o,y,oc0,k1,k2,_⟩ | ⟨k1,k2,k3⟩
   ·exact absurd (List.mem_of_getElem? k2) (hnu n hn)
   ·obtain ⟨_,_,u,hu,hk,_,_⟩:=hrest n oc k2
    obtain ⟨oc1,m1,m2⟩:=ht.kind n u hn hu
    refine ⟨oc1,m1,?_⟩
    show aM _ (loc' n) _ _
    rw [hlow n hn]
    exact m2.comp hk
theorem Bj {an:fF} {st:St} {W:List Nat} {x:an.X} (hok:mN an st W x=true) {n:Nat} (hn:n∈an.bh) {v:SV} (h:look (bO an st x).env n=some v) (hW:n∉W):look st.env n=some v:=by
 simp only [mN,Bool.and_eq_true] at hok
 obtain ⟨_,_,hkeys,hnr⟩:=hok
 simp only [bO,sr,b7] at h
 split at h
 ·rename_i u hu
  obtain ⟨k,hk,_⟩:=mn hu
  exact absurd hn (sA hnr hk)
 ·split at h
  ·rename_i u hu;exact absurd (jX hkeys hu) hW
  ·exact (df h).2
theorem uu {O:aD} {st:St} {loc:Nat->Loc} {w:World} {an:fF} {W:List Nat} {K:St->VC} (hdis:lR an.bh W=true)
  (hk:(VC.all an.X fun x => .imp (an.inv x) (match dW st.next (bc an st x).env && (dO st.next (bc an st x).aC && gh W (an.bg x)) with
     | true=>K (bc an st x)
     | false => .ff)).holds) {a':Act} {w':World}:cF cx X O (fe an st) W st (aB O st loc w) a' w'->cF cx X O K W st (aB O st loc w) a' w':=by
 have hkeepW:=lT hdis
 rintro ⟨st2,loc2,k1,k2,k3,k4,k5⟩
 simp only [fe] at k1
 split at k1
 case h_2=>exact k1.elim
 rename_i hpres
 obtain ⟨x',hx',hs',ho'⟩:=k1
 have hvx:=hk x' hx'
 split at hvx
 case h_2=>exact hvx.elim
 rename_i hbb
 simp only [Bool.and_eq_true] at hbb
 have hhead:∀t,t∉W->∀v,look (bc an st x').env t=some v->look st.env t=some v:=by
  intro t ht v hv
  simp only [bc,b7] at hv
  split at hv
  ·rename_i u hu;exact absurd (jX hbb.2.2 hu) ht
  ·exact (df hv).2
 obtain ⟨m1,m2,m3⟩:=nO (an:=an) (st:=st) x' k2 k4 k3 (by
   intro n v hv
   simp only [bc,b7] at hv
   split at hv
   ·rename_i u hu;cases hv;exact gW hs' hu
   ·obtain ⟨hmem,hl⟩:=df hv
    refine ⟨v,?_,fN v⟩
    obtain ⟨v',hv'⟩:=ia hpres hmem
    have:=k5 (hkeepW n hmem).1 n (hkeepW n hmem).2 v' hv'
    rw [hl] at this
    cases this
    exact hv')
  (by
   intro n v hv
   simp only [bc] at hv
   exact gX ho' hv) hbb.1 hbb.2.1
 exact ⟨bc an st x',loc2,hvx,m1,m3,m2,fun _ t ht v hv=>hhead t ht v hv⟩
theorem uw (hok:iy P cx X) {O:aD} {id:Nat} {ops:Array Oper} {draw:Bool} {st:St} {loc:Nat->Loc} {w:World} {a:Act} {K:Ex->St->VC} (hA:dN cx (aB O st loc w) st a) (g:Good cx.eT X (aB O st loc w)) (hO:cu O w)
  (h:(vT cx ops draw st (K .normal)).holds):(Code.region id ops draw).wp P (lU cx X O K (cY ops.toList) st (aB O st loc w)) a w:=by
 have hW:∀(j:Nat) (oj:Oper) (d:Nat),ops[j]?=some oj->oj.dst=some d->d∈cY ops.toList:=by
  intro j oj d hj hd
  exact List.mem_filterMap.2 ⟨oj,by rw [<-Array.getElem?_toList] at hj;exact List.mem_of_getElem? hj,hd⟩
 have hq:∀st' loc' a' w',(K .normal st').holds->Good cx.eT X (aB O st' loc' w')->Tr (aB O st loc w) (aB O st' loc' w')->dN cx (aB O st' loc' w') st' a'->hZ (cY ops.toList) st st'->
   lU cx X O K (cY ops.toList) st (aB O st loc w) .normal a' w':=fun st' loc' a' w' h1 h2 h3 h4 h5=>⟨st',loc',h1,h2,h3,h4,h5⟩
 unfold vT at h
 cases draw with
 | false=>
  refine wp_region_list ?_
  exact yF hok hW ops.toList (fun o ho d hd=>List.mem_filterMap.2 ⟨o,ho,hd⟩) hA g hO h hq
 | true=>
  split at h
  ·rename_i e;cases e
  ·rename_i e
   split at h
   ·rename_i hreg
    rw [Ga] at h
    refine wp_region_any hok.mixed (Ah (loud:=eG cx ops.toList) _ _ _ _ (aB O st loc {w with drawn:=w.drawn + 1}).A ?_)
    have hdrew:Below w.heap.size w {w with drawn:=w.drawn + 1}:=⟨rfl,rfl,Nat.le_refl _,fun _ _=>rfl⟩
    obtain ⟨tr,g'⟩:=nk (S:=aB O st loc w) (S':=aB O st loc {w with drawn:=w.drawn + 1}) g rfl rfl rfl rfl hdrew
    refine yG hok hW hreg (fun c a w h=>h) ops.size _ ?_ ⟨hA.size,hA.defers,hA.env.tr tr⟩ g' (hO.tr (Nat.le_refl _)) h ?_
    ·intro j o ho hj
     rw [Array.getD_eq_getD_getElem?,Array.getElem?_replicate] at hj
     split at hj <;> simp at hj
    ·intro st' loc' a' w' h1 h2 h3 h4 h5
     obtain ⟨st2,loc2,k1,k2,k3,k4,k5⟩:=cF.HP (K:=K .normal) (f:=canon st.next (cY ops.toList)) (W:=cY ops.toList) hA (fun st'=>by
      rcases Bc st.next (cY ops.toList) st' with e | ⟨r,q,k1,k2⟩
      ·exact .inl e
      ·exact .inr ⟨r,q,k1,k2⟩) (⟨st',loc',h1,h2,tr.trans h3,h4,h5⟩:cF cx X O (fun st'=>K .normal (canon st.next (cY ops.toList) st')) (cY ops.toList) st (aB O st loc w) a' w')
     exact hq st2 loc2 a' w' k1 k2 k3 k4 k5
   ·exact h.elim
theorem EG (hok:iy P cx X) (anns:ck) {O:aD}:∀(c:Code) (cur:Nat) {st:St} {loc:Nat->Loc} {w:World} {a:Act} {K:Ex->St->VC},
  dN cx (aB O st loc w) st a->Good cx.eT X (aB O st loc w)->cu O w->(vc cx anns c cur st K).holds->c.wp P (lU cx X O K (writes anns cur c) st (aB O st loc w)) a w:=by
 intro c
 induction c with
 | skip=>intro cur st loc w a K hA g hO h;exact wp_skip ⟨st,loc,h,g,Tr.refl _,hA,fun _ _ _ _ h=>h⟩
 | region id ops draw=>
  intro cur st loc w a K hA g hO h
  simp only [vc] at h
  split at h
  ·exact uw hok hA g hO h
  ·rename_i an _
   split at h
   case h_2=>exact h.elim
   rename_i hdis
   obtain ⟨hb,hk⟩:=h
   refine wp_mono (uw (K:=fun e=>match e with | .normal=>fe an st | e=>K e) hok hA g hO hb) ?_
   intro e a' w' hq
   cases e with
   | normal=>exact uu hdis hk hq
   | exit i=>exact hq
   | ret=>exact hq
   | goto l=>exact hq.elim
   | panic c=>exact hq.elim
   | outgrown=>exact hq.elim
 | seq c1 c2 ih1 ih2=>
  intro cur st loc w a K hA g hO h
  refine wp_seq ?_
  refine wp_mono (ih1 cur hA g hO h) ?_
  intro e a' w' hq
  refine Gf (K:=K) (W:=writes anns cur c1) ?_ (fun e he=>by cases e <;> simp_all) ?_ hq
  ·rintro a1 w1 ⟨st',loc',k1,k2,k3,k4,k5⟩
   refine wp_mono (ih2 cur k4 k2 (hO.tr k3.size) k1) ?_
   intro e a2 w2 hq2
   exact hq2.mono k3 (W':=writes anns cur (.seq c1 c2)) (fun hm t ht=>k5 (fun h=>hm (List.mem_append.2 (.inl h))) t fun hm=>ht (List.mem_append.2 (.inl hm))) (fun n hn=>List.mem_append.2 (.inr hn))
  ·intro e a1 w1 hq1 _
   exact hq1.mono (Tr.refl _) (fun _ _ _ _ h=>h) (fun n hn=>List.mem_append.2 (.inl hn))
 | cond x c1 c2 ih1 ih2=>
  intro cur st loc w a K hA g hO h
  have hx:=aZ hA.env x
  have h1:∀{K},(vc cx anns c1 cur st K).holds->c1.wp P (lU cx X O K (writes anns cur (.cond x c1 c2)) st (aB O st loc w)) a w:=fun h=>
   wp_mono (ih1 cur hA g hO h) fun e a' w' hq=>hq.mono (Tr.refl _) (fun _ _ _ _ h=>h) (fun n hn=>List.mem_append.2 (.inl hn))
  have h2:∀{K},(vc cx anns c2 cur st K).holds->c2.wp P (lU cx X O K (writes anns cur (.cond x c1 c2)) st (aB O st loc w)) a w:=fun h=>
   wp_mono (ih2 cur hA g hO h) fun e a' w' hq=>hq.mono (Tr.refl _) (fun _ _ _ _ h=>h) (fun n hn=>List.mem_append.2 (.inr hn))
  have base:∀{K:Ex->St->VC},(match bY st.env x with
    | .lit true=>vc cx anns c1 cur st K
    | .lit false=>vc cx anns c2 cur st K
    | .d .bool g => .ite g (vc cx anns c1 cur st K) (vc cx anns c2 cur st K)
    | _ => .ff).holds->(Code.cond x c1 c2).wp P (lU cx X O K (writes anns cur (.cond x c1 c2)) st (aB O st loc w)) a w:=by
   intro K h
   split at h
   ·rename_i hl;rw [hl] at hx;exact wp_cond_true hx (h1 h)
   ·rename_i hl;rw [hl] at hx;exact wp_cond_false hx (h2 h)
   ·rename_i b hl
    rw [hl] at hx
    have hx:=(b6 (eT:=cx.eT) (S:=aB O st loc w) (b:=b)).1 hx
    cases b
    ·exact wp_cond_false hx (h2 (h.2 rfl))
    ·exact wp_cond_true hx (h1 (h.1 rfl))
   ·exact h.elim
  simp only [vc] at h
  split at h
  ·exact base h
  ·rename_i an _
   split at h
   case h_2=>exact h.elim
   rename_i hdis
   obtain ⟨hb,hk⟩:=h
   refine wp_mono (base (K:=fun e st'=>match e with | .normal=>fe an st st' | e=>K e st') hb) ?_
   intro e a' w' hq
   cases e with
   | normal=>exact uu hdis hk hq
   | exit i=>exact hq
   | ret=>exact hq
   | goto l=>exact hq.elim
   | panic c=>exact hq.elim
   | outgrown=>exact hq.elim
 | block id b ih=>
  intro cur st loc w a K hA g hO h
  refine wp_block ?_
  simp only [vc] at h
  split at h
  case h_2=>
   rename_i an _
   split at h
   case h_2=>exact h.elim
   rename_i hdis
   have hkeepW:=lT hdis
   obtain ⟨hb,hk⟩:=h
   refine wp_mono (ih id hA g hO hb) ?_
   intro e a' w' hq
   have join:cF cx X O (fe an st) (writes anns id b) st (aB O st loc w) a' w'->lU cx X O K (writes anns cur (.block id b)) st (aB O st loc w) .normal a' w':=by
    rintro ⟨st2,loc2,k1,k2,k3,k4,k5⟩
    simp only [fe] at k1
    split at k1
    case h_2=>exact k1.elim
    rename_i hpres
    obtain ⟨x',hx',hs',ho'⟩:=k1
    have hvx:=hk x' hx'
    split at hvx
    case h_2=>exact hvx.elim
    rename_i hbb
    simp only [Bool.and_eq_true] at hbb
    have hhead:∀t,t∉writes anns id b->∀v,look (bc an st x').env t=some v->look st.env t=some v:=by
     intro t ht v hv
     simp only [bc,b7] at hv
     split at hv
     ·rename_i u hu;exact absurd (jX hbb.2.2 hu) ht
     ·exact (df hv).2
    obtain ⟨m1,m2,m3⟩:=nO (an:=an) (st:=st) x' k2 k4 k3 (by
      intro n v hv
      simp only [bc,b7] at hv
      split at hv
      ·rename_i u hu;cases hv;exact gW hs' hu
      ·obtain ⟨hmem,hl⟩:=df hv
       refine ⟨v,?_,fN v⟩
       obtain ⟨v',hv'⟩:=ia hpres hmem
       have:=k5 (hkeepW n hmem).1 n (hkeepW n hmem).2 v' hv'
       rw [hl] at this
       cases this
       exact hv')
     (by
      intro n v hv
      simp only [bc] at hv
      exact gX ho' hv) hbb.1 hbb.2.1
    exact ⟨bc an st x',loc2,hvx,m1,m3,m2,fun _ t ht v hv=>hhead t ht v hv⟩
   cases e with
   | normal=>exact join hq
   | exit i=>
    show if i=id then _ else _
    by_cases hi:i=id
    ·rw [if_pos hi]
     subst hi
     obtain ⟨st',loc',k1,k2⟩:=hq
     simp only [Nat.beq_refl] at k1
     exact join ⟨st',loc',k1,k2⟩
    ·rw [if_neg hi]
     obtain ⟨st',loc',k1,k2⟩:=hq
     simp only [gM hi] at k1
     exact ⟨st',loc',k1,k2⟩
   | ret=>exact hq
   | goto l=>exact hq.elim
   | panic c=>exact hq.elim
   | outgrown=>exact hq.elim
  refine wp_mono (ih id hA g hO h) ?_
  intro e a' w' hq
  cases e with
  | normal=>exact hq
  | exit i=>
   obtain ⟨st',loc',k1,k2,k3,k4,k5⟩:=hq
   simp only at k1
   show if i=id then _ else _
   split at k1
   ·rename_i hi
    rw [if_pos (Nat.eq_of_beq_eq_true hi)]
    exact ⟨st',loc',k1,k2,k3,k4,k5⟩
   ·rename_i hi
    rw [if_neg (fun e=>by rw [e,Nat.beq_refl] at hi;cases hi)]
    exact ⟨st',loc',k1,k2,k3,k4,k5⟩
  | ret=>exact hq
  | goto l=>exact hq.elim
  | panic c=>exact hq.elim
  | outgrown=>exact hq.elim
 | loop b ih=>
  intro cur st loc w a K hA g hO h
  simp only [vc] at h
  split at h
  ·rename_i hnone
   have hwl:writes anns cur (.loop b)=writes anns cur b:=by simp only [writes,hnone]
   split at h
   case h_2=>exact h.elim
   rename_i an _
   split at h
   ·rename_i hdis
    have hkeepW:=lT hdis
    obtain ⟨⟨x0,hx0,hs0,ho0⟩,h⟩:=h
    have hobk:∀x n v,look (bc an st x).aC n=some v->look (an.aC x) n=some v\/look st.aC n=some v:=by
     intro x n v hv
     simp only [bc,b7] at hv
     split at hv
     ·rename_i u hu;cases hv;exact .inl hu
     ·exact .inr (vH hv)
    have hhead:∀x,gh (writes anns cur b) (an.bg x)=true->∀t,t∉writes anns cur b->∀v,look (bc an st x).env t=some v->look st.env t=some v:=by
     intro x hk t ht v hv
     simp only [bc,b7] at hv
     split at hv
     ·rename_i u hu;exact absurd (jX hk hu) ht
     ·exact (df hv).2
    refine wp_loop_ghost (fun n a' w'=>∃x loc',an.inv x/\an.bw x=n/\dW st.next (bc an st x).env=true/\(dO st.next (bc an st x).aC=true/\gh (writes anns cur b) (an.bg x)=true)/\
     (vc cx anns b cur (bc an st x) fun e st'=>match e with
       | .normal=>match gg st'.env an.bh with
        | true => .leaf (∃x',an.inv x'/\an.bw x' < an.bw x/\gU st' (an.bg x')/\gV st' (an.aC x'++dV st an.ej))
        | false => .ff
       | e=>K e st').holds/\
     Good cx.eT X (aB O (bc an st x) loc' w')/\dN cx (aB O (bc an st x) loc' w') (bc an st x) a'/\Tr (aB O st loc w) (aB O (bc an st x) loc' w')) (an.bw x0) ?_ ?_
    ·have hx:=h x0 hx0
     split at hx
     ·rename_i hb
      simp only [Bool.and_eq_true] at hb
      obtain ⟨m1,m2,m3⟩:=nO (an:=an) (st:=st) x0 g hA (Tr.refl _) (by
        intro n v hv
        simp only [bc,b7] at hv
        split at hv
        ·rename_i u hu;cases hv;exact gW hs0 hu
        ·obtain ⟨_,hl⟩:=df hv
         exact ⟨v,hl,fN v⟩)
       (by
        intro n v hv
        rcases hobk x0 n v hv with hv | hv
        ·exact gX ho0 hv
        ·exact ⟨v,hv,yI v⟩) hb.1 hb.2.1
      exact ⟨x0,loc,hx0,rfl,hb.1,hb.2,hx,m1,m2,m3⟩
     ·exact hx.elim
    ·rintro n a1 w1 ⟨x,loc1,hx,hn,hb1,hb2,hvc,g1,hA1,tr1⟩
     refine wp_mono (ih cur hA1 g1 (hO.tr tr1.size) hvc) ?_
     intro e a2 w2 hq
     have up:∀Kx:St->VC,cF cx X O Kx (writes anns cur b) (bc an st x) (aB O (bc an st x) loc1 w1) a2 w2->cF cx X O Kx (writes anns cur (.loop b)) st (aB O st loc w) a2 w2:=by
      rintro Kx ⟨st2,loc2,k1,k2,k3,k4,k5⟩
      exact ⟨st2,loc2,k1,k2,tr1.trans k3,k4,fun hm t ht v hv=>by rw [hwl] at hm ht;exact hhead x hb2.2 t ht v (k5 hm t ht v hv)⟩
     cases e with
     | normal=>
      obtain ⟨st2,loc2,k1,k2,k3,k4,k5⟩:=hq
      simp only at k1
      split at k1
      case h_2=>exact k1.elim
      rename_i hpres
      obtain ⟨x',hx',hlt,hs',ho'⟩:=k1
      have hvx:=h x' hx'
      refine ⟨an.bw x',by rw [<-hn];exact hlt,?_⟩
      split at hvx
      ·rename_i hb
       simp only [Bool.and_eq_true] at hb
       obtain ⟨m1,m2,m3⟩:=nO (an:=an) (st:=st) x' k2 k4 (tr1.trans k3) (by
         intro n v hv
         simp only [bc,b7] at hv
         split at hv
         ·rename_i u hu;cases hv;exact gW hs' hu
         ·obtain ⟨hmem,hl⟩:=df hv
          refine ⟨v,?_,fN v⟩
          obtain ⟨v',hv'⟩:=ia hpres hmem
          have:=hhead x hb2.2 n (hkeepW n hmem).2 v' (k5 (hkeepW n hmem).1 n (hkeepW n hmem).2 v' hv')
          rw [hl] at this
          cases this
          exact hv')
        (by
         intro n v hv
         simp only [bc] at hv
         exact gX ho' hv) hb.1 hb.2.1
       exact ⟨x',loc2,hx',rfl,hb.1,hb.2,hvx,m1,m2,m3⟩
      ·exact hvx.elim
     | exit i=>exact up _ hq
     | ret=>exact up _ hq
     | goto l=>exact hq.elim
     | panic c=>exact hq.elim
     | outgrown=>exact hq.elim
   ·exact h.elim
  ·rename_i f hsome
   have hwl:writes anns cur (.loop b)=allM :: writes anns cur b:=by simp only [writes,hsome]
   generalize wY st (f st)=an at h
   split at h
   case h_2=>exact h.elim
   rename_i hdis
   have hkeepW:=lT hdis
   obtain ⟨hfit,h⟩:=h
   obtain ⟨x0,hx0,_,hf0⟩:=uo hfit
   refine wp_loop_ghost (fun n a' w'=>∃x loc',an.inv x/\an.bw x=n/\mN an st (writes anns cur b) x=true/\
    (vc cx anns b cur (bO an st x) fun e st'=>match e with
      | .normal=>match gg st'.env an.bh with
       | true=>ss an st st' fun x'=>an.bw x' < an.bw x
       | false => .ff
      | e=>K e st').holds/\
    Good cx.eT X (aB O (bO an st x) loc' w')/\dN cx (aB O (bO an st x) loc' w') (bO an st x) a'/\Tr (aB O st loc w) (aB O (bO an st x) loc' w')) (an.bw x0) ?_ ?_
   ·have hx:=h x0 hx0
    split at hx
    case h_2=>exact hx.elim
    rename_i hok2
    obtain ⟨loc',m1,m2,m3⟩:=ur (an:=an) (st:=st) x0 g hA (Tr.refl _) hok2 (fun n hn v hv=>⟨v,hv,fN v⟩) hf0
    exact ⟨x0,loc',hx0,rfl,hok2,hx,m1,m2,m3⟩
   ·rintro n a1 w1 ⟨x,loc1,hx,hn,hokx,hvc,g1,hA1,tr1⟩
    refine wp_mono (ih cur hA1 g1 (hO.tr tr1.size) hvc) ?_
    intro e a2 w2 hq
    have up:∀Kx:St->VC,cF cx X O Kx (writes anns cur b) (bO an st x) (aB O (bO an st x) loc1 w1) a2 w2->cF cx X O Kx (writes anns cur (.loop b)) st (aB O st loc w) a2 w2:=by
     rintro Kx ⟨st2,loc2,k1,k2,k3,k4,k5⟩
     exact ⟨st2,loc2,k1,k2,tr1.trans k3,k4,fun hm=>by rw [hwl] at hm;exact absurd (List.mem_cons_self) hm⟩
    cases e with
    | normal=>
     obtain ⟨st2,loc2,k1,k2,k3,k4,k5⟩:=hq
     simp only at k1
     split at k1
     case h_2=>exact k1.elim
     rename_i hpres
     obtain ⟨x',hx',hlt,hf'⟩:=uo k1
     have hvx:=h x' hx'
     split at hvx
     case h_2=>exact hvx.elim
     rename_i hok2
     refine ⟨an.bw x',by rw [<-hn];exact hlt,?_⟩
     obtain ⟨loc',m1,m2,m3⟩:=ur (an:=an) (st:=st) x' k2 k4 (tr1.trans k3) hok2 (fun n hn v hv=>by
      obtain ⟨v',hv'⟩:=ia hpres hn
      have h1:=k5 (hkeepW n hn).1 n (hkeepW n hn).2 v' hv'
      refine ⟨v',hv',?_⟩
      have h2:=Bj hokx hn h1 (hkeepW n hn).2
      rw [hv] at h2;cases h2
      exact fN v) hf'
     exact ⟨x',loc',hx',rfl,hok2,hvx,m1,m2,m3⟩
    | exit i=>exact up _ hq
    | ret=>exact up _ hq
    | goto l=>exact hq.elim
    | panic c=>exact hq.elim
    | outgrown=>exact hq.elim
 | rangeFunc f ps as b _ _=>intro cur st loc w a K _ _ _ h;exact h.elim
 | exit id=>intro cur st loc w a K hA g hO h;exact wp_exit ⟨st,loc,h,g,Tr.refl _,hA,fun _ _ _ _ h=>h⟩
 | scope b _=>intro cur st loc w a K _ _ _ h;exact h.elim
 | label l=>intro cur st loc w a K _ _ _ h;exact h.elim
 | goto l=>intro cur st loc w a K _ _ _ h;exact h.elim
 | ret=>intro cur st loc w a K hA g hO h;exact wp_ret ⟨st,loc,h,g,Tr.refl _,hA,fun _ _ _ _ h=>h⟩
 | refuse why=>intro cur st loc w a K _ _ _ h;exact h.elim
end
end Go.Vg

namespace Go.Vg
open Go.RowKit
@[reducible] def HL:List Ty->Type
 | []=>Unit
 | [t]=>D t
 | t :: u :: r=>D t × HL (u :: r)
def eK:List Ty->Bool
 | []=>true
 | t :: r=>t.flat && eK r
def vU (st:St) (want:Ty) (n:Nat):Option (D want):=
 match look st.aC n with
 | some (.ext 0 t xs)=>match h:Ty.beq t want with
  | true=>some (bo h (a:=t) xs)
  | false=>none
 | _=>none
def Bk (lend:Bool) (st:St) (t:Ty) (a:bx):Option (D t):=
 match lend,t,a with
 | true, .slice e, .one (.aQ n)=>oH st e (.aQ n)
 | true,t, .one (.xd n .top)=>vU st t n
 | _,t,a=>kv t a
def ib (lend:Bool) (st:St):(ts:List Ty)->List bx->Option (HL ts)
 | [],[]=>some ()
 | [t],[a]=>Bk lend st t a
 | t :: u :: r,a :: as=>match Bk lend st t a,ib lend st (u :: r) as with
  | some x,some xs=>some (x,xs)
  | _,_=>none
 | _,_=>none
def jD:(ts:List Ty)->HL ts->List bx
 | [],_=>[]
 | [t],y=>[.one (.d t y)]
 | t :: u :: r,ys => .one (.d t ys.1) :: jD (u :: r) ys.2
def lV:List bx->SV
 | [v] => .s v
 | vs => .gH vs
def o7 (st:St) (c:C):C × St:=
 match c with
 | .aQ n=>match look st.aC n with
  | some (.aQ t xs)=>(.d (.slice t) xs,aU st n)
  | _=>(c,st)
 | .xd n .top=>match look st.aC n with
  | some (.ext 0 t xs)=>(.d t xs,aU st n)
  | _=>(c,st)
 | c=>(c,st)
def nP:St->List C->List C × St
 | st,[]=>([],st)
 | st,c :: cs=>match o7 st c with
  | (c',st1)=>match nP st1 cs with
   | (cs',st2)=>(c' :: cs',st2)
def rq (st:St) (v:bx):bx × St:=
 match v with
 | .one c=>match o7 st c with
  | (c',st')=>(.one c',st')
 | .agg cs=>match nP st cs with
  | (cs',st')=>(.agg cs',st')
def tL (lend:Bool) (st:St) (v:bx):bx × St:=
 match lend,v with
 | true, .one c=>(.one c,st)
 | _,v=>rq st v
def mo (lend:Bool):St->List bx->List bx × St
 | st,[]=>([],st)
 | st,v :: vs=>match tL lend st v with
  | (v',st1)=>match mo lend st1 vs with
   | (vs',st2)=>(v' :: vs',st2)
def ep (ts rts:List Ty) (pre:HL ts->Prop) (post:HL ts->HL rts->Prop):bp:=fun args st K=>
 match mo (eK rts) st args with
 | (args,st)=>match ib (eK rts) st ts args with
  | some xs => .and (pre xs) (.all (HL rts) fun ys => .imp (post xs ys) (K (lV (jD rts ys)) st))
  | none => .ff
def aO (ts rts:List Ty) (pre:HL ts->Prop) (g:HL ts->HL rts):bp:=fun args st K=>
 match mo (eK rts) st args with
 | (args,st)=>match ib (eK rts) st ts args with
  | some xs => .and (pre xs) (K (lV (jD rts (g xs))) st)
  | none => .ff
inductive G8 (α:Type) where
 | ret (a:α)
 | ite (c:Bool) (a b:G8 α)
def G8.eval {α:Type}:G8 α->α
 | .ret a=>a
 | .ite c a b=>match c with
  | true=>a.eval
  | false=>b.eval
def CX (st:St) (want:Ty) (c:C):Option (D want):=
 match c with
 | .aQ n=>match look st.aC n with
  | some (.aQ t xs)=>match h:Ty.beq (.slice t) want with
   | true=>some (bo h (a:=.slice t) xs)
   | false=>none
  | _=>none
 | .xd n .top=>vU st want n
 | c=>ot want c
def ic (st:St):(t:Ty)->List C->Option (D t × List C)
 | .prod a b,cs=>match ic st a cs with
  | some (x,cs1)=>match ic st b cs1 with
   | some (y,cs2)=>some ((x,y),cs2)
   | none=>none
  | none=>none
 | .unit,cs=>some ((),cs)
 | t,c :: cs=>match CX st t c with
  | some x=>some (x,cs)
  | none=>none
 | _,[]=>none
def Bl (st:St) (want:Ty):bx->Option (D want)
 | .one c=>CX st want c
 | .agg cs=>match want.one with
  | true=>none
  | false=>match ic st want cs with
   | some (x,[])=>some x
   | _=>none
def o8 (st:St):(ts:List Ty)->List bx->Option (HL ts)
 | [],[]=>some ()
 | [t],[a]=>Bl st t a
 | t :: u :: r,a :: as=>match Bl st t a,o8 st (u :: r) as with
  | some x,some xs=>some (x,xs)
  | _,_=>none
 | _,_=>none
def nQ (cx:Cx) (st:St):List ResultVar->(List bx->VC)->VC
 | [],K=>K []
 | .tmp t :: r,K=>match ev st.env (.tmp t) with
  | .s v=>nQ cx st r fun vs=>K (v :: vs)
  | _ => .ff
 | .cell a t :: r,K=>oF cx st t (bY st.env (.tmp a)) fun sv=>match sv with
  | .s v=>nQ cx st r fun vs=>K (v :: vs)
  | _ => .ff
def Bm (cx:Cx) (anns:ck) (res:List ResultVar) (c:Code) (st:St) (K:List bx->St->VC):VC:=
 vc cx anns c 0 st fun e st'=>match e with
  | .exit _ => .ff
  | _=>nQ cx st' res fun vs=>K vs st'
def lk (B:Cx) (Γ:List (FuncId × (Bool × bp))) (N:Nat):Cx:={B with Γ:=Γ,N:=N}
def mP:Nat->(ts:List Ty)->HL ts->List (Nat × SV)
 | _,[],_=>[]
 | k,[t],x=>[(k, .s (.one (.d t x)))]
 | k,t :: u :: r,xs=>(k, .s (.one (.d t xs.1))) :: mP (k + 1) (u :: r) xs.2
def jY (ts:List Ty) (xs:HL ts):St:={env:=mP 0 ts xs,aC:=[],next:=0}
def An (B:Cx) (Γ:List (FuncId × (Bool × bp))) (N:Nat) (anns:ck) (res:List ResultVar) (c:Code) (ts rts:List Ty) (post:HL ts->HL rts->Prop) (xs:HL ts):VC:=
 Bm (lk B Γ N) anns res c (jY ts xs) fun vs st=>match o8 st rts vs with
  | some ys => .leaf (post xs ys)
  | none => .ff
section
variable {eT:TypeId} {X:Ext} {P:Program} {cx:Cx}
def fA (eT:TypeId) (A:aD) (w:World):(ts:List Ty)->HL ts->List Value->Prop
 | [],_,vs=>vs = []
 | [t],x,vs=>∃v,vs = [v]/\VR eT t x A w v
 | t :: u :: r,xs,vs=>∃v vs',vs=v :: vs'/\VR eT t xs.1 A w v/\fA eT A w (u :: r) xs.2 vs'
def wZ:List Value->Value
 | [v]=>v
 | vs => .tuple vs.toArray
structure bq (P:Program) (eT:TypeId) (X:Ext) (f:FuncId) (ts rts:List Ty) (pre:HL ts->Prop) (post:HL ts->HL rts->Prop):Prop where
 fn:∃fn,P.funcs[f]?=some fn/\fn.body.isNone=false/\(fn.name == "runtime.NumGoroutine")=false
 ok:∀O w xs vs,X.oA w->cu O w->fA eT O w ts xs vs->pre xs->
  Calls P f vs.toArray w fun e w'=>∃us ys,e = .returned (wZ us)/\post xs ys/\fA eT O w' rts ys us/\Below w.heap.size w w'
def o9 (tmps:Array Value):ResultVar->Sem Value
 | .tmp t=>pure (tmps.getD t undef)
 | .cell b t=>do loadVar t (<-asAddr (tmps.getD b undef))
theorem yJ (hok:TyOK P cx) {O:aD} {st:St} {loc:Nat->Loc} {w:World} {a:Act} (g:Good cx.eT X (aB O st loc w)) (he:dz cx.eT (aB O st loc w) st.env a) :
  ∀{rs:List ResultVar} {K:List bx->VC},(nQ cx st rs K).holds->
  ∃vs us,(K vs).holds/\bM cx.eT (aB O st loc w) vs us/\(rs.mapM (o9 a.tmps):Sem (List Value)).run P w = .ok us w:=by
 intro rs
 induction rs with
 | nil=>intro K h;exact ⟨[],[],h, .nil,rfl⟩
 | cons r rs ih=>
  intro K h
  cases r with
  | tmp t=>
   simp only [nQ] at h
   split at h
   ·rename_i v hv
    obtain ⟨vs,us,h1,h2,h3⟩:=ih h
    have hr:=fX he (.tmp t)
    rw [hv] at hr
    refine ⟨v :: vs,a.tmps.getD t undef :: us,h1, .cons hr h2,?_⟩
    rw [List.mapM_cons]
    simp only [o9,Sem.run_bind,Sem.run_pure,Result.andThen_ok,h3]
   ·exact h.elim
  | cell b t=>
   simp only [nQ] at h
   obtain ⟨sv,u,h1,h2,h3⟩:=nr (P:=P) hok g (aZ he (.tmp b)) h
   split at h1
   ·rename_i v
    obtain ⟨vs,us,k1,k2,k3⟩:=ih h1
    have h3:=h3 w (Below.refl _ _)
    refine ⟨v :: vs,u :: us,k1, .cons h2 k2,?_⟩
    rw [List.mapM_cons]
    have h4:(do loadVar t (<-asAddr (a.tmps.getD b undef)):Sem Value).run P w = .ok u w:=by
     have h3:(Instr.loadAt t (a.tmps.getD b undef)).run P w = .ok u w:=h3
     generalize a.tmps.getD b undef=p at h3
     cases p with
     | pointer q=>
      cases q with
      | none=>simp [Instr.loadAt,Instr.sureAddr] at h3
      | some q=>simpa [Instr.loadAt,Instr.sureAddr,asAddr] using h3
     | _=>simp [Instr.loadAt,Instr.sureAddr] at h3
    simp only [o9,Sem.run_bind] at h4 ⊢
    simp only [h4,Sem.run_pure,Result.andThen_ok,k3]
   ·exact h1.elim
theorem bM.len {S:aX} {xs:List bx} {us:List Value} (h:bM eT S xs us):xs.length=us.length:=by
 induction h with
 | nil=>rfl
 | cons _ _ ih=>simp [ih]
theorem pa {S:aX} {vs:List bx} {us:List Value} (h:bM eT S vs us):bX eT S (lV vs) (wZ us):=by
 match vs,us,h with
 | [],[],h=>exact ⟨[],rfl,h⟩
 | [v],[u], .cons h1 .nil=>exact h1
 | _ :: _ :: _,_ :: _ :: _,h=>exact ⟨_,rfl,h⟩
theorem mq (hok:iy P cx X) {f:FuncId} {fn:Func} {c:Code} (hf:P.funcs[f]?=some fn) (hb:fn.body=some c) (hN:cx.N=fn.ntmps) (anns:ck) {O:aD} {st:St} {loc:Nat->Loc} {w:World}
  {args:Array Value} {K:List bx->St->VC} (hsz:args.size<=fn.ntmps) (g:Good cx.eT X (aB O st loc w)) (hO:cu O w)
  (henv:∀t sv,look st.env t=some sv->∃v,args[t]?=some v/\bX cx.eT (aB O st loc w) sv v)
  (h:(Bm cx anns fn.results.toList c st K).holds) :
  Calls P f args w fun e w'=>∃vs us st' loc',e = .returned (wZ us)/\(K vs st').holds/\bM cx.eT (aB O st' loc' w') vs us/\Good cx.eT X (aB O st' loc' w')/\Tr (aB O st loc w) (aB O st' loc' w'):=by
 refine calls_of_wp hf hb ?_
 have hA:dN cx (aB O st loc w) st {tmps:=args++Array.replicate (fn.ntmps - args.size) undef,defers:=[]}:=by
  refine ⟨by simp [hN];omega,rfl,fun t sv ht => ?_⟩
  obtain ⟨v,hv,hr⟩:=henv t sv ht
  have hlt:t < args.size:=by
   rcases Nat.lt_or_ge t args.size with hh | hh
   ·exact hh
   ·rw [Array.getElem?_eq_none hh] at hv;cases hv
  rw [Array.getD_eq_getD_getElem?,Array.getElem?_append,if_pos hlt,hv]
  exact hr
 refine wp_mono (EG hok anns c 0 hA g hO h) ?_
 have fin:∀(a':Act) (w':World),cF cx X O (fun st'=>nQ cx st' fn.results.toList fun vs=>K vs st') (writes anns 0 c) st (aB O st loc w) a' w'->a'.defers = []/\∃v,(results fn a'.tmps).run P w' = .ok v w'/\
   ∃vs us st' loc',Ending.returned v = .returned (wZ us)/\(K vs st').holds/\bM cx.eT (aB O st' loc' w') vs us/\Good cx.eT X (aB O st' loc' w')/\Tr (aB O st loc w) (aB O st' loc' w'):=by
  rintro a' w' ⟨st',loc',k1,k2,k3,k4,_⟩
  obtain ⟨vs,us,m1,m2,m3⟩:=yJ (P:=P) hok.toTyOK k2 k4.env k1
  refine ⟨k4.defers,wZ us,?_,vs,us,st',loc',rfl,m1,m2,k2,k3⟩
  have hm:(fn.results.mapM (o9 a'.tmps):Sem (Array Value)).run P w' = .ok us.toArray w':=by
   rw [<-Array.toArray_toList (xs:=fn.results),List.mapM_toArray,Sem.run_map,m3]
   rfl
  have he:results fn a'.tmps=(do
    let xs <-fn.results.mapM (o9 a'.tmps)
    return if h:xs.size=1 then xs[0] else .tuple xs):=by
   unfold results
   congr 1
  rw [he,Sem.run_bind,hm]
  simp only [Result.andThen_ok,Sem.run_pure]
  match us with
  | []=>rfl
  | [u]=>rfl
  | _ :: _ :: _=>rfl
 intro e a' w' hq
 cases e with
 | normal=>exact fin a' w' hq
 | ret=>exact fin a' w' hq
 | exit n=>obtain ⟨st',loc',k1,_⟩:=hq;exact k1.elim
 | goto l=>exact hq.elim
 | panic c=>exact hq.elim
 | outgrown=>exact hq.elim
end
end Go.Vg

namespace Go.Vg
open Go.RowKit
section
variable {X:Ext} {P:Program} {cx:Cx}
theorem CY {O:aD} {st:St} {loc:Nat->Loc} {w:World} {b o:Nat} (h:¬ (aB O st loc w).A b o):¬ O b o:=fun k=>h (.inl k)
theorem HI {O:aD} {st:St} {loc:Nat->Loc} {w:World} {t:Ty} {x:D t} {v:Value} {eT:TypeId} (h:VR eT t x (aB O st loc w).A w v):VR eT t x O w v:=
 VR.frame h fun _ _ _ ha hc=>⟨hc,CY ha⟩
theorem Ao {O:aD} {st:St} {loc:Nat->Loc} {w:World} (g:Good cx.eT X (aB O st loc w)) {n:Nat} {t:Ty} {xs:List (D t)} (hob:look st.aC n=some (.aQ t xs))
  {v:Value} (hx:CR cx.eT (aB O st loc w) (.aQ n) v):VR cx.eT (.slice t) xs O w v:=by
 rcases (g.obj _ _ hob).2 with ⟨rfl,⟨a,ha⟩,_⟩ | ⟨b,vs,T,cap,hl,cX,hheap,hvs,hcap,hbig,he⟩
 ·exact VR.bt rfl ⟨_,rfl,by simp, .inl ⟨rfl,a,0,(hx.2 _ _ hob).trans ha⟩⟩
 refine VR.bt rfl ⟨_,rfl,hbig, .inr ⟨b,0,cap,(hx.2 _ _ hob).trans hl,hcap,fun i y hy => ?_⟩⟩
 obtain ⟨us,h1,h2⟩:=he i y hy
 refine ⟨us,h1.frame fun _ _ _ ha hc=>⟨hc,CY ha⟩,fun j u hj=>⟨?_,?_⟩⟩
 ·rw [Nat.zero_add,cell_of_row w b _ vs T (0,0) hheap];exact h2 j u hj
 ·exact g.out n _ b _ hob (by rw [cX];simp)
theorem Ap {O:aD} {st:St} {loc:Nat->Loc} {w:World} (g:Good cx.eT X (aB O st loc w)) {n:Nat} {t:Ty} {xs:D t} (hob:look st.aC n=some (.ext 0 t xs))
  {v:Value} (hx:CR cx.eT (aB O st loc w) (.xd n .top) v) {A:aD} (hA:∀b∈(loc n).bs,∀o,¬ A b o):VR cx.eT t xs A w v:=by
 have hd:e8 t xs (loc n) w:=X.deep.1 (g.obj _ _ hob).2
 obtain ⟨e,s,rfl,hs⟩:=lG hd
 exact hd.data (hx.2 _ _ hob) hA
theorem ux {O:aD} {st:St} {loc:Nat->Loc} {w:World} (g:Good cx.eT X (aB O st loc w)) {n:Nat} {t:Ty} {xs:D t} (h:vU st t n=some xs)
  {v:Value} (hx:CR cx.eT (aB O st loc w) (.xd n .top) v):VR cx.eT t xs O w v:=by
 unfold vU at h
 split at h
 ·rename_i t' ys hob
  split at h
  ·cases h;rename_i hb
   exact fu hb _ (Ap g hob hx fun b hb o=>g.out n _ b o hob hb)
  ·cases h
 ·cases h
theorem Aq {O:aD} {st:St} {loc:Nat->Loc} {w:World} (g:Good cx.eT X (aB O st loc w)) {want:Ty} {c:C} {x:D want} {v:Value} (h:CX st want c=some x)
  (hc:CR cx.eT (aB O st loc w) c v):VR cx.eT want x O w v:=by
 unfold CX at h
 split at h
 ·rename_i n
  split at h
  ·rename_i t xs hob
   split at h
   ·cases h;rename_i hb;exact fu hb _ (Ao g hob hc)
   ·cases h
  ·cases h
 ·exact ux g h hc
 ·exact HI (mA h hc)
theorem CZ {O:aD} {st:St} {loc:Nat->Loc} {w:World} (g:Good cx.eT X (aB O st loc w)):∀{t:Ty} {cs cs':List C} {x:D t} {vs:List Value},ic st t cs=some (x,cs')->bZ cx.eT (aB O st loc w) cs vs->
  ∃us vs',vs=us++vs'/\R cx.eT t x O w us/\bZ cx.eT (aB O st loc w) cs' vs':=by
 have one:∀{t:Ty} {c:C} {cs cs':List C} {x:D t} {vs:List Value},(match CX st t c with | some x=>some (x,cs) | none=>none)=some (x,cs')->bZ cx.eT (aB O st loc w) (c :: cs) vs->
   ∃us vs',vs=us++vs'/\R cx.eT t x O w us/\bZ cx.eT (aB O st loc w) cs' vs':=by
  intro t c cs cs' x vs h hc
  cases hc with
  | cons h1 h2 h3=>
   rename_i v vs0
   split at h
   ·rename_i y hy
    cases h
    exact ⟨[v],vs0,rfl,(qm h2 (Aq g hy h1)).2,h3⟩
   ·cases h
 intro t
 induction t with
 | prod a b iha ihb=>
  intro cs cs' x vs h hc
  simp only [ic] at h
  split at h
  ·rename_i y cs1 h1
   split at h
   ·rename_i z cs2 h2
    cases h
    obtain ⟨u1,v1,rfl,r1,k1⟩:=iha h1 hc
    obtain ⟨u2,v2,rfl,r2,k2⟩:=ihb h2 k1
    exact ⟨u1++u2,v2,by simp,⟨u1,u2,rfl,r1,r2⟩,k2⟩
   ·cases h
  ·cases h
 | unit=>
  intro cs cs' x vs h hc
  simp only [ic] at h
  cases h
  exact ⟨[],vs,rfl,rfl,hc⟩
 | bool=>intro cs cs' x vs h hc;cases cs with | nil=>simp [ic] at h | cons c cs=>exact one (t:=.bool) h hc
 | int k=>intro cs cs' x vs h hc;cases cs with | nil=>simp [ic] at h | cons c cs=>exact one (t:=.int k) h hc
 | str=>intro cs cs' x vs h hc;cases cs with | nil=>simp [ic] at h | cons c cs=>exact one (t:=.str) h hc
 | err=>intro cs cs' x vs h hc;cases cs with | nil=>simp [ic] at h | cons c cs=>exact one (t:=.err) h hc
 | cO=>intro cs cs' x vs h hc;cases cs with | nil=>simp [ic] at h | cons c cs=>exact one (t:=.cO) h hc
 | slice e _=>intro cs cs' x vs h hc;cases cs with | nil=>simp [ic] at h | cons c cs=>exact one (t:=.slice e) h hc
theorem w4 {O:aD} {st:St} {loc:Nat->Loc} {w:World} (g:Good cx.eT X (aB O st loc w)) {want:Ty} {c:bx} {x:D want} {v:Value} (h:Bl st want c=some x)
  (hc:dM cx.eT (aB O st loc w) c v):VR cx.eT want x O w v:=by
 cases c with
 | one c=>exact Aq g h hc
 | agg cs=>
  simp only [Bl] at h
  obtain ⟨vs,rfl,hcs⟩:=hc
  split at h
  ·cases h
  ·rename_i ho
   split at h
   ·rename_i y hy
    cases h
    obtain ⟨us,vs',rfl,r,k⟩:=CZ g hy hcs
    cases k
    unfold VR
    rw [if_neg (by simp [ho])]
    exact ⟨_,rfl,by simpa using r⟩
   ·cases h
theorem w5 {O:aD} {st:St} {loc:Nat->Loc} {w:World} (g:Good cx.eT X (aB O st loc w)):∀{ts:List Ty} {vs:List bx} {ys:HL ts} {us:List Value},o8 st ts vs=some ys->
  bM cx.eT (aB O st loc w) vs us->fA cx.eT O w ts ys us
 | [],[],_,_,_, .nil=>rfl
 | [t],[a],ys,_,h, .cons h1 .nil=>⟨_,rfl,w4 g h h1⟩
 | t :: u :: r,a :: as,ys,_,h, .cons h1 h2=>by
  simp only [o8] at h
  split at h
  ·rename_i x xs k1 k2
   cases h
   exact ⟨_,_,rfl,w4 g k1 h1,w5 g k2 h2⟩
  ·cases h
 | [],_ :: _,_,_,h,_=>by simp [o8] at h
 | [_],[],_,_,h,_=>by simp [o8] at h
 | [_],_ :: _ :: _,_,_,h,_=>by simp [o8] at h
 | _ :: _ :: _,[],_,_,h,_=>by simp [o8] at h
theorem sC {eT:TypeId} {O:aD} {w:World} {S:aX} (hS:S.w=w) (hA:∀b o,¬ O b o->¬ S.A b o):∀(ts:List Ty) (k:Nat) (xs:HL ts) (vs:List Value),fA eT O w ts xs vs->
  ∀t sv,look (mP k ts xs) t=some sv->k<=t/\∃v,vs[t - k]?=some v/\bX eT S sv v
 | [],k,xs,vs,_,t,sv,h=>by simp [mP,look] at h
 | [ty],k,x,_,⟨v,rfl,hv⟩,t,sv,h=>by
  simp only [mP,bm] at h
  split at h
  ·cases h
   rename_i e;subst e
   exact ⟨Nat.le_refl _,v,by simp,VR.frame hv fun b o _ ha hc=>⟨by rw [hS];exact hc,hA b o ha⟩⟩
  ·simp [look] at h
 | ty :: u :: r,k,xs,_,⟨v,vs',rfl,hv,hr⟩,t,sv,h=>by
  simp only [mP,bm] at h
  split at h
  ·cases h
   rename_i e;subst e
   exact ⟨Nat.le_refl _,v,by simp,VR.frame hv fun b o _ ha hc=>⟨by rw [hS];exact hc,hA b o ha⟩⟩
  ·obtain ⟨h1,v',h2,h3⟩:=sC hS hA (u :: r) (k + 1) xs.2 vs' hr t sv h
   refine ⟨by omega,v',?_,h3⟩
   rw [show t - k=(t - (k + 1)) + 1 from by omega,List.getElem?_cons_succ]
   exact h2
theorem fA.length {eT:TypeId} {O:aD} {w:World}:∀{ts:List Ty} {xs:HL ts} {vs:List Value},fA eT O w ts xs vs->vs.length=ts.length
 | [],_,_,h=>by rw [show _ = [] from h];rfl
 | [_],_,_,⟨_,rfl,_⟩=>rfl
 | _ :: u :: r,_,_,⟨_,_,rfl,_,h⟩=>by simp [fA.length h]
def wf:(t:Ty)->D t->Prop
 | .int k,x=>k.min<=x/\x<=k.max
 | .str,x=>x.length<=aH
 | .prod a b,x=>wf a x.1/\wf b x.2
 | .slice e,x=>x.length<=aH/\∀(i:Nat) y,x[i]?=some y->wf e y
 | _,_=>True
def dH:(ts:List Ty)->HL ts->Prop
 | [],_=>True
 | [t],x=>wf t x
 | t :: u :: r,xs=>wf t xs.1/\dH (u :: r) xs.2
theorem R.wf {eT:TypeId}:∀{t:Ty} {x:D t} {A:aD} {w:World} {vs:List Value},R eT t x A w vs->Vg.wf t x:=by
 intro t
 induction t with
 | int k=>intro x A w vs h;exact h.2
 | str=>intro x A w vs h;exact h.2
 | prod a b iha ihb=>intro x A w vs h;obtain ⟨_,_,_,h1,h2⟩:=h;exact ⟨iha h1,ihb h2⟩
 | slice e ih=>
  intro x A w vs h
  obtain ⟨v,_,hl,h⟩:=h
  refine ⟨hl,fun i y hy => ?_⟩
  rcases h with ⟨rfl,_⟩ | ⟨b,o,cap,_,_,h⟩
  ·simp at hy
  ·obtain ⟨us,h1,_⟩:=h i y hy;exact ih h1
 | _=>intro x A w vs h;trivial
theorem VR.wf {eT:TypeId} {t:Ty} {x:D t} {A:aD} {w:World} {v:Value} (h:VR eT t x A w v):Vg.wf t x:=(VR.cells h).wf
theorem fA.wf {eT:TypeId} {O:aD} {w:World}:∀{ts:List Ty} {xs:HL ts} {vs:List Value},fA eT O w ts xs vs->dH ts xs
 | [],_,_,_=>trivial
 | [_],_,_,⟨_,_,h⟩=>h.wf
 | _ :: _ :: _,_,_,⟨_,_,_,h,h'⟩=>⟨h.wf,fA.wf h'⟩
theorem Bn {B:Cx} {X:Ext} {Γ:List (FuncId × (Bool × bp))} {N:Nat} {f:FuncId} {fn:Func} {c:Code} (hok:iy P (lk B Γ N) X) (hf:P.funcs[f]?=some fn) (hb:fn.body=some c) (hn:(fn.name == "runtime.NumGoroutine")=false)
  (hN:fn.ntmps=N) {ts rts:List Ty} (anns:HL ts->ck) (hts:ts.length<=N) {pre:HL ts->Prop} {post:HL ts->HL rts->Prop}
  (h:∀xs,dH ts xs->pre xs->(An B Γ N (anns xs) fn.results.toList c ts rts post xs).holds) :
  bq P B.eT X f ts rts pre post:=by
 refine ⟨⟨fn,hf,by rw [hb];rfl,hn⟩,fun O w xs vs hG hO ha hp => ?_⟩
 have g0:Good (lk B Γ N).eT X (aB O (jY ts xs) (fun _=>default) w):=
  ⟨fun n oc h=>by simp [aB,jY,look] at h,fun n m oc oc' b h=>by simp [aB,jY,look] at h,fun n oc b off h=>by simp [aB,jY,look] at h,hG,fun b hb ⟨n,oc,h,_⟩=>by simp [aB,jY,look] at h⟩
 have hA0:∀b o,¬ O b o->¬ (aB O (jY ts xs) (fun _=>default) w).A b o:=by
  rintro b o h (k | ⟨n,oc,k,_⟩)
  ·exact h k
  ·simp [aB,jY,look] at k
 refine Calls.mono (mq hok hf hb hN.symm (anns xs) (by simpa [ha.length,hN] using hts) g0 hO ?_ (h xs ha.wf hp)) ?_
 ·intro t sv ht
  obtain ⟨_,v,h1,h2⟩:=sC (eT:=B.eT) (S:=aB O (jY ts xs) (fun _=>default) w) rfl hA0 ts 0 xs vs ha t sv ht
  exact ⟨v,by simpa using h1,h2⟩
 ·rintro e w' ⟨vs',us,st',loc',rfl,h1,h2,h3,h4⟩
  split at h1
  ·rename_i ys hys
   refine ⟨us,ys,rfl,h1,w5 h3 hys h2,h4.os,h4.output,h4.size,fun k hk=>h4.block k hk ?_⟩
   rintro ⟨n,oc,k,_⟩
   simp [aB,jY,look] at k
  ·exact h1.elim
def fB:aD:=fun _ _=>False
def outer (lend:Bool) (A:aD):aD:=match lend with
 | true=>fB
 | false=>A
theorem w6 {O:aD} {st:St} {loc:Nat->Loc} {w:World} (g:Good cx.eT X (aB O st loc w)) {lend:Bool} {t:Ty} {a:bx} {x:D t} {v:Value} (h:Bk lend st t a=some x)
  (ha:dM cx.eT (aB O st loc w) a v):VR cx.eT t x (outer lend (aB O st loc w).A) w v:=by
 have base:kv t a=some x->VR cx.eT t x (outer lend (aB O st loc w).A) w v:=by
  intro h
  refine VR.tH (fv h ha) fun b o k => ?_
  cases lend with
  | true=>exact id
  | false=>exact k
 unfold Bk at h
 split at h
 ·rename_i e n x' heq
  unfold oH at h
  simp only [tp] at h
  split at h
  ·rename_i e' ys hob
   split at h
   ·cases h;rename_i hb
    exact fu hb _ (VR.tH (Ao g hob ha) fun _ _ _=>id)
   ·cases h
  ·cases h
 ·exact VR.tH (ux g h ha) fun _ _ _=>id
 ·exact base h
theorem uy {O:aD} {st:St} {loc:Nat->Loc} {w:World} (g:Good cx.eT X (aB O st loc w)) {lend:Bool}:∀{ts:List Ty} {as:List bx} {xs:HL ts} {vs:List Value},ib lend st ts as=some xs->
  bM cx.eT (aB O st loc w) as vs->fA cx.eT (outer lend (aB O st loc w).A) w ts xs vs
 | [],[],_,_,_, .nil=>rfl
 | [t],[a],xs,_,h, .cons h1 .nil=>⟨_,rfl,w6 g h h1⟩
 | t :: u :: r,a :: as,xs,_,h, .cons h1 h2=>by
  simp only [ib] at h
  split at h
  ·rename_i x xs k1 k2
   cases h
   exact ⟨_,_,rfl,w6 g k1 h1,uy g k2 h2⟩
  ·cases h
 | [],_ :: _,_,_,h,_=>by simp [ib] at h
 | [_],[],_,_,h,_=>by simp [ib] at h
 | [_],_ :: _ :: _,_,_,h,_=>by simp [ib] at h
 | _ :: _ :: _,[],_,_,h,_=>by simp [ib] at h
theorem qy {eT:TypeId} {S:aX} {O:aD} {w:World} (hS:S.w=w):∀{ts:List Ty} {ys:HL ts} {us:List Value},(eK ts=true\/O=S.A)->fA eT O w ts ys us->bM eT S (jD ts ys) us
 | [],_,_,_,h=>by rw [show _ = [] from h];exact .nil
 | [t],y,_,hl,⟨v,rfl,hv⟩=>by
  refine .cons ?_ .nil
  subst hS
  rcases hl with hl | hl
  ·simp only [eK,Bool.and_true] at hl
   exact VR.of_flat hl hv
  ·subst hl;exact hv
 | t :: u :: r,ys,_,hl,⟨v,vs',rfl,hv,hr⟩=>by
  refine .cons ?_ (qy hS ?_ hr)
  ·subst hS
   rcases hl with hl | hl
   ·simp only [eK,Bool.and_eq_true] at hl
    exact VR.of_flat hl.1 hv
   ·subst hl;exact hv
  ·rcases hl with hl | hl
   ·simp only [eK,Bool.and_eq_true] at hl ⊢;exact .inl hl.2
   ·exact .inr hl
theorem Hy {O:aD} {st:St} {loc:Nat->Loc} {w:World} {eT:TypeId} (g:Good eT X (aB O st loc w)) (hO:cu O w):cu (aB O st loc w).A w:=by
 rintro b off (h | ⟨n,oc,h1,h2,_⟩)
 ·exact hO b off h
 ·exact (g.obj n oc h1).2.inside b h2
theorem uz {eT:TypeId} {f:FuncId} {ts rts:List Ty} {pre:HL ts->Prop} {post:HL ts->HL rts->Prop} (h:bq P eT X f ts rts pre post)
  {O:aD} {st:St} {loc:Nat->Loc} {w:World} {args:List bx} {vs:List Value} {xs:HL ts} (hx:ib (eK rts) st ts args=some xs) (hp:pre xs)
  {K:SV->St->VC} (hK:∀ys,post xs ys->(K (lV (jD rts ys)) st).holds)
  (g:Good eT X (aB O st loc w)) (hO:cu O w) (ha:bM eT (aB O st loc w) args vs) :
  Calls P f vs.toArray w fun e w'=>∃v sv st' loc',e = .returned v/\(K sv st').holds/\st'.env=st.env/\(true=true->Below w.heap.size w w')/\Good eT X (aB O st' loc' w')/\
   Tr (aB O st loc w) (aB O st' loc' w')/\bX eT (aB O st' loc' w') sv v:=by
 have g':Good (Cx.mk eT [] [] [] 0 [] [] [] false [] []).eT X (aB O st loc w):=g
 have hOut:cu (outer (eK rts) (aB O st loc w).A) w:=by
  intro b off hb
  cases hf:eK rts with
  | true=>rw [hf] at hb;exact hb.elim
  | false=>rw [hf] at hb;exact Hy g hO b off hb
 refine Calls.mono (h.ok _ w xs vs g.iq.1 hOut (uy g' hx ha) hp) ?_
 rintro e w' ⟨us,ys,rfl,h1,h2,h3⟩
 obtain ⟨t,g2⟩:=nk (S':=aB O st loc w') g rfl rfl rfl rfl h3
 refine ⟨_,_,st,loc,rfl,hK ys h1,rfl,fun _=>h3,g2,t,pa (qy rfl ?_ h2)⟩
 cases hf:eK rts with
 | true=>exact .inl rfl
 | false=>exact .inr (by simp only [outer];funext b off;simp [aX.A,aB])
theorem sE {O:aD} {st:St} {loc:Nat->Loc} {w:World} (g:Good cx.eT X (aB O st loc w)) (c:C) :
  Tr (aB O st loc w) (aB O (o7 st c).2 loc w)/\Good cx.eT X (aB O (o7 st c).2 loc w)/\(o7 st c).2.env=st.env/\
   ∀v,CR cx.eT (aB O st loc w) c v->CR cx.eT (aB O (o7 st c).2 loc w) (o7 st c).1 v:=by
 unfold o7
 split
 ·rename_i n
  split
  ·rename_i t xs hob
   obtain ⟨h1,h2⟩:=lJ g n
   exact ⟨h1,h2,rfl,fun v hv=>yA g hob hv⟩
  ·exact ⟨Tr.refl _,g,rfl,fun v hv=>hv⟩
 ·rename_i n
  split
  ·rename_i t xs hob
   obtain ⟨h1,h2⟩:=lJ g n
   refine ⟨h1,h2,rfl,fun v hv=>Ap g hob hv fun b hb o => ?_⟩
   rintro (hA' | ⟨m,oc,k1,k2,k3⟩)
   ·exact g.out n _ b o hob hb hA'
   ·simp only [aB,aU] at k1 k2
    rw [fZ] at k1
    split at k1
    ·cases k1
    ·rename_i h8;exact h8 (g.apart n m _ _ b hob k1 hb k2)
  ·exact ⟨Tr.refl _,g,rfl,fun v hv=>hv⟩
 ·exact ⟨Tr.refl _,g,rfl,fun v hv=>hv⟩
theorem qz {O:aD} {loc:Nat->Loc} {w:World}:∀(cs:List C) {st:St},Good cx.eT X (aB O st loc w)->
  Tr (aB O st loc w) (aB O (nP st cs).2 loc w)/\Good cx.eT X (aB O (nP st cs).2 loc w)/\(nP st cs).2.env=st.env/\
   ∀vs,bZ cx.eT (aB O st loc w) cs vs->bZ cx.eT (aB O (nP st cs).2 loc w) (nP st cs).1 vs
 | [],st,g=>⟨Tr.refl _,g,rfl,fun vs h=>h⟩
 | c :: cs,st,g=>by
  obtain ⟨t1,g1,e1,k1⟩:=sE g c
  obtain ⟨t2,g2,e2,k2⟩:=qz cs g1
  refine ⟨t1.trans t2,g2,e2.trans e1,fun vs h => ?_⟩
  cases h with
  | cons h1 h2 h3=>exact .cons ((k1 _ h1).tr t2) h2 (k2 _ (h3.tr t1))
theorem nR {O:aD} {st:St} {loc:Nat->Loc} {w:World} (g:Good cx.eT X (aB O st loc w)) (x:bx) :
  Tr (aB O st loc w) (aB O (rq st x).2 loc w)/\Good cx.eT X (aB O (rq st x).2 loc w)/\(rq st x).2.env=st.env/\
   ∀v,dM cx.eT (aB O st loc w) x v->dM cx.eT (aB O (rq st x).2 loc w) (rq st x).1 v:=by
 cases x with
 | one c=>exact sE g c
 | agg cs=>
  obtain ⟨t1,g1,e1,k1⟩:=qz cs g
  exact ⟨t1,g1,e1,fun v ⟨vs,h1,h2⟩=>⟨vs,h1,k1 _ h2⟩⟩
theorem Bo {O:aD} {st:St} {loc:Nat->Loc} {w:World} (g:Good cx.eT X (aB O st loc w)) (lend:Bool) (x:bx) :
  Tr (aB O st loc w) (aB O (tL lend st x).2 loc w)/\Good cx.eT X (aB O (tL lend st x).2 loc w)/\(tL lend st x).2.env=st.env/\
   ∀v,dM cx.eT (aB O st loc w) x v->dM cx.eT (aB O (tL lend st x).2 loc w) (tL lend st x).1 v:=by
 cases lend with
 | false=>cases x <;> exact nR g _
 | true=>
  cases x with
  | one c=>exact ⟨Tr.refl _,g,rfl,fun v hv=>hv⟩
  | agg cs=>exact nR g _
theorem sF {O:aD} {loc:Nat->Loc} {w:World} (lend:Bool):∀(xs:List bx) {st:St},Good cx.eT X (aB O st loc w)->
  Tr (aB O st loc w) (aB O (mo lend st xs).2 loc w)/\Good cx.eT X (aB O (mo lend st xs).2 loc w)/\(mo lend st xs).2.env=st.env/\
   ∀vs,bM cx.eT (aB O st loc w) xs vs->bM cx.eT (aB O (mo lend st xs).2 loc w) (mo lend st xs).1 vs
 | [],st,g=>⟨Tr.refl _,g,rfl,fun vs h=>h⟩
 | x :: xs,st,g=>by
  obtain ⟨t1,g1,e1,k1⟩:=Bo g lend x
  obtain ⟨t2,g2,e2,k2⟩:=sF lend xs g1
  refine ⟨t1.trans t2,g2,e2.trans e1,fun vs h => ?_⟩
  cases h with
  | cons h1 h3=>exact .cons ((k1 _ h1).tr t2) (k2 _ (h3.tr t1))
theorem uA {eT:TypeId} {f:FuncId} {q:Bool} {sp:bp} {lend:Bool}
  (h:∀O st loc w args vs K,(sp args st K).holds->Good eT X (aB O st loc w)->cu O w->bM eT (aB O st loc w) args vs->
   Calls P f vs.toArray w fun e w'=>∃v sv st' loc',e = .returned v/\(K sv st').holds/\st'.env=st.env/\(q=true->Below w.heap.size w w')/\Good eT X (aB O st' loc' w')/\
    Tr (aB O st loc w) (aB O st' loc' w')/\bX eT (aB O st' loc' w') sv v)
  (O:aD) (st:St) (loc:Nat->Loc) (w:World) (args:List bx) (vs:List Value) (K:SV->St->VC) (hs:(sp (mo lend st args).1 (mo lend st args).2 K).holds)
  (g:Good eT X (aB O st loc w)) (hO:cu O w) (ha:bM eT (aB O st loc w) args vs) :
  Calls P f vs.toArray w fun e w'=>∃v sv st' loc',e = .returned v/\(K sv st').holds/\st'.env=st.env/\(q=true->Below w.heap.size w w')/\Good eT X (aB O st' loc' w')/\
   Tr (aB O st loc w) (aB O st' loc' w')/\bX eT (aB O st' loc' w') sv v:=by
 have g':Good (Cx.mk eT [] [] [] 0 [] [] [] false [] []).eT X (aB O st loc w):=g
 obtain ⟨t1,g1,e1,k1⟩:=sF lend args g'
 refine Calls.mono (h O _ loc w _ vs K hs g1 hO (k1 _ ha)) ?_
 rintro e w' ⟨v,sv,st',loc',h1,h2,h3,h4,h5,h6,h7⟩
 exact ⟨v,sv,st',loc',h1,h2,h3.trans e1,h4,h5,t1.trans h6,h7⟩
theorem ct {eT:TypeId} {f:FuncId} {ts rts:List Ty} {pre:HL ts->Prop} {post:HL ts->HL rts->Prop} (h:bq P eT X f ts rts pre post) :
  cH P eT X f true (ep ts rts pre post):=by
 refine ⟨h.fn,uA (lend:=eK rts) (sp:=fun args st K=>match ib (eK rts) st ts args with
  | some xs => .and (pre xs) (.all (HL rts) fun ys => .imp (post xs ys) (K (lV (jD rts ys)) st))
  | none => .ff) fun O st loc w args vs K hs g hO ha => ?_⟩
 split at hs
 ·rename_i xs hx
  exact uz h hx hs.1 (fun ys hy=>hs.2 ys hy) g hO ha
 ·exact hs.elim
theorem aE {eT:TypeId} {f:FuncId} {ts rts:List Ty} {pre:HL ts->Prop} {g:HL ts->HL rts} (h:bq P eT X f ts rts pre (fun xs ys=>ys=g xs)) :
  cH P eT X f true (aO ts rts pre g):=by
 refine ⟨h.fn,uA (lend:=eK rts) (sp:=fun args st K=>match ib (eK rts) st ts args with
  | some xs => .and (pre xs) (K (lV (jD rts (g xs))) st)
  | none => .ff) fun O st loc w args vs K hs hg hO ha => ?_⟩
 split at hs
 ·rename_i xs hx
  exact uz h hx hs.1 (fun ys hy=>by rw [hy];exact hs.2) hg hO ha
 ·exact hs.elim
theorem Gg {B:Cx} {N:Nat} (h:TyOK P B):iy P (lk B [] N) X:=
 {fit:=h.fit,hP:=h.hP,eD:=h.eD,mixed:=h.mixed,arr:=h.arr,np:=h.np,eqs:=h.eqs,ir:=h.ir,ke:=h.ke,lH:=h.lH,calls:=fun f q sp hl=>by simp [lk,look] at hl}
theorem EH {B:Cx} {Γ:List (FuncId × (Bool × bp))} {N:Nat} {f:FuncId} {q:Bool} {sp:bp} (h:cH P B.eT X f q sp) (hΓ:iy P (lk B Γ N) X):iy P (lk B ((f,q,sp) :: Γ) N) X:=
 {fit:=hΓ.fit,hP:=hΓ.hP,eD:=hΓ.eD,mixed:=hΓ.mixed,arr:=hΓ.arr,np:=hΓ.np,eqs:=hΓ.eqs,ir:=hΓ.ir,ke:=hΓ.ke,lH:=hΓ.lH,calls:=fun f' q' sp' hl=>by
   simp only [lk,bm] at hl
   split at hl
   ·rename_i e;subst e;cases hl;exact h
   ·exact hΓ.calls f' q' sp' hl}
end
end Go.Vg

namespace Go.Vg
open Go.RowKit
def Ty.plain:Ty->Bool
 | .err | .cO=>false
 | .prod a b=>a.plain && b.plain
 | .slice e=>e.plain
 | _=>true
def Ty.low:Ty->Bool
 | .slice e=>Nat.blt 0 e.size && e.low
 | .prod a b=>a.low && b.low
 | _=>true
section
variable {H:Type} {enc:TypeId × Value->H} {P:Program} {w:World} {base:Nat} {sp:Nat->Bool} {held:Bool} {eT:TypeId}
theorem Fit.cellsOf {t:TypeId} {ty:Ty} {i:TypeInfo} {d:TypeDesc} (h:Fit P t ty i d):P.cellsOf t=ty.size:=by
 unfold Program.cellsOf;rw [h.info];exact h.size
theorem yK {f:TypeId->Ty->Bool} {cs:List Value} {fuel:Nat}
  (ih:∀t ty,f t ty=true->P.cellsOf t=ty.size/\∀us d ps,ty.plain=true->ty.low=true->DataW.trod enc P w base sp held fuel t us=some (d,ps)->∃x,R eT ty x fB w us) :
  ∀(gs:List Field) (off:Nat) (ty:Ty) (xs:List (DataW H × List MemPlace)),bR f gs off ty=true->ty.plain=true->ty.low=true->
   gs.mapM (fun f=>DataW.trod enc P w base sp held fuel f.type ((cs.drop f.offset).take (P.cellsOf f.type)))=some xs->cs.length=off + ty.size->∃x,R eT ty x fB w (cs.drop off):=by
 intro gs
 induction gs with
 | nil=>
  intro off ty xs h hp hs hm hl
  cases ty <;> simp [bR] at h
  refine ⟨(),?_⟩
  show cs.drop off = []
  exact List.drop_eq_nil_of_le (by simp [Ty.size] at hl;omega)
 | cons g gs ihg=>
  intro off ty xs h hp hs hm hl
  cases ty <;> simp [bR] at h
  rename_i a b
  obtain ⟨⟨⟨h1,h2⟩,h3⟩,h4⟩:=h
  simp only [Ty.plain,Bool.and_eq_true] at hp
  simp only [Ty.size] at hl
  rw [List.mapM_cons] at hm
  obtain ⟨k1,k2⟩:=ih _ _ h2
  subst h1
  rw [k1] at hm
  cases hx:DataW.trod enc P w base sp held fuel g.type ((cs.drop g.offset).take a.size) with
  | none=>simp [hx] at hm
  | some y=>
   cases hxs:gs.mapM (fun f=>DataW.trod enc P w base sp held fuel f.type ((cs.drop f.offset).take (P.cellsOf f.type))) with
   | none=>simp [hx,hxs] at hm
   | some ys=>
    simp only [Ty.low,Bool.and_eq_true] at hs
    obtain ⟨x,rx⟩:=k2 _ y.1 y.2 hp.1 hs.1 hx
    obtain ⟨z,rz⟩:=ihg _ _ _ h4 hp.2 hs.2 hxs (by omega)
    refine ⟨(x,z),_,_,?_,rx,rz⟩
    rw [<-List.drop_drop,List.take_append_drop]
theorem Bp:∀(n:Nat) (t:TypeId) (ty:Ty),fits P n t ty=true->P.cellsOf t=ty.size/\∀fuel us d ps,ty.plain=true->ty.low=true->
  DataW.trod enc P w base sp held fuel t us=some (d,ps)->∃x,R eT ty x fB w us:=by
 intro n
 induction n with
 | zero=>intro t ty h;simp [fits] at h
 | succ n ih=>
  intro t ty h
  obtain ⟨m,i,dsc,hm,fit,hsh⟩:=ft h
  cases hm
  refine ⟨fit.cellsOf,fun fuel us d ps hp hs hd => ?_⟩
  cases fuel with
  | zero=>simp [DataW.trod] at hd
  | succ fuel=>
   unfold DataW.trod at hd
   rw [fit.dG] at hd
   cases ty with
   | bool=>
    cases dsc <;> simp [bj] at hsh
    split at hd
    case h_1 _ _ b _=>exact ⟨b,rfl⟩
    all_goals simp_all
   | int k=>
    cases dsc <;> simp [bj] at hsh
    subst hsh
    split at hd
    case h_2 _ _ k1 k2 x h0=>
     cases h0
     split at hd
     ·rename_i h1
      obtain ⟨rfl,h1⟩:=h1
      simp only [Lit.wf,Bool.and_eq_true,decide_eq_true_eq] at h1
      exact ⟨x,rfl,h1⟩
     ·cases hd
    all_goals simp_all
   | str=>
    cases dsc <;> simp [bj] at hsh
    split at hd
    case h_4 _ _ s _=>
     split at hd
     ·rename_i h1
      refine ⟨s.data.toList,?_,?_⟩
      ·rw [Array.toArray_toList]
      ·unfold maxLen at h1
       unfold aH
       rw [Array.length_toList]
       exact h1
     ·cases hd
    all_goals simp_all
   | err=>simp [Ty.plain] at hp
   | cO=>simp [Ty.plain] at hp
   | unit=>
    cases dsc <;> simp [bj] at hsh
    rename_i fs
    simp only at hd
    split at hd
    ·rename_i hl
     rw [fit.cellsOf] at hl
     refine ⟨(),?_⟩
     exact List.length_eq_zero_iff.1 hl
    ·cases hd
   | prod a b=>
    cases dsc <;> simp [bj] at hsh
    rename_i fs
    simp only at hd
    split at hd
    ·rename_i hl
     rw [fit.cellsOf] at hl
     cases hxs:fs.toList.mapM (fun f=>DataW.trod enc P w base sp held fuel f.type ((us.drop f.offset).take (P.cellsOf f.type))) with
     | none=>rw [hxs] at hd;simp at hd
     | some xs=>
      obtain ⟨x,hx⟩:=yK (fun t ty hf=>⟨(ih t ty hf).1,(ih t ty hf).2 fuel⟩) _ _ _ _ hsh hp hs hxs (by omega)
      exact ⟨x,by simpa using hx⟩
    ·cases hd
   | slice e=>
    cases dsc <;> simp [bj] at hsh
    rename_i te
    simp only [Ty.low,Bool.and_eq_true] at hs
    have hpos:=gO hs.1
    obtain ⟨hce,hel⟩:=ih te e hsh
    split at hd
    case h_7=>exact ⟨[],_,rfl,by simp [aH], .inl ⟨rfl,_,_,rfl⟩⟩
    case h_8 _ _ te' b l c h0=>
     cases h0
     simp only at hd
     split at hd
     case isFalse=>cases hd
     rename_i hcond
     obtain ⟨hb,hlc,hcm⟩:=hcond
     obtain ⟨es,hes,_⟩:=Option.bind_eq_some_iff.1 hd
     rw [hce] at hes
     have hlen:=mapM_some_length hes
     simp only [List.length_range] at hlen
     by_cases hl0:l=0
     ·subst hl0
      exact ⟨[],_,rfl,by simp [aH], .inl ⟨rfl,_,_,rfl⟩⟩
     have hspot:b.spot=none:=by
      have h1:=mapM_some_get hes 0 0 (by rw [List.getElem?_range (by omega)])
      rw [List.getElem?_eq_getElem (by omega)] at h1
      obtain ⟨us,hu,hd1⟩:=Option.bind_eq_some_iff.1 h1
      obtain ⟨_,q1,q2⟩:=World.cells?_some hu
      have q3:=q2 0 hpos
      rw [List.getElem?_eq_getElem (by omega)] at q3
      have e0:(b.add (0 * e.size)).add 0=b:=by simp [Addr.add]
      rw [e0] at q3
      unfold World.cell? at q3
      split at q3
      ·cases hb0:b.spot with
       | none=>rfl
       | some k=>rw [hb0] at q3;simp at q3
      ·cases q3
     obtain ⟨bb,oo,so⟩:=b
     simp only at hspot
     subst hspot
     have hget:∀i,i < l->∃x us,R eT e x fB w us/\Row fB w bb (oo + i * e.size) us:=by
      intro i hi
      have h1:=mapM_some_get hes i i (by simp [hi])
      rw [List.getElem?_eq_getElem (by omega)] at h1
      obtain ⟨us,hu,hd1⟩:=Option.bind_eq_some_iff.1 h1
      obtain ⟨_,q1,q2⟩:=World.cells?_some hu
      obtain ⟨x,hx⟩:=hel fuel us (es[i]'(by omega)).1 (es[i]'(by omega)).2 hp hs.2 hd1
      refine ⟨x,us,hx,fun j u hj=>⟨?_,id⟩⟩
      have hjl:j < us.length:=by
       rcases Nat.lt_or_ge j us.length with h | h
       ·exact h
       ·rw [List.getElem?_eq_none h] at hj;cases hj
      have:=q2 j (by omega)
      rw [Addr.add_lit,Addr.add_lit] at this
      rw [this,hj]
     let xs:List (D e):=(List.range l).map fun i=>if h:i < l then (hget i h).choose else bF e
     have hxl:xs.length=l:=by simp [xs]
     have hxi:∀i y,xs[i]?=some y->∃us,R eT e y fB w us/\Row fB w bb (oo + i * e.size) us:=by
      intro i y hy
      have hi:i < l:=by
       rcases Nat.lt_or_ge i l with h | h
       ·exact h
       ·rw [List.getElem?_eq_none (by omega)] at hy;cases hy
      have:xs[i]?=some (hget i hi).choose:=by simp [xs,hi]
      rw [this] at hy
      cases hy
      exact (hget i hi).choose_spec
     refine ⟨xs,_,rfl,?_, .inr ⟨bb,oo,c,?_,?_,hxi⟩⟩
     ·rw [hxl];unfold maxLen at hcm;unfold aH;omega
     ·rw [hxl]
     ·rw [hxl];exact hlc
    all_goals simp_all
theorem EI {n:Nat} {t:TypeId} {ty:Ty} (hf:fits P n t ty=true) (hp:ty.plain=true) (hlow:ty.low=true) {r:Reach} {b:Nat} {v:Value} (hval:Value.okWide P w r b t v) {d:DataW H} {ps:List MemPlace}
  (hd:DataW.Trod enc P w base sp held t v d ps):∃x,VR eT ty x fB w v:=by
 obtain ⟨m,i,dsc,hm,fit,hsh⟩:=ft hf
 obtain ⟨fuel,hd⟩:=hd
 have key:∃x,R eT ty x fB w v.cells.toList:=(Bp (eT:=eT) n t ty hf).2 fuel _ _ _ hp hlow hd
 unfold Value.okWide at hval
 rw [fit.dG] at hval
 have one:ty.one=true->Cell.okWide P w r b t v->(v.cells.toList = [v])->∃x,VR eT ty x fB w v:=by
  intro h1 h2 h3
  rw [h3] at key
  obtain ⟨x,hx⟩:=key
  exact ⟨x,VR.bt h1 hx⟩
 have agg:ty.one=false->(∃cs,v = .agg cs/\cs.size=P.cellsOf t/\Row.okWide P w r b t cs)->∃x,VR eT ty x fB w v:=by
  rintro h1 ⟨cs,rfl,_,ts,_,_,h2⟩
  obtain ⟨x,hx⟩:=key
  refine ⟨x,?_⟩
  unfold VR
  rw [if_neg (by simp [h1])]
  exact ⟨cs,rfl,hx⟩
 cases ty with
 | err=>simp [Ty.plain] at hp
 | cO=>simp [Ty.plain] at hp
 | prod a b=>cases dsc <;> simp [bj] at hsh;exact agg rfl hval
 | unit=>cases dsc <;> simp [bj] at hsh;exact agg rfl hval
 | bool=>
  cases dsc <;> simp [bj] at hsh
  refine one rfl hval ?_
  cases v <;> simp [Cell.okWide,Cell.ok,fit.dG,Value.cells] at hval ⊢
 | int k=>
  cases dsc <;> simp [bj] at hsh
  refine one rfl hval ?_
  cases v <;> simp [Cell.okWide,Cell.ok,fit.dG,Value.cells] at hval ⊢
 | str=>
  cases dsc <;> simp [bj] at hsh
  refine one rfl hval ?_
  cases v <;> simp [Cell.okWide,Cell.ok,fit.dG,Value.cells] at hval ⊢
 | slice e=>
  cases dsc <;> simp [bj] at hsh
  refine one rfl hval ?_
  cases v <;> simp [Cell.okWide,Cell.ok,fit.dG,Value.cells] at hval ⊢
def mQ (P:Program) (n:Nat):List TypeId->List Ty->Bool
 | [],[]=>true
 | t :: ts,ty :: tys=>fits P n t ty && ty.plain && ty.low && mQ P n ts tys
 | _,_=>false
theorem C0 {n:Nat} {r:Reach} {b:Nat}:∀(ts:List TypeId) (tys:List Ty) (vs:List Value) (ds:List (DataW H)) (ps:List MemPlace),mQ P n ts tys=true->
  (∀(j:Nat) t v,ts[j]?=some t->vs[j]?=some v->Value.okWide P w r b t v)->DataW.TrodAll enc P w base sp held ts vs ds ps->∃xs,fA eT fB w tys xs vs:=by
 intro ts
 induction ts with
 | nil=>
  intro tys vs ds ps hf hv h
  cases tys <;> simp [mQ] at hf
  cases vs <;> cases ds <;> simp [DataW.TrodAll] at h
  exact ⟨(),rfl⟩
 | cons t ts ih=>
  intro tys vs ds ps hf hv h
  cases tys <;> simp [mQ] at hf
  rename_i ty tys
  obtain ⟨⟨⟨h1,h2⟩,h3⟩,h4⟩:=hf
  cases vs <;> cases ds <;> simp [DataW.TrodAll] at h
  rename_i v vs d ds
  obtain ⟨p,hp,q,hq,_⟩:=h
  obtain ⟨x,hx⟩:=EI (eT:=eT) h1 h2 h3 (hv 0 t v rfl rfl) hp
  obtain ⟨xs,hxs⟩:=ih tys vs ds q h4 (fun j t' v' h1 h2=>hv (j + 1) t' v' h1 h2) hq
  cases tys with
  | nil=>exact ⟨x,v,by rw [show vs = [] from hxs],hx⟩
  | cons ty' tys=>exact ⟨(x,xs),v,vs,rfl,hx,hxs⟩
theorem Bq (hl:laidOutB P=true) {W W':World} (hb:Below W.heap.size W W'):∀(ts:List TypeId) (vs:List Value) (ds:List (DataW H)) (ps:List MemPlace),(ts.all fun t=>P.readableRec t && Nat.blt t P.types.size)=true->
  DataW.TrodAll enc P W 0 (fun _=>true) true ts vs ds ps->(∀x∈ps,x.block < W.heap.size)->DataW.TrodAll enc P W' 0 (fun b=>decide (b < W.heap.size)) true ts vs ds ps:=by
 intro ts
 induction ts with
 | nil=>intro vs ds ps _ h _;cases vs <;> cases ds <;> simp [DataW.TrodAll] at h ⊢;exact h
 | cons t ts ih=>
  intro vs ds ps hr h hlt
  simp only [List.all_cons,Bool.and_eq_true] at hr
  cases vs <;> cases ds <;> simp only [DataW.TrodAll] at h ⊢
  rename_i v vs d ds
  obtain ⟨p,q,hp,hq,rfl⟩:=h
  exact ⟨p,q,WideElems.Trod_stays hl hr.1.1 (gO hr.1.2) hp (fun x hx=>hb.same (hlt x (by simp [hx]))) (fun x hx=>by simpa using hlt x (by simp [hx])),ih vs ds q hr.2 hq (fun x hx=>hlt x (by simp [hx])),rfl⟩
theorem w7:∀{ts:List TypeId} {vs:List Value} {ds:List (DataW H)} {ps:List MemPlace},DataW.TrodAll enc P w base sp held ts vs ds ps->vs.length=ts.length/\ds.length=ts.length
 | [],[],[],_,_=>⟨rfl,rfl⟩
 | _ :: _,_ :: _,_ :: _,_,⟨_,_,_,h,_⟩=>by simp [w7 h]
theorem C1 {X:Ext} {C:Checked} {f:FuncId} {fn:Func} {s:ChangeSpec} {tys:List Ty} {pre:HL tys->Prop} (hs:s.vars = []) (hl:laidOutB C.prog=true)
  (hsp:∀ds:List (DataW H),ds.length=tys.length->s.fn H ds = {results:=[.lit (.bool true)],args:=ds})
  {n:Nat} (hf:mQ C.prog n fn.params.toList tys=true) (hr:(fn.params.toList.all fun t=>C.prog.readableRec t && Nat.blt t C.prog.types.size)=true)
  {tb:TypeId} (hres:fn.resultTypes = #[tb]) (hb:C.prog.underlying tb=some .bool)
  (h:bq C.prog eT X f tys [.bool] pre (fun _ y=>y=true))
  {W:World} {base:Nat} {args:Array Value} {ds gs:List (DataW H)} {before:List MemPlace}
  (hval:∀(j:Nat) t v,fn.params[j]?=some t->args[j]?=some v->Value.okWide C.prog W .any base t v)
  (hW:DataW.Whole enc C.prog fn.params.toList s.vars false W args.toList ds gs before)
  (hG:X.oA W) (hpre:∀xs,fA eT fB W tys xs args.toList->pre xs) :
  Calls C.prog f args W fun e W'=>∃v,e = .returned v/\s.post enc C.prog fn false true false false W args v W':=by
 have hW0:=hW
 obtain ⟨p,q,hA,hV,rfl,_,_⟩:=hW
 rw [hs] at hV
 obtain ⟨rfl,rfl⟩:gs = []/\q = []:=by cases gs <;> simp [DataW.TrodVars] at hV;exact ⟨rfl,hV⟩
 obtain ⟨xs,hxs⟩:=C0 (eT:=eT) _ _ _ _ _ hf (fun j t v h1 h2=>hval j t v (by rw [<-Array.getElem?_toList];exact h1) (by rw [<-Array.getElem?_toList];exact h2)) hA
 have:=h.ok fB W xs args.toList hG (fun _ _ h=>h.elim) hxs (hpre xs hxs)
 rw [Array.toArray_toList] at this
 refine this.mono ?_
 rintro e W' ⟨us,ys,rfl,rfl,hr',hbel⟩
 obtain ⟨u,rfl,hu⟩:=hr'
 have hu:u = .bool true:=by
  have:=VR.one rfl hu
  simpa [R] using this
 subst hu
 have hlen:ds.length=tys.length:=by
  have h1:=hxs.length
  have h2:=w7 hA
  omega
 simp only [List.append_nil] at hW0 ⊢
 have hlt:∀x∈p,x.block < W.heap.size:=hW0.lt
 refine ⟨_,rfl,ds,[],p,[],p,[],hW0,?_,?_,?_,hbel.frame _,fun hh=>by cases hh⟩
 ·rw [List.append_nil,hsp ds hlen,hres]
  exact ⟨[],[],shut_bool hb true,rfl,rfl⟩
 ·rw [List.append_nil,hsp ds hlen]
  exact Bq hl hbel _ _ _ _ hr hA hlt
 ·rw [List.append_nil,hsp ds hlen,hs]
  rfl
end
end Go.Vg

namespace Go.Vg
open Go.RowKit
theorem holds_of {v:VC} {p:Prop} (e:v.holds=p) (h:p):v.holds:=by rw [e];exact h
section
variable {A B:Prop}
theorem iD {p:Prop} [Decidable p] (f:p->A) (g:¬ p->B):(decide p=true->A)/\(decide p=false->B):=⟨fun h=>f (of_decide_eq_true h),fun h=>g (of_decide_eq_false h)⟩
theorem iL {a b:Int} (f:a < b->A) (g:b<=a->B):(decide (a < b)=true->A)/\(decide (a < b)=false->B):=iD f fun h=>g (Int.not_lt.1 h)
theorem iE {a b:Int} (f:a<=b->A) (g:b < a->B):(decide (a<=b)=true->A)/\(decide (a<=b)=false->B):=iD f fun h=>g (Int.not_le.1 h)
theorem iB {b:Bool} (f:b=false->A) (g:b=true->B):((!b)=true->A)/\((!b)=false->B):=⟨fun h=>f (Bool.not_eq_true' b▸h),fun h=>g (Bool.not_eq_false' b▸h)⟩
theorem iQ {α:Type} [BEq α] [LawfulBEq α] {a b:α} (f:a=b->A) (g:¬ a=b->B):((a == b)=true->A)/\((a == b)=false->B):=⟨fun h=>f (eq_of_beq h),fun h=>g fun e=>by rw [e,beq_self_eq_true] at h;cases h⟩
theorem iN {α:Type} [BEq α] [LawfulBEq α] {a b:α} (f:¬ a=b->A) (g:a=b->B):((a != b)=true->A)/\((a != b)=false->B):=
 ⟨fun h=>f fun e=>(by rw [e,bne_self_eq_false] at h;cases h),fun h=>g (by simpa using h)⟩
end
def Hz:Ext where
 rel k t x l w:=match k with
  | 0=>e8 t x l w
  | 1=>mc t x l w
  | 2=>nj t x l w
  | _=>False
 inside {k t x l w} h:=by
  match k,h with
  | 0,h=>exact e8.inside h
  | 1,h=>exact mc.inside h
  | 2,h=>exact nj.inside h
 ptr {k t x l w} hk h:=by
  match k,hk,h with
  | 0,hk,_=>omega
  | 1,hk,_=>omega
  | 2,_,h=>obtain ⟨rfl,b,p,v,h⟩:=h;exact ⟨_,h.lv⟩
 deep:=Iff.rfl
 map:=Iff.rfl
 FF:=Iff.rfl
 frame {k t x l w w'} h hb:=by
  match k,h with
  | 0,h=>exact e8.frame h hb
  | 1,h=>exact mc.frame h hb
  | 2,h=>exact nj.frame h hb
 oA _:=True
 zX:=[]
 FG _ _ hb:=by cases hb
 vZ _ _:=trivial
def codeOf (fn:Func):Code:=fn.body.getD .skip
def ca (B:Cx) (Γ:List (FuncId × (Bool × bp))) (fn:Func) (anns:ck) (ts rts:List Ty) (post:HL ts->HL rts->Prop) (xs:HL ts):VC:=
 An B Γ fn.ntmps anns fn.results.toList (codeOf fn) ts rts post xs
def mR (fn:Func) (n:Nat):Bool:=fn.body.isSome && !(fn.name == "runtime.NumGoroutine") && Nat.ble n fn.ntmps
def bz (P:Program) (B:Cx) (X:Ext) (Γ:List (FuncId × (Bool × bp))):Prop:=∀N,iy P (lk B Γ N) X
section
variable {P:Program} {B:Cx} {X:Ext} {Γ:List (FuncId × (Bool × bp))}
theorem bE {f:FuncId} {fn:Func} {ts rts:List Ty} {pre:HL ts->Prop} {post:HL ts->HL rts->Prop} (hok:bz P B X Γ) (hf:P.funcs[f]?=some fn) (hc:mR fn ts.length=true)
  (anns:HL ts->ck) (h:∀xs,dH ts xs->pre xs->(ca B Γ fn (anns xs) ts rts post xs).holds):bq P B.eT X f ts rts pre post:=by
 simp only [mR,Bool.and_eq_true,Bool.not_eq_true'] at hc
 obtain ⟨⟨h1,h2⟩,h3⟩:=hc
 refine Bn (hok fn.ntmps) hf (c:=codeOf fn) ?_ h2 rfl anns (Nat.le_of_ble_eq_true h3) h
 unfold codeOf
 cases hb:fn.body with
 | none=>rw [hb] at h1;cases h1
 | some c=>rfl
theorem bV (h:TyOK P B):bz P B X []:=fun _=>Gg h
theorem aT {f:FuncId} {q:Bool} {sp:bp} (h:cH P B.eT X f q sp) (hΓ:bz P B X Γ):bz P B X ((f,q,sp) :: Γ):=fun N=>EH h (hΓ N)
def kL (B:Cx) (l:List Nat):Cx:={B with hint:=l}
theorem bz.hint {l:List Nat} (h:bz P B X Γ):bz P (kL B l) X Γ:=fun N=>
 {fit:=(h N).fit,hP:=(h N).hP,eD:=(h N).eD,mixed:=(h N).mixed,arr:=(h N).arr,np:=(h N).np,eqs:=(h N).eqs,ir:=(h N).ir,ke:=(h N).ke,lH:=(h N).lH,calls:=(h N).calls}
def Br (B:Cx):Cx:={B with wr:=true}
theorem bz.wrap (h:bz P B X Γ):bz P (Br B) X Γ:=fun N=>
 {fit:=(h N).fit,hP:=(h N).hP,eD:=(h N).eD,mixed:=(h N).mixed,arr:=(h N).arr,np:=(h N).np,eqs:=(h N).eqs,ir:=(h N).ir,ke:=(h N).ke,lH:=(h N).lH,calls:=(h N).calls}
theorem ll {α:Type} {l:List (Nat × α)} {n:Nat} {x:α} (h:look l n=some x):(n,x)∈l:=by
 induction l with
 | nil=>cases h
 | cons p r ih=>
  obtain ⟨m,y⟩:=p
  rw [bm] at h
  split at h
  ·rename_i e;subst e;cases h;simp
  ·exact List.mem_cons_of_mem _ (ih h)
def C2 (P:Program) (B:Cx) (n:Nat):Bool:=
 (B.τ.all fun p=>fits P n p.1 p.2) &&
 (match P.underlying B.eT with | some (.int .i64)=>true | _=>false) &&
 (match P.info? B.eT with | some i=>(match i.zero with | some (.int .i64 0)=>true | _=>false) | none=>false) &&
 P.follows .mixedOrders &&
 (B.qU.all fun p=>match P.underlying p.1 with | some (.array m e)=>Nat.beq m p.2.1 && Nat.beq e p.2.2 | _=>false) &&
 (B.qU.all fun p=>match look B.τ p.2.2 with
  | some e=>(match P.info? p.1 with
   | some i=>(match i.zero with
    | some z=>jx e p.2.1 z.cells.toList
    | none=>false)
   | none=>false)
  | none=>true) &&
 B.eqs.all (AV P) && B.ir.all (we P) &&
 (B.ke.all fun p=>match P.underlying p.1 with
  | some (.map k e)=>Nat.beq k p.2.1 && Nat.beq e p.2.2 && (match P.underlying p.2.1 with | some .string=>true | _=>false) &&
   (match P.info? p.2.2 with
    | some i=>(match i.zero with | some (.agg _)=>true | _=>false)
    | none=>false)
  | _=>false) &&
 (B.lH.all fun p=>match P.info? p.1 with
  | some i=>(match i.zero with
   | some (.agg cs)=>(match cs.toList with
    | [.pointer none, .slice none 0 0]=>true
    | _=>false)
   | _=>false)
  | none=>false)
theorem Gh {n:Nat} (h:C2 P B n=true):TyOK P B:=by
 simp only [C2,Bool.and_eq_true,List.all_eq_true] at h
 obtain ⟨⟨⟨⟨⟨⟨⟨⟨⟨h1,h2⟩,h3⟩,h4⟩,h5⟩,h6⟩,h7⟩,h8⟩,h9⟩,h10⟩:=h
 refine ⟨fun t ty hl=>⟨n,h1 _ (ll hl)⟩,?_,?_,h4,fun t ht=>h7 t (nI ht),fun t ht=>h8 t (nI ht),fun t m e hl => ?_,fun t k e hl => ?_,fun t e hl => ?_,fun t m te e hl he => ?_⟩
 ·split at h2
  ·assumption
  ·cases h2
 ·split at h3
  ·rename_i i hi
   refine ⟨i,hi,?_⟩
   split at h3
   ·assumption
   ·cases h3
  ·cases h3
 ·have:=h5 _ (ll hl)
  simp only at this
  split at this
  ·rename_i m' e' hu
   simp only [Bool.and_eq_true] at this
   rw [hu,Nat.eq_of_beq_eq_true this.1,Nat.eq_of_beq_eq_true this.2]
  ·cases this
 ·have:=h9 _ (ll hl)
  simp only at this
  split at this
  ·rename_i k' e' hu
   simp only [Bool.and_eq_true] at this
   obtain ⟨⟨⟨e1,e2⟩,e3⟩,e4⟩:=this
   rw [hu,Nat.eq_of_beq_eq_true e1,Nat.eq_of_beq_eq_true e2]
   refine ⟨rfl,?_,?_⟩
   ·split at e3
    ·assumption
    ·cases e3
   ·split at e4
    ·rename_i i hi
     split at e4
     ·rename_i cs hz;exact ⟨i,cs,hi,hz⟩
     ·cases e4
    ·cases e4
  ·cases this
 ·have:=h10 _ (ll hl)
  simp only at this
  split at this
  ·rename_i i hi
   split at this
   ·rename_i cs hz
    split at this
    ·rename_i hr
     exact ⟨i,hi,by rw [hz];congr 2;exact Array.toList_inj.1 hr⟩
    ·cases this
   ·cases this
  ·cases this
 ·have:=h6 _ (ll hl)
  simp only [he] at this
  split at this
  ·rename_i i hi
   split at this
   ·rename_i z hz
    exact ⟨i,z,hi,hz,this⟩
   ·cases this
  ·cases this
end
end Go.Vg

namespace Go.Vg
open Go.RowKit
def jE:Nat->List bx->List (Nat × SV)
 | _,[]=>[]
 | k,a :: r=>(k, .s a) :: jE (k + 1) r
def eL (B:Cx) (Γ:List (FuncId × (Bool × bp))) (fn:Func) (anns:ck):bp:=fun args st K=>
 match Nat.ble args.length fn.ntmps with
 | true=>Bm (lk B Γ fn.ntmps) anns fn.results.toList (codeOf fn) {env:=jE 0 args,aC:=st.aC,next:=st.next} fun vs st'=>K (lV vs) {st' with env:=st.env}
 | false => .ff
theorem qA {eT:TypeId} {S:aX}:∀{args:List bx} {vs:List Value} (k:Nat),bM eT S args vs->∀t sv,look (jE k args) t=some sv->k<=t/\∃v,vs[t - k]?=some v/\bX eT S sv v:=by
 intro args
 induction args with
 | nil=>intro vs k _ t sv h;simp [jE,look] at h
 | cons a r ih=>
  intro vs k hr t sv h
  cases hr with
  | cons h1 h2=>
   simp only [jE,bm] at h
   split at h
   ·rename_i e
    cases h
    subst e
    exact ⟨Nat.le_refl _,_,by simp,h1⟩
   ·rename_i e
    obtain ⟨k1,v,k2,k3⟩:=ih (k + 1) h2 t sv h
    refine ⟨by omega,v,?_,k3⟩
    rw [show t - k=(t - (k + 1)) + 1 by omega]
    simpa using k2
theorem eA {P:Program} {B:Cx} {X:Ext} {Γ:List (FuncId × (Bool × bp))} (hok:bz P B X Γ) {f:FuncId} {fn:Func} (hf:P.funcs[f]?=some fn) (hg:mR fn 0=true) (anns:ck) :
  cH P B.eT X f false (eL B Γ fn anns):=by
 simp only [mR,Bool.and_eq_true,Bool.not_eq_true'] at hg
 obtain ⟨⟨h1,h2⟩,_⟩:=hg
 obtain ⟨c,hc⟩:=Option.isSome_iff_exists.1 h1
 refine ⟨⟨fn,hf,by rw [hc];rfl,h2⟩,fun O st loc w args vs K hK g hO ha => ?_⟩
 unfold eL at hK
 split at hK
 case h_2=>exact hK.elim
 rename_i hlen
 have hlen:=Nat.le_of_ble_eq_true hlen
 have hcode:codeOf fn=c:=by unfold codeOf;rw [hc];rfl
 rw [hcode] at hK
 have:=mq (X:=X) (hok fn.ntmps) hf hc (by rfl) anns (O:=O) (loc:=loc) (w:=w) (args:=vs.toArray)
  (st:={env:=jE 0 args,aC:=st.aC,next:=st.next}) (by rw [List.size_toArray,<-ha.len];exact hlen) g hO
  (fun t sv h=>by
   obtain ⟨_,v,k1,k2⟩:=qA 0 ha t sv h
   exact ⟨v,by simpa using k1,k2⟩) hK
 refine this.mono ?_
 rintro e w' ⟨rs,us,st',loc',he,hk,hr,g',tr⟩
 exact ⟨_,_,_,loc',he,hk,rfl,(fun h=>by cases h),g',tr,pa hr⟩
def FO (st:St) (t k:Nat):Nat:=
 match look st.env t with
 | some (.s (.one (.fn _ caps)))=>caps.getD k 0
 | _=>0
def G9 (ty:Ty) (st:St) (n:Nat):D ty:=
 match look st.aC n with
 | some (.cells _ cs)=>match fQ ty cs with
  | some (x,_)=>x
  | none=>bF ty
 | _=>bF ty
end Go.Vg

namespace Go.Vg
open Go.RowKit
def ez:List Cl->St->List bx->List bx × St
 | .d _ :: r,st,v :: vs=>match rq st v with
  | (v',st1)=>match ez r st1 vs with
   | (vs',st2)=>(v' :: vs',st2)
 | .obj _ :: r,st,v :: vs=>match ez r st vs with
  | (vs',st2)=>(v :: vs',st2)
 | .c7 :: r,st,v :: vs=>match ez r st vs with
  | (vs',st2)=>(v :: vs',st2)
 | _,st,vs=>(vs,st)
def ko:List (Nat × OC)->List Nat->List (Nat × OC)
 | l,[]=>l
 | l,n :: r=>ko (kY l n) r
def lW:Ob->Ob->Bool
 | .box T _, .box T' _=>Nat.beq T T'
 | .ext k t, .ext k' t'=>Nat.beq k k' && Ty.beq t t'
 | .row true t, .row true t'=>Ty.beq t t'
 | _,_=>false
def gj:List Ob->List Ob->List Nat->Nat->List Nat
 | o :: os,o' :: os',n :: ns,b=>(match lW o o' with | true=>n | false=>b) :: gj os os' ns (b + 1)
 | _,_ :: os',_,b=>b :: gj [] os' [] (b + 1)
 | _,[],_,_=>[]
def tM:Nat->List Ob->List Ob->List (Nat × Nat)
 | k,o :: os,o' :: os'=>match lW o o' with
  | true=>(k,k) :: tM (k + 1) os os'
  | false=>tM (k + 1) os os'
 | _,_,_=>[]
def nS:Nat->List Ob->List Ob->List Nat->Bool
 | k,o :: os,o' :: os',n :: ns=>(match lW o o' with | true=>Nat.beq n k | false=>true) && nS (k + 1) os os' ns
 | _,_,_,_=>true
structure Alt (aJ:List Ob) (args:List Cl):Type 1 where
 cv:Bool:=false
 bk:List Ob
 res:List Cl
 ok:CD args->PD aJ->Prop:=fun _ _=>True
 out:CD args->PD aJ->PD bk
 ret:CD args->PD aJ->CD res
section
variable {aJ:List Ob} {args:List Cl}
def vV (al:Alt aJ args) (a:CD args) (x:PD aJ) (ν:List Nat) (st:St) (K:SV->St->VC):VC:=
 match nodupB (gj aJ al.bk ν st.next) && eJ (st.next + al.bk.length) (gj aJ al.bk ν st.next) with
 | true => .imp (al.ok a x) (K (lV (rl (de al.bk (al.out a x) (gj aJ al.bk ν st.next)) al.res (al.ret a x)))
   {env:=st.env,aC:=fz (de al.bk (al.out a x) (gj aJ al.bk ν st.next)) al.bk (al.out a x) (gj aJ al.bk ν st.next)++ko st.aC ν,next:=st.next + al.bk.length})
 | false => .ff
def sG (a:CD args) (x:PD aJ) (ν:List Nat) (st:St) (K:SV->St->VC):List (Alt aJ args)->VC
 | [] => .leaf True
 | [al]=>vV al a x ν st K
 | al :: al2 :: r => .both (vV al a x ν st K) (sG a x ν st K (al2 :: r))
def bK (aJ:List Ob) (args:List Cl) (pre:CD args->PD aJ->Prop) (alts:List (Alt aJ args)):bp:=fun as st K=>
 match ez args st as with
 | (as,st)=>match FL aJ args as st.aC [] with
  | some ν=>match nodupB ν,fT false st.aC aJ ν args as,b4 false st.aC aJ ν aJ ν with
   | true,some a,some x=>ED (gb aJ x args as++dQ aJ x st.aC aJ ν) (.and (pre a x) (sG a x ν st K alts))
   | _,_,_ => .ff
  | none => .ff
def kS (aJ:List Ob) (args:List Cl) (a:CD args) (x:PD aJ):St:=
 {env:=jE 0 (rl (de aJ x (upto 0 aJ.length)) args a),aC:=fz (de aJ x (upto 0 aJ.length)) aJ x (upto 0 aJ.length),next:=aJ.length}
def p7 (a:CD args) (x:PD aJ) (vs:List bx) (st:St):List (Alt aJ args)->VC
 | [] => .ff
 | al :: r=>match ez al.res st vs with
  | (vs',st')=>match FL al.bk al.res vs' st'.aC (tM 0 aJ al.bk) with
   | some ν=>match nodupB ν && (nS 0 aJ al.bk ν && (!al.cv || (lQ aJ && (cE al.bk && dR al.res)))),fT al.cv st'.aC al.bk ν al.res vs',b4 al.cv st'.aC al.bk ν al.bk ν with
    | true,some b,some y => .leaf (Bd (gb al.bk y al.res vs'++dQ al.bk y st'.aC al.bk ν++[al.ok a x/\y=al.out a x/\b=al.ret a x]))
    | _,_,_=>p7 a x vs st r
   | none=>p7 a x vs st r
def fg (B:Cx) (Γ:List (FuncId × (Bool × bp))) (fn:Func) (anns:ck) (aJ:List Ob) (args:List Cl) (alts:List (Alt aJ args)) (a:CD args) (x:PD aJ):VC:=
 Bm (lk B Γ fn.ntmps) anns fn.results.toList (codeOf fn) (kS aJ args a x) fun vs st'=>p7 a x vs st' alts
def kD:(cls:List Cl)->CD cls->Prop
 | [],_=>True
 | .d t :: r,x=>wf t x.1/\kD r x.2
 | .obj _ :: r,x=>kD r x
 | .c7 :: r,x=>kD r x
end
section
variable {eT:TypeId} {X:Ext}
theorem ox {k:Nat}:∀{l:List Nat} {n:Nat},eJ k l=true->n∈l->n < k
 | [],_,_,h=>by simp at h
 | m :: r,n,h,hn=>by
  simp only [eJ,Bool.and_eq_true] at h
  rcases List.mem_cons.1 hn with e | hn
  ·rw [e];exact gO h.1
  ·exact ox h.2 hn
theorem fO (m:Nat):∀(ns:List Nat) (l:List (Nat × OC)),look (ko l ns) m=if m∈ns then none else look l m
 | [],l=>by simp [ko]
 | n :: r,l=>by
  simp only [ko]
  rw [fO m r,fZ]
  by_cases h1:m∈r
  ·simp [h1]
  ·by_cases h2:n=m
   ·subst h2;simp
   ·have:¬ m=n:=fun e=>h2 e.symm
    simp [h1,h2,this]
theorem lX:∀{aJ bk:List Ob} {ν:List Nat} {b i n:Nat},(gj aJ bk ν b)[i]?=some n->
  (∃o o',aJ[i]?=some o/\bk[i]?=some o'/\lW o o'=true/\ν[i]?=some n)\/b<=n
 | aJ,[],ν,b,i,n,h=>by
  cases aJ <;> cases ν <;> simp [gj] at h
 | [],o' :: os',ν,b,i,n,h=>by
  simp only [gj] at h
  cases i with
  | zero=>simp at h;exact .inr (by omega)
  | succ i=>
   rcases lX (aJ:=[]) (ν:=[]) (by simpa using h) with ⟨o,_,h1,_⟩ | h1
   ·simp at h1
   ·exact .inr (by omega)
 | o :: os,o' :: os',[],b,i,n,h=>by
  simp only [gj] at h
  cases i with
  | zero=>simp at h;exact .inr (by omega)
  | succ i=>
   rcases lX (aJ:=[]) (ν:=[]) (by simpa using h) with ⟨o,_,h1,_⟩ | h1
   ·simp at h1
   ·exact .inr (by omega)
 | o :: os,o' :: os',n0 :: ns,b,i,n,h=>by
  simp only [gj] at h
  cases i with
  | zero=>
   simp only [List.getElem?_cons_zero,Option.some.injEq] at h
   split at h
   ·rename_i hk;exact .inl ⟨o,o',rfl,rfl,hk,by simp [h]⟩
   ·exact .inr (by omega)
  | succ i=>
   rcases lX (by simpa using h) with ⟨a,a',h1,h2,h3⟩ | h1
   ·exact .inl ⟨a,a',by simpa using h1,by simpa using h2,by simpa using h3⟩
   ·exact .inr (by omega)
theorem ln:∀{aJ bk:List Ob} {ν:List Nat} {b:Nat},(gj aJ bk ν b).length=bk.length
 | aJ,[],ν,b=>by cases aJ <;> cases ν <;> rfl
 | [],o' :: os',ν,b=>by simp [gj,ln]
 | o :: os,o' :: os',[],b=>by simp [gj,ln]
 | o :: os,o' :: os',n0 :: ns,b=>by simp [gj,ln]
theorem sH:∀{aJ bk:List Ob} {ν:List Nat} {k i n:Nat} {o o':Ob},nS k aJ bk ν=true->aJ[i]?=some o->bk[i]?=some o'->lW o o'=true->ν[i]?=some n->n=k + i
 | [],_,_,_,_,_,_,_,_,h,_,_,_=>by simp at h
 | _ :: _,[],_,_,_,_,_,_,_,_,h,_,_=>by simp at h
 | _ :: _,_ :: _,[],_,_,_,_,_,_,_,_,_,h=>by simp at h
 | a :: os,a' :: os',m :: ns,k,0,n,o,o',h,h1,h2,h3,h4=>by
  simp at h1 h2 h4
  subst h1;subst h2;subst h4
  simp only [nS,h3,Bool.and_eq_true] at h
  have:=Nat.eq_of_beq_eq_true h.1
  omega
 | a :: os,a' :: os',m :: ns,k,i + 1,n,o,o',h,h1,h2,h3,h4=>by
  simp only [nS,Bool.and_eq_true] at h
  have:=sH h.2 (by simpa using h1) (by simpa using h2) h3 (by simpa using h4)
  omega
theorem uB:∀{l:List Ob} {o:Ob} {t:Ty},lQ l=true->o∈l->o≠.tok t
 | [],_,_,_,h=>by simp at h
 | a :: r,o,t,h,ho=>by
  rcases List.mem_cons.1 ho with e | ho
  ·subst e;intro e;subst e;simp [lQ] at h
  ·exact uB (by cases a <;> simp_all [lQ]) ho
theorem p8 {S:aX} {F:Nat->Value->Prop}:∀{cls:List Cl} {x:CD cls} {vs:List Value},mj eT S F cls x vs->kD cls x
 | [],_,_,_=>trivial
 | .d t :: r,x,v :: vs,h=>⟨h.1.wf,p8 h.2⟩
 | .obj k :: r,x,v :: vs,h=>p8 (cls:=r) h.2
 | .c7 :: r,x,v :: vs,h=>p8 (cls:=r) h.2
theorem nT {S:aX} {F:Nat->Value->Prop}:∀{cls:List Cl} {x:CD cls} {vs:List Value},mj eT S F cls x vs->vs.length=cls.length
 | [],_,_,h=>by rw [show _ = [] from h];rfl
 | .d t :: r,x,v :: vs,h=>by simp [nT h.2]
 | .obj k :: r,x,v :: vs,h=>by simp [nT (cls:=r) h.2]
 | .c7 :: r,x,v :: vs,h=>by simp [nT (cls:=r) h.2]
theorem sJ {O:aD} {loc:Nat->Loc} {w:World}:∀(cls:List Cl) (xs:List bx) {st:St},Good eT X (aB O st loc w)->
  Tr (aB O st loc w) (aB O (ez cls st xs).2 loc w)/\Good eT X (aB O (ez cls st xs).2 loc w)/\(ez cls st xs).2.env=st.env/\
   ∀vs,bM eT (aB O st loc w) xs vs->bM eT (aB O (ez cls st xs).2 loc w) (ez cls st xs).1 vs:=by
 intro cls
 induction cls with
 | nil=>intro xs st g;exact ⟨Tr.refl _,g,rfl,fun vs h=>h⟩
 | cons cl r ih=>
  intro xs st g
  cases xs with
  | nil=>cases cl <;> exact ⟨Tr.refl _,g,rfl,fun vs h=>h⟩
  | cons x xs=>
   cases cl with
   | d t=>
    have g':Good (Cx.mk eT [] [] [] 0 [] [] [] false [] []).eT X (aB O st loc w):=g
    obtain ⟨t1,g1,e1,k1⟩:=nR g' x
    obtain ⟨t2,g2,e2,k2⟩:=ih xs g1
    refine ⟨t1.trans t2,g2,e2.trans e1,fun vs h => ?_⟩
    cases h with
    | cons h1 h3=>exact .cons ((k1 _ h1).tr t2) (k2 _ (h3.tr t1))
   | obj k=>
    obtain ⟨t2,g2,e2,k2⟩:=ih xs g
    refine ⟨t2,g2,e2,fun vs h => ?_⟩
    cases h with
    | cons h1 h3=>exact .cons (h1.tr t2) (k2 _ h3)
   | c7=>
    obtain ⟨t2,g2,e2,k2⟩:=ih xs g
    refine ⟨t2,g2,e2,fun vs h => ?_⟩
    cases h with
    | cons h1 h3=>exact .cons (h1.tr t2) (k2 _ h3)
end
end Go.Vg

namespace Go.Vg
open Go.RowKit
section
variable {X:Ext} {P:Program} {aJ:List Ob} {args:List Cl}
theorem sK {a:CD args} {x:PD aJ} {ν:List Nat} {st:St} {K:SV->St->VC}:∀{alts:List (Alt aJ args)},(sG a x ν st K alts).holds->∀al∈alts,(vV al a x ν st K).holds
 | [],_,al,h=>by simp at h
 | [al0],h,al,ha=>by simp at ha;subst ha;exact h
 | al0 :: al1 :: r,h,al,ha=>by
  rcases List.mem_cons.1 ha with e | ha
  ·subst e;exact h.1
  ·exact sK h.2 al ha
theorem uC {a:CD args} {x:PD aJ} {vs:List bx} {st:St}:∀{alts:List (Alt aJ args)},(p7 a x vs st alts).holds->∃al∈alts,∃ν,
  nodupB ν=true/\nS 0 aJ al.bk ν=true/\(al.cv=false\/(lQ aJ=true/\cE al.bk=true/\dR al.res=true))/\al.ok a x/\
  fT al.cv (ez al.res st vs).2.aC al.bk ν al.res (ez al.res st vs).1=some (al.ret a x)/\b4 al.cv (ez al.res st vs).2.aC al.bk ν al.bk ν=some (al.out a x)/\
  (∀p∈gb al.bk (al.out a x) al.res (ez al.res st vs).1,p)/\(∀p∈dQ al.bk (al.out a x) (ez al.res st vs).2.aC al.bk ν,p)
 | [],h=>h.elim
 | al :: r,h=>by
  have rest:(p7 a x vs st r).holds->∃al'∈al :: r,∃ν,
    nodupB ν=true/\nS 0 aJ al'.bk ν=true/\(al'.cv=false\/(lQ aJ=true/\cE al'.bk=true/\dR al'.res=true))/\al'.ok a x/\
    fT al'.cv (ez al'.res st vs).2.aC al'.bk ν al'.res (ez al'.res st vs).1=some (al'.ret a x)/\b4 al'.cv (ez al'.res st vs).2.aC al'.bk ν al'.bk ν=some (al'.out a x)/\
    (∀p∈gb al'.bk (al'.out a x) al'.res (ez al'.res st vs).1,p)/\(∀p∈dQ al'.bk (al'.out a x) (ez al'.res st vs).2.aC al'.bk ν,p):=fun h=>by
   obtain ⟨al',h1,h2⟩:=uC h
   exact ⟨al',by simp [h1],h2⟩
  simp only [p7] at h
  split at h
  ·rename_i ν hν
   split at h
   ·rename_i b y hc hb hy
    simp only [Bool.and_eq_true,Bool.or_eq_true,Bool.not_eq_true'] at hc
    obtain ⟨h1,h2,h3⟩:=hc
    have hall:=rm h
    have k3:al.ok a x/\y=al.out a x/\b=al.ret a x:=hall _ (List.mem_append_right _ (by simp))
    obtain ⟨k4,k5,k6⟩:=k3
    subst k5;subst k6
    obtain ⟨k1,_⟩:=eS.1 hall
    obtain ⟨k1,k2⟩:=eS.1 k1
    exact ⟨al,by simp,ν,h1,h2,h3,k4,hb,hy,k1,k2⟩
   ·exact rest h
  ·exact rest h
theorem EJ {B:Cx} {Γ:List (FuncId × (Bool × bp))} (hok:bz P B X Γ) {f:FuncId} {fn:Func} {c:Code} (hf:P.funcs[f]?=some fn) (hb:fn.body=some c) (hN:args.length<=fn.ntmps) {anns:CD args->PD aJ->ck}
  {pre:CD args->PD aJ->Prop} {alts:List (Alt aJ args)} (h:∀a x,kD args a->pre a x->(fg B Γ fn (anns a x) aJ args alts a x).holds)
  {O:aD} {st:St} {loc:Nat->Loc} {w:World} {as:List bx} {vs:List Value} {K:SV->St->VC} (g:Good B.eT X (aB O st loc w)) (hO:cu O w) (ha:bM B.eT (aB O st loc w) as vs)
  {ν:List Nat} {a:CD args} {x:PD aJ} (hnd:nodupB ν=true) (hga:fT false st.aC aJ ν args as=some a) (hx:b4 false st.aC aJ ν aJ ν=some x)
  (hp1:∀p∈gb aJ x args as,p) (hp2:∀p∈dQ aJ x st.aC aJ ν,p) (hpre:pre a x) (hK:(sG a x ν st K alts).holds) :
  Calls P f vs.toArray w fun e w'=>∃v sv st' loc',e = .returned v/\(K sv st').holds/\st'.env=st.env/\Good B.eT X (aB O st' loc' w')/\
   Tr (aB O st loc w) (aB O st' loc' w')/\bX B.eT (aB O st' loc' w') sv v:=by
 have hvals:=uk g hx hga ha hp1
 have hobsl:=kJ hx
 let us:=upto 0 aJ.length
 have hul:ν.length=us.length:=by rw [nK];exact hobsl.symm
 let O':aD:=fun b off=>O b off\/∃n oc,look st.aC n=some oc/\n∉ν/\b∈(loc n).bs/\oc.lo<=off
 let st0:=kS aJ args a x
 have hOin':cu O' w:=by
  rintro b off (h | ⟨n,oc,h1,_,h2,_⟩)
  ·exact hO b off h
  ·exact (g.obj n oc h1).2.inside b h2
 have hlo:∀n∈ν,∀oc,look st.aC n=some oc->lQ aJ=true->oc.lo=0:=by
  intro n hn oc h1 h2
  obtain ⟨o,oc',y,k1,k2,k3⟩:=fM hx hn
  rw [h1] at k2;cases k2
  have:=(kg k3 (fun _ => .any)).2.2.2 (fun t=>uB h2 k1) rfl
  cases oc <;> first | rfl | exact (this _ _ rfl).elim
 have hν:∀n∈ν,∃oc,look st.aC n=some oc:=fun n hn=>let ⟨_,oc,_,_,k,_⟩:=fM hx hn;⟨oc,k⟩
 let loc0:=cm us (ν.map loc) loc
 have hf0:∀k oc,look st0.aC k=some oc->∃(i n:Nat) (o:Ob) (y:OD o) (oc0:OC),ν[i]?=some n/\us[i]?=some k/\aJ[i]?=some o/\look st.aC n=some oc0/\eo false st.aC aJ ν o oc0=some y/\oc=lg (de aJ x us) o y/\loc0 k=loc n:=by
  intro k oc hk
  obtain ⟨i,n,o,y,oc0,k1,k2,k3,k4,k5,k6,_⟩:=kI hx (kH (X:=X) g hx hx hp2) hul hk
  exact ⟨i,n,o,y,oc0,k1,k2,k3,k4,k5,k6,fl (eI _ _) k2 (by simp [k1])⟩
 have hA0:∀b o,(aB O' st0 loc0 w).A b o->(aB O st loc w).A b o:=by
  rintro b off ((h | ⟨n,oc,h1,_,h2,h3⟩) | ⟨k,oc,h1,h2,h3⟩)
  ·exact .inl h
  ·exact .inr ⟨n,oc,h1,h2,h3⟩
  ·obtain ⟨i,n,o,y,oc0,_,_,_,k4,k5,k6,k7⟩:=hf0 k oc h1
   refine .inr ⟨n,oc0,k4,by simp only [aB] at h2;rw [k7] at h2;exact h2,?_⟩
   rcases tK (f:=de aJ x us) k5 with e | e
   ·rw [<-e,<-k6];exact h3
   ·cases e
 have hown0:∀b,(aB O' st0 loc0 w).jv b->∃n∈ν,b∈(loc n).bs:=by
  rintro b ⟨k,oc,h1,h2⟩
  obtain ⟨i,n,o,y,oc0,k1,_,_,_,_,_,k7⟩:=hf0 k oc h1
  exact ⟨n,List.mem_of_getElem? k1,by simp only [aB] at h2;rw [k7] at h2;exact h2⟩
 obtain ⟨g0,laid0⟩:=Bg (X:=X) g hx hp2 hnd (O2:=O') (ν2:=us) (rest:=[]) (locR:=loc) (st2:=st0) (eI _ _) hul
  (by simp [st0,kS,us]) (fun n hn=>by have:=nJ hn;simp [st0,kS];omega)
  (fun n hn b hb off=>by
   obtain ⟨oc,k⟩:=hν n hn
   rintro (h | ⟨m,oc',h1,h2,h3,_⟩)
   ·exact g.out n oc b off k hb h
   ·exact h2 (by rw [<-g.apart n m oc oc' b k h1 hb h3];exact hn))
  (fun n hn b hb m oc h=>by simp [look] at h) (fun m oc h=>by simp [look] at h) (fun m m' oc oc' b h=>by simp [look] at h) (fun m oc b off h=>by simp [look] at h) (.inr hA0)
  (fun b hb h=>by
   obtain ⟨n,hn,hbn⟩:=hown0 b h
   obtain ⟨oc,k⟩:=hν n hn
   exact g.iq.2 b hb ⟨n,oc,k,hbn⟩)
 have hargs:bM B.eT (aB O' st0 loc0 w) (rl (de aJ x us) args a) vs:=wV (S:=aB O st loc w) (S':=aB O' st0 loc0 w) rfl (fun k v hk=>sk laid0 hk) (.inr hA0) hvals
 have hcode:codeOf fn=c:=by unfold codeOf;rw [hb];rfl
 have hvc:=h a x (p8 hvals) hpre
 unfold fg at hvc
 rw [hcode] at hvc
 have hcalls:=mq (X:=X) (hok fn.ntmps) hf hb (by rfl) (anns a x) (O:=O') (loc:=loc0) (w:=w) (args:=vs.toArray) (st:=st0)
  (by rw [List.size_toArray,nT hvals];exact hN) g0 hOin'
  (fun t sv ht=>by
   obtain ⟨_,v,k1,k2⟩:=qA 0 hargs t sv ht
   exact ⟨v,by simpa using k1,k2⟩) hvc
 refine hcalls.mono ?_
 rintro e w' ⟨rs,us',st',locE,he,hk,hr,gE',trE'⟩
 obtain ⟨al,hal,ν',hnd',hkept,hcv,hokal,hret,hout,hc1,hc2⟩:=uC hk
 obtain ⟨tF,gE,_,kF⟩:=sJ al.res rs gE'
 generalize hst2:(ez al.res st' rs).2=st2 at *
 generalize hrs2:(ez al.res st' rs).1=rs2 at *
 have trE:=trE'.trans tF
 have hrE:=kF us' hr
 have hKal:=sK hK al hal
 unfold vV at hKal
 split at hKal
 case h_2=>exact hKal.elim
 rename_i hn1
 simp only [Bool.and_eq_true] at hn1
 obtain ⟨hnd1,hbel⟩:=hn1
 have hKal:=hKal hokal
 generalize hν1:gj aJ al.bk ν st.next=ν1 at *
 have hl1:ν'.length=ν1.length:=by rw [<-hν1,ln];exact (kJ hout).symm
 generalize hst1:({env:=st.env,aC:=fz (de al.bk (al.out a x) ν1) al.bk (al.out a x) ν1++ko st.aC ν,next:=st.next + al.bk.length}:St)=st1 at hKal
 have h1env:st1.env=st.env:=by rw [<-hst1]
 have h1objs:st1.aC=fz (de al.bk (al.out a x) ν1) al.bk (al.out a x) ν1++ko st.aC ν:=by rw [<-hst1]
 have h1next:st1.next=st.next + al.bk.length:=by rw [<-hst1]
 let loc1:=cm ν1 (ν'.map locE) loc
 have hf1:∀m oc,look st1.aC m=some oc->(∃(i n:Nat) (o:Ob) (y:OD o) (oc0:OC),ν'[i]?=some n/\ν1[i]?=some m/\al.bk[i]?=some o/\look st2.aC n=some oc0/\eo al.cv st2.aC al.bk ν' o oc0=some y/\
   oc=lg (de al.bk (al.out a x) ν1) o y/\loc1 m=locE n)\/(m∉ν1/\m∉ν/\look st.aC m=some oc/\loc1 m=loc m):=by
  intro m oc hm
  rw [h1objs,b7] at hm
  split at hm
  ·rename_i oc' hm'
   cases hm
   obtain ⟨i,n,o,y,oc0,k1,k2,k3,k4,k5,k6,_⟩:=kI hout (kH (X:=X) gE hout hout hc2) hl1 hm'
   exact .inl ⟨i,n,o,y,oc0,k1,k2,k3,k4,k5,k6,fl hnd1 k2 (by simp [k1])⟩
  ·rename_i hm'
   have hnin:m∉ν1:=fun hmem=>by
    obtain ⟨oc1,h2⟩:=ki (f:=de al.bk (al.out a x) ν1) (x:=al.out a x) (by rw [<-hν1,ln]) hmem
    rw [h2] at hm';cases hm'
   rw [fO] at hm
   split at hm
   ·cases hm
   ·rename_i hmn
    exact .inr ⟨hnin,hmn,hm,iI hnin⟩
 have hownE:∀n∈ν',∀b∈(locE n).bs,(aB O' st2 locE w').jv b:=by
  intro n hn b hb
  obtain ⟨_,oc,_,_,k,_⟩:=fM hout hn
  exact ⟨n,oc,k,hb⟩
 have hblk:∀m oc,look st.aC m=some oc->m∉ν->∀b∈(loc m).bs,¬ (aB O' st0 loc0 w).jv b:=by
  intro m oc h1 h2 b hb' ho
  obtain ⟨n,hn,hbn⟩:=hown0 b ho
  obtain ⟨oc',k⟩:=hν n hn
  have:=g.apart n m oc' oc b k h1 hbn hb'
  exact h2 (by rw [<-this];exact hn)
 have hA1:al.cv=false->∀b o,(aB O st1 loc1 w').A b o->(aB O' st2 locE w').A b o:=by
  rintro hcv0 b off (h | ⟨m,oc,h1,h2,h3⟩)
  ·exact .inl (.inl h)
  ·rcases hf1 m oc h1 with ⟨i,n,o,y,oc0,k1,k2,k3,k4,k5,k6,k7⟩ | ⟨k1,k2,k3,k4⟩
   ·refine .inr ⟨n,oc0,k4,by simp only [aB] at h2;rw [k7] at h2;exact h2,?_⟩
    rcases tK (f:=de al.bk (al.out a x) ν1) k5 with e | e
    ·rw [<-e,<-k6];exact h3
    ·rw [hcv0] at e;cases e
   ·exact .inl (.inr ⟨m,oc,k3,k2,by simp only [aB] at h2;rw [k4] at h2;exact h2,h3⟩)
 have hkeep:∀(m i:Nat),ν1[i]?=some m->m < st.next->∃o o',aJ[i]?=some o/\al.bk[i]?=some o'/\lW o o'=true/\ν[i]?=some m:=by
  intro m i h1 h2
  rw [<-hν1] at h1
  rcases lX h1 with h3 | h3
  ·exact h3
  ·omega
 have hT:Tr (aB O st loc w) (aB O st1 loc1 w'):={
  O:=rfl
  next:=by simp only [aB];omega
  os:=trE.os
  output:=trE.output
  size:=trE.size
  own:=by
   rintro b ⟨m,oc,h1,h2⟩
   rcases hf1 m oc h1 with ⟨i,n,o,y,oc0,k1,k2,k3,k4,k5,k6,k7⟩ | ⟨k1,k2,k3,k4⟩
   ·simp only [aB] at h2;rw [k7] at h2
    rcases trE.own b (hownE n (List.mem_of_getElem? k1) b h2) with h3 | h3
    ·obtain ⟨n',hn',hb'⟩:=hown0 b h3
     obtain ⟨oc',k⟩:=hν n' hn'
     exact .inl ⟨n',oc',k,hb'⟩
    ·exact .inr h3
   ·simp only [aB] at h2;rw [k4] at h2;exact .inl ⟨m,oc,k3,h2⟩
  cell:=by
   intro b off v hna hcell
   obtain ⟨h1,h2⟩:=trE.cell b off v (fun h=>hna (hA0 b off h)) hcell
   refine ⟨h1,fun h3 => ?_⟩
   rcases hcv with hcv | ⟨hnt,_,_⟩
   ·exact h2 (hA1 hcv b off h3)
   ·rcases h3 with h3 | ⟨m,oc,h3,h4,h5⟩
    ·exact hna (.inl h3)
    ·rcases hf1 m oc h3 with ⟨i,n,o,y,oc0,k1,k2,k3,k4,k5,k6,k7⟩ | ⟨k1,k2,k3,k4⟩
     ·simp only [aB] at h4;rw [k7] at h4
      rcases trE.own b (hownE n (List.mem_of_getElem? k1) b h4) with h6 | h6
      ·obtain ⟨n',hn',hb'⟩:=hown0 b h6
       obtain ⟨oc',k⟩:=hν n' hn'
       exact hna (.inr ⟨n',oc',k,hb',by rw [hlo n' hn' oc' k hnt];exact Nat.zero_le _⟩)
      ·have:=World.block_lt_of_cell? _ _ hcell
       simp only [aB] at this h6
       omega
     ·simp only [aB] at h4;rw [k4] at h4;exact hna (.inr ⟨m,oc,k3,h4,h5⟩)
  block:=fun b hb' ho=>trE.block b hb' fun h=>ho (by
   obtain ⟨n,hn,hbn⟩:=hown0 b h
   obtain ⟨oc,k⟩:=hν n hn
   exact ⟨n,oc,k,hbn⟩)
  loc:=by
   intro m hm hfix
   by_cases hin:m∈ν1
   ·obtain ⟨i,hi⟩:=List.getElem?_of_mem hin
    obtain ⟨o,o',e1,e2,e3,e4⟩:=hkeep m i hi hm
    have hiE:i < ν'.length:=by rw [hl1];exact aS hi
    have hn':ν'[i]?=some ν'[i]:=List.getElem?_eq_getElem hiE
    have hni:=sH hkept e1 e2 e3 hn'
    rw [Nat.zero_add] at hni
    have e5:loc1 m=locE i:=by
     have:=fl (d:=loc) hnd1 hi (ls:=ν'.map locE) (l:=locE i) (by simp [hn',hni])
     exact this
    have hui:us[i]?=some i:=by have:=rp aJ.length 0 i (aS e1);simpa using this
    have e6:loc0 i=loc m:=fl (eI _ _) hui (by simp [e4])
    have e7:=trE.loc i (show i < st0.next by simp [st0,kS];exact aS e1) (fun t ys hy=>by
     obtain ⟨j,n,o2,y,oc0,k1,k2,k3,k4,k5,k6,k7⟩:=hf0 i _ hy
     have hj:j=i:=kj (eI _ _) k2 hui
     subst hj
     rw [e1] at k3;cases k3
     cases o <;> simp [lg] at k6
     cases o' <;> simp [lW] at e3)
    show (loc1 m).v=(loc m).v/\(_->loc1 m=loc m)
    rw [e5,<-e6]
    refine ⟨e7.1,fun hr=>e7.2 fun t z hy => ?_⟩
    obtain ⟨j,n,o2,y,oc0,k1,k2,k3,k4,k5,k6,k7⟩:=hf0 i _ hy
    have hj:j=i:=kj (eI _ _) k2 hui
    subst hj
    rw [e4] at k1;cases k1
    cases o2 <;> simp [lg] at k6
    obtain ⟨rfl,rfl,_⟩:=k6
    obtain ⟨z',rfl⟩:=(kg k5 (fun _ => .any)).2.1 _ _ rfl
    exact hr _ _ k4
   ·exact hJ (iI hin)
  kind:=by
   intro m oc' hm hob
   rcases hf1 m oc' hob with ⟨i,n,o,y,oc0,k1,k2,k3,k4,k5,k6,k7⟩ | ⟨k1,k2,k3,k4⟩
   ·obtain ⟨o0,o',e1,e2,e3,e4⟩:=hkeep m i k2 hm
    rw [k3] at e2;cases e2
    have hui:us[i]?=some i:=by have:=rp aJ.length 0 i (aS e1);simpa using this
    obtain ⟨oc2,h2⟩:=ki (f:=de aJ x us) (x:=x) (ms:=us) (by rw [nK]) (List.mem_of_getElem? hui)
    obtain ⟨j,n2,o2,y2,oc3,j1,j2,j3,j4,j5,j6,j7⟩:=hf0 i oc2 (by simpa [st0,kS] using h2)
    have hj:j=i:=kj (eI _ _) j2 hui
    subst hj
    rw [e1] at j3;cases j3
    rw [e4] at j1;cases j1
    refine ⟨oc3,j4,?_⟩
    cases o0 <;> cases o <;> simp [lW] at e3
    ·subst e3
     obtain ⟨cs,rfl⟩:=(kg j5 (fun _ => .any)).1 _ _ rfl
     rw [k6]
     rfl
    ·rename_i kp t kp' t'
     cases kp <;> cases kp' <;> simp at e3
     have e3:=Ty.eq_of_beq e3
     subst e3
     obtain ⟨xs,rfl⟩:=(kg j5 (fun _ => .any)).2.2.1 _ _ rfl rfl
     rw [k6]
     rfl
    ·obtain ⟨e3,e4⟩:=e3
     have e4:=Ty.eq_of_beq e4
     subst e3;subst e4
     obtain ⟨z,rfl⟩:=(kg j5 (fun _ => .any)).2.1 _ _ rfl
     rw [k6]
     exact ⟨rfl,rfl⟩
   ·refine ⟨oc',k3,?_⟩
    cases oc' <;> simp [aM,aB,k4]}
 obtain ⟨g1,laid1⟩:=Bg (X:=X) gE hout hc2 hnd' (O2:=O) (ν2:=ν1) (rest:=ko st.aC ν) (locR:=loc) (st2:=st1) hnd1 hl1 h1objs
  (fun n hn=>by rw [h1next];exact ox hbel hn)
  (fun n hn b hb' off h=>by
   obtain ⟨_,oc,_,_,k,_⟩:=fM hout hn
   exact gE.out n oc b off k hb' (.inl h))
  (fun n hn b hb' m oc h1 h2 h3=>by
   rw [fO] at h1
   split at h1
   ·cases h1
   ·rename_i hmn
    rcases trE.own b (hownE n hn b hb') with h4 | h4
    ·exact hblk m oc h1 hmn b h3 h4
    ·have:=(g.obj m oc h1).2.inside b h3
     simp only [aB] at this h4
     omega)
  (fun m oc h1 h2=>by
   rw [fO] at h1
   split at h1
   ·cases h1
   ·rename_i hmn
    obtain ⟨k1,k2⟩:=g.obj m oc h1
    refine ⟨by rw [h1next];simp only [aB] at k1;omega,k2.tr hT fun b hb' => ?_⟩
    exact trE.block b (k2.inside b hb') (hblk m oc h1 hmn b hb'))
  (fun m m' oc oc' b h1 h2 _ _ h3 h4=>by
   rw [fO] at h1 h2
   split at h1
   ·cases h1
   ·split at h2
    ·cases h2
    ·exact g.apart m m' oc oc' b h1 h2 h3 h4)
  (fun m oc b off h1 _ h2=>by
   rw [fO] at h1
   split at h1
   ·cases h1
   ·exact g.out m oc b off h1 h2)
  (by
   rcases hcv with hcv | ⟨_,hcv,_⟩
   ·exact .inr (hA1 hcv)
   ·exact .inl hcv)
  (g.iq.tr hT).2
 have hres:=uk gE hout hret hrE hc1
 refine ⟨_,_,st1,loc1,he,hKal,h1env,g1,hT,pa (wV (S:=aB O' st2 locE w') (S':=aB O st1 loc1 w') rfl (fun k v hk=>sk laid1 hk) ?_ hres)⟩
 rcases hcv with hcv | ⟨_,_,hcv⟩
 ·exact .inr (hA1 hcv)
 ·exact .inl hcv
theorem cK {B:Cx} {Γ:List (FuncId × (Bool × bp))} (hok:bz P B X Γ) {f:FuncId} {fn:Func} (hf:P.funcs[f]?=some fn) (hg:mR fn args.length=true) (anns:CD args->PD aJ->ck)
  {pre:CD args->PD aJ->Prop} {alts:List (Alt aJ args)} (h:∀a x,kD args a->pre a x->(fg B Γ fn (anns a x) aJ args alts a x).holds) :
  cH P B.eT X f false (bK aJ args pre alts):=by
 simp only [mR,Bool.and_eq_true,Bool.not_eq_true'] at hg
 obtain ⟨⟨h1,h2⟩,h3⟩:=hg
 obtain ⟨c,hc⟩:=Option.isSome_iff_exists.1 h1
 refine ⟨⟨fn,hf,by rw [hc];rfl,h2⟩,fun O st loc w as vs K hK g hO ha => ?_⟩
 unfold bK at hK
 obtain ⟨t1,g1,e1,k1⟩:=sJ args as g
 simp only at hK
 split at hK
 case h_2=>exact hK.elim
 rename_i ν hν
 split at hK
 case h_2=>exact hK.elim
 rename_i a x hnd hga hx
 obtain ⟨hp,hpre,hK⟩:=wT hK
 obtain ⟨hp1,hp2⟩:=eS.1 hp
 refine (EJ hok hf hc (Nat.le_of_ble_eq_true h3) h g1 hO (k1 vs ha) hnd hga hx hp1 hp2 hpre hK).mono ?_
 rintro e w' ⟨v,sv,st',loc',q1,q2,q3,q4,q5,q6⟩
 exact ⟨v,sv,st',loc',q1,q2,q3.trans e1,(fun hq=>by cases hq),q4,t1.trans q5,q6⟩
end
end Go.Vg

namespace Go.Vg
@[reducible] def aG:Ty:=.prod .str (.prod (.int .i64) (.prod .bool .unit))
@[reducible] def aP:Ty:=.prod (.int .i64) (.prod (.int .i64) .unit)
@[reducible] def aN:Ty:=.prod (.int .i64) (.prod (.int .i64) (.prod (.int .i64) (.prod .str (.prod .bool .unit))))
@[reducible] def bn:Ty:=.prod (.int .i64) (.prod (.int .i64) (.prod (.int .i64) .unit))
@[reducible] def eV:Ty:=.prod .str (.prod (.int .i64) (.prod (.int .i64) .unit))
@[reducible] def aA:Ty:=.prod (.slice .str) (.prod (.slice (.int .i64)) (.prod (.slice aG) (.prod (.slice aN) .unit)))
@[reducible] def dh:Ty:=.prod .str (.prod (.slice eV) (.prod (.slice bn) .unit))
@[reducible] def bL:Ty:=.prod .str (.prod .str (.prod .str (.prod (.int .i64) (.prod (.int .u64) (.prod dh .unit)))))
@[reducible] def bS:Ty:=.prod .str (.prod (.int .i64) (.prod (.slice (.int .i64)) .unit))
@[reducible] def vW:Ty:=.prod (.int .i64) (.prod .str .unit)
@[reducible] def FP:Ty:=.prod (.slice .str) (.prod (.slice .str) (.prod (.slice vW) (.prod (.int .i64) (.prod .bool .unit))))
theorem bl :
  (∀(p:Prop) [Decidable p],(decide p=true)=p)/\(∀(p:Prop) [Decidable p],(decide p=false)=¬ p)/\
  (∀(α:Type) [BEq α] [LawfulBEq α] (a b:α),((a == b)=true)=(a=b))/\(∀(α:Type) [BEq α] [LawfulBEq α] (a b:α),((a == b)=false)=¬ a=b)/\
  (∀(α:Type) [BEq α] [LawfulBEq α] (a b:α),((a != b)=true)=¬ a=b)/\(∀(α:Type) [BEq α] [LawfulBEq α] (a b:α),((a != b)=false)=(a=b))/\
  (∀b:Bool,((!b)=true)=(b=false))/\(∀b:Bool,((!b)=false)=(b=true))/\(∀b:Bool,(¬ b=true)=(b=false))/\(∀b:Bool,(¬ b=false)=(b=true))/\
  (∀a b:Bool,((a && b)=true)=(a=true/\b=true))/\(∀a b:Bool,((a || b)=true)=(a=true\/b=true))/\
  (∀a b:Bool,((a && b)=false)=(a=false\/b=false))/\(∀a b:Bool,((a || b)=false)=(a=false/\b=false))/\
  (∀a b:Int,(¬ a < b)=(b<=a))/\(∀a b:Int,(¬ a<=b)=(b < a)):=by
 refine ⟨?_,?_,?_,?_,?_,?_,?_,?_,?_,?_,?_,?_,?_,?_,?_,?_⟩ <;> intros <;> first | (simp;done) | (rename_i a b;cases a <;> cases b <;> simp)
end Go.Vg

namespace Go.Vg
open Go.RowKit
theorem Ha {w:World} {b i:Nat} {c:Array Value} {T:TypeId} {v:Value} (hb:w.heap[b]?=some (.cells c T (0,0))):(w.setCell ⟨b,i,none⟩ v).heap[b]?=some (.cells (c.setIfInBounds i v) T (0,0)):=by
 simp [World.setCell,Array.getElem?_modify,hb]
theorem Gi {P:Program} {w:World} {t u ty e:TypeId} {i:TypeInfo} (ht:P.underlying t=some (.slice e)) (hu:P.underlying u=some .string) (hi:P.info? e=some i) (hz:i.zero=some (.int .u8 0))
  (hsize:i.size=1) (hby:i.bytes=1) {v:Value} {xs:List Value} (hown:w.ownsRow 0 e 1 v xs.length xs) (hcap:∀a n c,v = .slice (some a) n c->0 < c) (s:ByteArray) (hlen:xs.length + s.size<=140737488355328) :
  ∃v' w',(Builtin.append_ #[t,u] ty #[v, .string s]).run P w = .ok v' w'/\w'.ownsRow 0 e 1 v' (xs.length + s.size) (xs++Lib.strCells s)/\w.grownBy w' v.ownBlock/\(∀a n c,v' = .slice (some a) n c->0 < c)/\
   (∀g,v'.ownBlock=some g->v.ownBlock=some g\/w.heap.size<=g):=by
 rcases hown.2 with ⟨rfl,h0⟩ | ⟨g,cap,cur,rfl,hbg,hg,hnc,hcm,hcs,htake⟩
 ·have hown':w.ownsRow w.heap.size e 1 (.slice none 0 0) xs.length xs:=⟨hown.1, .inl ⟨rfl,h0⟩⟩
  obtain ⟨v',w',h1,h2,h3,h4⟩:=Lib.run_append_own_string (P:=P) w w.heap.size t u ty e i ht hu hi hz hsize hby _ _ _ hown' s (by unfold maxLen;omega) hlen (Nat.le_refl _)
  rcases h2.2 with ⟨rfl,h6⟩ | ⟨g,cap,cur,rfl,k1,k2,k3,k4⟩
  ·exact ⟨_,w',h1,⟨h2.1, .inl ⟨rfl,h6⟩⟩,h3,(fun a n c hh=>by cases hh),(fun g hh=>by cases hh)⟩
  ·refine ⟨_,w',h1,⟨h2.1, .inr ⟨g,cap,cur,rfl,Nat.zero_le _,k2,k3,k4⟩⟩,h3,fun a n c hh => ?_,fun g' hh=>by cases hh;exact .inr k1⟩
   cases hh
   by_cases hs:s.size=0
   ·have:=h4.2 ⟨rfl,hs⟩;cases this
   ·omega
 ·have hc0:=hcap _ _ _ rfl
  by_cases hroom:xs.length + s.size<=cap
  ·obtain ⟨w',h1,h2,h3⟩:=Lib.run_append_fits_string (P:=P) w 0 t u ty e i ht hu hi hsize _ _ _ _ hown s hc0 hroom
   exact ⟨_,w',h1,h2,h3,(fun a n c hh=>by cases hh;exact hc0),(fun g' hh => .inl hh)⟩
  ·have holds:∀j u,xs[j]?=some u->w.cell? ((⟨g,0,none⟩:Addr).add j)=some u:=hown.cells (g:=g) rfl
   have hr:=Lib.run_append_grow_string (P:=P) w t u ty e i (.int .u8 0) ht hu hi hz ⟨g,0,none⟩ xs.length cap xs (by rw [hsize];simp) holds s (by omega) (by omega) (by rw [hby];exact growslice_fits (by omega) (by omega))
   have hge:=grownCap_ge w (xs.length + s.size) cap e
   have hcm':grownCap w (xs.length + s.size) cap e<=maxLen:=grownCap_le_maxLen w (xs.length + s.size) cap e (by unfold maxLen;omega)
   refine ⟨_,_,hr,⟨by simp [Lib.strCells_length], .inr ⟨w.heap.size,_,_,rfl,Nat.zero_le _,heap_alloc_new w.drew _,hge,hcm',?_,?_⟩⟩,⟨rfl,rfl,rfl,by simp,fun k hk _=>Go.Deep.blk_alloc_lt w.drew _ k hk⟩,(fun a n c hh=>by cases hh;omega),(fun g' hh=>by cases hh;exact .inr (Nat.le_refl _))⟩
   ·have hz1:(Value.int IntKind.u8 0).cells.size=1:=rfl
    simp only [Array.size_append,List.size_toArray,size_zeroCells,hz1,Lib.strCells_length]
    omega
   ·simp only [Array.toList_append,List.append_assoc]
    rw [<-List.append_assoc]
    have:(xs++Lib.strCells s).length=(xs.length + s.size) * 1:=by simp [Lib.strCells_length]
    rw [<-this]
    exact List.take_left
theorem ql {P:Program} {w w':World} {ops:Array Oper} {rest:List Oper} {o:Oper} {a:Act} {Q:Exit->Act->World->Prop} (hgd:o.guard=none) (sl x:Operand) (t u:TypeId)
  (ho:o.op = .call {callee:=.builtin .append,args:=#[sl,x],argTypes:=#[t,u]}) {v v' y:Value} (hs:a.eval sl=v) (hx:a.eval x=y)
  (hr:(Builtin.append_ #[t,u] o.type #[v,y]).run P w = .ok v' w') (h:wpList P ops Q rest (a.put o.dst v') w'):wpList P ops Q (o :: rest) a w:=by
 refine wpList_plain hgd fun K hK => ?_
 unfold Oper.wp execOp
 simp only [ho,resolve,invoke,builtin,Sem.run_bind,Sem.run_pure,Result.andThen_ok,List.map_toArray,List.map_cons,List.map_nil,hs,hx,hr]
 exact hK _ _ h
structure Kept (b:Nat) (v:Value) (w w':World):Prop where
 os:w'.os=w.os
 output:w'.output=w.output
 size:w.heap.size<=w'.heap.size
 block:∀k,k < w.heap.size->k≠b->v.ownBlock≠some k->w'.heap[k]?=w.heap[k]?
structure Bs (v:Value) (w w':World):Prop where
 os:w'.os=w.os
 output:w'.output=w.output
 size:w'.heap.size=w.heap.size
 block:∀k,v.ownBlock≠some k->w'.heap[k]?=w.heap[k]?
theorem yL {w:World} {g n c:Nat} {m:Nat}:Bs (.slice (some ⟨g,0,none⟩) n c) w (w.drew.freeze ⟨g,0,none⟩ m):=by
 unfold World.freeze
 split
 ·exact ⟨rfl,rfl,rfl,fun _ _=>rfl⟩
 ·refine ⟨rfl,rfl,by simp,fun k hk => ?_⟩
  have:k≠g:=fun e=>hk (by rw [e];rfl)
  simp only [Array.getElem?_modify]
  rw [if_neg (fun e=>this e.symm)]
  rfl
def nU (T e:Nat):bp:=fun args st K=>
 match args with
 | [.one (.cn n), .one (.d .str s)]=>match look st.aC n with
  | some (.ext 2 t x)=>match h:Ty.beq t eR with
   | true => .and ((bo h x).2.1=(T:Int)/\(bo h x).2.2.1=(e:Int)/\(bo h x).1.length + s.length<=140737488355328)
     (K (.gH [.one (.d (.int .i64) (s.length:Int)), .one (.d .err .nil)]) (setObj st n (.ext 2 eR ((bo h x).1++bC s,(T:Int),(e:Int),()))))
   | false => .ff
  | _ => .ff
 | _ => .ff
def lY (T e:Nat):bp:=fun args st K=>
 match args with
 | [.one (.cn n)]=>match look st.aC n with
  | some (.ext 2 t x)=>match h:Ty.beq t eR with
   | true => .and ((bo h x).2.1=(T:Int)/\(bo h x).2.2.1=(e:Int)) (K (.s (.one (.d .str (bytesOf (bo h x).1)))) (aU st n))
   | false => .ff
  | _ => .ff
 | _ => .ff
def sL (T e:Nat):bp:=fun args st K=>
 match args with
 | [.one (.cn n)]=>match look st.aC n with
  | some (.ext 2 t x)=>match h:Ty.beq t eR with
   | true => .and ((bo h x).2.1=(T:Int)/\(bo h x).2.2.1=(e:Int)) (K (.s (.one (.d (.int .i64) ((bo h x).1.length:Int)))) st)
   | false => .ff
  | _ => .ff
 | _ => .ff
section
variable {P:Program} {eT:TypeId} {X:Ext} {f:FuncId}
theorem w8 {O:aD} {st:St} {loc:Nat->Loc} {w:World} (g:Good eT X (aB O st loc w)) {n:Nat} {x:D eR} (hob:look st.aC n=some (.ext 2 eR x)) {v:Value} (hv:CR eT (aB O st loc w) (.cn n) v) :
  ∃b p u,v = .pointer (some ⟨b,0,none⟩)/\GK x (loc n) w b p u:=by
 obtain ⟨h0,b,p,u,hD⟩:=X.FF.1 (g.obj n _ hob).2
 exact ⟨b,p,u,(hv.2 _ hob rfl).trans hD.lv,hD⟩
theorem Bt (s:List UInt8):bytesOf (bC s)=s:=by
 induction s with
 | nil=>rfl
 | cons c r ih=>
  simp only [bytesOf,bC,List.map_cons,List.map_map] at ih ⊢
  rw [ih]
  simp
theorem Bu {xs:List Int} (h:∀y∈xs,0<=(y:Int)/\(y:Int)<=255):bC (bytesOf xs)=xs:=by
 induction xs with
 | nil=>rfl
 | cons y r ih=>
  have h1:=h y (by simp)
  have h2:=ih fun z hz=>h z (by simp [hz])
  simp only [bC,bytesOf,List.map_map,List.map_cons] at h2 ⊢
  rw [h2]
  congr 1
  simp only [UInt8.toNat_ofNat']
  omega
theorem Bv (s:List UInt8):∀y∈bC s,0<=(y:Int)/\(y:Int)<=255:=by
 intro y hy
 simp only [bC,List.mem_map] at hy
 obtain ⟨c,_,rfl⟩:=hy
 have:=c.toNat_lt
 omega
theorem EK {xs:List Int} (h:∀y∈xs,0<=(y:Int)/\(y:Int)<=255):xs.map (Value.int .u8)=(bytesOf xs).map fun c=>Value.int .u8 c.toNat:=by
 conv=>lhs;rw [<-Bu h]
 simp [bC]
theorem sM {T e:Nat} (hfn:∃fn,P.funcs[f]?=some fn/\fn.body.isNone=false/\(fn.name == "runtime.NumGoroutine")=false)
  (H:∀(b:Nat) (p v:Value) (xs:List Value) (s:ByteArray) (w:World),w.heap[b]?=some (.cells #[p,v] T (0,0))->(p = .pointer none\/p = .pointer (some ⟨b,0,none⟩))->w.ownsRow 0 e 1 v xs.length xs->v.ownBlock≠some b->
   (∀a n c,v = .slice (some a) n c->0 < c)->xs.length + s.size<=140737488355328->
   Calls P f #[.pointer (some ⟨b,0,none⟩), .string s] w fun r w'=>r = .returned (.tuple #[.int .i64 s.size, .nilIface])/\
    ∃v',w'.heap[b]?=some (.cells #[.pointer (some ⟨b,0,none⟩),v'] T (0,0))/\w'.ownsRow 0 e 1 v' (xs.length + s.size) (xs++Lib.strCells s)/\v'.ownBlock≠some b/\Kept b v w w'/\
     (∀a n c,v' = .slice (some a) n c->0 < c)/\(∀g,v'.ownBlock=some g->v.ownBlock=some g\/w.heap.size<=g)) :
  cH P eT X f false (nU T e):=by
 refine ⟨hfn,fun O st loc w args vs K hs g hO ha => ?_⟩
 unfold nU at hs
 split at hs
 case h_2=>exact hs.elim
 rename_i n s
 split at hs
 case h_2=>exact hs.elim
 rename_i t x hob
 split at hs
 case h_2=>exact hs.elim
 rename_i ht
 have ht':=Ty.eq_of_beq ht
 subst ht'
 rw [ed] at hs
 obtain ⟨⟨hT,he,hlen⟩,hs⟩:=hs
 match vs,ha with
 | [v0,v1], .cons h0 (.cons h1 .nil)=>
 obtain ⟨b,p,u,rfl,hD⟩:=w8 g hob h0
 obtain ⟨rfl,hsl⟩:=eh.1 (show CR eT _ (.d .str s) v1 from h1)
 have hsz:(⟨s.toArray⟩:ByteArray).size=s.length:=by simp [ByteArray.size]
 have hT':x.2.1.toNat=T:=by rw [hT];rfl
 have he':x.2.2.1.toNat=e:=by rw [he];rfl
 have hheap:=hD.heap
 have hrow:=hD.row
 rw [hT'] at hheap
 rw [he'] at hrow
 refine (H b p u (x.1.map (Value.int .u8)) ⟨s.toArray⟩ w hheap hD.ptr (by simpa using hrow) hD.ne hD.cap (by simpa [hsz] using hlen)).mono ?_
 rintro r w' ⟨rfl,v',k1,k2,k3,k4,k5,k6⟩
 have hlt:b < w.heap.size:=(Array.getElem?_eq_some_iff.1 hheap).1
 obtain ⟨tr1,g1⟩:=jw (S:=aB O st loc w) (S':=aB O (setObj st n (.ext 2 eR (x.1++bC s,(T:Int),(e:Int),()))) (bd loc n ⟨.pointer (some ⟨b,0,none⟩),b :: v'.ownBlock.toList⟩) w') (n:=n)
  (oc:=.ext 2 eR x) (oc':=.ext 2 eR (x.1++bC s,(T:Int),(e:Int),())) (l':=⟨.pointer (some ⟨b,0,none⟩),b :: v'.ownBlock.toList⟩) g rfl hO hob
  (fun m=>iv st n m _) (fun _=>rfl) rfl (fun _=>⟨hD.lv.symm,fun h=>(h _ _ rfl).elim⟩) ⟨rfl,rfl⟩ k4.os k4.output k4.size
  (fun b' h1 h2=>k4.block b' h1 (fun e=>h2 (by simp only [aB];rw [hD.bs,e];simp)) (fun e=>h2 (by simp only [aB];rw [hD.bs,e];simp)))
  (fun b' o v _ ho=>by simp [OC.lo] at ho)
  (fun b' hb'=>by
   rcases List.mem_cons.1 hb' with rfl | hb'
   ·exact .inl ⟨by simp only [aB];rw [hD.bs];simp,Nat.le_refl _⟩
   ·have hb':v'.ownBlock=some b':=by simpa using hb'
    rcases k6 b' hb' with h | h
    ·exact .inl ⟨by simp only [aB];rw [hD.bs,h];simp,Nat.le_refl _⟩
    ·exact .inr h)
 have g1:=g1 (X.FF.2 ⟨rfl,b, .pointer (some ⟨b,0,none⟩),v',rfl, .inr rfl,k1,by
  have e1:x.1.map (Value.int .u8)++Lib.strCells ⟨s.toArray⟩=(x.1++bC s).map (Value.int .u8):=by rw [qt,List.map_append]
  have e2:(x.1.map (Value.int .u8)).length + (⟨s.toArray⟩:ByteArray).size=(x.1++bC s).length:=by simp [hsz,bC]
  rw [e1,e2] at k2
  exact k2,rfl,k3,(fun y hy=>by
   rcases List.mem_append.1 hy with h | h
   ·exact hD.u8 y h
   ·exact Bv s y h),k5⟩)
 refine ⟨_,_,_,_,rfl,hs,rfl,(fun hh=>by cases hh),g1,tr1,⟨[.int .i64 (⟨s.toArray⟩:ByteArray).size, .nilIface],rfl, .cons ?_ (.cons ?_ .nil)⟩⟩
 ·refine bB.2 ⟨by rw [hsz],?_⟩
  simp only [IntKind.min,IntKind.max,IntKind.signed,IntKind.bits]
  unfold aH at hsl
  constructor <;> simp <;> omega
 ·exact gw.2 rfl
theorem Bw {O:aD} {st:St} {loc:Nat->Loc} {w w':World} (g:Good eT X (aB O st loc w)) {n:Nat} {oc0:OC} (hn:look st.aC n=some oc0) (h0:oc0.lo=0)
  (hos:w'.os=w.os) (hout:w'.output=w.output) (hsz:w.heap.size<=w'.heap.size) (hb:∀b,b < w.heap.size->b∉(loc n).bs->w'.heap[b]?=w.heap[b]?) :
  Tr (aB O st loc w) (aB O (aU st n) loc w')/\Good eT X (aB O (aU st n) loc w'):=by
 have hob:∀m oc,look (aU st n).aC m=some oc->m≠n/\look st.aC m=some oc:=by
  intro m oc h
  simp only [aU] at h
  rw [fZ] at h
  split at h
  ·cases h
  ·rename_i hne;exact ⟨fun e=>hne e.symm,h⟩
 have hA:∀b o,(aB O (aU st n) loc w').A b o->(aB O st loc w).A b o:=by
  rintro b o (h | ⟨m,oc,h1,h2⟩)
  ·exact .inl h
  ·exact .inr ⟨m,oc,(hob _ _ h1).2,h2⟩
 have ht:Tr (aB O st loc w) (aB O (aU st n) loc w'):={
  O:=rfl
  next:=Nat.le_refl _
  os:=hos
  output:=hout
  size:=hsz
  own:=fun b h=>by obtain ⟨m,oc,h1,h2⟩:=h;exact .inl ⟨m,oc,(hob _ _ h1).2,h2⟩
  cell:=fun b o v h1 h2=>by
   have hlt:=World.block_lt_of_cell? w _ h2
   refine ⟨?_,fun h=>h1 (hA b o h)⟩
   show w'.cell? _=_
   rw [World.cell?_of_block (w:=w) (w':=w') (a:=⟨b,o,none⟩) (hb b hlt fun hm=>h1 (.inr ⟨n,oc0,hn,hm,by rw [h0];exact Nat.zero_le _⟩))]
   exact h2
  block:=fun b h1 h2=>hb b h1 fun hm=>h2 ⟨n,oc0,hn,hm⟩
  loc:=fun _ _ _=>hJ rfl
  kind:=fun m oc _ h=>⟨oc,(hob _ _ h).2,by cases oc <;> simp [aM,aB]⟩}
 refine ⟨ht,⟨fun m oc h => ?_,fun m1 m2 oc1 oc2 b h1 h2 h3 h4 => ?_,fun m oc b off h1 h2 => ?_,g.iq.tr ht⟩⟩
 ·obtain ⟨hne,h⟩:=hob _ _ h
  obtain ⟨h1,h2⟩:=g.obj m oc h
  exact ⟨h1,h2.tr ht fun b hbm=>hb b (h2.inside b hbm) fun hbn=>hne (g.apart m n oc oc0 b h hn hbm hbn)⟩
 ·exact g.apart m1 m2 oc1 oc2 b (hob _ _ h1).2 (hob _ _ h2).2 h3 h4
 ·exact g.out m oc b off (hob _ _ h1).2 h2
theorem rr {T e:Nat} (hfn:∃fn,P.funcs[f]?=some fn/\fn.body.isNone=false/\(fn.name == "runtime.NumGoroutine")=false)
  (H:∀(b:Nat) (p v:Value) (l:List UInt8) (w:World),w.heap[b]?=some (.cells #[p,v] T (0,0))->w.ownsRow 0 e 1 v l.length (l.map fun c=>Value.int .u8 c.toNat)->(∀a n c,v = .slice (some a) n c->0 < c)->
   Calls P f #[.pointer (some ⟨b,0,none⟩)] w fun r w'=>r = .returned (.string ⟨l.toArray⟩)/\Bs v w w') :
  cH P eT X f false (lY T e):=by
 refine ⟨hfn,fun O st loc w args vs K hs g hO ha => ?_⟩
 unfold lY at hs
 split at hs
 case h_2=>exact hs.elim
 rename_i n
 split at hs
 case h_2=>exact hs.elim
 rename_i t x hob
 split at hs
 case h_2=>exact hs.elim
 rename_i ht
 have ht':=Ty.eq_of_beq ht
 subst ht'
 rw [ed] at hs
 obtain ⟨⟨hT,he⟩,hs⟩:=hs
 match vs,ha with
 | [v0], .cons h0 .nil=>
 obtain ⟨b,p,u,rfl,hD⟩:=w8 g hob h0
 have hT':x.2.1.toNat=T:=by rw [hT];rfl
 have he':x.2.2.1.toNat=e:=by rw [he];rfl
 have hheap:=hD.heap
 have hrow:=hD.row
 rw [hT'] at hheap
 rw [he',EK hD.u8,show x.1.length=(bytesOf x.1).length by simp [bytesOf]] at hrow
 refine (H b p u (bytesOf x.1) w hheap hrow hD.cap).mono ?_
 rintro r w' ⟨rfl,k⟩
 obtain ⟨tr1,g1⟩:=Bw (w':=w') g hob rfl k.os k.output (by rw [k.size];exact Nat.le_refl _) (fun b' _ h2=>k.block b' fun e=>h2 (by rw [hD.bs,e];simp))
 refine ⟨_,_,_,_,rfl,hs,rfl,(fun hh=>by cases hh),g1,tr1,?_⟩
 refine (eh (eT:=eT) (S:=aB O (aU st n) loc w')).2 ⟨rfl,?_⟩
 rcases hrow.2 with ⟨_,h⟩ | ⟨_,cap,_,_,_,_,h1,h2,_⟩
 ·rw [h];exact Nat.zero_le _
 ·unfold maxLen at h2;unfold aH;omega
theorem vI {T e:Nat} (hfn:∃fn,P.funcs[f]?=some fn/\fn.body.isNone=false/\(fn.name == "runtime.NumGoroutine")=false)
  (H:∀(b:Nat) (p q:Value) (a:Option Addr) (n c:Nat) (w:World),w.heap[b]?=some (.cells #[p, .slice a n c] T (0,0))->
   Calls P f #[.pointer (some ⟨b,0,none⟩)] w fun r w'=>r = .returned (.int .i64 n)/\w'=w) :
  cH P eT X f true (sL T e):=by
 refine ⟨hfn,fun O st loc w args vs K hs g hO ha => ?_⟩
 unfold sL at hs
 split at hs
 case h_2=>exact hs.elim
 rename_i n
 split at hs
 case h_2=>exact hs.elim
 rename_i t x hob
 split at hs
 case h_2=>exact hs.elim
 rename_i ht
 have ht':=Ty.eq_of_beq ht
 subst ht'
 rw [ed] at hs
 obtain ⟨⟨hT,he⟩,hs⟩:=hs
 match vs,ha with
 | [v0], .cons h0 .nil=>
 obtain ⟨b,p,u,rfl,hD⟩:=w8 g hob h0
 have hT':x.2.1.toNat=T:=by rw [hT];rfl
 have hheap:=hD.heap
 rw [hT'] at hheap
 obtain ⟨a,c,rfl,hl⟩:∃a c,u = .slice a x.1.length c/\x.1.length<=aH:=by
  rcases hD.row.2 with ⟨rfl,h⟩ | ⟨g',cap,cur,h,_,_,h1,h2,_⟩
  ·exact ⟨none,0,by rw [h],by rw [h];exact Nat.zero_le _⟩
  ·exact ⟨_,_,h,by unfold maxLen at h2;unfold aH;omega⟩
 refine (H b p p a x.1.length c w hheap).mono ?_
 rintro r w' ⟨rfl,rfl⟩
 refine ⟨_,_,_,loc,rfl,hs,rfl,fun _=>Below.refl _ _,g,Tr.refl _,?_⟩
 refine (bB (eT:=eT) (S:=aB O st loc w')).2 ⟨rfl,?_⟩
 unfold aH at hl
 simp only [IntKind.min,IntKind.max,IntKind.signed,IntKind.bits]
 constructor <;> simp <;> omega
end
end Go.Vg

namespace Go.Mrl
open Go.Vg
def small (c:UInt8):Bool:=decide ((97:Int)<=c.toNat) && decide ((c.toNat:Int)<=122)
def other (c:UInt8):Bool:=(decide ((48:Int)<=c.toNat) && decide ((c.toNat:Int)<=57)) || ((c.toNat:Int) == 95)
def dv (i:Nat) (c:UInt8):Bool:=!small c && ((i:Int) == 0 || !other c)
def mS (s:List UInt8):Bool:=(List.range s.length).any fun i=>dv i (ec s i)
def aI (s:List UInt8):Int:=if s.length < 1\/8 < s.length then 1 else if mS s=true then 3 else 0
def aW (n:Int):aV:=if n=0 then .nil else .no n
def p9:aV->Int->Bool
 | .nil,n=>n == 0
 | .no m,n=>decide (n > 0) && m == n
 | .other,_=>false
def cI:aV->Int
 | .nil=>0
 | .no m=>m
 | .other => -1
theorem dB (s:List UInt8):0<=aI s:=by
 unfold aI;split
 ·decide
 ·split <;> decide
theorem yM {s:List UInt8} {i:Nat} (h:i < s.length) (hb:dv i (ec s i)=true):mS s=true:=by
 simp only [mS,List.any_eq_true,List.mem_range]
 exact ⟨i,h,hb⟩
theorem w9 {s:List UInt8} (h:∀i,i < s.length->dv i (ec s i)=false):mS s=false:=by
 simp only [mS,List.any_eq_false,List.mem_range]
 intro i hi;rw [h i hi];simp
theorem oy {s:List UInt8} (h:s.length < 1\/8 < s.length):aI s=1:=by unfold aI;rw [if_pos h]
theorem di {s:List UInt8} {i:Nat} (h:¬ (s.length < 1\/8 < s.length)) (hi:i < s.length) (hb:dv i (ec s i)=true):aI s=3:=by
 unfold aI
 rw [if_neg h,if_pos (yM hi hb)]
theorem mT {s:List UInt8} (h:¬ (s.length < 1\/8 < s.length)) (hb:∀i,i < s.length->dv i (ec s i)=false):aI s=0:=by
 unfold aI
 rw [if_neg h,if_neg (by rw [w9 hb];decide)]
theorem fm {i:Nat} {c:UInt8}:dv i c=true ↔ ¬ (97<=c.toNat/\c.toNat<=122)/\(i=0\/¬ ((48<=c.toNat/\c.toNat<=57)\/c.toNat=95)):=by
 simp only [dv,small,other,Bool.and_eq_true,Bool.not_eq_true',Bool.and_eq_false_iff,Bool.or_eq_true,Bool.or_eq_false_iff,decide_eq_false_iff_not,beq_iff_eq,beq_eq_false_iff_ne]
 omega
theorem eW {i:Nat} {c:UInt8}:dv i c=false ↔ ¬ (¬ (97<=c.toNat/\c.toNat<=122)/\(i=0\/¬ ((48<=c.toNat/\c.toNat<=57)\/c.toNat=95))):=by
 rw [<-fm];simp
theorem iA {s:List UInt8} {i:Nat} (h:∀j,j < i->dv j (ec s j)=false) (hb:dv i (ec s i)=false):∀j,j < i + 1->dv j (ec s j)=false:=by
 intro j hj
 rcases Nat.lt_or_ge j i with hlt | hge
 ·exact h j hlt
 ·obtain rfl:j=i:=by omega
  exact hb
end Go.Mrl

namespace Go.Mrl
open Go.Vg
def cS (p:D aG->Prop) (l:List (D aA)) (i k:Nat):Prop:=
 i < l.length/\k < (nth aA l i).2.2.1.length/\p (nth aG (nth aA l i).2.2.1 k)
def qB (s:List UInt8) (x:D aG):Prop:=x.1=s
def gC (s:List UInt8) (x:D aG):Prop:=x.1=s/\x.2.2.1=false
def ahead (i k i' k':Nat):Prop:=i < i'\/(i=i'/\k < k')
def pb (p:D aG->Prop) (l:List (D aA)) (i k:Nat):Prop:=∀i' k',ahead i' k' i k->¬ cS p l i' k'
def fG (p:D aG->Prop) (l:List (D aA)) (i k:Nat):Prop:=cS p l i k/\pb p l i k
theorem pc {p:D aG->Prop} {l:List (D aA)} {i k i' k':Nat} (h:fG p l i k) (h':fG p l i' k'):i=i'/\k=k':=by
 have h1:¬ ahead i k i' k':=fun a=>h'.2 i k a h.1
 have h2:¬ ahead i' k' i k:=fun a=>h.2 i' k' a h'.1
 unfold ahead at h1 h2
 omega
theorem pf {p:D aG->Prop} {l:List (D aA)} {i k:Nat} (h:cS p l i k):∃i k,fG p l i k:=by
 have hi:∀n,∀i,i<=n->∀k,cS p l i k->∃i,(∃k,cS p l i k)/\∀j,j < i->∀k,¬ cS p l j k:=by
  intro n
  induction n with
  | zero=>intro i hi k h;exact ⟨i,⟨k,h⟩,fun j hj=>by omega⟩
  | succ n ih=>
   intro i hi k h
   by_cases c:∃j,j < i/\∃k,cS p l j k
   ·obtain ⟨j,hj,k,hk⟩:=c
    exact ih j (by omega) k hk
   ·exact ⟨i,⟨k,h⟩,fun j hj k hk=>c ⟨j,hj,k,hk⟩⟩
 obtain ⟨i0,⟨k0,h0⟩,hmin⟩:=hi i i (Nat.le_refl _) k h
 have hk:∀n,∀k,k<=n->cS p l i0 k->∃k,cS p l i0 k/\∀j,j < k->¬ cS p l i0 j:=by
  intro n
  induction n with
  | zero=>intro k hk h;exact ⟨k,h,fun j hj=>by omega⟩
  | succ n ih=>
   intro k hk h
   by_cases c:∃j,j < k/\cS p l i0 j
   ·obtain ⟨j,hj,h2⟩:=c
    exact ih j (by omega) h2
   ·exact ⟨k,h,fun j hj h2=>c ⟨j,hj,h2⟩⟩
 obtain ⟨k1,h1,h2⟩:=hk k0 k0 (Nat.le_refl _) h0
 refine ⟨i0,k1,h1,fun i' k' ha hp => ?_⟩
 rcases ha with ha | ⟨rfl,ha⟩
 ·exact hmin i' ha k' hp
 ·exact h2 k' ha hp
open Classical in
noncomputable def bJ (x:List (D aA) × List UInt8):Int × Int:=
 if h:∃p:Nat × Nat,fG (gC x.2) x.1 p.1 p.2 then (((Classical.choose h).1:Nat),((Classical.choose h).2:Nat))
 else if h:∃p:Nat × Nat,fG (qB x.2) x.1 p.1 p.2 then (((Classical.choose h).1:Nat),((Classical.choose h).2:Nat))
 else (-1,-1)
theorem lp {l:List (D aA)} {s:List UInt8} {i k:Nat} (h:fG (gC s) l i k):bJ (l,s)=((i:Int),(k:Int)):=by
 have hx:∃p:Nat × Nat,fG (gC s) l p.1 p.2:=⟨(i,k),h⟩
 unfold bJ
 rw [dif_pos hx]
 have:=pc h (Classical.choose_spec hx)
 rw [<-this.1,<-this.2]
theorem sN {l:List (D aA)} {s:List UInt8} {i k:Nat} (hn:∀i k,¬ cS (gC s) l i k) (h:fG (qB s) l i k):bJ (l,s)=((i:Int),(k:Int)):=by
 have hx:∃p:Nat × Nat,fG (qB s) l p.1 p.2:=⟨(i,k),h⟩
 unfold bJ
 rw [dif_neg (fun ⟨p,h⟩=>hn p.1 p.2 h.1),dif_pos hx]
 have:=pc h (Classical.choose_spec hx)
 rw [<-this.1,<-this.2]
theorem sO {l:List (D aA)} {s:List UInt8} (hn:∀i k,¬ cS (qB s) l i k):bJ (l,s)=(-1,-1):=by
 unfold bJ
 rw [dif_neg (fun ⟨p,h⟩=>hn p.1 p.2 ⟨h.1.1,h.1.2.1,h.1.2.2.1⟩),dif_neg (fun ⟨p,h⟩=>hn p.1 p.2 h.1)]
theorem yN (l:List (D aA)) (s:List UInt8):(∃i k:Nat,bJ (l,s)=((i:Int),(k:Int))/\fG (gC s) l i k)\/
  (∃i k:Nat,bJ (l,s)=((i:Int),(k:Int))/\fG (qB s) l i k/\∀i k,¬ cS (gC s) l i k)\/
  (bJ (l,s)=(-1,-1)/\∀i k,¬ cS (qB s) l i k):=by
 by_cases h1:∃i k,cS (gC s) l i k
 ·obtain ⟨i,k,h⟩:=h1
  obtain ⟨i,k,h⟩:=pf h
  exact .inl ⟨i,k,lp h,h⟩
 ·have h1':∀i k,¬ cS (gC s) l i k:=fun i k h=>h1 ⟨i,k,h⟩
  by_cases h2:∃i k,cS (qB s) l i k
  ·obtain ⟨i,k,h⟩:=h2
   obtain ⟨i,k,h⟩:=pf h
   exact .inr (.inl ⟨i,k,sN h1' h,h,h1'⟩)
  ·have h2':∀i k,¬ cS (qB s) l i k:=fun i k h=>h2 ⟨i,k,h⟩
   exact .inr (.inr ⟨sO h2',h2'⟩)
def dt (l:List (D aA)) (s:List UInt8) (i k:Nat) (a b:Int):Prop:=
 pb (gC s) l i k/\((a = -1/\b = -1/\pb (qB s) l i k)\/∃i0 k0:Nat,a=i0/\b=k0/\fG (qB s) l i0 k0)
theorem dt.start (l:List (D aA)) (s:List UInt8):dt l s 0 0 (-1) (-1):=
 ⟨fun i' k' h=>by unfold ahead at h;omega, .inl ⟨rfl,rfl,fun i' k' h=>by unfold ahead at h;omega⟩⟩
theorem pb.next {p:D aG->Prop} {l:List (D aA)} {i k:Nat} (h:pb p l i k) (hn:¬ cS p l i k):pb p l i (k + 1):=by
 intro i' k' ha hp
 by_cases e:i'=i/\k'=k
 ·rw [e.1,e.2] at hp;exact hn hp
 ·exact h i' k' (by unfold ahead at *;omega) hp
theorem dt.skip {l:List (D aA)} {s:List UInt8} {i k:Nat} {a b:Int} (h:dt l s i k a b) (hn:¬ (nth aG (nth aA l i).2.2.1 k).1=s):dt l s i (k + 1) a b:=by
 refine ⟨h.1.next fun hp=>hn hp.2.2.1,?_⟩
 rcases h.2 with ⟨h1,h2,h3⟩ | h3
 ·exact .inl ⟨h1,h2,h3.next fun hp=>hn hp.2.2⟩
 ·exact .inr h3
theorem dt.Hb {l:List (D aA)} {s:List UInt8} {i k:Nat} {a b:Int} (h:dt l s i k a b) (hi:i < l.length) (hk:k < (nth aA l i).2.2.1.length)
  (hs:(nth aG (nth aA l i).2.2.1 k).1=s) (hw:(nth aG (nth aA l i).2.2.1 k).2.2.1=false):bJ (l,s)=((i:Int),(k:Int)):=
 lp ⟨⟨hi,hk,hs,hw⟩,h.1⟩
theorem dt.tH {l:List (D aA)} {s:List UInt8} {i k:Nat} {a b:Int} (h:dt l s i k a b) (hi:i < l.length) (hk:k < (nth aA l i).2.2.1.length)
  (hs:(nth aG (nth aA l i).2.2.1 k).1=s) (hw:¬ (nth aG (nth aA l i).2.2.1 k).2.2.1=false) (ha:a < 0):dt l s i (k + 1) (i:Int) (k:Int):=by
 refine ⟨h.1.next fun hp=>hw hp.2.2.2, .inr ⟨i,k,rfl,rfl,⟨hi,hk,hs⟩,?_⟩⟩
 rcases h.2 with ⟨_,_,h3⟩ | ⟨i0,k0,h1,_⟩
 ·exact h3
 ·omega
theorem dt.more {l:List (D aA)} {s:List UInt8} {i k:Nat} {a b:Int} (h:dt l s i k a b)
  (hw:¬ (nth aG (nth aA l i).2.2.1 k).2.2.1=false) (ha:¬ a < 0):dt l s i (k + 1) a b:=by
 refine ⟨h.1.next fun hp=>hw hp.2.2.2,?_⟩
 rcases h.2 with ⟨h1,_,_⟩ | h3
 ·omega
 ·exact .inr h3
theorem pb.row {p:D aG->Prop} {l:List (D aA)} {i k:Nat} (h:pb p l i k) (hk:(nth aA l i).2.2.1.length<=k):pb p l (i + 1) 0:=by
 intro i' k' ha hp
 refine h i' k' ?_ hp
 unfold ahead at *
 by_cases e:i'=i
 ·subst e;have:=hp.2.1;omega
 ·omega
theorem dt.row {l:List (D aA)} {s:List UInt8} {i k:Nat} {a b:Int} (h:dt l s i k a b) (hk:(nth aA l i).2.2.1.length<=k):dt l s (i + 1) 0 a b:=by
 refine ⟨h.1.row hk,?_⟩
 rcases h.2 with ⟨h1,h2,h3⟩ | h3
 ·exact .inl ⟨h1,h2,h3.row hk⟩
 ·exact .inr h3
theorem pb.all {p:D aG->Prop} {l:List (D aA)} {i k:Nat} (h:pb p l i k) (hi:l.length<=i):∀i k,¬ cS p l i k:=
 fun i' k' hp=>h i' k' (by have:=hp.1;unfold ahead;omega) hp
theorem dt.done {l:List (D aA)} {s:List UInt8} {i k:Nat} {a b:Int} (h:dt l s i k a b) (hi:l.length<=i):bJ (l,s)=(a,b):=by
 rcases h.2 with ⟨rfl,rfl,h3⟩ | ⟨i0,k0,rfl,rfl,h3⟩
 ·exact sO (h3.all hi)
 ·exact sN (h.1.all hi) h3
theorem jd {p:Nat->Prop} {n:Nat} (h:∀j,j < n->p j) (hn:p n):∀j,j < n + 1->p j:=by
 intro j hj
 by_cases e:j=n
 ·rw [e];exact hn
 ·exact h j (by omega)
def fH (o:D aA):Prop:=o.1.length<=6/\o.2.1.length<=50/\o.2.2.1.length<=10/\o.2.2.2.1.length<=10/\
 (∀i,i < o.1.length->(nth .str o.1 i).length<=20)/\(∀i,i < o.2.2.1.length->(nth aG o.2.2.1 i).1.length<=20)/\(∀i,i < o.2.2.2.1.length->(nth aN o.2.2.2.1 i).2.2.2.1.length<=20)
def mU (l:List (D aA)):Prop:=l.length<=8/\∀i,i < l.length->fH (nth aA l i)
theorem qa {l:List (D aA)} {s:List UInt8} (h:0<=(bJ (l,s)).1):(bJ (l,s)).1 < l.length/\0<=(bJ (l,s)).2/\(bJ (l,s)).2 < (nth aA l (bJ (l,s)).1.toNat).2.2.1.length/\
  (nth aG (nth aA l (bJ (l,s)).1.toNat).2.2.1 (bJ (l,s)).2.toNat).1=s:=by
 rcases yN l s with ⟨i0,k0,e,f⟩ | ⟨i0,k0,e,f,n⟩ | ⟨e,n⟩
 ·rw [e];obtain ⟨h1,h2,h3⟩:=f.1;exact ⟨by simp only;omega,by simp only;omega,by simp only [Int.toNat_natCast];omega,h3.1⟩
 ·rw [e];obtain ⟨h1,h2,h3⟩:=f.1;exact ⟨by simp only;omega,by simp only;omega,by simp only [Int.toNat_natCast];omega,h3⟩
 ·rw [e] at h;simp at h
end Go.Mrl

namespace Go.Mrl
open Go.Vg
end Go.Mrl
namespace Go.Mrl
open Go.Vg
end Go.Mrl
namespace Go.Mrl
open Go.Vg
end Go.Mrl

namespace Go.Mrl
open Go.Vg
end Go.Mrl
namespace Go.Mrl
open Go.Vg
end Go.Mrl
namespace Go.Mrl
open Go.Vg
end Go.Mrl
namespace Go.Mrl
open Go.Vg
end Go.Mrl
namespace Go.Mrl
open Go.Vg
end Go.Mrl
namespace Go.Mrl
open Go.Vg
end Go.Mrl

namespace Go.Mrl
open Go.Vg
def dj (a b:Int × Int × Unit):Bool:=decide (a.2.1<=0) || (decide (b.2.1<=0) || (decide (a.1 + a.2.1<=b.1) || decide (b.1 + b.2.1<=a.1)))
theorem xa {a b:Int × Int × Unit}:dj a b=false ↔ 0 < a.2.1/\0 < b.2.1/\b.1 < a.1 + a.2.1/\a.1 < b.1 + b.2.1:=by simp [dj]
def cJ (n:Int):Int:=(n + 15) / 16 * 16
def gI (r:Int × Int × Unit):Prop:=-1000000<=r.1/\r.1<=1000000/\-1000000<=r.2.1/\r.2.1<=1000000
def dJ (r:D aP) (l:List (D aP)):Bool:=l.all (dj r)
theorem lq {t:Ty} {xs:List (D t)} {i:Nat} (h:i < xs.length):xs[i]?=some (nth t xs i):=by
 rw [List.getElem?_eq_getElem h,<-dX (List.getElem?_eq_getElem h)]
theorem eB {t:Ty} {xs:List (D t)} {i:Nat} (h:i < xs.length):nth t xs i∈xs:=by
 have:=lq (t:=t) h
 exact List.mem_of_getElem? this
theorem mV {t:Ty} {xs:List (D t)} {x:D t} (h:x∈xs):∃i,i < xs.length/\nth t xs i=x:=by
 obtain ⟨i,hi,e⟩:=List.getElem_of_mem h
 exact ⟨i,hi,by rw [<-e];exact dX (List.getElem?_eq_getElem hi)⟩
theorem Bx {r:D aP} {l:List (D aP)} (h:∀j,j < l.length->dj r (nth aP l j)=true):dJ r l=true:=by
 unfold dJ;rw [List.all_eq_true]
 intro x hx
 obtain ⟨i,hi,e⟩:=mV hx
 rw [<-e];exact h i hi
theorem yO {r:D aP} {l:List (D aP)} {j:Nat} (h:j < l.length) (hf:dj r (nth aP l j)=false):dJ r l=false:=by
 unfold dJ;rw [List.all_eq_false]
 exact ⟨_,eB h,by rw [hf];decide⟩
theorem C3 {r:D aP} {l:List (D aP)} (h:dJ r l=false):∃x∈l,dj r x=false:=by
 unfold dJ at h;rw [List.all_eq_false] at h
 obtain ⟨x,hx,e⟩:=h
 exact ⟨x,hx,by simpa using e⟩
def dy (l:List (D aP)) (many:Int):Nat->Int->Int
 | 0,at_=>at_
 | n + 1,at_=>if dJ (at_,many,()) l=true then at_ else dy l many n (at_ + 16)
def eC:List (D aP)->List Int->List Int->Option (List Int)
 | _,[],out=>some out
 | l,n :: r,out=>if 256 < dy l (cJ n) 40 0 + cJ n then none else eC (l++[(dy l (cJ n) 40 0,cJ n,())]) r (out++[dy l (cJ n) 40 0])
def xb (s:List Int):Bool:=s.any fun (n:Int)=>decide (n < 1) || decide (40 < n)
def xc (l:List (D aP)):Bool:=l.any fun (r:Int × Int × Unit)=>decide (r.1 < 0) || (decide (256 < r.1) || (decide (r.2.1 < 0) || decide (256 < r.2.1)))
def bP (x:List Int × List (D aP)):List Int × aV:=
 if 6 < x.1.length\/20 < x.2.length then ([], .no 2) else if xb x.1=true\/xc x.2=true then ([], .no 1) else
  match eC x.2 x.1 [] with
  | some o=>(o, .nil)
  | none=>([], .no 8)
theorem Ar {t:Ty} {xs:List (D t)} {p:D t->Bool} {i:Nat} (h:i < xs.length) (hp:p (nth t xs i)=true):xs.any p=true:=by
 rw [List.any_eq_true];exact ⟨_,eB h,hp⟩
theorem As {t:Ty} {xs:List (D t)} {p:D t->Bool} (h:∀i,i < xs.length->p (nth t xs i)=false):xs.any p=false:=by
 rw [List.any_eq_false];intro x hx
 obtain ⟨i,hi,e⟩:=mV hx
 rw [<-e,h i hi];decide
theorem pg {l:List (D aP)} {s out:List Int} {k:Nat} (h:k < s.length):eC l (s.drop k) out =
  if 256 < dy l (cJ (nth (.int .i64) s k)) 40 0 + cJ (nth (.int .i64) s k) then none
  else eC (l++[(dy l (cJ (nth (.int .i64) s k)) 40 0,cJ (nth (.int .i64) s k),())]) (s.drop (k + 1)) (out++[dy l (cJ (nth (.int .i64) s k)) 40 0]):=by
 have e:s.drop k=nth (.int .i64) s k :: s.drop (k + 1):=by
  rw [List.drop_eq_getElem_cons h]
  congr 1
  exact (dX (t:=.int .i64) (List.getElem?_eq_getElem h)).symm
 rw [e];rfl
theorem yP {l:List (D aP)} {s out:List Int} {k:Nat} (h:s.length<=k):eC l (s.drop k) out=some out:=by
 rw [List.drop_eq_nil_of_le h];rfl
def iK (r:Int × Int × Unit):Prop:=0<=r.1/\r.1<=256/\0<=r.2.1/\r.2.1<=256
theorem iK.gI {r:Int × Int × Unit} (h:iK r):Mrl.gI r:=by
 obtain ⟨h1,h2,h3,h4⟩:=h
 refine ⟨?_,?_,?_,?_⟩ <;> omega
theorem C4 {l:List (D aP)} {at_ many:Int} (hl:∀x∈l,iK x) (h:dJ (at_,many,()) l=false):at_ < 512:=by
 obtain ⟨x,hx,e⟩:=C3 h
 obtain ⟨h1,h2,h3,h4⟩:=hl x hx
 obtain ⟨h5,h6,h7,h8⟩:=xa.1 e
 have h8:at_ < x.1 + x.2.1:=h8
 omega
theorem mr {l:List (D aP)} {many at_:Int} {n:Nat} (h:dJ (at_,many,()) l=true):dy l many n at_=at_:=by
 cases n with
 | zero=>rfl
 | succ n=>rw [dy,if_pos h]
theorem C5 {l:List (D aP)} {many at_:Int} {n:Nat} (h:dJ (at_,many,()) l=false):dy l many (n + 1) at_=dy l many n (at_ + 16):=by
 rw [dy,if_neg (by rw [h];decide)]
theorem je {n:Int} (h1:1<=n) (h2:n<=40):16<=cJ n/\cJ n<=48:=by unfold cJ;omega
end Go.Mrl
namespace Go.Mrl
open Go.Vg
theorem yQ {s:List Int} {l:List (D aP)} (h:6 < s.length\/20 < l.length):bP (s,l)=([], .no 2):=by
 unfold bP;rw [if_pos h]
theorem yR {s:List Int} {l:List (D aP)} (h:¬ (6 < s.length\/20 < l.length)) {i:Nat} (hi:i < s.length) (hb:¬ (1<=(nth (.int .i64) s i:Int)/\(nth (.int .i64) s i:Int)<=40)):bP (s,l)=([], .no 1):=by
 unfold bP;rw [if_neg h,if_pos]
 refine .inl (Ar (t:=.int .i64) hi ?_)
 simp only [Bool.or_eq_true,decide_eq_true_eq]
 generalize nth (.int .i64) s i=x at hb
 have hb:¬ (1<=(x:Int)/\(x:Int)<=40):=hb
 dsimp only [D] at *;omega
theorem xe {s:List Int} {l:List (D aP)} (h:¬ (6 < s.length\/20 < l.length)) {i:Nat} (hi:i < l.length) (hb:¬ iK (nth aP l i)):bP (s,l)=([], .no 1):=by
 unfold bP;rw [if_neg h,if_pos]
 refine .inr (Ar (t:=aP) hi ?_)
 simp only [Bool.or_eq_true,decide_eq_true_eq]
 unfold iK at hb
 dsimp only [D] at *;omega
theorem uD {s:List Int} {l:List (D aP)} (h:¬ (6 < s.length\/20 < l.length)) (hs:∀j,j < s.length->1<=(nth (.int .i64) s j:Int)/\(nth (.int .i64) s j:Int)<=40) (ht:∀j,j < l.length->iK (nth aP l j)) :
  bP (s,l)=match eC l s [] with | some o=>(o, .nil) | none=>([], .no 8):=by
 unfold bP;rw [if_neg h,if_neg]
 rintro (e | e)
 ·have:xb s=false:=As (t:=.int .i64) fun i hi=>by
   have:=hs i hi
   simp only [Bool.or_eq_false_iff,decide_eq_false_iff_not]
   dsimp only [D] at *;omega
  rw [this] at e;cases e
 ·have:xc l=false:=As (t:=aP) fun i hi=>by
   have:=ht i hi
   unfold iK at this
   simp only [Bool.or_eq_false_iff,decide_eq_false_iff_not]
   dsimp only [D] at *;omega
  rw [this] at e;cases e
end Go.Mrl
namespace Go.Mrl
open Go.Vg
theorem EL {l:List (Int × Int × Unit)} {r:Int × Int × Unit} (h:∀y∈l,iK y) (hr:iK r):∀y∈l++[r],iK y:=by
 intro y hy
 rcases List.mem_append.1 hy with hy | hy
 ·exact h y hy
 ·simp at hy;rw [hy];exact hr
end Go.Mrl
namespace Go.Mrl
open Go.Vg
end Go.Mrl
namespace Go.Mrl
open Go.Vg
end Go.Mrl

namespace Go.Mrl
open Go.Vg
theorem yS {t:Ty} {a b:List (D t)} (hl:a.length=b.length) (h:∀i,i < a.length->nth t a i=nth t b i):a=b:=by
 apply List.ext_getElem hl
 intro i h1 h2
 have:=h i h1
 rwa [show nth t a i=a[i] from dX (List.getElem?_eq_getElem h1),show nth t b i=b[i] from dX (List.getElem?_eq_getElem h2)] at this
def eM (a b:List Int):Bool:=decide (a=b)
theorem By {a b:List Int} (hl:(a.length:Int)=b.length) (h:∀i,i < a.length->nth (.int .i64) a i=nth (.int .i64) b i):true=eM a b:=by
 rw [yS (t:=.int .i64) (by omega) h];simp [eM]
theorem C6 {a b:List Int} (hl:¬ (a.length:Int)=b.length):false=eM a b:=by
 symm;simp only [eM,decide_eq_false_iff_not];intro e;exact hl (by rw [e])
theorem EM {a b:List Int} {i:Nat} (h:¬ nth (.int .i64) a i=nth (.int .i64) b i):false=eM a b:=by
 symm;simp only [eM,decide_eq_false_iff_not];intro e;exact h (by rw [e])
theorem HJ {α:Type} {p:Nat->α->Prop} {f:Nat->α} {k:Nat} (h:∀j,j < k->p j (f j)) (hk:p k (f k)):∀j,j < k + 1->p j (f j):=by
 intro j hj
 by_cases e:j=k
 ·subst e;exact hk
 ·exact h j (by omega)
theorem C7 {p:Nat->Prop} {k:Nat} (h:∀j,j < k->p j) (hk:p k):∀j,j < k + 1->p j:=by
 intro j hj
 by_cases e:j=k
 ·subst e;exact hk
 ·exact h j (by omega)
end Go.Mrl

namespace Go.Mrl
open Go.Vg
theorem nV {t:Ty} {a b:List (D t)} {i:Nat}:nth t (a++b) i=if i < a.length then nth t a i else nth t b (i - a.length):=by
 unfold nth
 simp only [List.getD_eq_getElem?_getD,List.getElem?_append]
 split <;> rfl
theorem xf {t:Ty} {a:List (D t)} {n i:Nat} (h:i < n):nth t (a.take n) i=nth t a i:=by
 unfold nth
 simp only [List.getD_eq_getElem?_getD,List.getElem?_take,if_pos h]
end Go.Mrl

namespace Go.Mrl
open Go.Vg
@[reducible] def dC:Ty:=.slice (.int .i64)
@[reducible] def fI:Ty:=.slice dC
abbrev Pt:=Int × Int × Int × Unit
abbrev Ws:=List (List Int)
def mW (w:Ws) (p:Pt):Prop:=0<=p.1/\p.1 < w.length/\0<=p.2.1/\p.2.1 < (nth dC w p.1.toNat).length
def mu (w:Ws) (p:Pt):Ws:=w.set p.1.toNat ((nth dC w p.1.toNat).set p.2.1.toNat p.2.2.1)
def gL (w:Ws) (l:List Pt):Ws:=l.foldl mu w
open Classical in
noncomputable def dD (x:Ws × List Pt):Ws × aV:=if ∀i,i < x.2.length->mW x.1 (nth bn x.2 i) then (gL x.1 x.2, .nil) else ([], .no 1)
theorem Bz {t:Ty} {l:List (D t)} {i j:Nat} {x:D t} (h:¬ i=j):nth t (l.set i x) j=nth t l j:=by
 unfold nth;simp only [List.getD_eq_getElem?_getD];rw [List.getElem?_set_ne h]
theorem BA {t:Ty} {l:List (D t)} {i:Nat} {x:D t} (h:i < l.length):nth t (l.set i x) i=x:=by
 unfold nth;simp only [List.getD_eq_getElem?_getD];rw [List.getElem?_set_self h];rfl
theorem yT (w:Ws) (p:Pt):(mu w p).length=w.length:=by simp [mu]
theorem EN (w:Ws) (p:Pt) (i:Nat):nth dC (mu w p) i=if i < w.length/\p.1.toNat=i then (nth dC w i).set p.2.1.toNat p.2.2.1 else nth dC w i:=by
 unfold mu
 by_cases c:p.1.toNat=i
 ·subst c
  by_cases c2:p.1.toNat < w.length
  ·rw [if_pos ⟨c2,rfl⟩,BA (t:=dC) c2]
  ·rw [if_neg (fun h=>c2 h.1),List.set_eq_of_length_le (by omega)]
 ·rw [if_neg (fun h=>c h.2),Bz (t:=dC) c]
theorem C8 (w:Ws) (p:Pt) (i:Nat):(nth dC (mu w p) i).length=(nth dC w i).length:=by
 rw [EN];split <;> simp
theorem jZ (l:List Pt):∀w:Ws,(gL w l).length=w.length:=by
 induction l with
 | nil=>intro w;rfl
 | cons p l ih=>intro w;show (gL (mu w p) l).length=_;rw [ih,yT]
theorem ph (l:List Pt):∀(w:Ws) (i:Nat),(nth dC (gL w l) i).length=(nth dC w i).length:=by
 induction l with
 | nil=>intro w i;rfl
 | cons p l ih=>intro w i;show (nth dC (gL (mu w p) l) i).length=_;rw [ih,C8]
theorem C9 (w:Ws) (l:List Pt) (p:Pt):gL w (l++[p])=mu (gL w l) p:=by simp [gL]
theorem kq {t:Ty} {l:List (D t)} {k:Nat} (h:k < l.length):l.take (k + 1)=l.take k++[nth t l k]:=by
 rw [List.take_add_one,lq h];rfl
theorem Da {w:Ws} {l:List Pt} {k:Nat} (h:k < l.length):mu (gL w (l.take k)) (nth bn l k)=gL w (l.take (k + 1)):=by
 rw [kq (t:=bn) h,C9]
theorem tN {w:Ws} {l:List Pt} (h:∀i,i < l.length->mW w (nth bn l i)):dD (w,l)=(gL w l, .nil):=by unfold dD;rw [if_pos h]
theorem EO {w:Ws} {l:List Pt} {i:Nat} (hi:i < l.length) (h:¬ mW w (nth bn l i)):dD (w,l)=([], .no 1):=by
 unfold dD;rw [if_neg (fun hh=>h (hh i hi))]
theorem EP {w:Ws} {l:List Pt} (h:(dD (w,l)).2.isNil=true):∀i,i < l.length->mW w (nth bn l i):=by
 unfold dD at h
 split at h
 ·assumption
 ·cases h
theorem ER {w:Ws} {l:List Pt} (h:(dD (w,l)).2.isNil=true):(dD (w,l)).1.length=w.length:=by rw [tN (EP h)];exact jZ l w
end Go.Mrl

namespace Go.Mrl
open Go.Vg
def Small (x:Int):Prop:=-1000000<=x/\x<=1000000
def Word (x:Int):Prop:=-2147483648<=x/\x<=2147483647
def FQ (o:D aA):Prop:=o.2.2.2.1.length<=10/\(∀i,i < o.2.2.1.length->Small (nth aG o.2.2.1 i).2.1)/\
 ∀i,i < o.2.2.2.1.length->Small (nth aN o.2.2.2.1 i).1/\Word (nth aN o.2.2.2.1 i).2.2.1
def dY (l:List (D aA)):Prop:=l.length<=8/\∀i,i < l.length->FQ (nth aA l i)
def jt (b:List Int):Prop:=∀i,i < b.length->0<=(nth (.int .i64) b i:Int)/\(nth (.int .i64) b i:Int)<=256
def jf (b:List Int) (i:Nat):Int:=nth (.int .i64) b i
noncomputable def b8 (l:List (D aA)) (b:List Int) (t:D aN):Int × aV:=
 if 0<=(bJ (l,t.2.2.2.1)).1 then (jf b (bJ (l,t.2.2.2.1)).1.toNat + (nth aG (nth aA l (bJ (l,t.2.2.2.1)).1.toNat).2.2.1 (bJ (l,t.2.2.2.1)).2.toNat).2.1, .nil)
 else if t.2.2.2.2.1=true then (0, .nil) else (0, .no 6)
def fU (b:List Int) (i:Int) (t:D aN) (n:Int):Int × aV:=
 if t.2.1=(3:Int) then
  if n - (jf b i.toNat + t.1) < -500\/500 < n - (jf b i.toNat + t.1) then (0, .no 7)
  else (n - (jf b i.toNat + t.1), .nil)
 else if n < -2147483648\/2147483647 < n then (0, .no 7) else (n, .nil)
noncomputable def da (l:List (D aA)) (b:List Int) (i:Int) (t:D aN):Int × aV:=
 if t.2.1=(1:Int) then fU b i t (jf b i.toNat + t.2.2.1)
 else if (b8 l b t).2.isNil=true then fU b i t ((b8 l b t).1 + t.2.2.1) else (0,(b8 l b t).2)
noncomputable def gY (l:List (D aA)) (b:List Int) (i:Nat):List (D aN)->List Pt->List Pt × aV
 | [],out=>(out, .nil)
 | t :: r,out=>if (da l b i t).2.isNil=true then gY l b i r (out++[((i:Int),t.1,(da l b i t).1,())]) else ([],(da l b i t).2)
noncomputable def ie (f:List Pt->List Pt × aV) (x:List Pt × aV):List Pt × aV:=if x.2.isNil=true then f x.1 else ([],x.2)
noncomputable def gJ (l:List (D aA)) (b:List Int):List (D aA)->Nat->List Pt->List Pt × aV
 | [],_,out=>(out, .nil)
 | o :: r,i,out=>ie (gJ l b r (i + 1)) (gY l b i o.2.2.2.1 out)
open Classical in
noncomputable def dk (x:List (D aA) × List Int):List Pt × aV:=
 if ¬ x.2.length=x.1.length then ([], .no 3) else if jt x.2 then gJ x.1 x.2 x.1 0 [] else ([], .no 1)
theorem dm {t:Ty} {l:List (D t)} {i:Nat} (h:i < l.length):l.drop i=nth t l i :: l.drop (i + 1):=by
 rw [List.drop_eq_getElem_cons h]
 congr 1
 have:=lq h
 rw [List.getElem?_eq_getElem h] at this
 exact Option.some.inj this
theorem Db {l:List (D aA)} {b:List Int} {i:Nat} {out:List Pt} (h:i < l.length) :
  gJ l b (l.drop i) i out=ie (gJ l b (l.drop (i + 1)) (i + 1)) (gY l b i ((nth aA l i).2.2.2.1.drop 0) out):=by
 rw [dm (t:=aA) h];rfl
theorem Gj {l:List (D aA)} {b:List Int} {i:Nat} {out:List Pt} (h:l.length<=i):gJ l b (l.drop i) i out=(out, .nil):=by
 rw [List.drop_eq_nil_of_le h];rfl
theorem Hc {l:List (D aA)} {b:List Int} {i k:Nat} {ts:List (D aN)} {out:List Pt} (h:k < ts.length) (hn:(da l b i (nth aN ts k)).2.isNil=true) :
  gY l b i (ts.drop k) out=gY l b i (ts.drop (k + 1)) (out++[((i:Int),(nth aN ts k).1,(da l b i (nth aN ts k)).1,())]):=by
 rw [dm (t:=aN) h,gY,if_pos hn]
theorem Gk {l:List (D aA)} {b:List Int} {i k:Nat} {ts:List (D aN)} {out:List Pt} {f:List Pt->List Pt × aV} (h:k < ts.length) (hn:(da l b i (nth aN ts k)).2.isNil=false) :
  ie f (gY l b i (ts.drop k) out)=([],(da l b i (nth aN ts k)).2):=by
 rw [dm (t:=aN) h,gY,if_neg (by simp [hn])]
 unfold ie
 rw [if_neg (by simp [hn])]
theorem Gl {l:List (D aA)} {b:List Int} {i k:Nat} {ts:List (D aN)} {out:List Pt} {f:List Pt->List Pt × aV} (h:ts.length<=k):ie f (gY l b i (ts.drop k) out)=f out:=by
 rw [List.drop_eq_nil_of_le h];rfl
theorem tO {l:List (D aA)} {b:List Int} (h:b.length=l.length) (hb:jt b):dk (l,b)=gJ l b l 0 []:=by unfold dk;rw [if_neg (by simpa using h),if_pos hb]
theorem ES {l:List (D aA)} {b:List Int} (h:¬ b.length=l.length):dk (l,b)=([], .no 3):=by unfold dk;rw [if_pos h]
theorem Dc {l:List (D aA)} {b:List Int} {i:Nat} (h:b.length=l.length) (hi:i < b.length) (hn:¬ (0<=(nth (.int .i64) b i:Int)/\(nth (.int .i64) b i:Int)<=256)):dk (l,b)=([], .no 1):=by
 unfold dk;rw [if_neg (by simpa using h),if_neg (fun hh=>hn (hh i hi))]
theorem jG {b:List Int} {n:Nat} {i:Int} (hb:jt b) (hl:b.length=n) (h0:0<=i) (h1:i < n):0<=(nth (.int .i64) b i.toNat:Int)/\(nth (.int .i64) b i.toNat:Int)<=256:=hb _ (by omega)
theorem Dd {l:List (D aA)} {s:List UInt8} (hm:dY l) (h:0<=(bJ (l,s)).1):Small (nth aG (nth aA l (bJ (l,s)).1.toNat).2.2.1 (bJ (l,s)).2.toNat).2.1:=by
 have hf:=qa h
 exact (hm.2 _ (by omega)).2.1 _ (by omega)
theorem sP {l:List (D aA)} {b:List Int} {t:D aN} (h:0<=(bJ (l,t.2.2.2.1)).1) :
  b8 l b t=(nth (.int .i64) b (bJ (l,t.2.2.2.1)).1.toNat + (nth aG (nth aA l (bJ (l,t.2.2.2.1)).1.toNat).2.2.1 (bJ (l,t.2.2.2.1)).2.toNat).2.1, .nil):=by unfold b8 jf;rw [if_pos h]
theorem qC {l:List (D aA)} {b:List Int} {t:D aN} (h:(bJ (l,t.2.2.2.1)).1 < 0) (hw:t.2.2.2.2.1=true):b8 l b t=(0, .nil):=by unfold b8;rw [if_neg (by omega),if_pos hw]
theorem pj {l:List (D aA)} {b:List Int} {t:D aN} (h:(bJ (l,t.2.2.2.1)).1 < 0) (hw:t.2.2.2.2.1=false):b8 l b t=(0, .no 6):=by unfold b8;rw [if_neg (by omega),if_neg (by simp [hw])]
theorem pk {l:List (D aA)} {b:List Int} (t:D aN) (hm:dY l) (hl:b.length=l.length) (hb:jt b) : -2000000<=(b8 l b t).1/\(b8 l b t).1<=2000000:=by
 by_cases h:0<=(bJ (l,t.2.2.2.1)).1
 ·have h1:=jG hb hl h (qa h).1
  have h2:=Dd hm h
  rw [sP h];unfold Small at h2;dsimp only [D] at *;omega
 ·cases hw:t.2.2.2.2.1 with
  | true=>rw [qC (by omega) hw];simp
  | false=>rw [pj (by omega) hw];simp
theorem xg {l:List (D aA)} {b:List Int} {i:Int} {t:D aN} (h:t.2.1=(1:Int)):da l b i t=fU b i t (nth (.int .i64) b i.toNat + t.2.2.1):=by unfold da;rw [if_pos h];rfl
theorem mX {l:List (D aA)} {b:List Int} {i:Int} {t:D aN} (h:¬ t.2.1=(1:Int)) (hn:(b8 l b t).2.isNil=true):da l b i t=fU b i t ((b8 l b t).1 + t.2.2.1):=by unfold da;rw [if_neg h,if_pos hn]
theorem Gm {l:List (D aA)} {b:List Int} {i:Int} {t:D aN} (h:¬ t.2.1=(1:Int)) (hn:(b8 l b t).2.isNil=false):da l b i t=(0,(b8 l b t).2):=by unfold da;rw [if_neg h,if_neg (by simp [hn])]
theorem ET {b:List Int} {i n:Int} {t:D aN} (h:t.2.1=(3:Int)) (hr:n - (nth (.int .i64) b i.toNat + t.1) < -500\/500 < n - (nth (.int .i64) b i.toNat + t.1)):fU b i t n=(0, .no 7):=by
 unfold fU jf;rw [if_pos h,if_pos hr]
theorem Gn {b:List Int} {i n m:Int} {t:D aN} (h:t.2.1=(3:Int)) (e:m=n - (nth (.int .i64) b i.toNat + t.1)) (hr : -500<=m/\m<=500):fU b i t n=(m, .nil):=by
 unfold fU jf;rw [if_pos h,if_neg (by omega),e]
theorem xh {b:List Int} {i n:Int} {t:D aN} (h:¬ t.2.1=(3:Int)) (hr:n < -2147483648\/2147483647 < n):fU b i t n=(0, .no 7):=by
 unfold fU;rw [if_neg h,if_pos hr]
theorem tP {b:List Int} {i n m:Int} {t:D aN} (h:¬ t.2.1=(3:Int)) (e:m=n) (hr : -2147483648<=n/\n<=2147483647):fU b i t n=(m, .nil):=by
 unfold fU;rw [if_neg h,if_neg (by omega),e]
def Told (e:aV):Prop:=p9 e (cI e)=true
theorem uE (b:List Int) (i n:Int) (t:D aN):Told (fU b i t n).2:=by
 unfold fU;split <;> split <;> rfl
theorem yU (l:List (D aA)) (b:List Int) (t:D aN):Told (b8 l b t).2:=by
 unfold b8;split
 ·rfl
 ·split <;> rfl
theorem EU (l:List (D aA)) (b:List Int) (i:Int) (t:D aN):Told (da l b i t).2:=by
 unfold da;split
 ·exact uE _ _ _ _
 ·split
  ·exact uE _ _ _ _
  ·exact yU _ _ _
theorem xi (l:List (D aA)) (b:List Int) (i:Nat):∀(ts:List (D aN)) (out:List Pt),Told (gY l b i ts out).2
 | [],_=>rfl
 | t :: r,out=>by
  rw [gY];split
  ·exact xi l b i r _
  ·exact EU _ _ _ _
theorem xj (l:List (D aA)) (b:List Int):∀(os:List (D aA)) (i:Nat) (out:List Pt),Told (gJ l b os i out).2
 | [],_,_=>rfl
 | o :: r,i,out=>by
  rw [gJ];unfold ie;split
  ·exact xj l b r _ _
  ·exact xi _ _ _ _ _
theorem xk (x:List (D aA) × List Int):p9 (dk x).2 (cI (dk x).2)=true:=by
 unfold dk;split
 ·rfl
 ·split
  ·exact xj _ _ _ _ _
  ·rfl
end Go.Mrl

namespace Go.Mrl
open Go.Vg
abbrev aF:=List UInt8
def ju (a b:aF):Prop:=Op.bytesLess a b=true
theorem xl (a:UInt8):¬ a < a:=fun h=>by have:=UInt8.lt_iff_toNat_lt.1 h;omega
theorem jg:∀a:aF,¬ ju a a
 | []=>fun h=>by cases h
 | a :: x=>fun h=>by
  unfold ju at h
  simp only [Op.bytesLess,Bool.or_eq_true,decide_eq_true_eq,Bool.and_eq_true] at h
  rcases h with h | ⟨_,h⟩
  ·exact xl a h
  ·exact jg x h
theorem pn:∀{a b c:aF},ju a b->ju b c->ju a c
 | a,[],_,h,_=>by unfold ju at h;cases a <;> simp [Op.bytesLess] at h
 | _,_ :: _,[],_,h=>by unfold ju at h;simp [Op.bytesLess] at h
 | [],_ :: _,_ :: _,_,_=>rfl
 | a :: x,b :: y,c :: z,h1,h2=>by
  unfold ju at h1 h2 ⊢
  simp only [Op.bytesLess,Bool.or_eq_true,decide_eq_true_eq,Bool.and_eq_true,beq_iff_eq] at h1 h2 ⊢
  rcases h1 with h1 | ⟨rfl,h1⟩
  ·rcases h2 with h2 | ⟨rfl,h2⟩
   ·left;rw [UInt8.lt_iff_toNat_lt] at *;omega
   ·exact .inl h1
  ·rcases h2 with h2 | ⟨rfl,h2⟩
   ·exact .inl h2
   ·exact .inr ⟨rfl,pn h1 h2⟩
theorem po:∀{a b:aF},¬ ju a b->¬ ju b a->a=b
 | [],[],_,_=>rfl
 | [],_ :: _,h,_=>(h rfl).elim
 | _ :: _,[],_,h=>(h rfl).elim
 | a :: x,b :: y,h1,h2=>by
  unfold ju at h1 h2
  simp only [Op.bytesLess,Bool.or_eq_true,decide_eq_true_eq,Bool.and_eq_true,beq_iff_eq,not_or,not_and] at h1 h2
  have hab:a=b:=by
   apply UInt8.toNat_inj.1
   have h3:=h1.1;have h4:=h2.1
   rw [UInt8.lt_iff_toNat_lt] at h3 h4
   omega
  subst hab
  rw [po (h1.2 rfl) (h2.2 rfl)]
def sQ (a b:aF):Prop:=¬ ju b a
theorem xm (a:aF):sQ a a:=jg a
theorem uF {a b:aF} (h:ju a b):sQ a b:=fun h'=>jg a (pn h h')
theorem De {a b c:aF} (h1:sQ a b) (h2:sQ b c):sQ a c:=by
 intro h
 by_cases hab:ju a b
 ·exact h2 (pn h hab)
 ·have:=po hab h1;subst this;exact h2 h
theorem pq {a b:aF} (h1:sQ a b) (h2:a≠b):ju a b:=Classical.byContradiction fun h=>h2 (po h h1)
end Go.Mrl

namespace Go.Mrl
open Go.Vg
end Go.Mrl

namespace Go.Mrl
open Go.Vg
theorem ba {n:Int}:(aW n).isNil=true ↔ n=0:=by
 unfold aW;split
 ·rename_i h;simp [h,aV.isNil]
 ·rename_i h;simp [h,aV.isNil]
theorem mY {a:Int} (h0 : -9223372036854775808<=a) (h:a < 9223372036854775808):IntKind.i64.wrap a=a:=
 tm (by rw [kP];unfold aK;omega)
end Go.Mrl
namespace Go.Mrl
open Go.Vg
def jh (e:D dh):Prop:=e.1.length<=20/\e.2.1.length<=8/\e.2.2.1.length<=40/\∀i,i < e.2.1.length->(nth eV e.2.1 i).1.length<=20
def pr (a:D bL):Prop:=a.2.1.length<=100/\a.2.2.1.length<=1300/\jh a.2.2.2.2.2.1
def jH (l:List (D bL)) (m:Int):Prop:=(l.length:Int)<=m/\∀i,i < l.length->pr (nth bL l i)
end Go.Mrl

namespace Go.Mrl
open Go.Vg
@[reducible] def bD:Ty:=.prod .str (.prod (.int .i64) .unit)
abbrev FE:=aF × (aF × Int × Unit) × Int × Unit
abbrev dK:=(Int × Unit) × (List FE × Int × Unit) × Unit
def j0 (y:FE):Int:=y.2.2.1
def lr (y:FE):aF:=y.1
def aY (x:dK) (s:aF):aF × Int × Int:=
 if bN bD x.2.1.1 s=true then ((dr bD x.2.1.1 s).1,(dr bD x.2.1.1 s).2.1,0) else ([],0,5)
def bH (x:dK) (s t:aF):dK × Int:=
 if ¬ aI s=0 then (x,aI s) else if 1200 < t.length then (x,2)
 else if (bN bD x.2.1.1 s=false/\x.2.1.1.length=6)\/x.1.1=1000000 then (x,8)
 else (((x.1.1 + 1,()),(cg bD x.2.1.1 s (t,x.1.1 + 1,()) x.2.1.2.1,fy bD x.2.1.1 s x.2.1.2.1,()),()),0)
def cy (x:dK) (s:aF):dK × Int:=
 if bN bD x.2.1.1 s=true then ((x.1,(cV bD x.2.1.1 s,x.2.1.2.1,()),()),0) else (x,5)
def ji:dK:=((0,()),([],0,()),())
theorem lZ {x:dK} {s:aF} (h:bN bD x.2.1.1 s=false):aY x s=([],0,5):=by unfold aY;rw [if_neg (by rw [h];simp)]
theorem nW {x:dK} {s:aF} (h:bN bD x.2.1.1 s=true):aY x s=((dr bD x.2.1.1 s).1,(dr bD x.2.1.1 s).2.1,0):=by unfold aY;rw [if_pos h]
theorem pw {x:dK} {s t:aF} (h:¬ aI s=0):bH x s t=(x,aI s):=by unfold bH;rw [if_pos h]
theorem px {x:dK} {s t:aF} (h:aI s=0) (h1:1200 < t.length):bH x s t=(x,2):=by unfold bH;rw [if_neg (by simp [h]),if_pos h1]
theorem py {x:dK} {s t:aF} (h:aI s=0) (h1:¬ 1200 < t.length) (h2:(bN bD x.2.1.1 s=false/\x.2.1.1.length=6)\/x.1.1=1000000):bH x s t=(x,8):=by unfold bH;rw [if_neg (by simp [h]),if_neg h1,if_pos h2]
theorem sR {x:dK} {s t:aF} (h:aI s=0) (h1:¬ 1200 < t.length) (h2:¬ ((bN bD x.2.1.1 s=false/\x.2.1.1.length=6)\/x.1.1=1000000)) :
  bH x s t=(((x.1.1 + 1,()),(cg bD x.2.1.1 s (t,x.1.1 + 1,()) x.2.1.2.1,fy bD x.2.1.1 s x.2.1.2.1,()),()),0):=by unfold bH;rw [if_neg (by simp [h]),if_neg h1,if_neg h2]
theorem j9 {x:dK} {s:aF} (h:bN bD x.2.1.1 s=false):cy x s=(x,5):=by unfold cy;rw [if_neg (by rw [h];simp)]
theorem jj {x:dK} {s:aF} (h:bN bD x.2.1.1 s=true):cy x s=((x.1,(cV bD x.2.1.1 s,x.2.1.2.1,()),()),0):=by unfold cy;rw [if_pos h]
theorem uG {α:Type} [DecidableEq α]:∀{a b:List α},a.Nodup->(∀y∈a,y∈b)->a.length<=b.length
 | [],_,_,_=>by simp
 | x :: a,b,hn,hs=>by
  have hn':=List.nodup_cons.1 hn
  have h1:(b.erase x).length=b.length - 1:=List.length_erase_of_mem (hs x (by simp))
  have h2:0 < b.length:=List.length_pos_of_mem (hs x (by simp))
  have:=uG (b:=b.erase x) hn'.2 fun y hy=>(List.mem_erase_of_ne (fun (e:y=x)=>hn'.1 (by rw [<-e];exact hy))).2 (hs y (by simp [hy]))
  simp only [List.length_cons]
  omega
end Go.Mrl

namespace Go.Mrl
open Go.Vg
def dS (n:Int):Bool:=decide (-2147483648<=n) && decide (n<=2147483647)
def dP:List (List UInt8)->List (List UInt8)->Int
 | _,[]=>0
 | p,s :: r=>if aI s > 0 then aI s else if p.any (· == s)=true then 3 else dP (p++[s]) r
def eN:List Int->Int
 | []=>0
 | n :: r=>if dS n=true then eN r else 1
def cU (n:Nat):List (D aG)->List (D aG)->Int
 | _,[]=>0
 | p,s :: r=>if aI s.1 > 0 then aI s.1 else if s.2.1 < 0\/s.2.1>=(n:Int) then 1 else if p.any (fun x=>x.1 == s.1)=true then 3 else cU n (p++[s]) r
def gZ (a:Int):Option Int->Bool
 | some b=>decide (a<=b)
 | none=>false
def gk (n:Nat) (prev:Option Int) (t:D aN):Int:=
 if t.1 < 0\/t.1>=(n:Int)\/dS t.2.2.1=false then 1
 else if t.2.1 < 1\/t.2.1 > 3\/gZ t.1 prev=true then 3
 else if t.2.1=1 then (if t.2.2.2.1≠[]\/t.2.2.2.2.1=true then 3 else 0)
 else aI t.2.2.2.1
def eO (n:Nat):Option Int->List (D aN)->Int
 | _,[]=>0
 | prev,t :: r=>if gk n prev t≠0 then gk n prev t else eO n (some t.1) r
def fC (o:D aA):Prop:=o.1.length > 4\/o.2.1.length < 1\/o.2.1.length > 40\/o.2.2.1.length > 8\/o.2.2.2.1.length > 6
instance (o:D aA):Decidable (fC o):=by unfold fC;infer_instance
def bA (o:D aA):Int:=
 if fC o then 2 else if dP [] o.1≠0 then dP [] o.1 else if eN o.2.1≠0 then eN o.2.1
 else if cU o.2.1.length [] o.2.2.1≠0 then cU o.2.1.length [] o.2.2.1 else eO o.2.1.length none o.2.2.2.1
theorem gl {t:Ty} {l:List (D t)} {i:Nat} (h:i < l.length):l.take (i + 1)=l.take i++[nth t l i]:=by
 rw [List.take_add_one];congr 1;unfold nth;simp [h]
theorem pz (n:Nat):∀(l p:List (D aG)),0<=cU n p l
 | [],_=>Int.le_refl _
 | s :: r,p=>by
  unfold cU
  split
  ·omega
  ·split
   ·decide
   ·split
    ·decide
    ·exact pz n r _
structure er (l:List (List UInt8)) (i:Nat):Prop where
 le:i<=l.length
 eq:dP (l.take i) (l.drop i)=dP [] l
theorem er.zero (l:List (List UInt8)):er l 0:=⟨Nat.zero_le _,rfl⟩
theorem er.fault {l:List (List UInt8)} {i:Nat} (h:er l i) (hi:i < l.length) (hf:aI (nth .str l i) > 0):dP [] l=aI (nth .str l i):=by
 rw [<-h.eq,dm (t:=.str) hi];unfold dP;rw [if_pos hf]
theorem er.dup {l:List (List UInt8)} {i:Nat} (h:er l i) (hi:i < l.length) (hf:aI (nth .str l i)<=0) (ha:(l.take i).any (· == nth .str l i)=true):dP [] l=3:=by
 rw [<-h.eq,dm (t:=.str) hi];unfold dP;rw [if_neg (by omega),if_pos ha]
theorem er.next {l:List (List UInt8)} {i:Nat} (h:er l i) (hi:i < l.length) (hf:aI (nth .str l i)<=0) (ha:(l.take i).any (· == nth .str l i)=false):er l (i + 1):=by
 refine ⟨hi,?_⟩
 rw [<-h.eq,dm (t:=.str) hi,gl (t:=.str) hi]
 conv=>rhs;unfold dP
 rw [if_neg (by omega),if_neg (by rw [ha];decide)]
theorem er.done {l:List (List UInt8)} {i:Nat} (h:er l i) (hi:¬ i < l.length):dP [] l=0:=by
 rw [<-h.eq,List.drop_eq_nil_of_le (by omega)];rfl
structure fh (l:List Int) (i:Nat):Prop where
 le:i<=l.length
 eq:eN (l.drop i)=eN l
theorem fh.zero (l:List Int):fh l 0:=⟨Nat.zero_le _,rfl⟩
theorem fh.fault {l:List Int} {i:Nat} (h:fh l i) (hi:i < l.length) (hf:dS (nth (.int .i64) l i)=false):eN l=1:=by
 rw [<-h.eq,dm (t:=.int .i64) hi];unfold eN;rw [if_neg (by rw [hf];decide)]
theorem fh.next {l:List Int} {i:Nat} (h:fh l i) (hi:i < l.length) (hf:dS (nth (.int .i64) l i)=true):fh l (i + 1):=by
 refine ⟨hi,?_⟩
 rw [<-h.eq,dm (t:=.int .i64) hi]
 conv=>rhs;unfold eN
 rw [if_pos hf]
theorem fh.done {l:List Int} {i:Nat} (h:fh l i) (hi:¬ i < l.length):eN l=0:=by
 rw [<-h.eq,List.drop_eq_nil_of_le (by omega)];rfl
structure eP (n:Nat) (l:List (D aG)) (i:Nat):Prop where
 le:i<=l.length
 eq:cU n (l.take i) (l.drop i)=cU n [] l
theorem eP.zero (n:Nat) (l:List (D aG)):eP n l 0:=⟨Nat.zero_le _,rfl⟩
theorem eP.fault {n:Nat} {l:List (D aG)} {i:Nat} (h:eP n l i) (hi:i < l.length) (hf:aI (nth aG l i).1 > 0):cU n [] l=aI (nth aG l i).1:=by
 rw [<-h.eq,dm (t:=aG) hi];unfold cU;rw [if_pos hf]
theorem eP.out {n:Nat} {l:List (D aG)} {i:Nat} (h:eP n l i) (hi:i < l.length) (hf:aI (nth aG l i).1<=0) (ho:(nth aG l i).2.1 < 0\/(nth aG l i).2.1>=(n:Int)):cU n [] l=1:=by
 rw [<-h.eq,dm (t:=aG) hi];unfold cU;rw [if_neg (by omega),if_pos ho]
theorem eP.dup {n:Nat} {l:List (D aG)} {i:Nat} (h:eP n l i) (hi:i < l.length) (hf:aI (nth aG l i).1<=0) (ho:¬ ((nth aG l i).2.1 < 0\/(nth aG l i).2.1>=(n:Int)))
  (ha:(l.take i).any (fun x=>x.1 == (nth aG l i).1)=true):cU n [] l=3:=by
 rw [<-h.eq,dm (t:=aG) hi];unfold cU;rw [if_neg (by omega),if_neg ho,if_pos ha]
theorem eP.next {n:Nat} {l:List (D aG)} {i:Nat} (h:eP n l i) (hi:i < l.length) (hf:aI (nth aG l i).1<=0) (ho:¬ ((nth aG l i).2.1 < 0\/(nth aG l i).2.1>=(n:Int)))
  (ha:(l.take i).any (fun x=>x.1 == (nth aG l i).1)=false):eP n l (i + 1):=by
 refine ⟨hi,?_⟩
 rw [<-h.eq,dm (t:=aG) hi,gl (t:=aG) hi]
 conv=>rhs;unfold cU
 rw [if_neg (by omega),if_neg ho,if_neg (by rw [ha];decide)]
theorem eP.done {n:Nat} {l:List (D aG)} {i:Nat} (h:eP n l i) (hi:¬ i < l.length):cU n [] l=0:=by
 rw [<-h.eq,List.drop_eq_nil_of_le (by omega)];rfl
def ig (l:List (D aN)) (i:Nat):Option Int:=if i=0 then none else some (nth aN l (i - 1)).1
structure gD (n:Nat) (l:List (D aN)) (i:Nat):Prop where
 le:i<=l.length
 eq:eO n (ig l i) (l.drop i)=eO n none l
theorem gD.zero (n:Nat) (l:List (D aN)):gD n l 0:=⟨Nat.zero_le _,rfl⟩
theorem gD.fault {n:Nat} {l:List (D aN)} {i:Nat} (h:gD n l i) (hi:i < l.length) {f:Int} (hf:gk n (ig l i) (nth aN l i)=f) (h0:f≠0):eO n none l=f:=by
 rw [<-h.eq,dm (t:=aN) hi];unfold eO;rw [if_pos (by rw [hf];exact h0),hf]
theorem gD.next {n:Nat} {l:List (D aN)} {i:Nat} (h:gD n l i) (hi:i < l.length) (hf:gk n (ig l i) (nth aN l i)=0):gD n l (i + 1):=by
 refine ⟨hi,?_⟩
 rw [<-h.eq,dm (t:=aN) hi]
 conv=>rhs;unfold eO
 rw [if_neg (by rw [hf];decide)]
 rfl
theorem gD.done {n:Nat} {l:List (D aN)} {i:Nat} (h:gD n l i) (hi:¬ i < l.length):eO n none l=0:=by
 rw [<-h.eq,List.drop_eq_nil_of_le (by omega)];rfl
theorem xn {t:Ty} {l:List (D t)} {i j:Nat} {f:D t->Bool} (hj:j < i) (hi:i<=l.length) (h:f (nth t l j)=true):(l.take i).any f=true:=by
 rw [List.any_eq_true]
 refine ⟨nth t l j,?_,h⟩
 have:(l.take i)[j]?=some (nth t l j):=by
  rw [List.getElem?_take,if_pos hj]
  unfold nth
  rw [List.getD_eq_getElem?_getD,List.getElem?_eq_getElem (by omega)];rfl
 exact List.mem_of_getElem? this
theorem uH {t:Ty} {l:List (D t)} {i:Nat} {f:D t->Bool} (h:∀j,j < i->f (nth t l j)=false):(l.take i).any f=false:=by
 rw [List.any_eq_false]
 intro x hx
 obtain ⟨j,hj,rfl⟩:=List.getElem_of_mem hx
 rw [List.length_take] at hj
 have:=h j (by omega)
 rw [List.getElem_take]
 have e:nth t l j=l[j]'(by omega):=by unfold nth;simp [show j < l.length by omega]
 rw [e] at this
 rw [this];decide
theorem contains_of {l:List (List UInt8)} {s:List UInt8} {y:Int} (h:(y = -1/\∀j,j < l.length->nth .str l j≠s)\/(0<=y/\y.toNat < l.length/\nth .str l y.toNat=s)):decide (y>=0)=l.any (· == s):=by
 rcases h with ⟨rfl,h⟩ | ⟨h1,h2,h3⟩
 ·have:=uH (t:=.str) (l:=l) (i:=l.length) (f:=(· == s)) fun j hj=>by simpa using h j hj
  rw [List.take_length] at this
  rw [this];rfl
 ·have:=xn (t:=.str) (l:=l) (i:=l.length) (f:=(· == s)) h2 (Nat.le_refl _) (by simpa using h3)
  rw [List.take_length] at this
  rw [this];simpa using h1
theorem yV {o:D aA} (h:fC o):bA o=2:=by unfold bA;rw [if_pos h]
theorem pA {o:D aA} (h:¬ fC o) {f:Int} (hf:dP [] o.1=f) (h0:f≠0):bA o=f:=by unfold bA;rw [if_neg h,if_pos (by rw [hf];exact h0),hf]
theorem xp {o:D aA} (h:¬ fC o) (h1:dP [] o.1=0) {f:Int} (hf:eN o.2.1=f) (h0:f≠0):bA o=f:=by
 unfold bA;rw [if_neg h,if_neg (by rw [h1];decide),if_pos (by rw [hf];exact h0),hf]
theorem yW {o:D aA} (h:¬ fC o) (h1:dP [] o.1=0) (h2:eN o.2.1=0) {f:Int} (hf:cU o.2.1.length [] o.2.2.1=f) (h0:f≠0):bA o=f:=by
 unfold bA;rw [if_neg h,if_neg (by rw [h1];decide),if_neg (by rw [h2];decide),if_pos (by rw [hf];exact h0),hf]
theorem yX {o:D aA} (h:¬ fC o) (h1:dP [] o.1=0) (h2:eN o.2.1=0) (h3:cU o.2.1.length [] o.2.2.1=0) {f:Int} (hf:eO o.2.1.length none o.2.2.2.1=f):bA o=f:=by
 unfold bA;rw [if_neg h,if_neg (by rw [h1];decide),if_neg (by rw [h2];decide),if_neg (by rw [h3];decide),hf]
end Go.Mrl

namespace Go.Mrl
open Go.Vg
abbrev RF:=aF × aF × Int × Unit
abbrev RS:=List RF × Int × Unit
def qb (y:RF):aF:=y.1
def eu (s:aF) (y:RF):Bool:=!(y.1 == s)
def kM:List RF->aF->aF × Int × Int
 | [],_=>([],0,5)
 | y :: r,s=>if y.1=s then (y.2.1,y.2.2.1,0) else kM r s
def mv (s:aF) (e:RF):List RF->List RF
 | []=>[e]
 | y :: r=>if (Op.bytesLess s y.1 || s == y.1)=true then e :: (y :: r).filter (eu s) else y :: mv s e r
def mZ (x:RS) (s t:aF):RS × Int:=
 if ¬ aI s=0 then (x,aI s) else if 1200 < t.length then (x,2)
 else if (0 < (kM x.1 s).2.2/\x.1.length=6)\/x.2.1=1000000 then (x,8)
 else ((mv s (s,t,x.2.1 + 1,()) x.1,x.2.1 + 1,()),0)
def qc (x:RS) (s:aF):RS × Int:=if (x.1.filter (eu s)).length=x.1.length then (x,5) else ((x.1.filter (eu s),x.2),0)
def l5 (y:FE):RF:=(y.1,y.2.1.1,y.2.1.2.1,())
def na (L:List RF):Prop:=L.Pairwise fun a b=>ju a.1 b.1
structure cz (x:dK) (r:RS):Prop where
 now:r.2.1=x.1.1
 lo:0<=x.1.1
 hi:x.1.1<=1000000
 len:x.2.1.1.length<=6
 born:(x.2.1.1.map j0).Nodup
 mz:∀y∈x.2.1.1,j0 y < x.2.1.2.1
 xq:na r.1
 perm:r.1.Perm (x.2.1.1.map l5)
theorem cz.new:cz ji ([],0,()):=⟨rfl,Int.le_refl _,by decide,by decide,by decide,fun y hy=>by simp [ji] at hy, .nil, .refl _⟩
theorem pB {L:List RF} (h:na L):(L.map qb).Nodup:=by
 unfold List.Nodup
 rw [List.pairwise_map]
 exact h.imp fun hlt e=>by unfold qb at e;rw [e] at hlt;exact jg _ hlt
theorem cz.names {x:dK} {r:RS} (h:cz x r):(x.2.1.1.map lr).Nodup:=by
 have h1:=(h.perm.map qb).nodup_iff.1 (pB h.xq)
 rw [List.map_map] at h1
 exact h1
theorem uI:∀{L:List RF} {s:aF},(L.map qb).Nodup->∀y∈L,y.1=s->kM L s=(y.2.1,y.2.2.1,0)
 | [],_,_,_,h,_=>by simp at h
 | z :: r,s,hn,y,hy,e=>by
  simp only [List.map_cons,List.nodup_cons] at hn
  unfold kM
  rcases List.mem_cons.1 hy with rfl | hy
  ·rw [if_pos e]
  ·have:¬ z.1=s:=fun e2=>hn.1 (by rw [show qb z=qb y from e2.trans e.symm];exact List.mem_map_of_mem hy)
   rw [if_neg this]
   exact uI hn.2 y hy e
theorem xr:∀{L:List RF} {s:aF},(∀y∈L,¬ y.1=s)->kM L s=([],0,5)
 | [],_,_=>rfl
 | z :: r,s,h=>by
  unfold kM
  rw [if_neg (h z (by simp))]
  exact xr fun y hy=>h y (by simp [hy])
theorem jI:∀{es:List FE} {s:aF},bN bD es s=true ↔ ∃y∈es,y.1=s
 | [],_=>by simp [bN]
 | z :: r,s=>by
  unfold bN
  by_cases c:z.1=s
  ·simp [c]
  ·rw [if_neg c,jI];simp [c]
theorem xu:∀{es:List FE} {s:aF},(es.map lr).Nodup->∀y∈es,y.1=s->dr bD es s=y.2.1
 | [],_,_,_,h,_=>by simp at h
 | z :: r,s,hn,y,hy,e=>by
  simp only [List.map_cons,List.nodup_cons] at hn
  unfold dr
  rcases List.mem_cons.1 hy with rfl | hy
  ·rw [if_pos e]
  ·have:¬ z.1=s:=fun e2=>hn.1 (by rw [show lr z=lr y from e2.trans e.symm];exact List.mem_map_of_mem hy)
   rw [if_neg this]
   exact xu hn.2 y hy e
theorem cz.read {x:dK} {r:RS} (h:cz x r) (s:aF):aY x s=kM r.1 s:=by
 by_cases c:bN bD x.2.1.1 s=true
 ·obtain ⟨y,hy,e⟩:=jI.1 c
  rw [nW c,xu h.names y hy e]
  exact (uI (pB h.xq) (l5 y) (h.perm.mem_iff.2 (List.mem_map_of_mem hy)) e).symm
 ·rw [lZ (by simpa using c)]
  refine (xr fun y hy e=>c ?_).symm
  obtain ⟨z,hz,rfl⟩:=List.mem_map.1 (h.perm.mem_iff.1 hy)
  exact jI.2 ⟨z,hz,e⟩
theorem fo {s:aF} {y:RF}:eu s y=true ↔ ¬ y.1=s:=by simp [eu]
theorem xv {s:aF} {e:RF}:∀{L:List RF} {y:RF},y∈mv s e L->y=e\/y∈L
 | [],y,h=>by simp [mv] at h;exact .inl h
 | z :: r,y,h=>by
  unfold mv at h
  split at h
  ·rcases List.mem_cons.1 h with h | h
   ·exact .inl h
   ·exact .inr (List.mem_filter.1 h).1
  ·rcases List.mem_cons.1 h with rfl | h
   ·exact .inr (by simp)
   ·rcases xv h with h | h
    ·exact .inl h
    ·exact .inr (by simp [h])
theorem not_le {s a:aF} (h:¬ (Op.bytesLess s a || s == a)=true):ju a s:=by
 simp at h
 exact pq (a:=a) (b:=s) (by unfold sQ ju;rw [h.1];simp) (fun e=>h.2 e.symm)
theorem qD {s:aF} {e:RF} (he:e.1=s):∀{L:List RF},na L->na (mv s e L)
 | [],_=>by simp [mv,na]
 | z :: r,h=>by
  have h':=List.pairwise_cons.1 h
  unfold mv
  split
  ·rename_i c
   refine List.pairwise_cons.2 ⟨fun y hy => ?_,h.filter _⟩
   have hy':=List.mem_filter.1 hy
   have hn:=fo.1 hy'.2
   have hz:sQ s z.1:=by
    simp at c
    rcases c with c | rfl
    ·exact uF c
    ·exact xm _
   have hzy:sQ z.1 y.1:=by
    rcases List.mem_cons.1 hy'.1 with e2 | hy2
    ·rw [e2];exact xm _
    ·exact uF (h'.1 y hy2)
   rw [he]
   exact pq (De hz hzy) (fun e2=>hn e2.symm)
  ·rename_i c
   have hlt:=not_le c
   refine List.pairwise_cons.2 ⟨fun y hy => ?_,qD he h'.2⟩
   rcases xv hy with rfl | hy
   ·rw [he];exact hlt
   ·exact h'.1 y hy
theorem filter_all {s:aF}:∀{L:List RF},(∀y∈L,¬ y.1=s)->L.filter (eu s)=L:=fun h=>List.filter_eq_self.2 fun y hy=>fo.2 (h y hy)
theorem uJ {s:aF} {e:RF}:∀{L:List RF},na L->(mv s e L).Perm (e :: L.filter (eu s))
 | [],_ => .refl _
 | z :: r,h=>by
  have h':=List.pairwise_cons.1 h
  unfold mv
  split
  ·exact .refl _
  ·rename_i c
   have hlt:=not_le c
   have hz:eu s z=true:=fo.2 fun e=>by rw [e] at hlt;exact jg _ hlt
   rw [List.filter_cons,if_pos hz]
   exact ((uJ h'.2).cons z).trans (List.Perm.swap e z _)
theorem pC {s:aF} {v:aF × Int × Unit} {c:Int}:∀{es:List FE},(es.map lr).Nodup->((cg bD es s v c).map l5).Perm ((s,v.1,v.2.1,()) :: (es.map l5).filter (eu s))
 | [],_ => .refl _
 | z :: r,hn=>by
  simp only [List.map_cons,List.nodup_cons] at hn
  unfold cg
  by_cases e:z.1=s
  ·rw [if_pos e]
   have h1:eu s (l5 z)=false:=by
    cases h:eu s (l5 z) with
    | false=>rfl
    | true=>exact absurd e (fo.1 h)
   rw [List.map_cons,List.map_cons,List.filter_cons,if_neg (by rw [h1];simp),filter_all]
   ·exact .refl _
   ·intro y hy e2
    obtain ⟨z2,hz2,rfl⟩:=List.mem_map.1 hy
    exact hn.1 (by rw [show lr z=lr z2 from e.trans (show s=z2.1 from e2.symm)];exact List.mem_map_of_mem hz2)
  ·rw [if_neg e]
   have h1:eu s (l5 z)=true:=fo.2 e
   rw [List.map_cons,List.map_cons,List.filter_cons,if_pos h1]
   exact ((pC hn.2).cons (l5 z)).trans (List.Perm.swap _ _ _)
theorem l6 {s:aF} {v:aF × Int × Unit} {c:Int}:∀{es:List FE},(cg bD es s v c).map j0=if bN bD es s=true then es.map j0 else es.map j0++[c]
 | []=>rfl
 | z :: r=>by
  unfold cg bN
  by_cases e:z.1=s
  ·rw [if_pos e,if_pos e];rfl
  ·rw [if_neg e,if_neg e,List.map_cons,l6]
   split <;> rfl
theorem xw {s:aF}:∀{es:List FE},(es.map lr).Nodup->(cV bD es s).map l5=(es.map l5).filter (eu s)
 | [],_=>rfl
 | z :: r,hn=>by
  simp only [List.map_cons,List.nodup_cons] at hn
  unfold cV
  by_cases e:z.1=s
  ·have h1:¬ eu s (l5 z)=true:=fun h=>fo.1 h e
   rw [if_pos e,List.map_cons,List.filter_cons,if_neg h1,filter_all]
   intro y hy e2
   obtain ⟨z2,hz2,rfl⟩:=List.mem_map.1 hy
   exact hn.1 (by rw [show lr z=lr z2 from e.trans (show s=z2.1 from e2.symm)];exact List.mem_map_of_mem hz2)
  ·have h1:eu s (l5 z)=true:=fo.2 e
   rw [if_neg e,List.map_cons,List.map_cons,List.filter_cons,if_pos h1,xw hn.2]
theorem lu {s:aF}:∀{es:List FE},(cV bD es s).Sublist es
 | [] => .refl _
 | z :: r=>by
  unfold cV
  split
  ·exact List.sublist_cons_self _ _
  ·exact lu.cons_cons _
theorem cz.has {x:dK} {r:RS} (h:cz x r) (s:aF):0 < (kM r.1 s).2.2 ↔ bN bD x.2.1.1 s=false:=by
 rw [<-h.read s]
 cases c:bN bD x.2.1.1 s with
 | true=>rw [nW c];simp
 | false=>rw [lZ c];simp
theorem cz.write {x:dK} {r:RS} (h:cz x r) (s t:aF):cz (bH x s t).1 (mZ r s t).1/\(bH x s t).2=(mZ r s t).2:=by
 have hlen:r.1.length=x.2.1.1.length:=by rw [h.perm.length_eq,List.length_map]
 have hc:((bN bD x.2.1.1 s=false/\x.2.1.1.length=6)\/x.1.1=1000000) ↔ ((0 < (kM r.1 s).2.2/\r.1.length=6)\/r.2.1=1000000):=by rw [h.has,hlen,h.now]
 by_cases h1:aI s=0
 ·by_cases h2:1200 < t.length
  ·rw [px h1 h2]
   unfold mZ;rw [if_neg (by simp [h1]),if_pos h2]
   exact ⟨h,rfl⟩
  ·by_cases h3:(bN bD x.2.1.1 s=false/\x.2.1.1.length=6)\/x.1.1=1000000
   ·rw [py h1 h2 h3]
    unfold mZ;rw [if_neg (by simp [h1]),if_neg h2,if_pos (hc.1 h3)]
    exact ⟨h,rfl⟩
   ·rw [sR h1 h2 h3]
    unfold mZ;rw [if_neg (by simp [h1]),if_neg h2,if_neg (fun h'=>h3 (hc.2 h'))]
    refine ⟨⟨by rw [h.now],by have:=h.lo;simp only;omega,by have:=h.hi;simp only;omega,?_,?_,?_,qD (s:=s) (e:=(s,t,r.2.1 + 1,())) rfl h.xq,?_⟩,rfl⟩
    ·have hp:=(pC (s:=s) (v:=(t,x.1.1 + 1,())) (c:=x.2.1.2.1) h.names).length_eq
     have hb:=congrArg List.length (l6 (s:=s) (v:=(t,x.1.1 + 1,())) (c:=x.2.1.2.1) (es:=x.2.1.1))
     simp only [List.length_map] at hb
     show (cg bD x.2.1.1 s (t,x.1.1 + 1,()) x.2.1.2.1).length<=6
     rw [hb]
     have:=h.len
     cases c:bN bD x.2.1.1 s with
     | true=>simpa using this
     | false=>
      have:¬ x.2.1.1.length=6:=fun e=>h3 (.inl ⟨c,e⟩)
      simp;omega
    ·show ((cg bD x.2.1.1 s (t,x.1.1 + 1,()) x.2.1.2.1).map j0).Nodup
     rw [l6]
     split
     ·exact h.born
     ·rw [List.nodup_append]
      refine ⟨h.born,by simp,fun a ha b hb e => ?_⟩
      simp at hb
      obtain ⟨y,hy,rfl⟩:=List.mem_map.1 ha
      have:=h.mz y hy
      omega
    ·intro y hy
     have hy':j0 y∈(cg bD x.2.1.1 s (t,x.1.1 + 1,()) x.2.1.2.1).map j0:=List.mem_map_of_mem hy
     rw [l6] at hy'
     show j0 y < fy bD x.2.1.1 s x.2.1.2.1
     unfold fy
     split at hy'
     ·rename_i c
      rw [if_pos c]
      obtain ⟨z,hz,e⟩:=List.mem_map.1 hy'
      rw [<-e];exact h.mz z hz
     ·rename_i c
      rw [if_neg c]
      rcases List.mem_append.1 hy' with hy' | hy'
      ·obtain ⟨z,hz,e⟩:=List.mem_map.1 hy'
       have:=h.mz z hz
       omega
      ·simp at hy';omega
    ·refine (uJ h.xq).trans ?_
     rw [h.now]
     exact ((h.perm.filter _).cons _).trans (pC (v:=(t,x.1.1 + 1,())) (c:=x.2.1.2.1) h.names).symm
 ·rw [pw h1]
  unfold mZ;rw [if_pos h1]
  exact ⟨h,rfl⟩
theorem cz.remove {x:dK} {r:RS} (h:cz x r) (s:aF):cz (cy x s).1 (qc r s).1/\(cy x s).2=(qc r s).2:=by
 have hp:(r.1.filter (eu s)).Perm ((cV bD x.2.1.1 s).map l5):=by rw [xw h.names];exact h.perm.filter _
 cases c:bN bD x.2.1.1 s with
 | false=>
  have hall:r.1.filter (eu s)=r.1:=filter_all fun y hy e=>by
   obtain ⟨z,hz,rfl⟩:=List.mem_map.1 (h.perm.mem_iff.1 hy)
   have:=jI.2 ⟨z,hz,e⟩
   rw [c] at this;cases this
  rw [j9 c]
  unfold qc;rw [if_pos (by rw [hall])]
  exact ⟨h,rfl⟩
 | true=>
  obtain ⟨y,hy,e⟩:=jI.1 c
  have hlt:(r.1.filter (eu s)).length < r.1.length:=List.length_filter_lt_length_iff_exists.2 ⟨l5 y,h.perm.mem_iff.2 (List.mem_map_of_mem hy),by rw [fo];exact fun h=>h e⟩
  rw [jj c]
  unfold qc;rw [if_neg (by omega)]
  refine ⟨⟨h.now,h.lo,h.hi,Nat.le_trans lu.length_le h.len,(lu.map j0).nodup h.born,fun y hy=>h.mz y (lu.subset hy),List.Pairwise.filter _ h.xq,hp⟩,rfl⟩
end Go.Mrl

namespace Go.Mrl
open Go.Vg
def ly:aF:=[119,114,105,116,101]
theorem cz.pre {x:dK} {r:RS} (h:cz x r):x.2.1.1.length<=6/\0<=x.1.1/\x.1.1<=1000000:=⟨h.len,h.lo,h.hi⟩
end Go.Mrl

namespace Go.Mrl
open Go.Vg
def nb:aF:=[114,101,109,111,118,101]
def ij (x:dK) (a:D bL):dK:=if a.1=ly then (bH x a.2.1 a.2.2.1).1 else if a.1=nb then (cy x a.2.1).1 else x
def dw (x:dK) (l:List (D bL)):dK:=l.foldl ij x
theorem nX {x:dK} {l:List (D bL)} {i:Nat} (h:i < l.length):dw x (l.take (i + 1))=ij (dw x (l.take i)) (nth bL l i):=by rw [kq (t:=bL) h];simp [dw]
theorem yY {x:dK} {a:D bL} (h:a.1=ly):ij x a=(bH x a.2.1 a.2.2.1).1:=if_pos h
theorem xx {x:dK} {a:D bL} (h:¬ a.1=ly) (h2:a.1=nb):ij x a=(cy x a.2.1).1:=by unfold ij;rw [if_neg h,if_pos h2]
theorem BB {x:dK} {a:D bL} (h:¬ a.1=ly) (h2:¬ a.1=nb):ij x a=x:=by unfold ij;rw [if_neg h,if_neg h2]
structure br (x:dK):Prop where
 EV:∃r,cz x r
 FR:∀y∈x.2.1.1,y.2.1.2.1<=x.1.1
theorem br.new:br ji:=⟨⟨_,cz.new⟩,fun y hy=>by simp [ji] at hy⟩
theorem xy {s:aF} {v:aF × Int × Unit} {c:Int}:∀{es:List FE} {y:FE},y∈cg bD es s v c->y.2.1=v\/y∈es
 | [],y,h=>by simp [cg] at h;subst h;exact .inl rfl
 | z :: r,y,h=>by
  unfold cg at h
  split at h
  ·rcases List.mem_cons.1 h with rfl | h
   ·exact .inl rfl
   ·exact .inr (by simp [h])
  ·rcases List.mem_cons.1 h with rfl | h
   ·exact .inr (by simp)
   ·rcases xy h with h | h
    ·exact .inl h
    ·exact .inr (by simp [h])
theorem oz (x:dK) (s t:aF):((bH x s t).1=x/\¬ (bH x s t).2=0)\/
  ((bH x s t).1=((x.1.1 + 1,()),(cg bD x.2.1.1 s (t,x.1.1 + 1,()) x.2.1.2.1,fy bD x.2.1.1 s x.2.1.2.1,()),())/\(bH x s t).2=0):=by
 unfold bH
 split
 ·rename_i h;exact .inl ⟨rfl,h⟩
 ·split
  ·exact .inl ⟨rfl,by simp⟩
  ·split
   ·exact .inl ⟨rfl,by simp⟩
   ·exact .inr ⟨rfl,rfl⟩
theorem br.write {x:dK} (h:br x) (s t:aF):br (bH x s t).1/\x.1.1<=(bH x s t).1.1.1:=by
 obtain ⟨r,hr⟩:=h.EV
 have hg:=(hr.write s t).1
 rcases oz x s t with ⟨e,_⟩ | ⟨e,_⟩
 ·rw [e];exact ⟨h,Int.le_refl _⟩
 ·rw [e] at hg ⊢
  refine ⟨⟨⟨_,hg⟩,fun y hy => ?_⟩,by simp only;omega⟩
  rcases xy hy with hy | hy
  ·rw [hy];exact Int.le_refl _
  ·have:=h.FR y hy;simp only;omega
theorem br.remove {x:dK} (h:br x) (s:aF):br (cy x s).1/\x.1.1<=(cy x s).1.1.1:=by
 obtain ⟨r,hr⟩:=h.EV
 have hg:=(hr.remove s).1
 cases c:bN bD x.2.1.1 s with
 | false=>rw [j9 c];exact ⟨h,Int.le_refl _⟩
 | true=>
  rw [jj c] at hg ⊢
  exact ⟨⟨⟨_,hg⟩,fun y hy=>h.FR y (lu.subset hy)⟩,Int.le_refl _⟩
theorem br.ij {x:dK} (h:br x) (a:D bL):br (ij x a)/\x.1.1<=(Mrl.ij x a).1.1:=by
 unfold Mrl.ij
 split
 ·exact h.write _ _
 ·split
  ·exact h.remove _
  ·exact ⟨h,Int.le_refl _⟩
theorem br.done:∀(l:List (D bL)) {x:dK},br x->br (dw x l)
 | [],_,h=>h
 | a :: l,_,h=>br.done l (h.ij a).1
theorem ru {s k:aF} {v:aF × Int × Unit} {c:Int}:∀{es:List FE},bN bD (cg bD es s v c) k=(decide (k=s) || bN bD es k)/\dr bD (cg bD es s v c) k=if k=s then v else dr bD es k
 | []=>by
  by_cases h:s=k
  ·subst h;simp [cg,bN,dr]
  ·have h':¬ k=s:=fun e=>h e.symm
   simp [cg,bN,dr,h,h']
 | z :: r=>by
  obtain ⟨i1,i2⟩:=ru (s:=s) (k:=k) (v:=v) (c:=c) (es:=r)
  unfold cg
  by_cases e:z.1=s
  ·rw [if_pos e]
   by_cases h:s=k
   ·subst h;simp [bN,dr]
   ·have h':¬ k=s:=fun e=>h e.symm
    have h2:¬ z.1=k:=fun e2=>h (e.symm.trans e2)
    simp [bN,dr,h,h',h2]
  ·rw [if_neg e]
   by_cases h:z.1=k
   ·have h':¬ k=s:=fun e2=>e (h.trans e2)
    simp [bN,dr,h,h']
   ·simp only [bN,dr,if_neg h];exact ⟨i1,i2⟩
theorem BC {x:dK} {s k t:aF} (h:¬ k=s):aY (bH x s t).1 k=aY x k:=by
 rcases oz x s t with ⟨e,_⟩ | ⟨e,_⟩
 ·rw [e]
 ·rw [e]
  unfold aY
  simp only [(ru (s:=s) (k:=k) (v:=(t,x.1.1 + 1,())) (c:=x.2.1.2.1) (es:=x.2.1.1)).1,(ru (s:=s) (k:=k) (v:=(t,x.1.1 + 1,())) (c:=x.2.1.2.1) (es:=x.2.1.1)).2,h,decide_false,Bool.false_or,if_false]
theorem br.pre {x:dK} (h:br x):x.2.1.1.length<=6/\0<=x.1.1/\x.1.1<=1000000:=let ⟨_,hr⟩:=h.EV;hr.pre
end Go.Mrl

