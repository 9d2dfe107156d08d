/- A part of the proof that the law ScopeSaysCard holds of the given program: facts that are used there. -/
import Derived.Test.YtgokjhhcfemnhaaGreatDoorPart1
import Derived.Deep.LoopGhost
import Derived.ProofKit
import Derived.KernelRfl
import Derived.Deep.Heap
import Derived.Room.AppendFits
import Derived.Lib.UnsafeStr
set_option linter.unusedSimpArgs false
set_option linter.unusedVariables false
namespace Go.Vg
open Go.RowKit
def eQ:List Cl->Bool
 | []=>true
 | .d t :: r=>t.flat && eQ r
 | _ :: r=>eQ r
def dr:List Ob->Bool
 | []=>true
 | .box _ cls :: r=>eQ cls && dr r
 | .row _ t :: r=>t.flat && dr r
 | .tok t :: r=>t.flat && dr r
 | .ext _ _ :: r=>dr r
def mE:List Ob->Bool
 | []=>true
 | .tok _ :: _=>false
 | _ :: r=>mE r
section
variable {eT:TypeId} {X:Ext}
theorem VR.to {t:Ty} {x:D t} {S S':aU} {v:Value} (hw:S'.w=S.w) (hA:t.flat=true\/∀b o,S'.A b o->S.A b o) (h:VR eT t x S.A S.w v):VR eT t x S'.A S'.w v:=by
 rcases hA with hA | hA
 ·exact VR.of_flat hA h
 ·rw [hw];exact VR.u9 h fun b o k h'=>k (hA b o h')
def Laid (eT:TypeId) (S:aU):(os:List Ob)->PD os->List Nat->List Loc->Prop
 | [],_,ns,ls=>ns = []/\ls = []
 | o :: r,x,n :: ns,l :: ls=>(S.loc n=l/\n < S.next/\(match o,x.1 with
  | .box _ _,_=>∃b,l.v = .pointer (some ⟨b,0,none⟩)
  | .tok t,y=>VR eT (.slice t) y S.A S.w l.v/\∀ys,S.ob n=some (.tok t ys)->ys=y
  | .row _ _,_=>∃a k c,l.v = .slice a k c
  | .ext 0 _,_=>∃v,∃hs:List Value,l.v = .tuple (v :: hs).toArray
  | .ext (_ + 1) _,_=>p9 l.v=l.v))/\Laid eT S r x.2 ns ls
 | _,_,_,_=>False
theorem tM {S:aU}:∀{os:List Ob} {x:PD os} {ns:List Nat} {ls:List Loc} {k:Nat} {v:Value},Laid eT S os x ns ls->vb ls k v->CR eT S (ef os x ns k) v:=by
 intro os
 induction os with
 | nil=>intro x ns ls k v h hr;exact trivial
 | cons o r ih=>
  intro x ns ls k v h hr
  match ns,ls,h with
  | n :: ns,l :: ls,⟨⟨h1,h2,h3⟩,h4⟩=>
   obtain ⟨l0,hl,hv⟩:=hr
   cases k with
   | succ k=>exact ih h4 ⟨l0,by simpa using hl,hv⟩
   | zero=>
    simp at hl
    subst hl
    subst hv
    show CR eT S (IS o x.1 n) _
    cases o with
    | box T cls=>
     obtain ⟨b,hb⟩:=h3
     rw [hb]
     exact ⟨h2,fun T cs _=>⟨b,by rw [h1];exact hb,rfl⟩⟩
    | row kp t=>
     obtain ⟨a,k,c,hb⟩:=h3
     rw [hb]
     exact ⟨h2,fun t xs _=>by rw [h1,hb];rfl⟩
    | tok t=>
     obtain ⟨a,c,hb,_⟩:=nI h3.1
     rw [show p9 l.v=l.v by rw [hb];rfl]
     exact ⟨h3.1,h2,fun ys hy=>by rw [h3.2 ys hy];exact ⟨Nat.le_refl _,fun _=>by rw [h1]⟩⟩
    | ext k t=>
     cases k with
     | zero=>
      obtain ⟨v,hs,hb⟩:=h3
      rw [hb]
      exact ⟨h2,fun t x _=>⟨hs,by rw [h1,hb];rfl⟩⟩
     | succ k=>
      rw [show p9 l.v=l.v from h3]
      exact ⟨h2,fun oc _ _=>by rw [h1]⟩
theorem Gq {S S':aU} {F:Nat->Value->Prop} {f:Nat->C} (hw:S'.w=S.w) (hF:∀k v,F k v->CR eT S' (f k) v):∀{cls:List Cl} {x:CD cls} {vs:List Value},
  (eQ cls=true\/∀b o,S'.A b o->S.A b o)->nk eT S F cls x vs->(∀v∈vs,v.oneCell'=true)->cH eT S' (yC f cls x) vs:=by
 intro cls
 induction cls with
 | nil=>intro x vs _ h _;rw [show vs = [] from h];exact .nil
 | cons cl r ih=>
  intro x vs hA h h1
  cases vs with
  | nil=>cases cl <;> exact h.elim
  | cons v vs=>
   have hr:eQ r=true\/∀b o,S'.A b o->S.A b o:=by
    rcases hA with hA | hA
    ·left;cases cl <;> simp [eQ] at hA <;> first | exact hA.2 | exact hA
    ·exact .inr hA
   cases cl with
   | d t=>
    refine .cons (VR.to hw ?_ h.1) (h1 v (by simp)) (ih hr h.2 fun u hu=>h1 u (by simp [hu]))
    rcases hA with hA | hA
    ·left;simp [eQ] at hA;exact hA.1
    ·exact .inr hA
   | obj k=>exact .cons (hF k v h.1) (h1 v (by simp)) (ih hr h.2 fun u hu=>h1 u (by simp [hu]))
   | dX=>exact .cons h.1 (h1 v (by simp)) (ih hr h.2 fun u hu=>h1 u (by simp [hu]))
theorem yF {S S':aU} {F:Nat->Value->Prop} {f:Nat->C} (hw:S'.w=S.w) (hF:∀k v,F k v->CR eT S' (f k) v):∀{cls:List Cl} {x:CD cls} {vs:List Value},
  (eQ cls=true\/∀b o,S'.A b o->S.A b o)->nk eT S F cls x vs->cp eT S' (sK f cls x) vs:=by
 intro cls
 induction cls with
 | nil=>intro x vs _ h;rw [show vs = [] from h];exact .nil
 | cons cl r ih=>
  intro x vs hA h
  cases vs with
  | nil=>cases cl <;> exact h.elim
  | cons v vs=>
   have hr:eQ r=true\/∀b o,S'.A b o->S.A b o:=by
    rcases hA with hA | hA
    ·left;cases cl <;> simp [eQ] at hA <;> first | exact hA.2 | exact hA
    ·exact .inr hA
   cases cl with
   | d t=>
    refine .cons (show VR eT t x.1 S'.A S'.w v from VR.to hw ?_ h.1) (ih hr h.2)
    rcases hA with hA | hA
    ·left;simp [eQ] at hA;exact hA.1
    ·exact .inr hA
   | obj k=>exact .cons (hF k v h.1) (ih hr h.2)
   | dX=>exact .cons h.1 (ih hr h.2)
theorem gl.to {S S':aU} {t:Ty} {xs:List (D t)} {vs:Array Value} (hw:S'.w=S.w) (hA:t.flat=true\/∀b o,S'.A b o->S.A b o) (h:gl eT S t xs vs):gl eT S' t xs vs:=by
 intro i y hy
 obtain ⟨us,h1,h2⟩:=h i y hy
 refine ⟨us,?_,h2⟩
 rcases hA with hA | hA
 ·exact h1.of_flat hA
 ·rw [hw];exact h1.frame fun b o v k h'=>⟨h',fun h''=>k (hA b o h'')⟩
theorem yG.to {S S':aU} {t:Ty} {xs:List (D t)} {l:Loc} (hw:S'.w=S.w) (hA:t.flat=true\/∀b o,S'.A b o->S.A b o) (h:OR eT X S l (.aP t xs)):OR eT X S' l (.aP t xs):=by
 rcases h with h | ⟨b,vs,T,cap,h1,h2,h3,h4,h5,h6,h7⟩
 ·exact .inl h
 ·exact .inr ⟨b,vs,T,cap,h1,h2,by rw [hw];exact h3,h4,h5,h6,h7.to hw hA⟩
def l6 (o:Ob):Bool:=dr [o]
theorem IU {S S':aU} {F:Nat->Value->Prop} {f:Nat->C} (hw:S'.w=S.w) (hF:∀k v,F k v->CR eT S' (f k) v) {o:Ob} {x:OD o} {l:Loc}
  (hA:l6 o=true\/∀b o,S'.A b o->S.A b o) (h:ED eT X S F o x l):OR eT X S' l (l5 f o x):=by
 cases o with
 | box T cls=>
  obtain ⟨b,vs,h1,h2,h3,h4,h5⟩:=h
  refine ⟨b,vs,h1,h2,by rw [hw];exact h3,Gq hw hF ?_ h4 h5⟩
  rcases hA with hA | hA
  ·left;simpa [l6,dr] using hA
  ·exact .inr hA
 | row kp t=>
  refine yG.to hw ?_ h
  rcases hA with hA | hA
  ·left;simpa [l6,dr] using hA
  ·exact .inr hA
 | tok t=>
  refine yG.to (X:=X) (l:=l) hw ?_ h
  rcases hA with hA | hA
  ·left;simpa [l6,dr] using hA
  ·exact .inr hA
 | ext k t=>show X.rel _ _ _ _ _;rw [hw];exact h
theorem Gr {S:aU} {t:Ty} {xs:List (D t)} {l:Loc} (h:OR eT X S l (.tok t xs)) (hA:∀b∈l.bs,∀off,off < xs.length * t.size->¬ S.A b off):VR eT (.slice t) xs S.A S.w l.v:=by
 rcases h with ⟨rfl,⟨a,ha⟩,_⟩ | ⟨b,vs,T,cap,h1,h2,h3,h4,h5,h6,he⟩
 ·exact VR.bV rfl ⟨_,rfl,by simp, .inl ⟨rfl,a,0,ha⟩⟩
 ·refine VR.bV rfl ⟨_,rfl,h6, .inr ⟨b,0,cap,h1,h5,fun i y hy => ?_⟩⟩
  obtain ⟨us,r1,r2⟩:=he i y hy
  refine ⟨us,r1,fun j u hj=>⟨?_,?_⟩⟩
  ·rw [Nat.zero_add,cell_of_row S.w b _ vs T (0,0) h3];exact r2 j u hj
  ·rw [Nat.zero_add]
   refine hA b (by rw [h2];simp) _ ?_
   have hi:=aR hy
   have hjl:=aR hj
   rw [r1.length] at hjl
   have:(i + 1) * t.size<=xs.length * t.size:=Nat.mul_le_mul_right _ hi
   rw [Nat.add_mul] at this
   omega
def cU:List Nat->List Loc->(Nat->Loc)->Nat->Loc
 | n :: ns,l :: ls,d,m=>if n=m then l else cU ns ls d m
 | _,_,d,m=>d m
theorem jv:∀{ns:List Nat} {ls:List Loc} {d:Nat->Loc} {m:Nat},m∉ns->cU ns ls d m=d m
 | [],_,_,_,_=>by cases ‹List Loc› <;> rfl
 | n :: ns,[],_,_,_=>rfl
 | n :: ns,l :: ls,d,m,h=>by
  simp only [List.mem_cons,not_or] at h
  simp only [cU]
  rw [if_neg (fun e=>h.1 e.symm)]
  exact jv h.2
theorem sM {n:Nat} {l:List Nat}:jk n l=true ↔ n∈l:=by
 refine ⟨oI,fun h => ?_⟩
 induction l with
 | nil=>simp at h
 | cons m r ih=>
  simp only [jk]
  split
  ·rfl
  ·rename_i hb
   rcases List.mem_cons.1 h with h | h
   ·subst h;rw [Nat.beq_refl] at hb;cases hb
   ·exact ih h
theorem iJ {n:Nat} {r:List Nat} (h:nodupB (n :: r)=true):n∉r/\nodupB r=true:=by
 simp only [nodupB,Bool.and_eq_true,Bool.not_eq_true'] at h
 exact ⟨fun hm=>by rw [sM.2 hm] at h;exact absurd h.1 (by decide),h.2⟩
theorem gh:∀{ns:List Nat} {ls:List Loc} {d:Nat->Loc} {i n:Nat} {l:Loc},nodupB ns=true->ns[i]?=some n->ls[i]?=some l->cU ns ls d n=l
 | [],_,_,_,_,_,_,h,_=>by simp at h
 | n :: ns,[],_,_,_,_,_,_,h=>by simp at h
 | n :: ns,l :: ls,d,0,m,k,_,h1,h2=>by simp at h1 h2;subst h1;subst h2;simp [cU]
 | n :: ns,l :: ls,d,i + 1,m,k,hn,h1,h2=>by
  obtain ⟨hm,hn⟩:=iJ hn
  simp at h1 h2
  simp only [cU]
  rw [if_neg (fun e=>hm (by rw [e];exact List.mem_of_getElem? h1))]
  exact gh hn h1 h2
theorem lD {cv:Bool} {aE:List (Nat × OC)} {aK:List Ob} {ν:List Nat} {f:Nat->C} {S:aU} {F:Nat->Value->Prop} {loc:Nat->Loc}:∀{os:List Ob} {x:PD os} {ns ms:List Nat} {m:Nat} {oc:OC},cJ cv aE aK ν os ns=some x->CT eT X S F os x (ns.map loc)->ns.length=ms.length->
  look (gr f os x ms) m=some oc->∃(i n:Nat) (o:Ob) (y:OD o) (oc0:OC),ns[i]?=some n/\ms[i]?=some m/\os[i]?=some o/\look aE n=some oc0/\fp cv aE aK ν o oc0=some y/\oc=l5 f o y/\ED eT X S F o y (loc n):=by
 intro os
 induction os with
 | nil=>intro x ns ms m oc _ _ _ h;simp [gr,look] at h
 | cons o r ih=>
  intro x ns ms m oc hg hR hl h
  cases ns with
  | nil=>simp [cJ] at hg
  | cons n ns=>
   cases ms with
   | nil=>simp at hl
   | cons k ms=>
    simp only [cJ] at hg
    split at hg
    case h_2=>cases hg
    rename_i oc0 hob
    split at hg
    case h_2=>cases hg
    rename_i x0 y0 h1 h2
    cases hg
    simp only [gr,bM] at h
    split at h
    ·rename_i e
     cases h
     exact ⟨0,n,o,x0,oc0,rfl,by simp [e],rfl,hob,h1,rfl,hR.1⟩
    ·obtain ⟨i,n',o',y',oc',k1,k2,k3,k4⟩:=ih h2 hR.2 (by simpa using hl) h
     exact ⟨i + 1,n',o',y',oc',by simpa using k1,by simpa using k2,by simpa using k3,k4⟩
theorem vf {cv:Bool} {aE:List (Nat × OC)} {aK:List Ob} {ν:List Nat} {f:Nat->C} {o:Ob} {y:OD o} {oc:OC} (h:fp cv aE aK ν o oc=some y):(l5 f o y).lo=oc.lo\/cv=true:=by
 cases o <;> cases oc <;> simp only [fp,reduceCtorEq] at h
 ·exact .inl rfl
 ·exact .inl rfl
 ·split at h
  ·exact .inr rfl
  ·cases h
 ·obtain ⟨e,h3⟩:=jo h
  subst e;simp only at h3;subst h3;exact .inl rfl
 ·exact .inl rfl
theorem kV {cv:Bool} {aE:List (Nat × OC)} {aK:List Ob} {ν:List Nat} {o:Ob} {y:OD o} {oc:OC} (h:fp cv aE aK ν o oc=some y) (f:Nat->C):(∀T cls,o = .box T cls->∃cs,oc = .cells T cs)/\
  (∀k t,o = .ext k t->∃x,oc = .ext k t x)/\(∀k t,o = .row k t->cv=false->∃xs,oc = .aP t xs)/\((∀t,o≠.tok t)->cv=false->∀t xs,oc≠.tok t xs):=by
 refine ⟨fun T cls e => ?_,fun k t e => ?_,fun k t e e2 => ?_,fun h1 h2 t xs e => ?_⟩
 ·subst e
  cases oc <;> simp only [fp,reduceCtorEq] at h
  split at h
  ·rename_i hT;rw [Nat.eq_of_beq_eq_true hT];exact ⟨_,rfl⟩
  ·cases h
 ·subst e
  cases oc <;> simp only [fp,reduceCtorEq] at h
  split at h
  ·rename_i hT
   obtain ⟨e,_⟩:=yE h
   subst e
   rw [Nat.eq_of_beq_eq_true hT];exact ⟨_,rfl⟩
  ·cases h
 ·subst e;subst e2
  cases oc <;> simp only [fp,reduceCtorEq] at h
  ·obtain ⟨e,_⟩:=jo h
   subst e
   exact ⟨_,rfl⟩
 ·subst e;subst h2
  cases o <;> simp only [fp,reduceCtorEq] at h
  exact h1 _ rfl
theorem lE {cv:Bool} {aE:List (Nat × OC)} {aK:List Ob} {ν:List Nat}:∀{os:List Ob} {ns:List Nat} {x:PD os},cJ cv aE aK ν os ns=some x->os.length=ns.length:=by
 intro os
 induction os with
 | nil=>intro ns x h;cases ns with | nil=>rfl | cons=>simp [cJ] at h
 | cons o r ih=>
  intro ns x h
  cases ns with
  | nil=>simp [cJ] at h
  | cons n ns=>
   simp only [cJ] at h
   split at h
   case h_2=>cases h
   split at h
   case h_2=>cases h
   rename_i h2
   simp [ih h2]
theorem kW {f:Nat->C}:∀{os:List Ob} {x:PD os} {ms:List Nat} {m:Nat},os.length=ms.length->m∈ms->∃oc,look (gr f os x ms) m=some oc:=by
 intro os
 induction os with
 | nil=>intro x ms m h hm;cases ms with | nil=>simp at hm | cons=>simp at h
 | cons o r ih=>
  intro x ms m h hm
  cases ms with
  | nil=>simp at h
  | cons k ms=>
   simp only [gr,bM]
   by_cases e:k=m
   ·exact ⟨_,by rw [if_pos e]⟩
   ·rw [if_neg e]
    rcases List.mem_cons.1 hm with hm | hm
    ·exact (e hm.symm).elim
    ·exact ih (by simpa using h) hm
theorem kX:∀{l:List Nat} {i j n:Nat},nodupB l=true->l[i]?=some n->l[j]?=some n->i=j
 | [],_,_,_,_,h,_=>by simp at h
 | m :: r,0,0,_,_,_,_=>rfl
 | m :: r,0,j + 1,n,hn,h1,h2=>by
  simp at h1 h2;subst h1
  exact ((iJ hn).1 (List.mem_of_getElem? h2)).elim
 | m :: r,i + 1,0,n,hn,h1,h2=>by
  simp at h1 h2;subst h2
  exact ((iJ hn).1 (List.mem_of_getElem? h1)).elim
 | m :: r,i + 1,j + 1,n,hn,h1,h2=>by
  simp at h1 h2
  rw [kX (iJ hn).2 h1 h2]
theorem qa {a:Ob} {r:List Ob} (h:dr (a :: r)=true):l6 a=true/\dr r=true:=by
 cases a <;> simp [dr,l6] at h ⊢ <;> exact h
theorem rS:∀{l:List Ob} {i:Nat} {o:Ob},dr l=true->l[i]?=some o->l6 o=true
 | [],_,_,_,h=>by simp at h
 | a :: r,0,o,hfl,h=>by simp at h;subst h;exact (qa hfl).1
 | a :: r,i + 1,o,hfl,h=>rS (qa hfl).2 (by simpa using h)
theorem H0 {S S2:aU} {F:Nat->Value->Prop} {f:Nat->C} {loc:Nat->Loc} (hNA:∀m t ys,S2.ob m=some (.tok t ys)->∀b∈(S2.loc m).bs,∀off,off < ys.length * t.size->¬ S2.A b off) (hw:S2.w=S.w) :
  ∀{os:List Ob} {x:PD os} {ns ms:List Nat},(dr os=true\/∀b o,S2.A b o->S.A b o)->CT eT X S F os x (ns.map loc)->nodupB ms=true->ns.length=ms.length->(∀n∈ms,S2.ob n=look (gr f os x ms) n)->
   (∀(i n m:Nat),ns[i]?=some n->ms[i]?=some m->S2.loc m=loc n/\m < S2.next)->Laid eT S2 os x ms (ns.map loc):=by
 intro os
 induction os with
 | nil=>
  intro x ns ms _ h _ hl _ _
  have h:ns.map loc = []:=h
  cases ns with
  | nil=>cases ms with
   | nil=>exact ⟨rfl,rfl⟩
   | cons=>simp at hl
  | cons=>simp at h
 | cons o r ih=>
  intro x ns ms hA h hnd hl hob hloc
  cases ns with
  | nil=>exact h.elim
  | cons n ns=>
   cases ms with
   | nil=>simp at hl
   | cons m ms=>
    obtain ⟨hm,hnd'⟩:=iJ hnd
    obtain ⟨h1,h2⟩:=hloc 0 n m rfl rfl
    have hA':dr r=true\/∀b o,S2.A b o->S.A b o:=by
     rcases hA with hA | hA
     ·left;cases o <;> simp [dr] at hA <;> first | exact hA.2 | exact hA
     ·exact .inr hA
    refine ⟨⟨h1,h2,?_⟩,ih hA' h.2 hnd' (by simpa using hl) (fun k hk => ?_) (fun i a b ha hb=>hloc (i + 1) a b (by simpa using ha) (by simpa using hb))⟩
    ·cases o with
     | box T cls=>obtain ⟨b,vs,k1,_⟩:=h.1;exact ⟨b,k1⟩
     | row kp t=>rcases h.1 with ⟨_,⟨a,ha⟩,_⟩ | ⟨b,vs,T,cap,ha,_⟩ <;> exact ⟨_,_,_,ha⟩
     | tok t=>
      have hobm:S2.ob m=some (.tok t x.1):=by rw [hob m (by simp)];simp [gr,bM,l5]
      refine ⟨?_,fun ys hy=>by rw [hobm] at hy;cases hy;rfl⟩
      refine Gr (X:=X) (yG.to (X:=X) (l:=loc n) hw ?_ h.1) fun b hb off ho=>hNA m t x.1 hobm b (by rw [h1];exact hb) off ho
      rcases hA with hA | hA
      ·left;simp [dr] at hA;exact hA.1
      ·exact .inr hA
     | ext k t=>
      cases k with
      | zero=>
       have hd:=X.deep.1 h.1
       obtain ⟨e,s,rfl,_⟩:=mq hd
       obtain ⟨_,_,v,hs,hv,_⟩:=hd
       exact ⟨v,hs,hv⟩
      | succ k=>
       show p9 (loc n).v=(loc n).v
       cases k with
       | zero=>obtain ⟨e,_,b,es,cN,hm⟩:=X.map.1 h.1;rw [hm.lv];rfl
       | succ k=>obtain ⟨a,ha⟩:=X.ptr (by omega) h.1;rw [ha];rfl
    ·rw [hob k (by simp [hk])]
     simp only [gr,bM]
     rw [if_neg (fun e=>hm (by rw [e];exact hk))]
theorem CV {cv:Bool} {aK:List Ob} {ν:List Nat} {x:PD aK} {O:aF} {st:St} {loc:Nat->Loc} {w:World} (g:Good eT X (aB O st loc w)) (hx:cJ cv st.aE aK ν aK ν=some x)
  (hp:∀p∈eP aK x st.aE aK ν,p) (hnd:nodupB ν=true)
  {O2:aF} {ν2:List Nat} {rest:List (Nat × OC)} {locR:Nat->Loc} {st2:St} (hnd2:nodupB ν2=true) (hlen:ν.length=ν2.length)
  (hobjs:st2.aE=gr (ef aK x ν2) aK x ν2++rest) (hlt:∀n∈ν2,n < st2.next)
  (hO2:∀n∈ν,∀b∈(loc n).bs,∀off,¬ O2 b off)
  (hD:∀n∈ν,∀b∈(loc n).bs,∀m oc,look rest m=some oc->m∉ν2->b∉(locR m).bs)
  (hR:∀m oc,look rest m=some oc->m∉ν2->m < st2.next/\OR eT X (aB O2 st2 (cU ν2 (ν.map loc) locR) w) (locR m) oc)
  (hR2:∀m m' oc oc' b,look rest m=some oc->look rest m'=some oc'->m∉ν2->m'∉ν2->b∈(locR m).bs->b∈(locR m').bs->m=m')
  (hR3:∀m oc b off,look rest m=some oc->m∉ν2->b∈(locR m).bs->¬ O2 b off)
  (hA:dr aK=true\/∀b o,(aB O2 st2 (cU ν2 (ν.map loc) locR) w).A b o->(aB O st loc w).A b o)
  (hGl:∀b∈X.BF,¬ (aB O2 st2 (cU ν2 (ν.map loc) locR) w).kd b) :
  Good eT X (aB O2 st2 (cU ν2 (ν.map loc) locR) w)/\Laid eT (aB O2 st2 (cU ν2 (ν.map loc) locR) w) aK x ν2 (ν.map loc):=by
 have hobs:=lC (X:=X) g hx hx hp
 have hol:=lE hx
 generalize hf:ef aK x ν2=f at hobjs
 have hob:∀m oc,(aB O2 st2 (cU ν2 (ν.map loc) locR) w).ob m=some oc->
   (∃(i n:Nat) (o:Ob) (y:OD o) (oc0:OC),ν[i]?=some n/\ν2[i]?=some m/\look st.aE n=some oc0/\fp cv st.aE aK ν o oc0=some y/\oc=l5 f o y/\ED eT X (aB O st loc w) (vb (ν.map loc)) o y (loc n)/\
    cU ν2 (ν.map loc) locR m=loc n/\aK[i]?=some o)\/
   (look rest m=some oc/\m∉ν2/\cU ν2 (ν.map loc) locR m=locR m):=by
  intro m oc h
  simp only [aB,hobjs] at h
  rw [cL] at h
  split at h
  ·rename_i oc' h'
   cases h
   obtain ⟨i,n,o,y,oc0,k1,k2,k3,k4,k5,k6,k7⟩:=lD hx hobs hlen h'
   exact .inl ⟨i,n,o,y,oc0,k1,k2,k4,k5,k6,k7,gh hnd2 k2 (by simp [k1]),k3⟩
  ·rename_i h'
   have:m∉ν2:=fun hm=>by
    obtain ⟨oc1,h1⟩:=kW (f:=f) (x:=x) (by omega) hm
    rw [h1] at h';cases h'
   exact .inr ⟨h,this,jv this⟩
 have hap:∀m m' oc oc' b,(aB O2 st2 (cU ν2 (ν.map loc) locR) w).ob m=some oc->(aB O2 st2 (cU ν2 (ν.map loc) locR) w).ob m'=some oc'->
   b∈(cU ν2 (ν.map loc) locR m).bs->b∈(cU ν2 (ν.map loc) locR m').bs->m=m':=by
  intro m m' oc oc' b h1 h2 h3 h4
  rcases hob m oc h1 with ⟨i,n,o,y,oc0,k1,k2,k4,_,_,_,k8,_⟩ | ⟨k1,k2,k3⟩ <;> rcases hob m' oc' h2 with ⟨i',n',o',y',oc0',j1,j2,j4,_,_,_,j8,_⟩ | ⟨j1,j2,j3⟩
  ·rw [k8] at h3;rw [j8] at h4
   have e:=g.apart n n' oc0 oc0' b k4 j4 h3 h4
   subst e
   have:=kX hnd k1 j1
   subst this
   rw [k2] at j2;cases j2;rfl
  ·rw [k8] at h3;rw [j3] at h4
   exact (hD n (List.mem_of_getElem? k1) b h3 m' oc' j1 j2 h4).elim
  ·rw [k3] at h3;rw [j8] at h4
   exact (hD n' (List.mem_of_getElem? j1) b h4 m oc k1 k2 h3).elim
  ·rw [k3] at h3;rw [j3] at h4
   exact hR2 m m' oc oc' b k1 j1 k2 j2 h3 h4
 have hout:∀m oc b off,(aB O2 st2 (cU ν2 (ν.map loc) locR) w).ob m=some oc->b∈(cU ν2 (ν.map loc) locR m).bs->¬ O2 b off:=by
  intro m oc b off h1 h2
  rcases hob m oc h1 with ⟨i,n,o,y,oc0,k1,k2,k4,_,_,_,k8,_⟩ | ⟨k1,k2,k3⟩
  ·rw [k8] at h2;exact hO2 n (List.mem_of_getElem? k1) b h2 off
  ·rw [k3] at h2;exact hR3 m oc b off k1 k2 h2
 have hNA:∀m t ys,(aB O2 st2 (cU ν2 (ν.map loc) locR) w).ob m=some (.tok t ys)->∀b∈((aB O2 st2 (cU ν2 (ν.map loc) locR) w).loc m).bs,∀off,off < ys.length * t.size->¬ (aB O2 st2 (cU ν2 (ν.map loc) locR) w).A b off:=by
  rintro m t ys h1 b hb off ho (h2 | ⟨m',oc',h2,h3,h4⟩)
  ·exact hout m _ b off h1 hb h2
  ·have:=hap m m' _ oc' b h1 h2 hb h3
   subst this
   rw [h1] at h2;cases h2
   simp only [OC.lo] at h4
   omega
 have hlaid:Laid eT (aB O2 st2 (cU ν2 (ν.map loc) locR) w) aK x ν2 (ν.map loc):=by
  refine H0 (X:=X) (S:=aB O st loc w) (f:=f) hNA rfl hA hobs hnd2 hlen (fun n hn => ?_) (fun i n m h1 h2=>⟨gh hnd2 h2 (by simp [h1]),hlt m (List.mem_of_getElem? h2)⟩)
  show look st2.aE n=_
  rw [hobjs,cL]
  obtain ⟨oc1,h1⟩:=kW (f:=f) (x:=x) (by omega) hn
  rw [h1]
 refine ⟨⟨fun m oc h => ?_,fun m m' oc oc' b h1 h2 h3 h4=>hap m m' oc oc' b h1 h2 h3 h4,fun m oc b off h1 h2=>hout m oc b off h1 h2,g.ji.1,hGl⟩,hlaid⟩
 rcases hob m oc h with ⟨i,n,o,y,oc0,k1,k2,k4,k5,k6,k7,k8,k9⟩ | ⟨k1,k2,k3⟩
 ·refine ⟨hlt m (List.mem_of_getElem? k2),?_⟩
  show OR _ _ _ (cU ν2 (ν.map loc) locR m) oc
  rw [k8,k6]
  refine IU (S:=aB O st loc w) (S':=aB O2 st2 (cU ν2 (ν.map loc) locR) w) rfl (fun k v hk=>by rw [<-hf];exact tM hlaid hk) ?_ k7
  rcases hA with hA | hA
  ·left
   exact rS hA k9
  ·exact .inr hA
 ·obtain ⟨h1,h2⟩:=hR m oc k1 k2
  refine ⟨h1,?_⟩
  show OR _ _ _ (cU ν2 (ν.map loc) locR m) oc
  rw [k3];exact h2
def upto:Nat->Nat->List Nat
 | _,0=>[]
 | k,m + 1=>k :: upto (k + 1) m
def Hy (aK:List Ob) (cls:List Cl) (vs:List bY) (aE:List (Nat × OC)) (as:List (Nat × Nat)):Option (List Nat):=
 match EB cls vs as with
 | some as1=>match ri aE 0 aK as1 with
  | some as2=>p7 as2 0 aK.length
  | none=>none
 | none=>none
theorem sN:∀(m k i:Nat),i < m->(upto k m)[i]?=some (k + i)
 | m + 1,k,0,_=>by simp [upto]
 | m + 1,k,i + 1,h=>by
  simp only [upto,List.getElem?_cons_succ]
  rw [sN m (k + 1) i (by omega)]
  congr 1;omega
theorem oJ:∀{m k n:Nat},n∈upto k m->k<=n/\n < k + m
 | 0,k,n,h=>by simp [upto] at h
 | m + 1,k,n,h=>by
  simp only [upto,List.mem_cons] at h
  rcases h with h | h
  ·omega
  ·have:=oJ h;omega
theorem oK:∀(m k:Nat),(upto k m).length=m
 | 0,_=>rfl
 | m + 1,k=>by simp [upto,oK m]
theorem fF:∀(m k:Nat),nodupB (upto k m)=true
 | 0,_=>rfl
 | m + 1,k=>by
  simp only [upto,nodupB,fF m,Bool.and_true,Bool.not_eq_true']
  rw [Bool.eq_false_iff]
  intro h
  have:=oJ (sM.1 h)
  omega
theorem gD {cv:Bool} {aE:List (Nat × OC)} {aK:List Ob} {ν:List Nat}:∀{os:List Ob} {ns:List Nat} {x:PD os} {n:Nat},cJ cv aE aK ν os ns=some x->n∈ns->
  ∃o oc y,o∈os/\look aE n=some oc/\fp cv aE aK ν o oc=some y:=by
 intro os
 induction os with
 | nil=>intro ns x n h hn;cases ns with | nil=>simp at hn | cons=>simp [cJ] at h
 | cons o r ih=>
  intro ns x n h hn
  cases ns with
  | nil=>simp at hn
  | cons k ns=>
   simp only [cJ] at h
   split at h
   case h_2=>cases h
   rename_i oc hob
   split at h
   case h_2=>cases h
   rename_i x0 y0 h1 h2
   rcases List.mem_cons.1 hn with e | hn
   ·subst e;exact ⟨o,oc,x0,by simp,hob,h1⟩
   ·obtain ⟨o',oc',y',k1,k2⟩:=ih h2 hn
    exact ⟨o',oc',y',by simp [k1],k2⟩
end
end Go.Vg

namespace Go.Vg
open Go.RowKit
inductive Ex where
 | normal
 | exit (n:Nat)
 | ret
def xN:(cls:List Cl)->CD cls
 | []=>()
 | .d t :: r=>(bL t,xN r)
 | .obj _ :: r=>xN r
 | .dX :: r=>xN r
def Ju:(o:Ob)->OD o
 | .box _ cls=>xN cls
 | .row _ _=>[]
 | .tok _=>[]
 | .ext _ t=>bL t
def Hz:(os:List Ob)->PD os
 | []=>()
 | o :: r=>(Ju o,Hz r)
structure gz:Type 1 where
 X:Type
 inv:X->Prop
 aY:X->Nat
 aQ:X->List (Nat × SV)
 aE:X->List (Nat × OC):=fun _=>[]
 aT:List Nat
 fl:List Nat:=[]
 fg:List Nat:=[]
 aK:List Ob:=[]
 refs:List (Nat × Nat):=[]
 pd:X->PD aK:=fun _=>Hz aK
@[reducible] def sI (x:Int):SV:=.s (.one (.d (.int .i64) x))
@[reducible] def sB (x:Bool):SV:=.s (.one (.d .bool x))
@[reducible] def sS (x:List UInt8):SV:=.s (.one (.d .str x))
@[reducible] def sD (t:Ty) (x:D t):SV:=.s (.one (.d t x))
abbrev cu:=List (Nat × (St->gz))
def oL:C->C->Prop
 | .lit b, .d .bool c=>b=c
 | .d t x, .d t' y=>match h:Ty.beq t t' with
  | true=>bP h x=y
  | false=>False
 | .app t xs n, .app t' ys m=>match h:Ty.beq (.slice t) (.slice t'),Nat.beq n m with
  | true,true=>bP h (a:=.slice t) (b:=.slice t') xs=ys
  | _,_=>False
 | a,b=>a=b
def kY:SV->SV->Prop
 | .s (.one a), .s (.one b)=>oL a b
 | a,b=>a=b
def qb:List C->List C->Prop
 | [],[]=>True
 | a :: as,b :: bs=>oL a b/\qb as bs
 | _,_=>False
def gZ:OC->OC->Prop
 | .cells T cs, .cells T' cs'=>match Nat.beq T T' with
  | true=>qb cs cs'
  | false=>False
 | .aP t xs, .aP t' ys=>match h:Ty.beq (.slice t) (.slice t') with
  | true=>bP h (a:=.slice t) (b:=.slice t') xs=ys
  | false=>False
 | .arr t xs, .arr t' ys=>match h:Ty.beq (.slice t) (.slice t') with
  | true=>bP h (a:=.slice t) (b:=.slice t') xs=ys
  | false=>False
 | .tok t xs, .tok t' ys=>match h:Ty.beq (.slice t) (.slice t') with
  | true=>bP h (a:=.slice t) (b:=.slice t') xs=ys
  | false=>False
 | .ext k t x, .ext k' t' y=>match Nat.beq k k',h:Ty.beq t t' with
  | true,true=>bP h x=y
  | _,_=>False
 | .iter cs seen cl, .iter cs' seen' cl'=>qb cs cs'/\seen=seen'/\cl=cl'
 | _,_=>False
def iK (st:St):List (Nat × SV)->Prop
 | []=>True
 | (n,v) :: r=>match look st.env n with
  | some u=>kY u v/\iK st r
  | none=>False
def iM (st:St):List (Nat × OC)->Prop
 | []=>True
 | (n,v) :: r=>match look st.aE n with
  | some u=>gZ u v/\iM st r
  | none=>False
def kn (st:St):List Nat->List (Nat × SV)
 | []=>[]
 | t :: r=>match look st.env t with
  | some v=>(t,v) :: kn st r
  | none=>kn st r
def eV (st:St):List Nat->List (Nat × OC)
 | []=>[]
 | t :: r=>match look st.aE t with
  | some v=>(t,v) :: eV st r
  | none=>eV st r
def bw (an:gz) (st:St) (x:an.X):St:=
 {env:=an.aQ x++kn st an.aT,aE:=an.aE x++eV st an.fl,next:=st.next}
def dQ (l:List Oper):List Nat:=l.filterMap (·.dst)
def writes (anns:cu):Nat->Code->List Nat
 | _, .region _ ops _=>dQ ops.toList
 | k, .seq a b=>writes anns k a++writes anns k b
 | k, .cond _ a b=>writes anns k a++writes anns k b
 | _, .block id b=>writes anns id b
 | k, .loop b=>match look anns (k + 200000) with
  | some _=>allM :: writes anns k b
  | none=>writes anns k b
 | _,_=>[]
def oM (n:Nat):List Nat->Bool
 | []=>false
 | m :: r=>match Nat.beq m n with
  | true=>true
  | false=>oM n r
def mF (l:List Nat) (W:List Nat):Bool:=match l with
 | []=>true
 | _ => !(oM allM W) && l.all fun n => !(oM n W)
def fG (k:Nat):List Nat->Bool
 | []=>true
 | n :: r=>Nat.blt n k && fG k r
def kZ (k:Nat):C->Bool
 | .app _ _ n | .aP n | .jh n | .dh n | .xd n _ | .ref n _ | .lQ n | .gk n _ _ _ | .jC n _ _ _=>Nat.blt n k
 | .fn _ caps=>fG k caps
 | _=>true
def jw (k:Nat):List C->Bool
 | []=>true
 | c :: r=>kZ k c && jw k r
def yH (k:Nat):bY->Bool
 | .one c=>kZ k c
 | .agg cs=>jw k cs
def eW (k:Nat):List (Nat × SV)->Bool
 | []=>true
 | (_, .s v) :: r=>yH k v && eW k r
 | (_, .iw _) :: _=>false
def BX (k:Nat):OC->Bool
 | .cells _ cs=>jw k cs
 | .iter cs _ _=>jw k cs
 | _=>true
def eL (k:Nat):List (Nat × OC)->Bool
 | []=>true
 | (n,oc) :: r=>Nat.blt n k && BX k oc && eL k r
def hE (env:List (Nat × SV)):List Nat->Bool
 | []=>true
 | t :: r=>match look env t with
  | some _=>hE env r
  | none=>false
def hH (W:List Nat):List (Nat × SV)->Bool
 | []=>true
 | (n,_) :: r=>oM n W && hH W r
def xO (env:List (Nat × SV)):List Nat->List Nat
 | []=>[]
 | t :: r=>match look env t with
  | some (.s _)=>t :: xO env r
  | _=>xO env r
def mG (fg:List Nat):List (Nat × OC)->List Nat
 | []=>[]
 | (n,_) :: r=>match oM n fg with
  | true=>mG fg r
  | false=>n :: mG fg r
def rj (st:St) (an:gz):gz:=
 {an with aT:=xO st.env an.aT,fl:=match an.fl with
  | []=>mG an.fg st.aE
  | l=>l}
def bO (ty:Ty) (st:St) (t:Nat):D ty:=
 match look st.env t with
 | some (.s c)=>match ll ty c with
  | some x=>x
  | none=>bL ty
 | _=>bL ty
def bD (st:St) (t:Nat):Nat:=
 match look st.env t with
 | some (.s (.one (.aP n)))=>n
 | some (.s (.one (.jh n)))=>n
 | some (.s (.one (.dh n)))=>n
 | some (.s (.one (.xd n _)))=>n
 | some (.s (.one (.ref n _)))=>n
 | some (.s (.one (.app _ _ n)))=>n
 | _=>0
def IV (st:St) (n:Nat) (seen:List Int):OC:=
 match look st.aE n with
 | some (.iter cs _ cl) => .iter cs seen cl
 | _ => .iter [] seen 0
def jb (st:St) (n k:Nat):Nat:=
 match look st.aE n with
 | some (.cells _ cs)=>match cs[k]? with
  | some (.aP m)=>m
  | some (.ref m _)=>m
  | some (.app _ _ m)=>m
  | some (.dh m)=>m
  | some (.xd m _)=>m
  | _=>0
 | _=>0
def H2 (_:Nat) (_:St):Prop:=False
def fZ (an:gz) (st st':St):VC:=
 match hE st'.env an.aT with
 | true => .leaf (∃x',an.inv x'/\iK st' (an.aQ x')/\iM st' (an.aE x'++eV st an.fl))
 | false => .ff
def HA (st:St):List (Nat × Nat)->Option (List (Nat × Nat))
 | []=>some []
 | (t,k) :: r=>match look st.env t,HA st r with
  | some (.s (.one c)),some as=>match Hx c with
   | some n=>match look as k with
    | some _=>some as
    | none=>some ((k,n) :: as)
   | none=>none
  | _,_=>none
def EE (st:St) (an:gz):Option (List Nat):=
 match HA st an.refs with
 | some as1=>match ri st.aE 0 an.aK as1 with
  | some as2=>p7 as2 0 an.aK.length
  | none=>none
 | none=>none
def qc (st:St) (an:gz) (ν:List Nat):List (Nat × Nat)->Bool
 | []=>true
 | (t,k) :: r=>(match look st.env t with
  | some (.s (.one c))=>fk false st.aE an.aK ν k c
  | _=>false) && qc st an ν r
def tN (st:St) (an:gz) (y:PD an.aK):List (Nat × Nat)->List Prop
 | []=>[]
 | (t,k) :: r=>(match look st.env t with
  | some (.s (.one c))=>nj an.aK y k c
  | _=>[])++tN st an y r
def qd (an:gz) (y:PD an.aK) (us:List Nat):List (Nat × Nat)->List (Nat × SV)
 | []=>[]
 | (t,k) :: r=>(t, .s (.one (ef an.aK y us k))) :: qd an y us r
def tO (an:gz) (st:St) (x:an.X):List (Nat × SV):=an.aQ x++kn st an.aT
def lF (an:gz) (st:St) (x:an.X):List (Nat × OC):=an.aE x++eV st an.fl
def cr (an:gz) (st:St) (x:an.X):St:=
 {env:=qd an (an.pd x) (upto st.next an.aK.length) an.refs++tO an st x,
  aE:=gr (ef an.aK (an.pd x) (upto st.next an.aK.length)) an.aK (an.pd x) (upto st.next an.aK.length)++lF an st x,next:=st.next + an.aK.length}
def lM (ν:List Nat):List (Nat × OC)->Bool
 | []=>true
 | (n,_) :: r => !(jk n ν) && lM ν r
def qe (aT:List Nat):List (Nat × Nat)->Bool
 | []=>true
 | (t,_) :: r => !(oM t aT) && qe aT r
def nR (an:gz) (st:St) (W:List Nat) (x:an.X):Bool:=eW st.next (tO an st x) && (eL st.next (lF an st x) && (hH W (an.aQ x) && qe an.aT an.refs))
def yI (st:St) (an:gz):gz:=
 {an with aT:=(xO st.env an.aT).filter (fun t=>qe [t] an.refs),fl:=match an.fl with
  | []=>mG (an.fg++(match EE st an with | some l=>l | none=>[])) st.aE
  | l=>l}
def tP (an:gz) (st st':St) (more:an.X->Prop):VC:=
 match EE st' an with
 | some ν=>match nodupB ν && (qc st' an ν an.refs),cJ false st'.aE an.aK ν an.aK ν with
  | true,some y => .leaf (CS (tN st' an y an.refs++eP an.aK y st'.aE an.aK ν++[∃x',an.inv x'/\more x'/\iK st' (an.aQ x')/\iM st' (an.aE x'++eV st an.fl)/\(lM ν (lF an st x')=true/\y=an.pd x')]))
  | _,_ => .ff
 | none => .ff
def xP (cx:Cx) (ops:Array Oper) (draw:Bool) (st:St) (K:St->VC):VC:=
 match draw with
 | false=>xJ cx ops.toList ops.toList st K
 | true=>match oE ops with
  | true=>IJ cx ops st fun st'=>K (canon st.next (dQ ops.toList) st')
  | false => .ff
def hJ:Code->Nat->Nat
 | .region id _ _,_=>id
 | .seq a b,d=>hJ a (hJ b d)
 | .cond _ a b,d=>hJ a (hJ b d)
 | .block _ b,d=>hJ b d
 | .loop b,d=>hJ b d
 | _,d=>d
def vc (cx:Cx) (anns:cu):Code->Nat->St->(Ex->St->VC)->VC
 | .skip,_,st,K=>K .normal st
 | .region id ops draw,_,st,K=>match (look anns (id + 300000)).map (fun f=>rj st (f st)) with
  | none=>xP cx ops draw st (K .normal)
  | some an=>match mF an.aT (dQ ops.toList) with
   | true => .both (xP cx ops draw st (fZ an st))
    (.all an.X fun x => .imp (an.inv x) (match eW st.next (bw an st x).env && (eL st.next (bw an st x).aE && hH (dQ ops.toList) (an.aQ x)) with
     | true=>K .normal (bw an st x)
     | false => .ff))
   | false => .ff
 | .seq a b,cur,st,K=>vc cx anns a cur st fun e st'=>match e with
  | .normal=>vc cx anns b cur st' K
  | e=>K e st'
 | .cond c a b,cur,st,K=>match (look anns (hJ a (hJ b 0) + 400000)).map (fun f=>rj st (f st)) with
  | none=>match cF st.env c with
   | .lit true=>vc cx anns a cur st K
   | .lit false=>vc cx anns b cur st K
   | .d .bool g => .ite g (vc cx anns a cur st K) (vc cx anns b cur st K)
   | _ => .ff
  | some an=>match mF an.aT (writes anns cur (.cond c a b)) with
   | true => .both (match cF st.env c with
    | .lit true=>vc cx anns a cur st fun e st'=>match e with
     | .normal=>fZ an st st'
     | e=>K e st'
    | .lit false=>vc cx anns b cur st fun e st'=>match e with
     | .normal=>fZ an st st'
     | e=>K e st'
    | .d .bool g => .ite g (vc cx anns a cur st fun e st'=>match e with
     | .normal=>fZ an st st'
     | e=>K e st') (vc cx anns b cur st fun e st'=>match e with
     | .normal=>fZ an st st'
     | e=>K e st')
    | _ => .ff)
    (.all an.X fun x => .imp (an.inv x) (match eW st.next (bw an st x).env && (eL st.next (bw an st x).aE && hH (writes anns cur (.cond c a b)) (an.aQ x)) with
     | true=>K .normal (bw an st x)
     | false => .ff))
   | false => .ff
 | .block id b,_,st,K=>match (look anns (id + 100000)).map (fun f=>rj st (f st)) with
  | none=>vc cx anns b id st fun e st'=>match e with
   | .exit i=>match Nat.beq i id with
    | true=>K .normal st'
    | false=>K (.exit i) st'
   | e=>K e st'
  | some an=>match mF an.aT (writes anns id b) with
   | true => .both (vc cx anns b id st fun e st'=>match e with
    | .exit i=>match Nat.beq i id with
     | true=>fZ an st st'
     | false=>K (.exit i) st'
    | .normal=>fZ an st st'
    | .ret=>K .ret st')
    (.all an.X fun x => .imp (an.inv x) (match eW st.next (bw an st x).env && (eL st.next (bw an st x).aE && hH (writes anns id b) (an.aQ x)) with
     | true=>K .normal (bw an st x)
     | false => .ff))
   | false => .ff
 | .loop b,cur,st,K=>match look anns (cur + 200000) with
  | none=>match (look anns cur).map (fun f=>rj st (f st)) with
   | some an=>match mF an.aT (writes anns cur b) with
    | true => .and (∃x,an.inv x/\iK st (an.aQ x)/\iM st (an.aE x))
      (.all an.X fun x => .imp (an.inv x) (match eW st.next (bw an st x).env && (eL st.next (bw an st x).aE && hH (writes anns cur b) (an.aQ x)) with
       | true=>vc cx anns b cur (bw an st x) fun e st'=>match e with
        | .normal=>match hE st'.env an.aT with
         | true => .leaf (∃x',an.inv x'/\an.aY x' < an.aY x/\iK st' (an.aQ x')/\iM st' (an.aE x'++eV st an.fl))
         | false => .ff
        | e=>K e st'
       | false => .ff))
    | false => .ff
   | none => .leaf (H2 cur st)
  | some f=>match yI st (f st) with
   | an=>match mF an.aT (writes anns cur b) with
    | true => .both (tP an st st fun _=>True)
      (.all an.X fun x => .imp (an.inv x) (match nR an st (writes anns cur b) x with
       | true=>vc cx anns b cur (cr an st x) fun e st'=>match e with
        | .normal=>match hE st'.env an.aT with
         | true=>tP an st st' fun x'=>an.aY x' < an.aY x
         | false => .ff
        | e=>K e st'
       | false => .ff))
    | false => .ff
 | .exit id,_,st,K=>K (.exit id) st
 | .ret,_,st,K=>K .ret st
 | _,_,_,_ => .ff
section
variable {X:Ext} {P:Program} {cx:Cx}
theorem vR {S:aU} {a b:C} {v:Value} (h:oL a b) (hv:CR cx.eT S a v):CR cx.eT S b v:=by
 unfold oL at h
 split at h
 ·subst h;exact cK.2 hv
 ·split at h
  ·rename_i hb
   subst h
   exact gn hb _ hv
  ·exact h.elim
 ·split at h
  ·rename_i t xs n t' ys m _ hb hn
   have hn:=Nat.eq_of_beq_eq_true hn
   subst hn
   have:t=t':=by have:=Ty.eq_of_beq hb;cases this;rfl
   subst this
   rw [dm] at h
   subst h
   exact hv
  ·exact h.elim
 ·subst h;exact hv
theorem tQ {S:aU} {a b:SV} {v:Value} (h:kY a b) (hv:cA cx.eT S a v):cA cx.eT S b v:=by
 unfold kY at h
 split at h
 ·exact vR h hv
 ·subst h;exact hv
theorem tR {S:aU}:∀{as bs:List C} {vs:List Value},qb as bs->cH cx.eT S as vs->cH cx.eT S bs vs:=by
 intro as
 induction as with
 | nil=>
  intro bs vs h hv
  cases bs with
  | nil=>exact hv
  | cons=>exact h.elim
 | cons a as ih=>
  intro bs vs h hv
  cases bs with
  | nil=>exact h.elim
  | cons b bs=>
   cases hv with
   | cons h1 h2 h3=>exact .cons (vR h.1 h1) h2 (ih h.2 h3)
theorem tS {S:aU} {l:Loc} {a b:OC} (h:gZ a b) (hv:OR cx.eT X S l a):OR cx.eT X S l b/\aN l l a b/\a.lo=b.lo:=by
 unfold gZ at h
 split at h
 ·split at h
  ·rename_i hT
   have:=Nat.eq_of_beq_eq_true hT
   subst this
   obtain ⟨b,vs,h1,h2,h3,h4⟩:=hv
   exact ⟨⟨b,vs,h1,h2,h3,tR h h4⟩,rfl,rfl⟩
  ·exact h.elim
 ·split at h
  ·rename_i t xs t' ys hb
   have:t=t':=by have:=Ty.eq_of_beq hb;cases this;rfl
   subst this;rw [dm] at h;subst h
   exact ⟨hv,rfl,rfl⟩
  ·exact h.elim
 ·split at h
  ·rename_i t xs t' ys hb
   have:t=t':=by have:=Ty.eq_of_beq hb;cases this;rfl
   subst this;rw [dm] at h;subst h
   exact ⟨hv,rfl,rfl⟩
  ·exact h.elim
 ·split at h
  ·rename_i t xs t' ys hb
   have:t=t':=by have:=Ty.eq_of_beq hb;cases this;rfl
   subst this;rw [dm] at h;subst h
   exact ⟨hv,⟨rfl,Nat.le_refl _,fun _=>rfl⟩,rfl⟩
  ·exact h.elim
 ·split at h
  ·rename_i k t x k' t' y hk hb
   have:=Nat.eq_of_beq_eq_true hk
   subst this
   have:=Ty.eq_of_beq hb
   subst this;rw [fc] at h;subst h
   exact ⟨hv,⟨rfl,rfl⟩,rfl⟩
  ·exact h.elim
 ·obtain ⟨h1,rfl,rfl⟩:=h
  obtain ⟨b,m,c,sn,k1,k2,k3,k4,k5,k6⟩:=hv
  exact ⟨⟨b,m,c,sn,k1,k2,k3,tR h1 k4,k5,k6⟩,trivial,rfl⟩
 ·exact h.elim
theorem oN {n:Nat} {l:List Nat}:oM n l=true ↔ n∈l:=by
 induction l with
 | nil=>simp [oM]
 | cons m r ih=>
  simp only [oM,List.mem_cons]
  by_cases h:m=n
  ·subst h;simp [Nat.beq_refl]
  ·rw [iA h];simp only [ih]
   constructor
   ·exact .inr
   ·rintro (h' | h')
    ·exact absurd h'.symm h
    ·exact h'
theorem mH {l W:List Nat} (h:mF l W=true):∀n∈l,allM∉W/\n∉W:=by
 intro n hn
 unfold mF at h
 split at h
 ·simp at hn
 ·simp only [Bool.and_eq_true,List.all_eq_true,Bool.not_eq_true'] at h
  exact ⟨fun hW=>by rw [oN.2 hW] at h;exact absurd h.1 (by decide),fun hW=>by have:=h.2 n hn;rw [oN.2 hW] at this;cases this⟩
def mI (cx:Cx) (X:Ext) (O:aF) (K:Ex->St->VC) (W:List Nat) (st:St) (S:aU):Exit->Act->World->Prop
 | .normal,a,w=>dt cx X O (K .normal) W st S a w
 | .exit n,a,w=>dt cx X O (K (.exit n)) W st S a w
 | .ret,a,w=>dt cx X O (K .ret) W st S a w
 | _,_,_=>False
theorem mI.mono {O:aF} {K:Ex->St->VC} {W W':List Nat} {st st1:St} {S S1:aU} {e:Exit} {a:Act} {w:World} (h:mI cx X O K W st1 S1 e a w) (ht:Tr S S1) (ha:ja W' st st1) (hW:∀n∈W,n∈W'):mI cx X O K W' st S e a w:=by
 have key:∀K:St->VC,dt cx X O K W st1 S1 a w->dt cx X O K W' st S a w:=by
  rintro K ⟨st',loc',k1,k2,k3,k4,k5⟩
  exact ⟨st',loc',k1,k2,ht.trans k3,k4,ha.trans fun hm t ht=>k5 (fun h=>hm (hW _ h)) t fun h=>ht (hW t h)⟩
 cases e with
 | normal=>exact key _ h
 | exit n=>exact key _ h
 | ret=>exact key _ h
 | goto l=>exact h
 | panic c=>exact h
 | outgrown=>exact h
theorem eg {st:St} {l:List Nat} {n:Nat} {v:SV} (h:look (kn st l) n=some v):n∈l/\look st.env n=some v:=by
 induction l with
 | nil=>simp [kn,look] at h
 | cons t r ih=>
  simp only [kn] at h
  split at h
  ·rename_i u hu
   rw [bM] at h
   by_cases e:t=n
   ·rw [if_pos e] at h;cases h;subst e;exact ⟨by simp,hu⟩
   ·rw [if_neg e] at h;have:=ih h;exact ⟨by simp [this.1],this.2⟩
  ·have:=ih h;exact ⟨by simp [this.1],this.2⟩
theorem xz {st:St} {l:List Nat} {n:Nat} {v:OC} (h:look (eV st l) n=some v):look st.aE n=some v:=by
 induction l with
 | nil=>simp [eV,look] at h
 | cons t r ih=>
  simp only [eV] at h
  split at h
  ·rename_i u hu
   rw [bM] at h
   by_cases e:t=n
   ·rw [if_pos e] at h;cases h;subst e;exact hu
   ·rw [if_neg e] at h;exact ih h
  ·exact ih h
theorem iO {st:St} {l:List (Nat × SV)} (h:iK st l):∀{n v},look l n=some v->∃u,look st.env n=some u/\kY u v:=by
 induction l with
 | nil=>intro n v hl;simp [look] at hl
 | cons p r ih=>
  obtain ⟨m,x⟩:=p
  intro n v hl
  simp only [iK] at h
  split at h
  ·rename_i u hu
   rw [bM] at hl
   by_cases e:m=n
   ·rw [if_pos e] at hl;cases hl;subst e;exact ⟨u,hu,h.1⟩
   ·rw [if_neg e] at hl;exact ih h.2 hl
  ·exact h.elim
theorem iP {st:St} {l:List (Nat × OC)} (h:iM st l):∀{n v},look l n=some v->∃u,look st.aE n=some u/\gZ u v:=by
 induction l with
 | nil=>intro n v hl;simp [look] at hl
 | cons p r ih=>
  obtain ⟨m,x⟩:=p
  intro n v hl
  simp only [iM] at h
  split at h
  ·rename_i u hu
   rw [bM] at hl
   by_cases e:m=n
   ·rw [if_pos e] at hl;cases hl;subst e;exact ⟨u,hu,h.1⟩
   ·rw [if_neg e] at hl;exact ih h.2 hl
  ·exact h.elim
theorem bW {a b:Nat} (h:Nat.blt a b=true):a < b:=iC h
theorem CW {S S':aU} (hO:∀b o v,¬ S.A b o->S.w.cell? ⟨b,o,none⟩=some v->S'.w.cell? ⟨b,o,none⟩=some v/\¬ S'.A b o) (hloc:S'.loc=S.loc)
  (hob:∀n oc,S'.ob n=some oc->∃oc0,S.ob n=some oc0/\aN (S.loc n) (S.loc n) oc0 oc) {c:C} {v:Value} (hb:kZ S'.next c=true) (hv:CR cx.eT S c v):CR cx.eT S' c v:=by
 cases c with
 | lit b=>exact hv
 | d t x=>exact VR.frame hv hO
 | app t xs n=>
  obtain ⟨h1,h2,h3⟩:=hv
  refine ⟨VR.frame h1 hO,bW hb,fun ys hy => ?_⟩
  obtain ⟨oc0,k1,k2⟩:=hob n _ hy
  cases oc0 <;> simp [aN] at k2
  obtain ⟨rfl,k3⟩:=k2
  obtain ⟨m1,m2⟩:=h3 _ k1
  rw [hloc]
  exact ⟨by omega,fun e=>m2 (by omega)⟩
 | e9=>exact hv
 | dX=>exact hv
 | emp=>exact hv
 | aP n=>
  refine ⟨bW hb,fun t xs e => ?_⟩
  obtain ⟨oc0,k1,k2⟩:=hob n _ e
  cases oc0 <;> simp [aN] at k2
  rw [hloc];exact hv.2 _ _ k1
 | jC n t lo len=>
  refine ⟨bW hb,fun xs e => ?_⟩
  obtain ⟨oc0,k1,k2⟩:=hob n _ e
  cases oc0 <;> simp [aN] at k2
  subst k2
  rw [hloc];exact hv.2 _ k1
 | jh n=>
  refine ⟨bW hb,fun t xs e => ?_⟩
  obtain ⟨oc0,k1,k2⟩:=hob n _ e
  cases oc0 <;> simp [aN] at k2
  rw [hloc];exact hv.2 _ _ k1
 | dh n=>
  refine ⟨bW hb,fun oc e hx => ?_⟩
  obtain ⟨oc0,k1,k2⟩:=hob n _ e
  rw [hloc];exact hv.2 _ k1 (by cases oc0 <;> cases oc <;> first | rfl | exact k2.elim | cases hx)
 | xd n p=>
  refine ⟨bW hb,fun t x e => ?_⟩
  obtain ⟨oc0,k1,k2⟩:=hob n _ e
  cases oc0 <;> simp [aN] at k2
  obtain ⟨rfl,rfl⟩:=k2
  rw [hloc];exact hv.2 _ _ k1
 | ref n off=>
  refine ⟨bW hb,fun T cs e => ?_⟩
  obtain ⟨oc0,k1,k2⟩:=hob n _ e
  cases oc0 <;> simp [aN] at k2
  rw [hloc];exact hv.2 _ _ k1
 | lQ n=>
  refine ⟨bW hb,?_⟩
  rcases hv.2 with hn | hn
  ·exact .inl hn
  ·refine .inr fun T cs e => ?_
   obtain ⟨oc0,k1,k2⟩:=hob n _ e
   cases oc0 <;> simp [aN] at k2
   rw [hloc];exact hn _ _ k1
 | gk n t i off=>
  refine ⟨bW hb,fun ⟨xs,e⟩ => ?_⟩
  rw [hloc]
  rcases e with e | e
  ·obtain ⟨oc0,k1,k2⟩:=hob n _ e
   cases oc0 <;> simp [aN] at k2
   subst k2;exact hv.2 ⟨_, .inl k1⟩
  ·obtain ⟨oc0,k1,k2⟩:=hob n _ e
   cases oc0 <;> simp [aN] at k2
   subst k2;exact hv.2 ⟨_, .inr k1⟩
 | jD t x=>
  obtain ⟨b,o,us,rfl,h1,h2⟩:=hv
  exact ⟨b,o,us,rfl,h1.frame hO,h2.frame hO⟩
 | fn f caps=>
  obtain ⟨rfl,h2⟩:=hv
  refine ⟨by rw [hloc],fun n hn=>⟨?_,fun t ys e => ?_⟩⟩
  ·have:∀l:List Nat,fG S'.next l=true->n∈l->n < S'.next:=by
    intro l
    induction l with
    | nil=>intro _ h;simp at h
    | cons m r ih=>
     intro h hm
     simp only [fG,Bool.and_eq_true] at h
     rcases List.mem_cons.1 hm with rfl | hm
     ·exact bW h.1
     ·exact ih h.2 hm
   exact this caps hb hn
  ·obtain ⟨oc0,k1,k2⟩:=hob n _ e
   cases oc0 <;> simp [aN] at k2
   exact (h2 n hn).2 _ _ k1
 | any=>trivial
theorem nS {k:Nat}:∀{l:List Nat} {n:Nat},fG k l=true->n∈l->n < k
 | [],_,_,h=>by simp at h
 | m :: r,n,h,hn=>by
  simp only [fG,Bool.and_eq_true] at h
  rcases List.mem_cons.1 hn with e | hn
  ·rw [e];exact bW h.1
  ·exact nS h.2 hn
theorem l7 {S S':aU} {k:Nat} (hrel:∀{c:C} {v:Value},kZ k c=true->CR cx.eT S c v->CR cx.eT S' c v):∀{cs:List C} {vs:List Value},jw k cs=true->cH cx.eT S cs vs->cH cx.eT S' cs vs:=by
 intro cs
 induction cs with
 | nil=>intro vs _ h;cases h;exact .nil
 | cons c cs ih=>
  intro vs hb h
  simp only [jw,Bool.and_eq_true] at hb
  cases h with
  | cons h1 h2 h3=>exact .cons (hrel hb.1 h1) h2 (ih hb.2 h3)
theorem AS {S S':aU} (hO:∀b o v,¬ S.A b o->S.w.cell? ⟨b,o,none⟩=some v->S'.w.cell? ⟨b,o,none⟩=some v/\¬ S'.A b o) {k:Nat} (hk:k<=S'.next) (hloc:∀n,n < k->S'.loc n=S.loc n)
  (hob:∀n oc,n < k->S'.ob n=some oc->∃oc0,S.ob n=some oc0/\aN (S.loc n) (S.loc n) oc0 oc) {c:C} {v:Value} (hb:kZ k c=true) (hv:CR cx.eT S c v):CR cx.eT S' c v:=by
 cases c with
 | lit b=>exact hv
 | d t x=>exact VR.frame hv hO
 | app t xs n=>
  obtain ⟨h1,h2,h3⟩:=hv
  refine ⟨VR.frame h1 hO,Nat.lt_of_lt_of_le (bW hb) hk,fun ys hy => ?_⟩
  obtain ⟨oc0,k1,k2⟩:=hob n _ (bW hb) hy
  cases oc0 <;> simp [aN] at k2
  obtain ⟨rfl,k3⟩:=k2
  obtain ⟨m1,m2⟩:=h3 _ k1
  rw [hloc n (bW hb)]
  exact ⟨by omega,fun e=>m2 (by omega)⟩
 | e9=>exact hv
 | dX=>exact hv
 | emp=>exact hv
 | aP n=>
  refine ⟨Nat.lt_of_lt_of_le (bW hb) hk,fun t xs e => ?_⟩
  obtain ⟨oc0,k1,k2⟩:=hob n _ (bW hb) e
  cases oc0 <;> simp [aN] at k2
  rw [hloc n (bW hb)];exact hv.2 _ _ k1
 | jC n t lo len=>
  refine ⟨Nat.lt_of_lt_of_le (bW hb) hk,fun xs e => ?_⟩
  obtain ⟨oc0,k1,k2⟩:=hob n _ (bW hb) e
  cases oc0 <;> simp [aN] at k2
  subst k2
  rw [hloc n (bW hb)];exact hv.2 _ k1
 | jh n=>
  refine ⟨Nat.lt_of_lt_of_le (bW hb) hk,fun t xs e => ?_⟩
  obtain ⟨oc0,k1,k2⟩:=hob n _ (bW hb) e
  cases oc0 <;> simp [aN] at k2
  rw [hloc n (bW hb)];exact hv.2 _ _ k1
 | dh n=>
  refine ⟨Nat.lt_of_lt_of_le (bW hb) hk,fun oc e hx => ?_⟩
  obtain ⟨oc0,k1,k2⟩:=hob n _ (bW hb) e
  rw [hloc n (bW hb)];exact hv.2 _ k1 (by cases oc0 <;> cases oc <;> first | rfl | exact k2.elim | cases hx)
 | xd n p=>
  refine ⟨Nat.lt_of_lt_of_le (bW hb) hk,fun t x e => ?_⟩
  obtain ⟨oc0,k1,k2⟩:=hob n _ (bW hb) e
  cases oc0 <;> simp [aN] at k2
  obtain ⟨rfl,rfl⟩:=k2
  rw [hloc n (bW hb)];exact hv.2 _ _ k1
 | ref n off=>
  refine ⟨Nat.lt_of_lt_of_le (bW hb) hk,fun T cs e => ?_⟩
  obtain ⟨oc0,k1,k2⟩:=hob n _ (bW hb) e
  cases oc0 <;> simp [aN] at k2
  rw [hloc n (bW hb)];exact hv.2 _ _ k1
 | lQ n=>
  refine ⟨Nat.lt_of_lt_of_le (bW hb) hk,?_⟩
  rcases hv.2 with hn | hn
  ·exact .inl hn
  ·refine .inr fun T cs e => ?_
   obtain ⟨oc0,k1,k2⟩:=hob n _ (bW hb) e
   cases oc0 <;> simp [aN] at k2
   rw [hloc n (bW hb)];exact hn _ _ k1
 | gk n t i off=>
  refine ⟨Nat.lt_of_lt_of_le (bW hb) hk,fun ⟨xs,e⟩ => ?_⟩
  rw [hloc n (bW hb)]
  rcases e with e | e
  ·obtain ⟨oc0,k1,k2⟩:=hob n _ (bW hb) e
   cases oc0 <;> simp [aN] at k2
   subst k2;exact hv.2 ⟨_, .inl k1⟩
  ·obtain ⟨oc0,k1,k2⟩:=hob n _ (bW hb) e
   cases oc0 <;> simp [aN] at k2
   subst k2;exact hv.2 ⟨_, .inr k1⟩
 | jD t x=>
  obtain ⟨b,o,us,rfl,h1,h2⟩:=hv
  exact ⟨b,o,us,rfl,h1.frame hO,h2.frame hO⟩
 | fn f caps=>
  obtain ⟨rfl,h2⟩:=hv
  have hlt:∀n∈caps,n < k:=fun n hn=>nS hb hn
  refine ⟨by rw [show (caps.map fun n=>(S.loc n).v)=(caps.map fun n=>(S'.loc n).v) from List.map_congr_left fun n hn=>by rw [hloc n (hlt n hn)]],fun n hn=>⟨Nat.lt_of_lt_of_le (hlt n hn) hk,fun t ys e => ?_⟩⟩
  obtain ⟨oc0,k1,k2⟩:=hob n _ (hlt n hn) e
  cases oc0 <;> simp [aN] at k2
  exact (h2 n hn).2 _ _ k1
 | any=>trivial
theorem aN.comp {l1 l2 l3:Loc} {a b c:OC} (h:aN l1 l2 a b) (h':aN l2 l3 b c):aN l1 l3 a c:=by
 cases a <;> cases b <;> simp [aN] at h <;> cases c <;> simp [aN] at h' ⊢
 all_goals (try (simp_all;done))
 obtain ⟨rfl,a1,a2⟩:=h
 obtain ⟨rfl,b1,b2⟩:=h'
 refine ⟨rfl,by omega,fun e => ?_⟩
 rw [b2 (by omega),a2 (by omega)]
theorem nn {S S':aU} (hrel:∀{c:C} {v:Value},kZ S'.next c=true->CR cx.eT S c v->CR cx.eT S' c v):∀{cs:List C} {vs:List Value},jw S'.next cs=true->cH cx.eT S cs vs->cH cx.eT S' cs vs:=by
 intro cs
 induction cs with
 | nil=>intro vs _ h;cases h;exact .nil
 | cons c cs ih=>
  intro vs hb h
  simp only [jw,Bool.and_eq_true] at hb
  cases h with
  | cons h1 h2 h3=>exact .cons (hrel hb.1 h1) h2 (ih hb.2 h3)
theorem pA {k:Nat}:∀{l:List (Nat × SV)},eW k l=true->∀{n v},look l n=some v->∃v0,v = .s v0/\yH k v0=true:=by
 intro l
 induction l with
 | nil=>intro _ n v h;simp [look] at h
 | cons p r ih=>
  obtain ⟨m,x⟩:=p
  intro hb n v h
  cases x with
  | iw vs=>simp [eW] at hb
  | s v0=>
   simp only [eW,Bool.and_eq_true] at hb
   rw [bM] at h
   by_cases e:m=n
   ·rw [if_pos e] at h;cases h;exact ⟨v0,rfl,hb.1⟩
   ·rw [if_neg e] at h;exact ih hb.2 h
theorem im {k:Nat}:∀{l:List (Nat × OC)},eL k l=true->∀{n v},look l n=some v->n < k/\BX k v=true:=by
 intro l
 induction l with
 | nil=>intro _ n v h;simp [look] at h
 | cons p r ih=>
  obtain ⟨m,x⟩:=p
  intro hb n v h
  simp only [eL,Bool.and_eq_true] at hb
  rw [bM] at h
  by_cases e:m=n
  ·rw [if_pos e] at h;cases h;subst e;exact ⟨bW hb.1.1,hb.1.2⟩
  ·rw [if_neg e] at h;exact ih hb.2 h
theorem oO {an:gz} {O:aF} {st st':St} {loc loc0:Nat->Loc} {w w0:World} {a:Act} (x:an.X) (g:Good cx.eT X (aB O st' loc w)) (hA:eK cx (aB O st' loc w) st' a) (ht:Tr (aB O st loc0 w0) (aB O st' loc w))
  (he:∀n v,look (bw an st x).env n=some v->∃u,look st'.env n=some u/\kY u v)
  (ho:∀n v,look (bw an st x).aE n=some v->∃u,look st'.aE n=some u/\gZ u v)
  (hb1:eW st.next (bw an st x).env=true) (hb2:eL st.next (bw an st x).aE=true) :
  Good cx.eT X (aB O (bw an st x) loc w)/\eK cx (aB O (bw an st x) loc w) (bw an st x) a/\Tr (aB O st loc0 w0) (aB O (bw an st x) loc w):=by
 have hob:∀n oc,look (bw an st x).aE n=some oc->∃oc0,look st'.aE n=some oc0/\aN (loc n) (loc n) oc0 oc/\oc0.lo=oc.lo/\OR cx.eT X (aB O st' loc w) (loc n) oc:=by
  intro n oc h
  obtain ⟨u,hu,hs⟩:=ho n oc h
  obtain ⟨h1,h2,h3⟩:=tS hs (g.obj n u hu).2
  exact ⟨u,hu,h2,h3,h1⟩
 have hAsub:∀b o,(aB O (bw an st x) loc w).A b o->(aB O st' loc w).A b o:=by
  rintro b o (h | ⟨n,oc,h1,h2,h3⟩)
  ·exact .inl h
  ·obtain ⟨oc0,k1,_,k3,_⟩:=hob n oc h1
   exact .inr ⟨n,oc0,k1,h2,by rw [k3];exact h3⟩
 have hcell:∀b o v,¬ (aB O st' loc w).A b o->w.cell? ⟨b,o,none⟩=some v->w.cell? ⟨b,o,none⟩=some v/\¬ (aB O (bw an st x) loc w).A b o:=fun b o v h1 h2=>⟨h2,fun h=>h1 (hAsub b o h)⟩
 have hrel:∀{c:C} {v:Value},kZ st.next c=true->CR cx.eT (aB O st' loc w) c v->CR cx.eT (aB O (bw an st x) loc w) c v:=fun hb hv=>
  CW (S:=aB O st' loc w) (S':=aB O (bw an st x) loc w) hcell rfl (fun n oc h=>let ⟨oc0,k1,k2,_⟩:=hob n oc h;⟨oc0,k1,k2⟩) hb hv
 have hor:∀n oc,look (bw an st x).aE n=some oc->OR cx.eT X (aB O (bw an st x) loc w) (loc n) oc:=by
  intro n oc h
  obtain ⟨_,_,_,_,k4⟩:=hob n oc h
  have hb:=(im hb2 h).2
  cases oc with
  | cells T cs=>
   obtain ⟨b,vs,h1,h2,h3,h4⟩:=k4
   exact ⟨b,vs,h1,h2,h3,nn hrel hb h4⟩
  | aP t xs=>
   rcases k4 with k4 | ⟨b,vs,T,cap,h1,h2,h3,h4,h5,h6,h7⟩
   ·exact .inl k4
   ·exact .inr ⟨b,vs,T,cap,h1,h2,h3,h4,h5,h6,fun i y hy=>let ⟨us,r1,r2⟩:=h7 i y hy;⟨us,r1.frame hcell,r2⟩⟩
  | arr t xs=>
   obtain ⟨b,vs,T,h1,h2,h3,h4,h5⟩:=k4
   exact ⟨b,vs,T,h1,h2,h3,h4,fun i y hy=>let ⟨us,r1,r2⟩:=h5 i y hy;⟨us,r1.frame hcell,r2⟩⟩
  | tok t xs=>
   rcases k4 with k4 | ⟨b,vs,T,cap,h1,h2,h3,h4,h5,h6,h7⟩
   ·exact .inl k4
   ·exact .inr ⟨b,vs,T,cap,h1,h2,h3,h4,h5,h6,fun i y hy=>let ⟨us,r1,r2⟩:=h7 i y hy;⟨us,r1.frame hcell,r2⟩⟩
  | ext k t x=>exact k4
  | iter cs seen cl=>obtain ⟨b,m,c,sn,k1,k2,k3,k4,k5⟩:=k4;exact ⟨b,m,c,sn,k1,k2,k3,nn hrel hb k4,k5⟩
 refine ⟨⟨fun n oc h=>⟨(im hb2 h).1,hor n oc h⟩,fun n m oc oc' b h1 h2 h3 h4 => ?_,fun n oc b off h1 h2 => ?_,g.ji.sub rfl fun b ⟨n,oc,h1,h2⟩=>by obtain ⟨oc0,k1,_⟩:=hob n oc h1;exact ⟨n,oc0,k1,h2⟩⟩,⟨hA.size,hA.defers,fun n v h => ?_⟩,?_⟩
 ·obtain ⟨oc0,k1,_⟩:=hob n oc h1
  obtain ⟨oc0',k1',_⟩:=hob m oc' h2
  exact g.apart n m oc0 oc0' b k1 k1' h3 h4
 ·obtain ⟨oc0,k1,_⟩:=hob n oc h1
  exact g.out n oc0 b off k1 h2
 ·obtain ⟨u,hu,hs⟩:=he n v h
  have hv:=tQ hs (hA.env n u hu)
  obtain ⟨v0,rfl,hb⟩:=pA hb1 h
  cases v0 with
  | one c=>exact hrel hb hv
  | agg cs=>obtain ⟨vs,h1,h2⟩:=hv;exact ⟨vs,h1,nn hrel hb h2⟩
 ·refine {O:=ht.O,next:=Nat.le_refl _,os:=ht.os,output:=ht.output,size:=ht.size,own:=fun b hb => ?_,cell:=fun b o v h1 h2 => ?_,block:=ht.block,loc:=ht.loc,kind:=fun n oc hn h => ?_}
  ·obtain ⟨n,oc,h1,h2⟩:=hb
   obtain ⟨oc0,k1,_⟩:=hob n oc h1
   exact ht.own b ⟨n,oc0,k1,h2⟩
  ·obtain ⟨k1,k2⟩:=ht.cell b o v h1 h2
   exact ⟨k1,fun h=>k2 (hAsub b o h)⟩
  ·obtain ⟨oc0,k1,k2,_⟩:=hob n oc h
   obtain ⟨oc1,m1,m2⟩:=ht.kind n oc0 hn k1
   exact ⟨oc1,m1,m2.comp k2⟩
theorem Ty.beq_refl:∀t:Ty,Ty.beq t t=true:=by
 intro t
 induction t with
 | prod a b iha ihb=>simp [Ty.beq,iha,ihb]
 | slice e ih=>simp [Ty.beq,ih]
 | int k=>simp [Ty.beq]
 | _=>rfl
theorem tT (c:C):oL c c:=by
 cases c with
 | d t x=>
  simp only [oL]
  split
  ·rfl
  ·rename_i h;rw [Ty.beq_refl] at h;cases h
 | app t xs n=>
  simp only [oL]
  split
  ·rfl
  ·rename_i h;exact (h (Ty.beq_refl _) (Nat.beq_refl _)).elim
 | _=>rfl
theorem gF (v:SV):kY v v:=by
 cases v with
 | s v=>
  cases v with
  | one c=>exact tT c
  | agg cs=>rfl
 | iw vs=>rfl
theorem np:∀cs:List C,qb cs cs
 | []=>trivial
 | c :: cs=>⟨tT c,np cs⟩
theorem AT (v:OC):gZ v v:=by
 cases v with
 | cells T cs=>
  simp only [gZ,Nat.beq_refl]
  exact np cs
 | aP t xs=>
  simp only [gZ]
  split
  ·rfl
  ·rename_i h;rw [Ty.beq_refl] at h;cases h
 | arr t xs=>
  simp only [gZ]
  split
  ·rfl
  ·rename_i h;rw [Ty.beq_refl] at h;cases h
 | tok t xs=>
  simp only [gZ]
  split
  ·rfl
  ·rename_i h;rw [Ty.beq_refl] at h;cases h
 | ext k t x=>
  simp only [gZ]
  split
  ·rfl
  ·rename_i h;exact (h (Nat.beq_refl _) (Ty.beq_refl _)).elim
 | iter cs seen cl=>exact ⟨np cs,rfl,rfl⟩
theorem kL {W:List Nat}:∀{l:List (Nat × SV)},hH W l=true->∀{n v},look l n=some v->n∈W:=by
 intro l
 induction l with
 | nil=>intro _ n v h;simp [look] at h
 | cons p r ih=>
  obtain ⟨m,x⟩:=p
  intro hb n v h
  simp only [hH,Bool.and_eq_true] at hb
  rw [bM] at h
  by_cases e:m=n
  ·subst e;exact oN.1 hb.1
  ·rw [if_neg e] at h;exact ih hb.2 h
theorem jc {env:List (Nat × SV)}:∀{l:List Nat},hE env l=true->∀{n},n∈l->∃v,look env n=some v:=by
 intro l
 induction l with
 | nil=>intro _ n h;simp at h
 | cons t r ih=>
  intro hb n h
  simp only [hE] at hb
  split at hb
  ·rename_i u hu
   rcases List.mem_cons.1 h with rfl | h
   ·exact ⟨u,hu⟩
   ·exact ih hb h
  ·cases hb
theorem H3 {O:aF} {K:Ex->St->VC} {W:List Nat} {st:St} {S:aU} {next:Act->World->Prop} {Q:Exit->Act->World->Prop} {K':Ex->St->VC}
  (hn:∀a w,dt cx X O (K' .normal) W st S a w->next a w) (hK:∀e,e≠.normal->K' e=K e) (hQ:∀e a w,mI cx X O K W st S e a w->e≠.normal->Q e a w) {e:Exit} {a:Act} {w:World}
  (h:mI cx X O K' W st S e a w):Exit.then next Q e a w:=by
 cases e with
 | normal=>exact hn a w h
 | exit n=>exact hQ _ _ _ (by simpa [mI,hK (.exit n) (by simp)] using h) (by simp)
 | ret=>exact hQ _ _ _ (by simpa [mI,hK .ret (by simp)] using h) (by simp)
 | goto l=>exact h.elim
 | panic c=>exact h.elim
 | outgrown=>exact h.elim
structure IW (an:gz) (st st':St) (x:an.X) (ν:List Nat):Prop where
 nodup:nodupB ν=true
 refs:qc st' an ν an.refs=true
 get:cJ false st'.aE an.aK ν an.aK ν=some (an.pd x)
 JG:∀p∈tN st' an (an.pd x) an.refs,p
 conds:∀p∈eP an.aK (an.pd x) st'.aE an.aK ν,p
 env:iK st' (an.aQ x)
 aE:iM st' (lF an st x)
 out:lM ν (lF an st x)=true
theorem vS {an:gz} {st st':St} {more:an.X->Prop} (h:(tP an st st' more).holds):∃x,an.inv x/\more x/\∃ν,IW an st st' x ν:=by
 unfold tP at h
 split at h
 ·rename_i ν _
  split at h
  ·rename_i y hc hy
   simp only [Bool.and_eq_true] at hc
   have hall:=sL h
   obtain ⟨x,h1,h2,h3,h4,h5,h6⟩:=hall (∃x',an.inv x'/\more x'/\iK st' (an.aQ x')/\iM st' (an.aE x'++eV st an.fl)/\(lM ν (lF an st x')=true/\y=an.pd x')) (List.mem_append_right _ (List.mem_singleton.2 rfl))
   subst h6
   obtain ⟨k1,_⟩:=fP.1 hall
   obtain ⟨k1,k2⟩:=fP.1 k1
   exact ⟨x,h1,h2,ν,hc.1,hc.2,hy,k1,k2,h3,h4,h5⟩
  ·exact h.elim
 ·exact h.elim
theorem qf {ν:List Nat}:∀{l:List (Nat × OC)},lM ν l=true->∀{n v},look l n=some v->n∉ν
 | [],_,n,v,h=>by simp [look] at h
 | (m,u) :: r,hk,n,v,h=>by
  simp only [lM,Bool.and_eq_true,Bool.not_eq_true'] at hk
  rw [bM] at h
  split at h
  ·rename_i e;subst e
   intro hm;rw [sM.2 hm] at hk;exact absurd hk.1 (by decide)
  ·exact qf hk.2 h
theorem nq {an:gz} {y:PD an.aK} {us:List Nat}:∀{l:List (Nat × Nat)} {t:Nat} {v:SV},look (qd an y us l) t=some v->∃k,(t,k)∈l/\v = .s (.one (ef an.aK y us k))
 | [],t,v,h=>by simp [qd,look] at h
 | (m,k) :: r,t,v,h=>by
  simp only [qd,bM] at h
  split at h
  ·rename_i e;subst e;cases h;exact ⟨k,by simp,rfl⟩
  ·obtain ⟨k',h1,h2⟩:=nq h;exact ⟨k',by simp [h1],h2⟩
theorem tU {st:St} {an:gz} {ν:List Nat}:∀{l:List (Nat × Nat)} {t k:Nat},qc st an ν l=true->(t,k)∈l->∃c,look st.env t=some (.s (.one c))/\fk false st.aE an.aK ν k c=true
 | [],_,_,_,h=>by simp at h
 | (m,i) :: r,t,k,h,hm=>by
  simp only [qc,Bool.and_eq_true] at h
  rcases List.mem_cons.1 hm with e | hm
  ·cases e
   obtain ⟨h1,_⟩:=h
   split at h1
   ·rename_i c hc;exact ⟨c,hc,h1⟩
   ·cases h1
  ·exact tU h.2 hm
theorem vT {st:St} {an:gz} {y:PD an.aK}:∀{l:List (Nat × Nat)} {t k:Nat} {c:C},(∀p∈tN st an y l,p)->(t,k)∈l->look st.env t=some (.s (.one c))->∀p∈nj an.aK y k c,p
 | [],_,_,_,_,h,_=>by simp at h
 | (m,i) :: r,t,k,c,h,hm,hl=>by
  simp only [tN] at h
  obtain ⟨h1,h2⟩:=fP.1 h
  rcases List.mem_cons.1 hm with e | hm
  ·cases e
   rw [hl] at h1
   exact h1
  ·exact vT h2 hm hl
theorem tV {aT:List Nat}:∀{l:List (Nat × Nat)} {t k:Nat},qe aT l=true->(t,k)∈l->t∉aT
 | [],_,_,_,h=>by simp at h
 | (m,i) :: r,t,k,h,hm=>by
  simp only [qe,Bool.and_eq_true,Bool.not_eq_true'] at h
  rcases List.mem_cons.1 hm with e | hm
  ·cases e
   intro hk;rw [oN.2 hk] at h;exact absurd h.1 (by decide)
  ·exact tV h.2 hm
theorem vU {an:gz} {O:aF} {st st':St} {loc loc0:Nat->Loc} {w w0:World} {a:Act} {W:List Nat} (x:an.X) (g:Good cx.eT X (aB O st' loc w)) (hA:eK cx (aB O st' loc w) st' a) (ht:Tr (aB O st loc0 w0) (aB O st' loc w))
  (hok:nR an st W x=true) (hkeep:∀n∈an.aT,∀v,look st.env n=some v->∃u,look st'.env n=some u/\kY u v) (hf:∃ν,IW an st st' x ν) :
  ∃loc',Good cx.eT X (aB O (cr an st x) loc' w)/\eK cx (aB O (cr an st x) loc' w) (cr an st x) a/\Tr (aB O st loc0 w0) (aB O (cr an st x) loc' w):=by
 obtain ⟨ν,hf⟩:=hf
 simp only [nR,Bool.and_eq_true] at hok
 obtain ⟨hb1,hb2,hkeys,hnr⟩:=hok
 generalize husd:upto st.next an.aK.length=us
 have husl:us.length=an.aK.length:=by rw [<-husd];exact oK _ _
 have hus:nodupB us=true:=by rw [<-husd];exact fF _ _
 have husm:∀n∈us,st.next<=n/\n < st.next + an.aK.length:=fun n hn=>by rw [<-husd] at hn;exact oJ hn
 have hlen:ν.length=us.length:=by rw [husl];exact (lE hf.get).symm
 let loc':=cU us (ν.map loc) loc
 have hlow:∀n,n < st.next->loc' n=loc n:=fun n hn=>jv fun hm=>by have:=(husm n hm).1;omega
 have hnu:∀n,n < st.next->n∉us:=fun n hn hm=>by have:=(husm n hm).1;omega
 have hrest:∀m oc,look (lF an st x) m=some oc->m < st.next/\m∉ν/\∃u,look st'.aE m=some u/\aN (loc m) (loc m) u oc/\u.lo=oc.lo/\OR cx.eT X (aB O st' loc w) (loc m) oc:=by
  intro m oc hm
  obtain ⟨u,hu,hs⟩:=iP hf.aE hm
  obtain ⟨h1,h2,h3⟩:=tS hs (g.obj m u hu).2
  exact ⟨(im hb2 hm).1,qf hf.out hm,u,hu,h2,h3,h1⟩
 have hob:∀m oc,look (cr an st x).aE m=some oc->(∃(i n:Nat) (o:Ob) (y:OD o) (oc0:OC),ν[i]?=some n/\us[i]?=some m/\look st'.aE n=some oc0/\fp false st'.aE an.aK ν o oc0=some y/\
   oc=l5 (ef an.aK (an.pd x) us) o y/\loc' m=loc n)\/(m∉us/\look (lF an st x) m=some oc/\loc' m=loc m):=by
  intro m oc hm
  simp only [cr,husd,cL] at hm
  split at hm
  ·rename_i oc' hm'
   cases hm
   obtain ⟨i,n,o,y,oc0,k1,k2,k3,k4,k5,k6,_⟩:=lD hf.get (lC (X:=X) g hf.get hf.get hf.conds) hlen hm'
   exact .inl ⟨i,n,o,y,oc0,k1,k2,k4,k5,k6,gh hus k2 (by simp [k1])⟩
  ·rename_i hm'
   have hnin:m∉us:=fun hmem=>by
    obtain ⟨oc1,h2⟩:=kW (f:=ef an.aK (an.pd x) us) (x:=an.pd x) husl.symm hmem
    rw [h2] at hm';cases hm'
   exact .inr ⟨hnin,hm,jv hnin⟩
 have hAsub:∀b o,(aB O (cr an st x) loc' w).A b o->(aB O st' loc w).A b o:=by
  rintro b off (h | ⟨m,oc,h1,h2,h3⟩)
  ·exact .inl h
  ·rcases hob m oc h1 with ⟨i,n,o,y,oc0,k1,k2,k4,k5,k6,k7⟩ | ⟨k1,k2,k3⟩
   ·refine .inr ⟨n,oc0,k4,by simp only [aB] at h2;rw [k7] at h2;exact h2,?_⟩
    rcases vf (f:=ef an.aK (an.pd x) us) k5 with e | e
    ·rw [<-e,<-k6];exact h3
    ·cases e
   ·obtain ⟨_,_,u,hu,_,hlo,_⟩:=hrest m oc k2
    exact .inr ⟨m,u,hu,by simp only [aB] at h2;rw [k3] at h2;exact h2,by rw [hlo];exact h3⟩
 have hcell:∀b o v,¬ (aB O st' loc w).A b o->w.cell? ⟨b,o,none⟩=some v->w.cell? ⟨b,o,none⟩=some v/\¬ (aB O (cr an st x) loc' w).A b o:=fun b o v h1 h2=>⟨h2,fun h=>h1 (hAsub b o h)⟩
 have hrel:∀{c:C} {v:Value},kZ st.next c=true->CR cx.eT (aB O st' loc w) c v->CR cx.eT (aB O (cr an st x) loc' w) c v:=fun hb hv=>
  AS (S:=aB O st' loc w) (S':=aB O (cr an st x) loc' w) (k:=st.next) hcell (by simp [aB,cr]) (fun n hn=>hlow n hn) (fun n oc hn h=>by
   rcases hob n oc h with ⟨i,n',o,y,oc0,k1,k2,_⟩ | ⟨k1,k2,k3⟩
   ·exact absurd (List.mem_of_getElem? k2) (hnu n hn)
   ·obtain ⟨_,_,u,hu,hk,_,_⟩:=hrest n oc k2
    exact ⟨u,hu,hk⟩) hb hv
 obtain ⟨gN,laid⟩:=CV (X:=X) g hf.get hf.conds hf.nodup (O2:=O) (ν2:=us) (rest:=lF an st x) (locR:=loc) (st2:=cr an st x) hus hlen (by simp only [cr,husd])
  (fun n hn=>by have:=(husm n hn).2;simp only [cr];exact this)
  (fun n hn b hb off h=>by
   obtain ⟨_,oc,_,_,k,_⟩:=gD hf.get hn
   exact g.out n oc b off k hb h)
  (fun n hn b hb m oc h1 h2 h3=>by
   obtain ⟨_,oc0,_,_,k,_⟩:=gD hf.get hn
   obtain ⟨_,hmν,u,hu,_⟩:=hrest m oc h1
   have:=g.apart n m oc0 u b k hu hb h3
   exact hmν (by rw [<-this];exact hn))
  (fun m oc h1 h2=>by
   obtain ⟨hm,_,u,hu,hk,hlo,hor⟩:=hrest m oc h1
   refine ⟨by simp only [cr];omega,?_⟩
   have hb:=(im hb2 h1).2
   cases oc with
   | cells T cs=>
    obtain ⟨b,vs,h1,h2,h3,h4⟩:=hor
    exact ⟨b,vs,h1,h2,h3,l7 (k:=st.next) hrel hb h4⟩
   | aP t xs=>exact yG.to (S:=aB O st' loc w) (S':=aB O (cr an st x) loc' w) rfl (.inr hAsub) hor
   | tok t xs=>exact yG.to (X:=X) (S:=aB O st' loc w) (S':=aB O (cr an st x) loc' w) (l:=loc m) rfl (.inr hAsub) hor
   | arr t xs=>
    obtain ⟨b,vs,T,h1,h2,h3,h4,h5⟩:=hor
    exact ⟨b,vs,T,h1,h2,h3,h4,fun i y hy=>let ⟨us,r1,r2⟩:=h5 i y hy;⟨us,r1.frame hcell,r2⟩⟩
   | ext k t x=>exact hor
   | iter cs seen cl=>obtain ⟨b,m,c,sn,k1,k2,k3,k4,k5⟩:=hor;exact ⟨b,m,c,sn,k1,k2,k3,l7 (k:=st.next) hrel hb k4,k5⟩)
  (fun m m' oc oc' b h1 h2 _ _ h3 h4=>by
   obtain ⟨_,_,u,hu,_⟩:=hrest m oc h1
   obtain ⟨_,_,u',hu',_⟩:=hrest m' oc' h2
   exact g.apart m m' u u' b hu hu' h3 h4)
  (fun m oc b off h1 _ h2=>by
   obtain ⟨_,_,u,hu,_⟩:=hrest m oc h1
   exact g.out m u b off hu h2)
  (.inr hAsub)
  (fun b hb ⟨m,oc,h1,h2⟩=>by
   rcases hob m oc h1 with ⟨i,n,o,y,oc0,k1,k2,k4,k5,k6,k7⟩ | ⟨k1,k2,k3⟩
   ·refine g.ji.2 b hb ⟨n,oc0,k4,?_⟩
    have e:cU us (ν.map loc) loc m=loc n:=k7
    simp only [aB] at h2;rw [e] at h2;exact h2
   ·obtain ⟨_,_,u,hu,_⟩:=hrest m oc k2
    have e:cU us (ν.map loc) loc m=loc m:=k3
    refine g.ji.2 b hb ⟨m,u,hu,?_⟩
    simp only [aB] at h2;rw [e] at h2;exact h2)
 refine ⟨loc',gN,⟨hA.size,hA.defers,fun t sv hl => ?_⟩,?_⟩
 ·simp only [cr,husd,cL] at hl
  split at hl
  ·rename_i v hv
   cases hl
   obtain ⟨k,hk,rfl⟩:=nq hv
   obtain ⟨c,hc,hs⟩:=tU hf.refs hk
   have hcv:CR cx.eT (aB O st' loc w) c (a.tmps.getD t undef):=hA.env t _ hc
   exact tM laid (ve g hcv hf.get hs (vT hf.JG hk hc))
  ·have hl2:look (tO an st x) t=some sv:=hl
   have hst:∃u,look st'.env t=some u/\kY u sv:=by
    simp only [tO,cL] at hl2
    split at hl2
    ·rename_i v hv;cases hl2;exact iO hf.env hv
    ·obtain ⟨h1,h2⟩:=eg hl2;exact hkeep t h1 sv h2
   obtain ⟨u,hu,hs⟩:=hst
   have hv:=tQ hs (hA.env t u hu)
   obtain ⟨v0,rfl,hb⟩:=pA hb1 hl2
   cases v0 with
   | one c=>exact hrel hb hv
   | agg cs=>obtain ⟨vs,h1,h2⟩:=hv;exact ⟨vs,h1,l7 (k:=st.next) hrel hb h2⟩
 ·refine {O:=ht.O,next:=by simp [aB,cr],os:=ht.os,output:=ht.output,size:=ht.size,own:=fun b hb => ?_,cell:=fun b o v h1 h2 => ?_,block:=ht.block,loc:=fun n hn hfx => ?_,kind:=fun n oc hn h => ?_}
  ·obtain ⟨m,oc,h1,h2⟩:=hb
   rcases hob m oc h1 with ⟨i,n,o,y,oc0,k1,k2,k4,k5,k6,k7⟩ | ⟨k1,k2,k3⟩
   ·exact ht.own b ⟨n,oc0,k4,by simp only [aB] at h2;rw [k7] at h2;exact h2⟩
   ·obtain ⟨_,_,u,hu,_⟩:=hrest m oc k2
    exact ht.own b ⟨m,u,hu,by simp only [aB] at h2;rw [k3] at h2;exact h2⟩
  ·obtain ⟨k1,k2⟩:=ht.cell b o v h1 h2
   exact ⟨k1,fun h=>k2 (hAsub b o h)⟩
  ·show (loc' n).v=_/\(_->loc' n=_)
   rw [hlow n hn];exact ht.loc n hn hfx
  ·rcases hob n oc h with ⟨i,n',o,y,oc0,k1,k2,_⟩ | ⟨k1,k2,k3⟩
   ·exact absurd (List.mem_of_getElem? k2) (hnu n hn)
   ·obtain ⟨_,_,u,hu,hk,_,_⟩:=hrest n oc k2
    obtain ⟨oc1,m1,m2⟩:=ht.kind n u hn hu
    refine ⟨oc1,m1,?_⟩
    show aN _ (loc' n) _ _
    rw [hlow n hn]
    exact m2.comp hk
theorem CX {an:gz} {st:St} {W:List Nat} {x:an.X} (hok:nR an st W x=true) {n:Nat} (hn:n∈an.aT) {v:SV} (h:look (cr an st x).env n=some v) (hW:n∉W):look st.env n=some v:=by
 simp only [nR,Bool.and_eq_true] at hok
 obtain ⟨_,_,hkeys,hnr⟩:=hok
 simp only [cr,tO,cL] at h
 split at h
 ·rename_i u hu
  obtain ⟨k,hk,_⟩:=nq hu
  exact absurd hn (tV hnr hk)
 ·split at h
  ·rename_i u hu;exact absurd (kL hkeys hu) hW
  ·exact (eg h).2
theorem vV {O:aF} {st:St} {loc:Nat->Loc} {w:World} {an:gz} {W:List Nat} {K:St->VC} (hdis:mF an.aT W=true)
  (hk:(VC.all an.X fun x => .imp (an.inv x) (match eW st.next (bw an st x).env && (eL st.next (bw an st x).aE && hH W (an.aQ x)) with
     | true=>K (bw an st x)
     | false => .ff)).holds) {a':Act} {w':World}:dt cx X O (fZ an st) W st (aB O st loc w) a' w'->dt cx X O K W st (aB O st loc w) a' w':=by
 have hkeepW:=mH hdis
 rintro ⟨st2,loc2,k1,k2,k3,k4,k5⟩
 simp only [fZ] at k1
 split at k1
 case h_2=>exact k1.elim
 rename_i hpres
 obtain ⟨x',hx',hs',ho'⟩:=k1
 have hvx:=hk x' hx'
 split at hvx
 case h_2=>exact hvx.elim
 rename_i hbb
 simp only [Bool.and_eq_true] at hbb
 have hhead:∀t,t∉W->∀v,look (bw an st x').env t=some v->look st.env t=some v:=by
  intro t ht v hv
  simp only [bw,cL] at hv
  split at hv
  ·rename_i u hu;exact absurd (kL hbb.2.2 hu) ht
  ·exact (eg hv).2
 obtain ⟨m1,m2,m3⟩:=oO (an:=an) (st:=st) x' k2 k4 k3 (by
   intro n v hv
   simp only [bw,cL] at hv
   split at hv
   ·rename_i u hu;cases hv;exact iO hs' hu
   ·obtain ⟨hmem,hl⟩:=eg hv
    refine ⟨v,?_,gF v⟩
    obtain ⟨v',hv'⟩:=jc hpres hmem
    have:=k5 (hkeepW n hmem).1 n (hkeepW n hmem).2 v' hv'
    rw [hl] at this
    cases this
    exact hv')
  (by
   intro n v hv
   simp only [bw] at hv
   exact iP ho' hv) hbb.1 hbb.2.1
 exact ⟨bw an st x',loc2,hvx,m1,m3,m2,fun _ t ht v hv=>hhead t ht v hv⟩
theorem vW (hok:jn P cx X) {O:aF} {id:Nat} {ops:Array Oper} {draw:Bool} {st:St} {loc:Nat->Loc} {w:World} {a:Act} {K:Ex->St->VC} (hA:eK cx (aB O st loc w) st a) (g:Good cx.eT X (aB O st loc w)) (hO:de O w)
  (h:(xP cx ops draw st (K .normal)).holds):(Code.region id ops draw).wp P (mI cx X O K (dQ ops.toList) st (aB O st loc w)) a w:=by
 have hW:∀(j:Nat) (oj:Oper) (d:Nat),ops[j]?=some oj->oj.dst=some d->d∈dQ ops.toList:=by
  intro j oj d hj hd
  exact List.mem_filterMap.2 ⟨oj,by rw [<-Array.getElem?_toList] at hj;exact List.mem_of_getElem? hj,hd⟩
 have hq:∀st' loc' a' w',(K .normal st').holds->Good cx.eT X (aB O st' loc' w')->Tr (aB O st loc w) (aB O st' loc' w')->eK cx (aB O st' loc' w') st' a'->ja (dQ ops.toList) st st'->
   mI cx X O K (dQ ops.toList) st (aB O st loc w) .normal a' w':=fun st' loc' a' w' h1 h2 h3 h4 h5=>⟨st',loc',h1,h2,h3,h4,h5⟩
 unfold xP at h
 cases draw with
 | false=>
  refine wp_region_list ?_
  exact AQ hok hW ops.toList (fun o ho d hd=>List.mem_filterMap.2 ⟨o,ho,hd⟩) hA g hO h hq
 | true=>
  split at h
  ·rename_i e;cases e
  ·rename_i e
   split at h
   ·rename_i hreg
    rw [HX] at h
    refine wp_region_any hok.mixed (BS (loud:=fD cx ops.toList) _ _ _ _ (aB O st loc {w with drawn:=w.drawn + 1}).A ?_)
    have hdrew:Below w.heap.size w {w with drawn:=w.drawn + 1}:=⟨rfl,rfl,Nat.le_refl _,fun _ _=>rfl⟩
    obtain ⟨tr,g'⟩:=og (S:=aB O st loc w) (S':=aB O st loc {w with drawn:=w.drawn + 1}) g rfl rfl rfl rfl hdrew
    refine AR hok hW hreg (fun c a w h=>h) ops.size _ ?_ ⟨hA.size,hA.defers,hA.env.tr tr⟩ g' (hO.tr (Nat.le_refl _)) h ?_
    ·intro j o ho hj
     rw [Array.getD_eq_getD_getElem?,Array.getElem?_replicate] at hj
     split at hj <;> simp at hj
    ·intro st' loc' a' w' h1 h2 h3 h4 h5
     obtain ⟨st2,loc2,k1,k2,k3,k4,k5⟩:=dt.JN (K:=K .normal) (f:=canon st.next (dQ ops.toList)) (W:=dQ ops.toList) hA (fun st'=>by
      rcases CQ st.next (dQ ops.toList) st' with e | ⟨r,q,k1,k2⟩
      ·exact .inl e
      ·exact .inr ⟨r,q,k1,k2⟩) (⟨st',loc',h1,h2,tr.trans h3,h4,h5⟩:dt cx X O (fun st'=>K .normal (canon st.next (dQ ops.toList) st')) (dQ ops.toList) st (aB O st loc w) a' w')
     exact hq st2 loc2 a' w' k1 k2 k3 k4 k5
   ·exact h.elim
theorem Gs (hok:jn P cx X) (anns:cu) {O:aF}:∀(c:Code) (cur:Nat) {st:St} {loc:Nat->Loc} {w:World} {a:Act} {K:Ex->St->VC},
  eK cx (aB O st loc w) st a->Good cx.eT X (aB O st loc w)->de O w->(vc cx anns c cur st K).holds->c.wp P (mI cx X O K (writes anns cur c) st (aB O st loc w)) a w:=by
 intro c
 induction c with
 | skip=>intro cur st loc w a K hA g hO h;exact wp_skip ⟨st,loc,h,g,Tr.refl _,hA,fun _ _ _ _ h=>h⟩
 | region id ops draw=>
  intro cur st loc w a K hA g hO h
  simp only [vc] at h
  split at h
  ·exact vW hok hA g hO h
  ·rename_i an _
   split at h
   case h_2=>exact h.elim
   rename_i hdis
   obtain ⟨hb,hk⟩:=h
   refine wp_mono (vW (K:=fun e=>match e with | .normal=>fZ an st | e=>K e) hok hA g hO hb) ?_
   intro e a' w' hq
   cases e with
   | normal=>exact vV hdis hk hq
   | exit i=>exact hq
   | ret=>exact hq
   | goto l=>exact hq.elim
   | panic c=>exact hq.elim
   | outgrown=>exact hq.elim
 | seq c1 c2 ih1 ih2=>
  intro cur st loc w a K hA g hO h
  refine wp_seq ?_
  refine wp_mono (ih1 cur hA g hO h) ?_
  intro e a' w' hq
  refine H3 (K:=K) (W:=writes anns cur c1) ?_ (fun e he=>by cases e <;> simp_all) ?_ hq
  ·rintro a1 w1 ⟨st',loc',k1,k2,k3,k4,k5⟩
   refine wp_mono (ih2 cur k4 k2 (hO.tr k3.size) k1) ?_
   intro e a2 w2 hq2
   exact hq2.mono k3 (W':=writes anns cur (.seq c1 c2)) (fun hm t ht=>k5 (fun h=>hm (List.mem_append.2 (.inl h))) t fun hm=>ht (List.mem_append.2 (.inl hm))) (fun n hn=>List.mem_append.2 (.inr hn))
  ·intro e a1 w1 hq1 _
   exact hq1.mono (Tr.refl _) (fun _ _ _ _ h=>h) (fun n hn=>List.mem_append.2 (.inl hn))
 | cond x c1 c2 ih1 ih2=>
  intro cur st loc w a K hA g hO h
  have hx:=aV hA.env x
  have h1:∀{K},(vc cx anns c1 cur st K).holds->c1.wp P (mI cx X O K (writes anns cur (.cond x c1 c2)) st (aB O st loc w)) a w:=fun h=>
   wp_mono (ih1 cur hA g hO h) fun e a' w' hq=>hq.mono (Tr.refl _) (fun _ _ _ _ h=>h) (fun n hn=>List.mem_append.2 (.inl hn))
  have h2:∀{K},(vc cx anns c2 cur st K).holds->c2.wp P (mI cx X O K (writes anns cur (.cond x c1 c2)) st (aB O st loc w)) a w:=fun h=>
   wp_mono (ih2 cur hA g hO h) fun e a' w' hq=>hq.mono (Tr.refl _) (fun _ _ _ _ h=>h) (fun n hn=>List.mem_append.2 (.inr hn))
  have base:∀{K:Ex->St->VC},(match cF st.env x with
    | .lit true=>vc cx anns c1 cur st K
    | .lit false=>vc cx anns c2 cur st K
    | .d .bool g => .ite g (vc cx anns c1 cur st K) (vc cx anns c2 cur st K)
    | _ => .ff).holds->(Code.cond x c1 c2).wp P (mI cx X O K (writes anns cur (.cond x c1 c2)) st (aB O st loc w)) a w:=by
   intro K h
   split at h
   ·rename_i hl;rw [hl] at hx;exact wp_cond_true hx (h1 h)
   ·rename_i hl;rw [hl] at hx;exact wp_cond_false hx (h2 h)
   ·rename_i b hl
    rw [hl] at hx
    have hx:=(cK (eT:=cx.eT) (S:=aB O st loc w) (b:=b)).1 hx
    cases b
    ·exact wp_cond_false hx (h2 (h.2 rfl))
    ·exact wp_cond_true hx (h1 (h.1 rfl))
   ·exact h.elim
  simp only [vc] at h
  split at h
  ·exact base h
  ·rename_i an _
   split at h
   case h_2=>exact h.elim
   rename_i hdis
   obtain ⟨hb,hk⟩:=h
   refine wp_mono (base (K:=fun e st'=>match e with | .normal=>fZ an st st' | e=>K e st') hb) ?_
   intro e a' w' hq
   cases e with
   | normal=>exact vV hdis hk hq
   | exit i=>exact hq
   | ret=>exact hq
   | goto l=>exact hq.elim
   | panic c=>exact hq.elim
   | outgrown=>exact hq.elim
 | block id b ih=>
  intro cur st loc w a K hA g hO h
  refine wp_block ?_
  simp only [vc] at h
  split at h
  case h_2=>
   rename_i an _
   split at h
   case h_2=>exact h.elim
   rename_i hdis
   have hkeepW:=mH hdis
   obtain ⟨hb,hk⟩:=h
   refine wp_mono (ih id hA g hO hb) ?_
   intro e a' w' hq
   have join:dt cx X O (fZ an st) (writes anns id b) st (aB O st loc w) a' w'->mI cx X O K (writes anns cur (.block id b)) st (aB O st loc w) .normal a' w':=by
    rintro ⟨st2,loc2,k1,k2,k3,k4,k5⟩
    simp only [fZ] at k1
    split at k1
    case h_2=>exact k1.elim
    rename_i hpres
    obtain ⟨x',hx',hs',ho'⟩:=k1
    have hvx:=hk x' hx'
    split at hvx
    case h_2=>exact hvx.elim
    rename_i hbb
    simp only [Bool.and_eq_true] at hbb
    have hhead:∀t,t∉writes anns id b->∀v,look (bw an st x').env t=some v->look st.env t=some v:=by
     intro t ht v hv
     simp only [bw,cL] at hv
     split at hv
     ·rename_i u hu;exact absurd (kL hbb.2.2 hu) ht
     ·exact (eg hv).2
    obtain ⟨m1,m2,m3⟩:=oO (an:=an) (st:=st) x' k2 k4 k3 (by
      intro n v hv
      simp only [bw,cL] at hv
      split at hv
      ·rename_i u hu;cases hv;exact iO hs' hu
      ·obtain ⟨hmem,hl⟩:=eg hv
       refine ⟨v,?_,gF v⟩
       obtain ⟨v',hv'⟩:=jc hpres hmem
       have:=k5 (hkeepW n hmem).1 n (hkeepW n hmem).2 v' hv'
       rw [hl] at this
       cases this
       exact hv')
     (by
      intro n v hv
      simp only [bw] at hv
      exact iP ho' hv) hbb.1 hbb.2.1
    exact ⟨bw an st x',loc2,hvx,m1,m3,m2,fun _ t ht v hv=>hhead t ht v hv⟩
   cases e with
   | normal=>exact join hq
   | exit i=>
    show if i=id then _ else _
    by_cases hi:i=id
    ·rw [if_pos hi]
     subst hi
     obtain ⟨st',loc',k1,k2⟩:=hq
     simp only [Nat.beq_refl] at k1
     exact join ⟨st',loc',k1,k2⟩
    ·rw [if_neg hi]
     obtain ⟨st',loc',k1,k2⟩:=hq
     simp only [iA hi] at k1
     exact ⟨st',loc',k1,k2⟩
   | ret=>exact hq
   | goto l=>exact hq.elim
   | panic c=>exact hq.elim
   | outgrown=>exact hq.elim
  refine wp_mono (ih id hA g hO h) ?_
  intro e a' w' hq
  cases e with
  | normal=>exact hq
  | exit i=>
   obtain ⟨st',loc',k1,k2,k3,k4,k5⟩:=hq
   simp only at k1
   show if i=id then _ else _
   split at k1
   ·rename_i hi
    rw [if_pos (Nat.eq_of_beq_eq_true hi)]
    exact ⟨st',loc',k1,k2,k3,k4,k5⟩
   ·rename_i hi
    rw [if_neg (fun e=>by rw [e,Nat.beq_refl] at hi;cases hi)]
    exact ⟨st',loc',k1,k2,k3,k4,k5⟩
  | ret=>exact hq
  | goto l=>exact hq.elim
  | panic c=>exact hq.elim
  | outgrown=>exact hq.elim
 | loop b ih=>
  intro cur st loc w a K hA g hO h
  simp only [vc] at h
  split at h
  ·rename_i hnone
   have hwl:writes anns cur (.loop b)=writes anns cur b:=by simp only [writes,hnone]
   split at h
   case h_2=>exact h.elim
   rename_i an _
   split at h
   ·rename_i hdis
    have hkeepW:=mH hdis
    obtain ⟨⟨x0,hx0,hs0,ho0⟩,h⟩:=h
    have hobk:∀x n v,look (bw an st x).aE n=some v->look (an.aE x) n=some v\/look st.aE n=some v:=by
     intro x n v hv
     simp only [bw,cL] at hv
     split at hv
     ·rename_i u hu;cases hv;exact .inl hu
     ·exact .inr (xz hv)
    have hhead:∀x,hH (writes anns cur b) (an.aQ x)=true->∀t,t∉writes anns cur b->∀v,look (bw an st x).env t=some v->look st.env t=some v:=by
     intro x hk t ht v hv
     simp only [bw,cL] at hv
     split at hv
     ·rename_i u hu;exact absurd (kL hk hu) ht
     ·exact (eg hv).2
    refine wp_loop_ghost (fun n a' w'=>∃x loc',an.inv x/\an.aY x=n/\eW st.next (bw an st x).env=true/\(eL st.next (bw an st x).aE=true/\hH (writes anns cur b) (an.aQ x)=true)/\
     (vc cx anns b cur (bw an st x) fun e st'=>match e with
       | .normal=>match hE st'.env an.aT with
        | true => .leaf (∃x',an.inv x'/\an.aY x' < an.aY x/\iK st' (an.aQ x')/\iM st' (an.aE x'++eV st an.fl))
        | false => .ff
       | e=>K e st').holds/\
     Good cx.eT X (aB O (bw an st x) loc' w')/\eK cx (aB O (bw an st x) loc' w') (bw an st x) a'/\Tr (aB O st loc w) (aB O (bw an st x) loc' w')) (an.aY x0) ?_ ?_
    ·have hx:=h x0 hx0
     split at hx
     ·rename_i hb
      simp only [Bool.and_eq_true] at hb
      obtain ⟨m1,m2,m3⟩:=oO (an:=an) (st:=st) x0 g hA (Tr.refl _) (by
        intro n v hv
        simp only [bw,cL] at hv
        split at hv
        ·rename_i u hu;cases hv;exact iO hs0 hu
        ·obtain ⟨_,hl⟩:=eg hv
         exact ⟨v,hl,gF v⟩)
       (by
        intro n v hv
        rcases hobk x0 n v hv with hv | hv
        ·exact iP ho0 hv
        ·exact ⟨v,hv,AT v⟩) hb.1 hb.2.1
      exact ⟨x0,loc,hx0,rfl,hb.1,hb.2,hx,m1,m2,m3⟩
     ·exact hx.elim
    ·rintro n a1 w1 ⟨x,loc1,hx,hn,hb1,hb2,hvc,g1,hA1,tr1⟩
     refine wp_mono (ih cur hA1 g1 (hO.tr tr1.size) hvc) ?_
     intro e a2 w2 hq
     have up:∀Kx:St->VC,dt cx X O Kx (writes anns cur b) (bw an st x) (aB O (bw an st x) loc1 w1) a2 w2->dt cx X O Kx (writes anns cur (.loop b)) st (aB O st loc w) a2 w2:=by
      rintro Kx ⟨st2,loc2,k1,k2,k3,k4,k5⟩
      exact ⟨st2,loc2,k1,k2,tr1.trans k3,k4,fun hm t ht v hv=>by rw [hwl] at hm ht;exact hhead x hb2.2 t ht v (k5 hm t ht v hv)⟩
     cases e with
     | normal=>
      obtain ⟨st2,loc2,k1,k2,k3,k4,k5⟩:=hq
      simp only at k1
      split at k1
      case h_2=>exact k1.elim
      rename_i hpres
      obtain ⟨x',hx',hlt,hs',ho'⟩:=k1
      have hvx:=h x' hx'
      refine ⟨an.aY x',by rw [<-hn];exact hlt,?_⟩
      split at hvx
      ·rename_i hb
       simp only [Bool.and_eq_true] at hb
       obtain ⟨m1,m2,m3⟩:=oO (an:=an) (st:=st) x' k2 k4 (tr1.trans k3) (by
         intro n v hv
         simp only [bw,cL] at hv
         split at hv
         ·rename_i u hu;cases hv;exact iO hs' hu
         ·obtain ⟨hmem,hl⟩:=eg hv
          refine ⟨v,?_,gF v⟩
          obtain ⟨v',hv'⟩:=jc hpres hmem
          have:=hhead x hb2.2 n (hkeepW n hmem).2 v' (k5 (hkeepW n hmem).1 n (hkeepW n hmem).2 v' hv')
          rw [hl] at this
          cases this
          exact hv')
        (by
         intro n v hv
         simp only [bw] at hv
         exact iP ho' hv) hb.1 hb.2.1
       exact ⟨x',loc2,hx',rfl,hb.1,hb.2,hvx,m1,m2,m3⟩
      ·exact hvx.elim
     | exit i=>exact up _ hq
     | ret=>exact up _ hq
     | goto l=>exact hq.elim
     | panic c=>exact hq.elim
     | outgrown=>exact hq.elim
   ·exact h.elim
  ·rename_i f hsome
   have hwl:writes anns cur (.loop b)=allM :: writes anns cur b:=by simp only [writes,hsome]
   generalize yI st (f st)=an at h
   split at h
   case h_2=>exact h.elim
   rename_i hdis
   have hkeepW:=mH hdis
   obtain ⟨hfit,h⟩:=h
   obtain ⟨x0,hx0,_,hf0⟩:=vS hfit
   refine wp_loop_ghost (fun n a' w'=>∃x loc',an.inv x/\an.aY x=n/\nR an st (writes anns cur b) x=true/\
    (vc cx anns b cur (cr an st x) fun e st'=>match e with
      | .normal=>match hE st'.env an.aT with
       | true=>tP an st st' fun x'=>an.aY x' < an.aY x
       | false => .ff
      | e=>K e st').holds/\
    Good cx.eT X (aB O (cr an st x) loc' w')/\eK cx (aB O (cr an st x) loc' w') (cr an st x) a'/\Tr (aB O st loc w) (aB O (cr an st x) loc' w')) (an.aY x0) ?_ ?_
   ·have hx:=h x0 hx0
    split at hx
    case h_2=>exact hx.elim
    rename_i hok2
    obtain ⟨loc',m1,m2,m3⟩:=vU (an:=an) (st:=st) x0 g hA (Tr.refl _) hok2 (fun n hn v hv=>⟨v,hv,gF v⟩) hf0
    exact ⟨x0,loc',hx0,rfl,hok2,hx,m1,m2,m3⟩
   ·rintro n a1 w1 ⟨x,loc1,hx,hn,hokx,hvc,g1,hA1,tr1⟩
    refine wp_mono (ih cur hA1 g1 (hO.tr tr1.size) hvc) ?_
    intro e a2 w2 hq
    have up:∀Kx:St->VC,dt cx X O Kx (writes anns cur b) (cr an st x) (aB O (cr an st x) loc1 w1) a2 w2->dt cx X O Kx (writes anns cur (.loop b)) st (aB O st loc w) a2 w2:=by
     rintro Kx ⟨st2,loc2,k1,k2,k3,k4,k5⟩
     exact ⟨st2,loc2,k1,k2,tr1.trans k3,k4,fun hm=>by rw [hwl] at hm;exact absurd (List.mem_cons_self) hm⟩
    cases e with
    | normal=>
     obtain ⟨st2,loc2,k1,k2,k3,k4,k5⟩:=hq
     simp only at k1
     split at k1
     case h_2=>exact k1.elim
     rename_i hpres
     obtain ⟨x',hx',hlt,hf'⟩:=vS k1
     have hvx:=h x' hx'
     split at hvx
     case h_2=>exact hvx.elim
     rename_i hok2
     refine ⟨an.aY x',by rw [<-hn];exact hlt,?_⟩
     obtain ⟨loc',m1,m2,m3⟩:=vU (an:=an) (st:=st) x' k2 k4 (tr1.trans k3) hok2 (fun n hn v hv=>by
      obtain ⟨v',hv'⟩:=jc hpres hn
      have h1:=k5 (hkeepW n hn).1 n (hkeepW n hn).2 v' hv'
      refine ⟨v',hv',?_⟩
      have h2:=CX hokx hn h1 (hkeepW n hn).2
      rw [hv] at h2;cases h2
      exact gF v) hf'
     exact ⟨x',loc',hx',rfl,hok2,hvx,m1,m2,m3⟩
    | exit i=>exact up _ hq
    | ret=>exact up _ hq
    | goto l=>exact hq.elim
    | panic c=>exact hq.elim
    | outgrown=>exact hq.elim
 | rangeFunc f ps as b _ _=>intro cur st loc w a K _ _ _ h;exact h.elim
 | exit id=>intro cur st loc w a K hA g hO h;exact wp_exit ⟨st,loc,h,g,Tr.refl _,hA,fun _ _ _ _ h=>h⟩
 | scope b _=>intro cur st loc w a K _ _ _ h;exact h.elim
 | label l=>intro cur st loc w a K _ _ _ h;exact h.elim
 | goto l=>intro cur st loc w a K _ _ _ h;exact h.elim
 | ret=>intro cur st loc w a K hA g hO h;exact wp_ret ⟨st,loc,h,g,Tr.refl _,hA,fun _ _ _ _ h=>h⟩
 | refuse why=>intro cur st loc w a K _ _ _ h;exact h.elim
end
end Go.Vg

namespace Go.Vg
open Go.RowKit
@[reducible] def HL:List Ty->Type
 | []=>Unit
 | [t]=>D t
 | t :: u :: r=>D t × HL (u :: r)
def fH:List Ty->Bool
 | []=>true
 | t :: r=>t.flat && fH r
def xQ (st:St) (want:Ty) (n:Nat):Option (D want):=
 match look st.aE n with
 | some (.ext 0 t xs)=>match h:Ty.beq t want with
  | true=>some (bP h (a:=t) xs)
  | false=>none
 | _=>none
def CY (lend:Bool) (st:St) (t:Ty) (a:bY):Option (D t):=
 match lend,t,a with
 | true, .slice e, .one (.aP n)=>pQ st e (.aP n)
 | true,t, .one (.xd n .top)=>xQ st t n
 | _,t,a=>ll t a
def jd (lend:Bool) (st:St):(ts:List Ty)->List bY->Option (HL ts)
 | [],[]=>some ()
 | [t],[a]=>CY lend st t a
 | t :: u :: r,a :: as=>match CY lend st t a,jd lend st (u :: r) as with
  | some x,some xs=>some (x,xs)
  | _,_=>none
 | _,_=>none
def ko:(ts:List Ty)->HL ts->List bY
 | [],_=>[]
 | [t],y=>[.one (.d t y)]
 | t :: u :: r,ys => .one (.d t ys.1) :: ko (u :: r) ys.2
def mJ:List bY->SV
 | [v] => .s v
 | vs => .iw vs
def qg (st:St) (c:C):C × St:=
 match c with
 | .aP n=>match look st.aE n with
  | some (.aP t xs)=>(.d (.slice t) xs,aS st n)
  | _=>(c,st)
 | .xd n .top=>match look st.aE n with
  | some (.ext 0 t xs)=>(.d t xs,aS st n)
  | _=>(c,st)
 | c=>(c,st)
def oP:St->List C->List C × St
 | st,[]=>([],st)
 | st,c :: cs=>match qg st c with
  | (c',st1)=>match oP st1 cs with
   | (cs',st2)=>(c' :: cs',st2)
def sO (st:St) (v:bY):bY × St:=
 match v with
 | .one c=>match qg st c with
  | (c',st')=>(.one c',st')
 | .agg cs=>match oP st cs with
  | (cs',st')=>(.agg cs',st')
def vg (lend:Bool) (st:St) (v:bY):bY × St:=
 match lend,v with
 | true, .one c=>(.one c,st)
 | _,v=>sO st v
def nr (lend:Bool):St->List bY->List bY × St
 | st,[]=>([],st)
 | st,v :: vs=>match vg lend st v with
  | (v',st1)=>match nr lend st1 vs with
   | (vs',st2)=>(v' :: vs',st2)
def fq (ts rts:List Ty) (pre:HL ts->Prop) (post:HL ts->HL rts->Prop):bQ:=fun args st K=>
 match nr (fH rts) st args with
 | (args,st)=>match jd (fH rts) st ts args with
  | some xs => .and (pre xs) (.all (HL rts) fun ys => .imp (post xs ys) (K (mJ (ko rts ys)) st))
  | none => .ff
def aM (ts rts:List Ty) (pre:HL ts->Prop) (g:HL ts->HL rts):bQ:=fun args st K=>
 match nr (fH rts) st args with
 | (args,st)=>match jd (fH rts) st ts args with
  | some xs => .and (pre xs) (K (mJ (ko rts (g xs))) st)
  | none => .ff
inductive IX (α:Type) where
 | ret (a:α)
 | ite (c:Bool) (a b:IX α)
def IX.eval {α:Type}:IX α->α
 | .ret a=>a
 | .ite c a b=>match c with
  | true=>a.eval
  | false=>b.eval
def EF (st:St) (want:Ty) (c:C):Option (D want):=
 match c with
 | .aP n=>match look st.aE n with
  | some (.aP t xs)=>match h:Ty.beq (.slice t) want with
   | true=>some (bP h (a:=.slice t) xs)
   | false=>none
  | _=>none
 | .xd n .top=>xQ st want n
 | c=>pJ want c
def je (st:St):(t:Ty)->List C->Option (D t × List C)
 | .prod a b,cs=>match je st a cs with
  | some (x,cs1)=>match je st b cs1 with
   | some (y,cs2)=>some ((x,y),cs2)
   | none=>none
  | none=>none
 | .unit,cs=>some ((),cs)
 | t,c :: cs=>match EF st t c with
  | some x=>some (x,cs)
  | none=>none
 | _,[]=>none
def CZ (st:St) (want:Ty):bY->Option (D want)
 | .one c=>EF st want c
 | .agg cs=>match want.one with
  | true=>none
  | false=>match je st want cs with
   | some (x,[])=>some x
   | _=>none
def qh (st:St):(ts:List Ty)->List bY->Option (HL ts)
 | [],[]=>some ()
 | [t],[a]=>CZ st t a
 | t :: u :: r,a :: as=>match CZ st t a,qh st (u :: r) as with
  | some x,some xs=>some (x,xs)
  | _,_=>none
 | _,_=>none
def oQ (cx:Cx) (st:St):List ResultVar->(List bY->VC)->VC
 | [],K=>K []
 | .tmp t :: r,K=>match ev st.env (.tmp t) with
  | .s v=>oQ cx st r fun vs=>K (v :: vs)
  | _ => .ff
 | .cell a t :: r,K=>pO cx st t (cF st.env (.tmp a)) fun sv=>match sv with
  | .s v=>oQ cx st r fun vs=>K (v :: vs)
  | _ => .ff
def C0 (cx:Cx) (anns:cu) (res:List ResultVar) (c:Code) (st:St) (K:List bY->St->VC):VC:=
 vc cx anns c 0 st fun e st'=>match e with
  | .exit _ => .ff
  | _=>oQ cx st' res fun vs=>K vs st'
def l8 (B:Cx) (Γ:List (FuncId × (Bool × bQ))) (N:Nat):Cx:={B with Γ:=Γ,N:=N}
def nT:Nat->(ts:List Ty)->HL ts->List (Nat × SV)
 | _,[],_=>[]
 | k,[t],x=>[(k, .s (.one (.d t x)))]
 | k,t :: u :: r,xs=>(k, .s (.one (.d t xs.1))) :: nT (k + 1) (u :: r) xs.2
def kM (ts:List Ty) (xs:HL ts):St:={env:=nT 0 ts xs,aE:=[],next:=0}
def BY (B:Cx) (Γ:List (FuncId × (Bool × bQ))) (N:Nat) (anns:cu) (res:List ResultVar) (c:Code) (ts rts:List Ty) (post:HL ts->HL rts->Prop) (xs:HL ts):VC:=
 C0 (l8 B Γ N) anns res c (kM ts xs) fun vs st=>match qh st rts vs with
  | some ys => .leaf (post xs ys)
  | none => .ff
section
variable {eT:TypeId} {X:Ext} {P:Program} {cx:Cx}
def gu (eT:TypeId) (A:aF) (w:World):(ts:List Ty)->HL ts->List Value->Prop
 | [],_,vs=>vs = []
 | [t],x,vs=>∃v,vs = [v]/\VR eT t x A w v
 | t :: u :: r,xs,vs=>∃v vs',vs=v :: vs'/\VR eT t xs.1 A w v/\gu eT A w (u :: r) xs.2 vs'
def yJ:List Value->Value
 | [v]=>v
 | vs => .tuple vs.toArray
structure bI (P:Program) (eT:TypeId) (X:Ext) (f:FuncId) (ts rts:List Ty) (pre:HL ts->Prop) (post:HL ts->HL rts->Prop):Prop where
 fn:∃fn,P.funcs[f]?=some fn/\fn.body.isNone=false/\(fn.name == "runtime.NumGoroutine")=false
 ok:∀O w xs vs,X.pI w->de O w->gu eT O w ts xs vs->pre xs->
  Calls P f vs.toArray w fun e w'=>∃us ys,e = .returned (yJ us)/\post xs ys/\gu eT O w' rts ys us/\Below w.heap.size w w'
def qi (tmps:Array Value):ResultVar->Sem Value
 | .tmp t=>pure (tmps.getD t undef)
 | .cell b t=>do loadVar t (<-asAddr (tmps.getD b undef))
theorem AU (hok:TyOK P cx) {O:aF} {st:St} {loc:Nat->Loc} {w:World} {a:Act} (g:Good cx.eT X (aB O st loc w)) (he:eA cx.eT (aB O st loc w) st.env a) :
  ∀{rs:List ResultVar} {K:List bY->VC},(oQ cx st rs K).holds->
  ∃vs us,(K vs).holds/\cp cx.eT (aB O st loc w) vs us/\(rs.mapM (qi a.tmps):Sem (List Value)).run P w = .ok us w:=by
 intro rs
 induction rs with
 | nil=>intro K h;exact ⟨[],[],h, .nil,rfl⟩
 | cons r rs ih=>
  intro K h
  cases r with
  | tmp t=>
   simp only [oQ] at h
   split at h
   ·rename_i v hv
    obtain ⟨vs,us,h1,h2,h3⟩:=ih h
    have hr:=gU he (.tmp t)
    rw [hv] at hr
    refine ⟨v :: vs,a.tmps.getD t undef :: us,h1, .cons hr h2,?_⟩
    rw [List.mapM_cons]
    simp only [qi,Sem.run_bind,Sem.run_pure,Result.andThen_ok,h3]
   ·exact h.elim
  | cell b t=>
   simp only [oQ] at h
   obtain ⟨sv,u,h1,h2,h3⟩:=ot (P:=P) hok g (aV he (.tmp b)) h
   split at h1
   ·rename_i v
    obtain ⟨vs,us,k1,k2,k3⟩:=ih h1
    have h3:=h3 w (Below.refl _ _)
    refine ⟨v :: vs,u :: us,k1, .cons h2 k2,?_⟩
    rw [List.mapM_cons]
    have h4:(do loadVar t (<-asAddr (a.tmps.getD b undef)):Sem Value).run P w = .ok u w:=by
     have h3:(Instr.loadAt t (a.tmps.getD b undef)).run P w = .ok u w:=h3
     generalize a.tmps.getD b undef=p at h3
     cases p with
     | pointer q=>
      cases q with
      | none=>simp [Instr.loadAt,Instr.sureAddr] at h3
      | some q=>simpa [Instr.loadAt,Instr.sureAddr,asAddr] using h3
     | _=>simp [Instr.loadAt,Instr.sureAddr] at h3
    simp only [qi,Sem.run_bind] at h4 ⊢
    simp only [h4,Sem.run_pure,Result.andThen_ok,k3]
   ·exact h1.elim
theorem cp.len {S:aU} {xs:List bY} {us:List Value} (h:cp eT S xs us):xs.length=us.length:=by
 induction h with
 | nil=>rfl
 | cons _ _ ih=>simp [ih]
theorem qj {S:aU} {vs:List bY} {us:List Value} (h:cp eT S vs us):cA eT S (mJ vs) (yJ us):=by
 match vs,us,h with
 | [],[],h=>exact ⟨[],rfl,h⟩
 | [v],[u], .cons h1 .nil=>exact h1
 | _ :: _ :: _,_ :: _ :: _,h=>exact ⟨_,rfl,h⟩
theorem nt (hok:jn P cx X) {f:FuncId} {fn:Func} {c:Code} (hf:P.funcs[f]?=some fn) (hb:fn.body=some c) (hN:cx.N=fn.ntmps) (anns:cu) {O:aF} {st:St} {loc:Nat->Loc} {w:World}
  {args:Array Value} {K:List bY->St->VC} (hsz:args.size<=fn.ntmps) (g:Good cx.eT X (aB O st loc w)) (hO:de O w)
  (henv:∀t sv,look st.env t=some sv->∃v,args[t]?=some v/\cA cx.eT (aB O st loc w) sv v)
  (h:(C0 cx anns fn.results.toList c st K).holds) :
  Calls P f args w fun e w'=>∃vs us st' loc',e = .returned (yJ us)/\(K vs st').holds/\cp cx.eT (aB O st' loc' w') vs us/\Good cx.eT X (aB O st' loc' w')/\Tr (aB O st loc w) (aB O st' loc' w'):=by
 refine calls_of_wp hf hb ?_
 have hA:eK cx (aB O st loc w) st {tmps:=args++Array.replicate (fn.ntmps - args.size) undef,defers:=[]}:=by
  refine ⟨by simp [hN];omega,rfl,fun t sv ht => ?_⟩
  obtain ⟨v,hv,hr⟩:=henv t sv ht
  have hlt:t < args.size:=by
   rcases Nat.lt_or_ge t args.size with hh | hh
   ·exact hh
   ·rw [Array.getElem?_eq_none hh] at hv;cases hv
  rw [Array.getD_eq_getD_getElem?,Array.getElem?_append,if_pos hlt,hv]
  exact hr
 refine wp_mono (Gs hok anns c 0 hA g hO h) ?_
 have fin:∀(a':Act) (w':World),dt cx X O (fun st'=>oQ cx st' fn.results.toList fun vs=>K vs st') (writes anns 0 c) st (aB O st loc w) a' w'->a'.defers = []/\∃v,(results fn a'.tmps).run P w' = .ok v w'/\
   ∃vs us st' loc',Ending.returned v = .returned (yJ us)/\(K vs st').holds/\cp cx.eT (aB O st' loc' w') vs us/\Good cx.eT X (aB O st' loc' w')/\Tr (aB O st loc w) (aB O st' loc' w'):=by
  rintro a' w' ⟨st',loc',k1,k2,k3,k4,_⟩
  obtain ⟨vs,us,m1,m2,m3⟩:=AU (P:=P) hok.toTyOK k2 k4.env k1
  refine ⟨k4.defers,yJ us,?_,vs,us,st',loc',rfl,m1,m2,k2,k3⟩
  have hm:(fn.results.mapM (qi a'.tmps):Sem (Array Value)).run P w' = .ok us.toArray w':=by
   rw [<-Array.toArray_toList (xs:=fn.results),List.mapM_toArray,Sem.run_map,m3]
   rfl
  have he:results fn a'.tmps=(do
    let xs <-fn.results.mapM (qi a'.tmps)
    return if h:xs.size=1 then xs[0] else .tuple xs):=by
   unfold results
   congr 1
  rw [he,Sem.run_bind,hm]
  simp only [Result.andThen_ok,Sem.run_pure]
  match us with
  | []=>rfl
  | [u]=>rfl
  | _ :: _ :: _=>rfl
 intro e a' w' hq
 cases e with
 | normal=>exact fin a' w' hq
 | ret=>exact fin a' w' hq
 | exit n=>obtain ⟨st',loc',k1,_⟩:=hq;exact k1.elim
 | goto l=>exact hq.elim
 | panic c=>exact hq.elim
 | outgrown=>exact hq.elim
end
end Go.Vg

namespace Go.Vg
open Go.RowKit
section
variable {X:Ext} {P:Program} {cx:Cx}
theorem EG {O:aF} {st:St} {loc:Nat->Loc} {w:World} {b o:Nat} (h:¬ (aB O st loc w).A b o):¬ O b o:=fun k=>h (.inl k)
theorem JH {O:aF} {st:St} {loc:Nat->Loc} {w:World} {t:Ty} {x:D t} {v:Value} {eT:TypeId} (h:VR eT t x (aB O st loc w).A w v):VR eT t x O w v:=
 VR.frame h fun _ _ _ ha hc=>⟨hc,EG ha⟩
theorem BZ {O:aF} {st:St} {loc:Nat->Loc} {w:World} (g:Good cx.eT X (aB O st loc w)) {n:Nat} {t:Ty} {xs:List (D t)} (hob:look st.aE n=some (.aP t xs))
  {v:Value} (hx:CR cx.eT (aB O st loc w) (.aP n) v):VR cx.eT (.slice t) xs O w v:=by
 rcases (g.obj _ _ hob).2 with ⟨rfl,⟨a,ha⟩,_⟩ | ⟨b,vs,T,cap,hl,dP,hheap,hvs,hcap,hbig,he⟩
 ·exact VR.bV rfl ⟨_,rfl,by simp, .inl ⟨rfl,a,0,(hx.2 _ _ hob).trans ha⟩⟩
 refine VR.bV rfl ⟨_,rfl,hbig, .inr ⟨b,0,cap,(hx.2 _ _ hob).trans hl,hcap,fun i y hy => ?_⟩⟩
 obtain ⟨us,h1,h2⟩:=he i y hy
 refine ⟨us,h1.frame fun _ _ _ ha hc=>⟨hc,EG ha⟩,fun j u hj=>⟨?_,?_⟩⟩
 ·rw [Nat.zero_add,cell_of_row w b _ vs T (0,0) hheap];exact h2 j u hj
 ·exact g.out n _ b _ hob (by rw [dP];simp)
theorem B0 {O:aF} {st:St} {loc:Nat->Loc} {w:World} (g:Good cx.eT X (aB O st loc w)) {n:Nat} {t:Ty} {xs:D t} (hob:look st.aE n=some (.ext 0 t xs))
  {v:Value} (hx:CR cx.eT (aB O st loc w) (.xd n .top) v) {A:aF} (hA:∀b∈(loc n).bs,∀o,¬ A b o):VR cx.eT t xs A w v:=by
 have hd:fV t xs (loc n) w:=X.deep.1 (g.obj _ _ hob).2
 obtain ⟨e,s,rfl,hs⟩:=mq hd
 exact hd.data (hx.2 _ _ hob) hA
theorem vX {O:aF} {st:St} {loc:Nat->Loc} {w:World} (g:Good cx.eT X (aB O st loc w)) {n:Nat} {t:Ty} {xs:D t} (h:xQ st t n=some xs)
  {v:Value} (hx:CR cx.eT (aB O st loc w) (.xd n .top) v):VR cx.eT t xs O w v:=by
 unfold xQ at h
 split at h
 ·rename_i t' ys hob
  split at h
  ·cases h;rename_i hb
   exact gn hb _ (B0 g hob hx fun b hb o=>g.out n _ b o hob hb)
  ·cases h
 ·cases h
theorem B1 {O:aF} {st:St} {loc:Nat->Loc} {w:World} (g:Good cx.eT X (aB O st loc w)) {want:Ty} {c:C} {x:D want} {v:Value} (h:EF st want c=some x)
  (hc:CR cx.eT (aB O st loc w) c v):VR cx.eT want x O w v:=by
 unfold EF at h
 split at h
 ·rename_i n
  split at h
  ·rename_i t xs hob
   split at h
   ·cases h;rename_i hb;exact gn hb _ (BZ g hob hc)
   ·cases h
  ·cases h
 ·exact vX g h hc
 ·exact JH (nD h hc)
theorem EH {O:aF} {st:St} {loc:Nat->Loc} {w:World} (g:Good cx.eT X (aB O st loc w)):∀{t:Ty} {cs cs':List C} {x:D t} {vs:List Value},je st t cs=some (x,cs')->cH cx.eT (aB O st loc w) cs vs->
  ∃us vs',vs=us++vs'/\R cx.eT t x O w us/\cH cx.eT (aB O st loc w) cs' vs':=by
 have one:∀{t:Ty} {c:C} {cs cs':List C} {x:D t} {vs:List Value},(match EF st t c with | some x=>some (x,cs) | none=>none)=some (x,cs')->cH cx.eT (aB O st loc w) (c :: cs) vs->
   ∃us vs',vs=us++vs'/\R cx.eT t x O w us/\cH cx.eT (aB O st loc w) cs' vs':=by
  intro t c cs cs' x vs h hc
  cases hc with
  | cons h1 h2 h3=>
   rename_i v vs0
   split at h
   ·rename_i y hy
    cases h
    exact ⟨[v],vs0,rfl,(rJ h2 (B1 g hy h1)).2,h3⟩
   ·cases h
 intro t
 induction t with
 | prod a b iha ihb=>
  intro cs cs' x vs h hc
  simp only [je] at h
  split at h
  ·rename_i y cs1 h1
   split at h
   ·rename_i z cs2 h2
    cases h
    obtain ⟨u1,v1,rfl,r1,k1⟩:=iha h1 hc
    obtain ⟨u2,v2,rfl,r2,k2⟩:=ihb h2 k1
    exact ⟨u1++u2,v2,by simp,⟨u1,u2,rfl,r1,r2⟩,k2⟩
   ·cases h
  ·cases h
 | unit=>
  intro cs cs' x vs h hc
  simp only [je] at h
  cases h
  exact ⟨[],vs,rfl,rfl,hc⟩
 | bool=>intro cs cs' x vs h hc;cases cs with | nil=>simp [je] at h | cons c cs=>exact one (t:=.bool) h hc
 | int k=>intro cs cs' x vs h hc;cases cs with | nil=>simp [je] at h | cons c cs=>exact one (t:=.int k) h hc
 | str=>intro cs cs' x vs h hc;cases cs with | nil=>simp [je] at h | cons c cs=>exact one (t:=.str) h hc
 | err=>intro cs cs' x vs h hc;cases cs with | nil=>simp [je] at h | cons c cs=>exact one (t:=.err) h hc
 | dZ=>intro cs cs' x vs h hc;cases cs with | nil=>simp [je] at h | cons c cs=>exact one (t:=.dZ) h hc
 | slice e _=>intro cs cs' x vs h hc;cases cs with | nil=>simp [je] at h | cons c cs=>exact one (t:=.slice e) h hc
theorem yK {O:aF} {st:St} {loc:Nat->Loc} {w:World} (g:Good cx.eT X (aB O st loc w)) {want:Ty} {c:bY} {x:D want} {v:Value} (h:CZ st want c=some x)
  (hc:eJ cx.eT (aB O st loc w) c v):VR cx.eT want x O w v:=by
 cases c with
 | one c=>exact B1 g h hc
 | agg cs=>
  simp only [CZ] at h
  obtain ⟨vs,rfl,hcs⟩:=hc
  split at h
  ·cases h
  ·rename_i ho
   split at h
   ·rename_i y hy
    cases h
    obtain ⟨us,vs',rfl,r,k⟩:=EH g hy hcs
    cases k
    unfold VR
    rw [if_neg (by simp [ho])]
    exact ⟨_,rfl,by simpa using r⟩
   ·cases h
theorem yL {O:aF} {st:St} {loc:Nat->Loc} {w:World} (g:Good cx.eT X (aB O st loc w)):∀{ts:List Ty} {vs:List bY} {ys:HL ts} {us:List Value},qh st ts vs=some ys->
  cp cx.eT (aB O st loc w) vs us->gu cx.eT O w ts ys us
 | [],[],_,_,_, .nil=>rfl
 | [t],[a],ys,_,h, .cons h1 .nil=>⟨_,rfl,yK g h h1⟩
 | t :: u :: r,a :: as,ys,_,h, .cons h1 h2=>by
  simp only [qh] at h
  split at h
  ·rename_i x xs k1 k2
   cases h
   exact ⟨_,_,rfl,yK g k1 h1,yL g k2 h2⟩
  ·cases h
 | [],_ :: _,_,_,h,_=>by simp [qh] at h
 | [_],[],_,_,h,_=>by simp [qh] at h
 | [_],_ :: _ :: _,_,_,h,_=>by simp [qh] at h
 | _ :: _ :: _,[],_,_,h,_=>by simp [qh] at h
theorem tW {eT:TypeId} {O:aF} {w:World} {S:aU} (hS:S.w=w) (hA:∀b o,¬ O b o->¬ S.A b o):∀(ts:List Ty) (k:Nat) (xs:HL ts) (vs:List Value),gu eT O w ts xs vs->
  ∀t sv,look (nT k ts xs) t=some sv->k<=t/\∃v,vs[t - k]?=some v/\cA eT S sv v
 | [],k,xs,vs,_,t,sv,h=>by simp [nT,look] at h
 | [ty],k,x,_,⟨v,rfl,hv⟩,t,sv,h=>by
  simp only [nT,bM] at h
  split at h
  ·cases h
   rename_i e;subst e
   exact ⟨Nat.le_refl _,v,by simp,VR.frame hv fun b o _ ha hc=>⟨by rw [hS];exact hc,hA b o ha⟩⟩
  ·simp [look] at h
 | ty :: u :: r,k,xs,_,⟨v,vs',rfl,hv,hr⟩,t,sv,h=>by
  simp only [nT,bM] at h
  split at h
  ·cases h
   rename_i e;subst e
   exact ⟨Nat.le_refl _,v,by simp,VR.frame hv fun b o _ ha hc=>⟨by rw [hS];exact hc,hA b o ha⟩⟩
  ·obtain ⟨h1,v',h2,h3⟩:=tW hS hA (u :: r) (k + 1) xs.2 vs' hr t sv h
   refine ⟨by omega,v',?_,h3⟩
   rw [show t - k=(t - (k + 1)) + 1 from by omega,List.getElem?_cons_succ]
   exact h2
theorem gu.length {eT:TypeId} {O:aF} {w:World}:∀{ts:List Ty} {xs:HL ts} {vs:List Value},gu eT O w ts xs vs->vs.length=ts.length
 | [],_,_,h=>by rw [show _ = [] from h];rfl
 | [_],_,_,⟨_,rfl,_⟩=>rfl
 | _ :: u :: r,_,_,⟨_,_,rfl,_,h⟩=>by simp [gu.length h]
def wf:(t:Ty)->D t->Prop
 | .int k,x=>k.min<=x/\x<=k.max
 | .str,x=>x.length<=aH
 | .prod a b,x=>wf a x.1/\wf b x.2
 | .slice e,x=>x.length<=aH/\∀(i:Nat) y,x[i]?=some y->wf e y
 | _,_=>True
def ec:(ts:List Ty)->HL ts->Prop
 | [],_=>True
 | [t],x=>wf t x
 | t :: u :: r,xs=>wf t xs.1/\ec (u :: r) xs.2
theorem R.wf {eT:TypeId}:∀{t:Ty} {x:D t} {A:aF} {w:World} {vs:List Value},R eT t x A w vs->Vg.wf t x:=by
 intro t
 induction t with
 | int k=>intro x A w vs h;exact h.2
 | str=>intro x A w vs h;exact h.2
 | prod a b iha ihb=>intro x A w vs h;obtain ⟨_,_,_,h1,h2⟩:=h;exact ⟨iha h1,ihb h2⟩
 | slice e ih=>
  intro x A w vs h
  obtain ⟨v,_,hl,h⟩:=h
  refine ⟨hl,fun i y hy => ?_⟩
  rcases h with ⟨rfl,_⟩ | ⟨b,o,cap,_,_,h⟩
  ·simp at hy
  ·obtain ⟨us,h1,_⟩:=h i y hy;exact ih h1
 | _=>intro x A w vs h;trivial
theorem VR.wf {eT:TypeId} {t:Ty} {x:D t} {A:aF} {w:World} {v:Value} (h:VR eT t x A w v):Vg.wf t x:=(VR.cells h).wf
theorem gu.wf {eT:TypeId} {O:aF} {w:World}:∀{ts:List Ty} {xs:HL ts} {vs:List Value},gu eT O w ts xs vs->ec ts xs
 | [],_,_,_=>trivial
 | [_],_,_,⟨_,_,h⟩=>h.wf
 | _ :: _ :: _,_,_,⟨_,_,_,h,h'⟩=>⟨h.wf,gu.wf h'⟩
theorem C1 {B:Cx} {X:Ext} {Γ:List (FuncId × (Bool × bQ))} {N:Nat} {f:FuncId} {fn:Func} {c:Code} (hok:jn P (l8 B Γ N) X) (hf:P.funcs[f]?=some fn) (hb:fn.body=some c) (hn:(fn.name == "runtime.NumGoroutine")=false)
  (hN:fn.ntmps=N) {ts rts:List Ty} (anns:HL ts->cu) (hts:ts.length<=N) {pre:HL ts->Prop} {post:HL ts->HL rts->Prop}
  (h:∀xs,ec ts xs->pre xs->(BY B Γ N (anns xs) fn.results.toList c ts rts post xs).holds) :
  bI P B.eT X f ts rts pre post:=by
 refine ⟨⟨fn,hf,by rw [hb];rfl,hn⟩,fun O w xs vs hG hO ha hp => ?_⟩
 have g0:Good (l8 B Γ N).eT X (aB O (kM ts xs) (fun _=>default) w):=
  ⟨fun n oc h=>by simp [aB,kM,look] at h,fun n m oc oc' b h=>by simp [aB,kM,look] at h,fun n oc b off h=>by simp [aB,kM,look] at h,hG,fun b hb ⟨n,oc,h,_⟩=>by simp [aB,kM,look] at h⟩
 have hA0:∀b o,¬ O b o->¬ (aB O (kM ts xs) (fun _=>default) w).A b o:=by
  rintro b o h (k | ⟨n,oc,k,_⟩)
  ·exact h k
  ·simp [aB,kM,look] at k
 refine Calls.mono (nt hok hf hb hN.symm (anns xs) (by simpa [ha.length,hN] using hts) g0 hO ?_ (h xs ha.wf hp)) ?_
 ·intro t sv ht
  obtain ⟨_,v,h1,h2⟩:=tW (eT:=B.eT) (S:=aB O (kM ts xs) (fun _=>default) w) rfl hA0 ts 0 xs vs ha t sv ht
  exact ⟨v,by simpa using h1,h2⟩
 ·rintro e w' ⟨vs',us,st',loc',rfl,h1,h2,h3,h4⟩
  split at h1
  ·rename_i ys hys
   refine ⟨us,ys,rfl,h1,yL h3 hys h2,h4.os,h4.output,h4.size,fun k hk=>h4.block k hk ?_⟩
   rintro ⟨n,oc,k,_⟩
   simp [aB,kM,look] at k
  ·exact h1.elim
def gv:aF:=fun _ _=>False
def outer (lend:Bool) (A:aF):aF:=match lend with
 | true=>gv
 | false=>A
theorem yM {O:aF} {st:St} {loc:Nat->Loc} {w:World} (g:Good cx.eT X (aB O st loc w)) {lend:Bool} {t:Ty} {a:bY} {x:D t} {v:Value} (h:CY lend st t a=some x)
  (ha:eJ cx.eT (aB O st loc w) a v):VR cx.eT t x (outer lend (aB O st loc w).A) w v:=by
 have base:ll t a=some x->VR cx.eT t x (outer lend (aB O st loc w).A) w v:=by
  intro h
  refine VR.u9 (gp h ha) fun b o k => ?_
  cases lend with
  | true=>exact id
  | false=>exact k
 unfold CY at h
 split at h
 ·rename_i e n x' heq
  unfold pQ at h
  simp only [uS] at h
  split at h
  ·rename_i e' ys hob
   split at h
   ·cases h;rename_i hb
    exact gn hb _ (VR.u9 (BZ g hob ha) fun _ _ _=>id)
   ·cases h
  ·cases h
 ·exact VR.u9 (vX g h ha) fun _ _ _=>id
 ·exact base h
theorem vY {O:aF} {st:St} {loc:Nat->Loc} {w:World} (g:Good cx.eT X (aB O st loc w)) {lend:Bool}:∀{ts:List Ty} {as:List bY} {xs:HL ts} {vs:List Value},jd lend st ts as=some xs->
  cp cx.eT (aB O st loc w) as vs->gu cx.eT (outer lend (aB O st loc w).A) w ts xs vs
 | [],[],_,_,_, .nil=>rfl
 | [t],[a],xs,_,h, .cons h1 .nil=>⟨_,rfl,yM g h h1⟩
 | t :: u :: r,a :: as,xs,_,h, .cons h1 h2=>by
  simp only [jd] at h
  split at h
  ·rename_i x xs k1 k2
   cases h
   exact ⟨_,_,rfl,yM g k1 h1,vY g k2 h2⟩
  ·cases h
 | [],_ :: _,_,_,h,_=>by simp [jd] at h
 | [_],[],_,_,h,_=>by simp [jd] at h
 | [_],_ :: _ :: _,_,_,h,_=>by simp [jd] at h
 | _ :: _ :: _,[],_,_,h,_=>by simp [jd] at h
theorem rT {eT:TypeId} {S:aU} {O:aF} {w:World} (hS:S.w=w):∀{ts:List Ty} {ys:HL ts} {us:List Value},(fH ts=true\/O=S.A)->gu eT O w ts ys us->cp eT S (ko ts ys) us
 | [],_,_,_,h=>by rw [show _ = [] from h];exact .nil
 | [t],y,_,hl,⟨v,rfl,hv⟩=>by
  refine .cons ?_ .nil
  subst hS
  rcases hl with hl | hl
  ·simp only [fH,Bool.and_true] at hl
   exact VR.of_flat hl hv
  ·subst hl;exact hv
 | t :: u :: r,ys,_,hl,⟨v,vs',rfl,hv,hr⟩=>by
  refine .cons ?_ (rT hS ?_ hr)
  ·subst hS
   rcases hl with hl | hl
   ·simp only [fH,Bool.and_eq_true] at hl
    exact VR.of_flat hl.1 hv
   ·subst hl;exact hv
  ·rcases hl with hl | hl
   ·simp only [fH,Bool.and_eq_true] at hl ⊢;exact .inl hl.2
   ·exact .inr hl
theorem Jv {O:aF} {st:St} {loc:Nat->Loc} {w:World} {eT:TypeId} (g:Good eT X (aB O st loc w)) (hO:de O w):de (aB O st loc w).A w:=by
 rintro b off (h | ⟨n,oc,h1,h2,_⟩)
 ·exact hO b off h
 ·exact (g.obj n oc h1).2.inside b h2
theorem vZ {eT:TypeId} {f:FuncId} {ts rts:List Ty} {pre:HL ts->Prop} {post:HL ts->HL rts->Prop} (h:bI P eT X f ts rts pre post)
  {O:aF} {st:St} {loc:Nat->Loc} {w:World} {args:List bY} {vs:List Value} {xs:HL ts} (hx:jd (fH rts) st ts args=some xs) (hp:pre xs)
  {K:SV->St->VC} (hK:∀ys,post xs ys->(K (mJ (ko rts ys)) st).holds)
  (g:Good eT X (aB O st loc w)) (hO:de O w) (ha:cp eT (aB O st loc w) args vs) :
  Calls P f vs.toArray w fun e w'=>∃v sv st' loc',e = .returned v/\(K sv st').holds/\st'.env=st.env/\(true=true->Below w.heap.size w w')/\Good eT X (aB O st' loc' w')/\
   Tr (aB O st loc w) (aB O st' loc' w')/\cA eT (aB O st' loc' w') sv v:=by
 have g':Good (Cx.mk eT [] [] [] 0 [] [] [] false [] []).eT X (aB O st loc w):=g
 have hOut:de (outer (fH rts) (aB O st loc w).A) w:=by
  intro b off hb
  cases hf:fH rts with
  | true=>rw [hf] at hb;exact hb.elim
  | false=>rw [hf] at hb;exact Jv g hO b off hb
 refine Calls.mono (h.ok _ w xs vs g.ji.1 hOut (vY g' hx ha) hp) ?_
 rintro e w' ⟨us,ys,rfl,h1,h2,h3⟩
 obtain ⟨t,g2⟩:=og (S':=aB O st loc w') g rfl rfl rfl rfl h3
 refine ⟨_,_,st,loc,rfl,hK ys h1,rfl,fun _=>h3,g2,t,qj (rT rfl ?_ h2)⟩
 cases hf:fH rts with
 | true=>exact .inl rfl
 | false=>exact .inr (by simp only [outer];funext b off;simp [aU.A,aB])
theorem tX {O:aF} {st:St} {loc:Nat->Loc} {w:World} (g:Good cx.eT X (aB O st loc w)) (c:C) :
  Tr (aB O st loc w) (aB O (qg st c).2 loc w)/\Good cx.eT X (aB O (qg st c).2 loc w)/\(qg st c).2.env=st.env/\
   ∀v,CR cx.eT (aB O st loc w) c v->CR cx.eT (aB O (qg st c).2 loc w) (qg st c).1 v:=by
 unfold qg
 split
 ·rename_i n
  split
  ·rename_i t xs hob
   obtain ⟨h1,h2⟩:=mv g n
   exact ⟨h1,h2,rfl,fun v hv=>AL g hob hv⟩
  ·exact ⟨Tr.refl _,g,rfl,fun v hv=>hv⟩
 ·rename_i n
  split
  ·rename_i t xs hob
   obtain ⟨h1,h2⟩:=mv g n
   refine ⟨h1,h2,rfl,fun v hv=>B0 g hob hv fun b hb o => ?_⟩
   rintro (hA' | ⟨m,oc,k1,k2,k3⟩)
   ·exact g.out n _ b o hob hb hA'
   ·simp only [aB,aS] at k1 k2
    rw [gW] at k1
    split at k1
    ·cases k1
    ·rename_i h8;exact h8 (g.apart n m _ _ b hob k1 hb k2)
  ·exact ⟨Tr.refl _,g,rfl,fun v hv=>hv⟩
 ·exact ⟨Tr.refl _,g,rfl,fun v hv=>hv⟩
theorem rU {O:aF} {loc:Nat->Loc} {w:World}:∀(cs:List C) {st:St},Good cx.eT X (aB O st loc w)->
  Tr (aB O st loc w) (aB O (oP st cs).2 loc w)/\Good cx.eT X (aB O (oP st cs).2 loc w)/\(oP st cs).2.env=st.env/\
   ∀vs,cH cx.eT (aB O st loc w) cs vs->cH cx.eT (aB O (oP st cs).2 loc w) (oP st cs).1 vs
 | [],st,g=>⟨Tr.refl _,g,rfl,fun vs h=>h⟩
 | c :: cs,st,g=>by
  obtain ⟨t1,g1,e1,k1⟩:=tX g c
  obtain ⟨t2,g2,e2,k2⟩:=rU cs g1
  refine ⟨t1.trans t2,g2,e2.trans e1,fun vs h => ?_⟩
  cases h with
  | cons h1 h2 h3=>exact .cons ((k1 _ h1).tr t2) h2 (k2 _ (h3.tr t1))
theorem oR {O:aF} {st:St} {loc:Nat->Loc} {w:World} (g:Good cx.eT X (aB O st loc w)) (x:bY) :
  Tr (aB O st loc w) (aB O (sO st x).2 loc w)/\Good cx.eT X (aB O (sO st x).2 loc w)/\(sO st x).2.env=st.env/\
   ∀v,eJ cx.eT (aB O st loc w) x v->eJ cx.eT (aB O (sO st x).2 loc w) (sO st x).1 v:=by
 cases x with
 | one c=>exact tX g c
 | agg cs=>
  obtain ⟨t1,g1,e1,k1⟩:=rU cs g
  exact ⟨t1,g1,e1,fun v ⟨vs,h1,h2⟩=>⟨vs,h1,k1 _ h2⟩⟩
theorem C2 {O:aF} {st:St} {loc:Nat->Loc} {w:World} (g:Good cx.eT X (aB O st loc w)) (lend:Bool) (x:bY) :
  Tr (aB O st loc w) (aB O (vg lend st x).2 loc w)/\Good cx.eT X (aB O (vg lend st x).2 loc w)/\(vg lend st x).2.env=st.env/\
   ∀v,eJ cx.eT (aB O st loc w) x v->eJ cx.eT (aB O (vg lend st x).2 loc w) (vg lend st x).1 v:=by
 cases lend with
 | false=>cases x <;> exact oR g _
 | true=>
  cases x with
  | one c=>exact ⟨Tr.refl _,g,rfl,fun v hv=>hv⟩
  | agg cs=>exact oR g _
theorem tY {O:aF} {loc:Nat->Loc} {w:World} (lend:Bool):∀(xs:List bY) {st:St},Good cx.eT X (aB O st loc w)->
  Tr (aB O st loc w) (aB O (nr lend st xs).2 loc w)/\Good cx.eT X (aB O (nr lend st xs).2 loc w)/\(nr lend st xs).2.env=st.env/\
   ∀vs,cp cx.eT (aB O st loc w) xs vs->cp cx.eT (aB O (nr lend st xs).2 loc w) (nr lend st xs).1 vs
 | [],st,g=>⟨Tr.refl _,g,rfl,fun vs h=>h⟩
 | x :: xs,st,g=>by
  obtain ⟨t1,g1,e1,k1⟩:=C2 g lend x
  obtain ⟨t2,g2,e2,k2⟩:=tY lend xs g1
  refine ⟨t1.trans t2,g2,e2.trans e1,fun vs h => ?_⟩
  cases h with
  | cons h1 h3=>exact .cons ((k1 _ h1).tr t2) (k2 _ (h3.tr t1))
theorem v7 {eT:TypeId} {f:FuncId} {q:Bool} {sp:bQ} {lend:Bool}
  (h:∀O st loc w args vs K,(sp args st K).holds->Good eT X (aB O st loc w)->de O w->cp eT (aB O st loc w) args vs->
   Calls P f vs.toArray w fun e w'=>∃v sv st' loc',e = .returned v/\(K sv st').holds/\st'.env=st.env/\(q=true->Below w.heap.size w w')/\Good eT X (aB O st' loc' w')/\
    Tr (aB O st loc w) (aB O st' loc' w')/\cA eT (aB O st' loc' w') sv v)
  (O:aF) (st:St) (loc:Nat->Loc) (w:World) (args:List bY) (vs:List Value) (K:SV->St->VC) (hs:(sp (nr lend st args).1 (nr lend st args).2 K).holds)
  (g:Good eT X (aB O st loc w)) (hO:de O w) (ha:cp eT (aB O st loc w) args vs) :
  Calls P f vs.toArray w fun e w'=>∃v sv st' loc',e = .returned v/\(K sv st').holds/\st'.env=st.env/\(q=true->Below w.heap.size w w')/\Good eT X (aB O st' loc' w')/\
   Tr (aB O st loc w) (aB O st' loc' w')/\cA eT (aB O st' loc' w') sv v:=by
 have g':Good (Cx.mk eT [] [] [] 0 [] [] [] false [] []).eT X (aB O st loc w):=g
 obtain ⟨t1,g1,e1,k1⟩:=tY lend args g'
 refine Calls.mono (h O _ loc w _ vs K hs g1 hO (k1 _ ha)) ?_
 rintro e w' ⟨v,sv,st',loc',h1,h2,h3,h4,h5,h6,h7⟩
 exact ⟨v,sv,st',loc',h1,h2,h3.trans e1,h4,h5,t1.trans h6,h7⟩
theorem da {eT:TypeId} {f:FuncId} {ts rts:List Ty} {pre:HL ts->Prop} {post:HL ts->HL rts->Prop} (h:bI P eT X f ts rts pre post) :
  cG P eT X f true (fq ts rts pre post):=by
 refine ⟨h.fn,v7 (lend:=fH rts) (sp:=fun args st K=>match jd (fH rts) st ts args with
  | some xs => .and (pre xs) (.all (HL rts) fun ys => .imp (post xs ys) (K (mJ (ko rts ys)) st))
  | none => .ff) fun O st loc w args vs K hs g hO ha => ?_⟩
 split at hs
 ·rename_i xs hx
  exact vZ h hx hs.1 (fun ys hy=>hs.2 ys hy) g hO ha
 ·exact hs.elim
theorem aG {eT:TypeId} {f:FuncId} {ts rts:List Ty} {pre:HL ts->Prop} {g:HL ts->HL rts} (h:bI P eT X f ts rts pre (fun xs ys=>ys=g xs)) :
  cG P eT X f true (aM ts rts pre g):=by
 refine ⟨h.fn,v7 (lend:=fH rts) (sp:=fun args st K=>match jd (fH rts) st ts args with
  | some xs => .and (pre xs) (K (mJ (ko rts (g xs))) st)
  | none => .ff) fun O st loc w args vs K hs hg hO ha => ?_⟩
 split at hs
 ·rename_i xs hx
  exact vZ h hx hs.1 (fun ys hy=>by rw [hy];exact hs.2) hg hO ha
 ·exact hs.elim
theorem H4 {B:Cx} {N:Nat} (h:TyOK P B):jn P (l8 B [] N) X:=
 {fit:=h.fit,iX:=h.iX,fB:=h.fB,mixed:=h.mixed,arr:=h.arr,om:=h.om,eqs:=h.eqs,jj:=h.jj,kT:=h.kT,mr:=h.mr,calls:=fun f q sp hl=>by simp [l8,look] at hl}
theorem Gt {B:Cx} {Γ:List (FuncId × (Bool × bQ))} {N:Nat} {f:FuncId} {q:Bool} {sp:bQ} (h:cG P B.eT X f q sp) (hΓ:jn P (l8 B Γ N) X):jn P (l8 B ((f,q,sp) :: Γ) N) X:=
 {fit:=hΓ.fit,iX:=hΓ.iX,fB:=hΓ.fB,mixed:=hΓ.mixed,arr:=hΓ.arr,om:=hΓ.om,eqs:=hΓ.eqs,jj:=hΓ.jj,kT:=hΓ.kT,mr:=hΓ.mr,calls:=fun f' q' sp' hl=>by
   simp only [l8,bM] at hl
   split at hl
   ·rename_i e;subst e;cases hl;exact h
   ·exact hΓ.calls f' q' sp' hl}
end
end Go.Vg

namespace Go.Vg
open Go.RowKit
def Ty.plain:Ty->Bool
 | .err | .dZ=>false
 | .prod a b=>a.plain && b.plain
 | .slice e=>e.plain
 | _=>true
def Ty.low:Ty->Bool
 | .slice e=>Nat.blt 0 e.size && e.low
 | .prod a b=>a.low && b.low
 | _=>true
section
variable {H:Type} {enc:TypeId × Value->H} {P:Program} {w:World} {base:Nat} {sp:Nat->Bool} {held:Bool} {eT:TypeId}
theorem Fit.cellsOf {t:TypeId} {ty:Ty} {i:TypeInfo} {d:TypeDesc} (h:Fit P t ty i d):P.cellsOf t=ty.size:=by
 unfold Program.cellsOf;rw [h.info];exact h.size
theorem AV {f:TypeId->Ty->Bool} {cs:List Value} {fuel:Nat}
  (ih:∀t ty,f t ty=true->P.cellsOf t=ty.size/\∀us d ps,ty.plain=true->ty.low=true->DataW.trod enc P w base sp held fuel t us=some (d,ps)->∃x,R eT ty x gv w us) :
  ∀(gs:List Field) (off:Nat) (ty:Ty) (xs:List (DataW H × List MemPlace)),ct f gs off ty=true->ty.plain=true->ty.low=true->
   gs.mapM (fun f=>DataW.trod enc P w base sp held fuel f.type ((cs.drop f.offset).take (P.cellsOf f.type)))=some xs->cs.length=off + ty.size->∃x,R eT ty x gv w (cs.drop off):=by
 intro gs
 induction gs with
 | nil=>
  intro off ty xs h hp hs hm hl
  cases ty <;> simp [ct] at h
  refine ⟨(),?_⟩
  show cs.drop off = []
  exact List.drop_eq_nil_of_le (by simp [Ty.size] at hl;omega)
 | cons g gs ihg=>
  intro off ty xs h hp hs hm hl
  cases ty <;> simp [ct] at h
  rename_i a b
  obtain ⟨⟨⟨h1,h2⟩,h3⟩,h4⟩:=h
  simp only [Ty.plain,Bool.and_eq_true] at hp
  simp only [Ty.size] at hl
  rw [List.mapM_cons] at hm
  obtain ⟨k1,k2⟩:=ih _ _ h2
  subst h1
  rw [k1] at hm
  cases hx:DataW.trod enc P w base sp held fuel g.type ((cs.drop g.offset).take a.size) with
  | none=>simp [hx] at hm
  | some y=>
   cases hxs:gs.mapM (fun f=>DataW.trod enc P w base sp held fuel f.type ((cs.drop f.offset).take (P.cellsOf f.type))) with
   | none=>simp [hx,hxs] at hm
   | some ys=>
    simp only [Ty.low,Bool.and_eq_true] at hs
    obtain ⟨x,rx⟩:=k2 _ y.1 y.2 hp.1 hs.1 hx
    obtain ⟨z,rz⟩:=ihg _ _ _ h4 hp.2 hs.2 hxs (by omega)
    refine ⟨(x,z),_,_,?_,rx,rz⟩
    rw [<-List.drop_drop,List.take_append_drop]
theorem C3:∀(n:Nat) (t:TypeId) (ty:Ty),fits P n t ty=true->P.cellsOf t=ty.size/\∀fuel us d ps,ty.plain=true->ty.low=true->
  DataW.trod enc P w base sp held fuel t us=some (d,ps)->∃x,R eT ty x gv w us:=by
 intro n
 induction n with
 | zero=>intro t ty h;simp [fits] at h
 | succ n ih=>
  intro t ty h
  obtain ⟨m,i,dsc,hm,fit,hsh⟩:=gm h
  cases hm
  refine ⟨fit.cellsOf,fun fuel us d ps hp hs hd => ?_⟩
  cases fuel with
  | zero=>simp [DataW.trod] at hd
  | succ fuel=>
   unfold DataW.trod at hd
   rw [fit.eD] at hd
   cases ty with
   | bool=>
    cases dsc <;> simp [bH] at hsh
    split at hd
    case h_1 _ _ b _=>exact ⟨b,rfl⟩
    all_goals simp_all
   | int k=>
    cases dsc <;> simp [bH] at hsh
    subst hsh
    split at hd
    case h_2 _ _ k1 k2 x h0=>
     cases h0
     split at hd
     ·rename_i h1
      obtain ⟨rfl,h1⟩:=h1
      simp only [Lit.wf,Bool.and_eq_true,decide_eq_true_eq] at h1
      exact ⟨x,rfl,h1⟩
     ·cases hd
    all_goals simp_all
   | str=>
    cases dsc <;> simp [bH] at hsh
    split at hd
    case h_4 _ _ s _=>
     split at hd
     ·rename_i h1
      refine ⟨s.data.toList,?_,?_⟩
      ·rw [Array.toArray_toList]
      ·unfold maxLen at h1
       unfold aH
       rw [Array.length_toList]
       exact h1
     ·cases hd
    all_goals simp_all
   | err=>simp [Ty.plain] at hp
   | dZ=>simp [Ty.plain] at hp
   | unit=>
    cases dsc <;> simp [bH] at hsh
    rename_i fs
    simp only at hd
    split at hd
    ·rename_i hl
     rw [fit.cellsOf] at hl
     refine ⟨(),?_⟩
     exact List.length_eq_zero_iff.1 hl
    ·cases hd
   | prod a b=>
    cases dsc <;> simp [bH] at hsh
    rename_i fs
    simp only at hd
    split at hd
    ·rename_i hl
     rw [fit.cellsOf] at hl
     cases hxs:fs.toList.mapM (fun f=>DataW.trod enc P w base sp held fuel f.type ((us.drop f.offset).take (P.cellsOf f.type))) with
     | none=>rw [hxs] at hd;simp at hd
     | some xs=>
      obtain ⟨x,hx⟩:=AV (fun t ty hf=>⟨(ih t ty hf).1,(ih t ty hf).2 fuel⟩) _ _ _ _ hsh hp hs hxs (by omega)
      exact ⟨x,by simpa using hx⟩
    ·cases hd
   | slice e=>
    cases dsc <;> simp [bH] at hsh
    rename_i te
    simp only [Ty.low,Bool.and_eq_true] at hs
    have hpos:=iC hs.1
    obtain ⟨hce,hel⟩:=ih te e hsh
    split at hd
    case h_7=>exact ⟨[],_,rfl,by simp [aH], .inl ⟨rfl,_,_,rfl⟩⟩
    case h_8 _ _ te' b l c h0=>
     cases h0
     simp only at hd
     split at hd
     case isFalse=>cases hd
     rename_i hcond
     obtain ⟨hb,hlc,hcm⟩:=hcond
     obtain ⟨es,hes,_⟩:=Option.bind_eq_some_iff.1 hd
     rw [hce] at hes
     have hlen:=mapM_some_length hes
     simp only [List.length_range] at hlen
     by_cases hl0:l=0
     ·subst hl0
      exact ⟨[],_,rfl,by simp [aH], .inl ⟨rfl,_,_,rfl⟩⟩
     have hspot:b.spot=none:=by
      have h1:=mapM_some_get hes 0 0 (by rw [List.getElem?_range (by omega)])
      rw [List.getElem?_eq_getElem (by omega)] at h1
      obtain ⟨us,hu,hd1⟩:=Option.bind_eq_some_iff.1 h1
      obtain ⟨_,q1,q2⟩:=World.cells?_some hu
      have q3:=q2 0 hpos
      rw [List.getElem?_eq_getElem (by omega)] at q3
      have e0:(b.add (0 * e.size)).add 0=b:=by simp [Addr.add]
      rw [e0] at q3
      unfold World.cell? at q3
      split at q3
      ·cases hb0:b.spot with
       | none=>rfl
       | some k=>rw [hb0] at q3;simp at q3
      ·cases q3
     obtain ⟨bb,oo,so⟩:=b
     simp only at hspot
     subst hspot
     have hget:∀i,i < l->∃x us,R eT e x gv w us/\Row gv w bb (oo + i * e.size) us:=by
      intro i hi
      have h1:=mapM_some_get hes i i (by simp [hi])
      rw [List.getElem?_eq_getElem (by omega)] at h1
      obtain ⟨us,hu,hd1⟩:=Option.bind_eq_some_iff.1 h1
      obtain ⟨_,q1,q2⟩:=World.cells?_some hu
      obtain ⟨x,hx⟩:=hel fuel us (es[i]'(by omega)).1 (es[i]'(by omega)).2 hp hs.2 hd1
      refine ⟨x,us,hx,fun j u hj=>⟨?_,id⟩⟩
      have hjl:j < us.length:=by
       rcases Nat.lt_or_ge j us.length with h | h
       ·exact h
       ·rw [List.getElem?_eq_none h] at hj;cases hj
      have:=q2 j (by omega)
      rw [Addr.add_lit,Addr.add_lit] at this
      rw [this,hj]
     let xs:List (D e):=(List.range l).map fun i=>if h:i < l then (hget i h).choose else bL e
     have hxl:xs.length=l:=by simp [xs]
     have hxi:∀i y,xs[i]?=some y->∃us,R eT e y gv w us/\Row gv w bb (oo + i * e.size) us:=by
      intro i y hy
      have hi:i < l:=by
       rcases Nat.lt_or_ge i l with h | h
       ·exact h
       ·rw [List.getElem?_eq_none (by omega)] at hy;cases hy
      have:xs[i]?=some (hget i hi).choose:=by simp [xs,hi]
      rw [this] at hy
      cases hy
      exact (hget i hi).choose_spec
     refine ⟨xs,_,rfl,?_, .inr ⟨bb,oo,c,?_,?_,hxi⟩⟩
     ·rw [hxl];unfold maxLen at hcm;unfold aH;omega
     ·rw [hxl]
     ·rw [hxl];exact hlc
    all_goals simp_all
theorem Gu {n:Nat} {t:TypeId} {ty:Ty} (hf:fits P n t ty=true) (hp:ty.plain=true) (hlow:ty.low=true) {r:Reach} {b:Nat} {v:Value} (hval:Value.okWide P w r b t v) {d:DataW H} {ps:List MemPlace}
  (hd:DataW.Trod enc P w base sp held t v d ps):∃x,VR eT ty x gv w v:=by
 obtain ⟨m,i,dsc,hm,fit,hsh⟩:=gm hf
 obtain ⟨fuel,hd⟩:=hd
 have key:∃x,R eT ty x gv w v.cells.toList:=(C3 (eT:=eT) n t ty hf).2 fuel _ _ _ hp hlow hd
 unfold Value.okWide at hval
 rw [fit.eD] at hval
 have one:ty.one=true->Cell.okWide P w r b t v->(v.cells.toList = [v])->∃x,VR eT ty x gv w v:=by
  intro h1 h2 h3
  rw [h3] at key
  obtain ⟨x,hx⟩:=key
  exact ⟨x,VR.bV h1 hx⟩
 have agg:ty.one=false->(∃cs,v = .agg cs/\cs.size=P.cellsOf t/\Row.okWide P w r b t cs)->∃x,VR eT ty x gv w v:=by
  rintro h1 ⟨cs,rfl,_,ts,_,_,h2⟩
  obtain ⟨x,hx⟩:=key
  refine ⟨x,?_⟩
  unfold VR
  rw [if_neg (by simp [h1])]
  exact ⟨cs,rfl,hx⟩
 cases ty with
 | err=>simp [Ty.plain] at hp
 | dZ=>simp [Ty.plain] at hp
 | prod a b=>cases dsc <;> simp [bH] at hsh;exact agg rfl hval
 | unit=>cases dsc <;> simp [bH] at hsh;exact agg rfl hval
 | bool=>
  cases dsc <;> simp [bH] at hsh
  refine one rfl hval ?_
  cases v <;> simp [Cell.okWide,Cell.ok,fit.eD,Value.cells] at hval ⊢
 | int k=>
  cases dsc <;> simp [bH] at hsh
  refine one rfl hval ?_
  cases v <;> simp [Cell.okWide,Cell.ok,fit.eD,Value.cells] at hval ⊢
 | str=>
  cases dsc <;> simp [bH] at hsh
  refine one rfl hval ?_
  cases v <;> simp [Cell.okWide,Cell.ok,fit.eD,Value.cells] at hval ⊢
 | slice e=>
  cases dsc <;> simp [bH] at hsh
  refine one rfl hval ?_
  cases v <;> simp [Cell.okWide,Cell.ok,fit.eD,Value.cells] at hval ⊢
def nU (P:Program) (n:Nat):List TypeId->List Ty->Bool
 | [],[]=>true
 | t :: ts,ty :: tys=>fits P n t ty && ty.plain && ty.low && nU P n ts tys
 | _,_=>false
theorem EI {n:Nat} {r:Reach} {b:Nat}:∀(ts:List TypeId) (tys:List Ty) (vs:List Value) (ds:List (DataW H)) (ps:List MemPlace),nU P n ts tys=true->
  (∀(j:Nat) t v,ts[j]?=some t->vs[j]?=some v->Value.okWide P w r b t v)->DataW.TrodAll enc P w base sp held ts vs ds ps->∃xs,gu eT gv w tys xs vs:=by
 intro ts
 induction ts with
 | nil=>
  intro tys vs ds ps hf hv h
  cases tys <;> simp [nU] at hf
  cases vs <;> cases ds <;> simp [DataW.TrodAll] at h
  exact ⟨(),rfl⟩
 | cons t ts ih=>
  intro tys vs ds ps hf hv h
  cases tys <;> simp [nU] at hf
  rename_i ty tys
  obtain ⟨⟨⟨h1,h2⟩,h3⟩,h4⟩:=hf
  cases vs <;> cases ds <;> simp [DataW.TrodAll] at h
  rename_i v vs d ds
  obtain ⟨p,hp,q,hq,_⟩:=h
  obtain ⟨x,hx⟩:=Gu (eT:=eT) h1 h2 h3 (hv 0 t v rfl rfl) hp
  obtain ⟨xs,hxs⟩:=ih tys vs ds q h4 (fun j t' v' h1 h2=>hv (j + 1) t' v' h1 h2) hq
  cases tys with
  | nil=>exact ⟨x,v,by rw [show vs = [] from hxs],hx⟩
  | cons ty' tys=>exact ⟨(x,xs),v,vs,rfl,hx,hxs⟩
theorem C4 (hl:laidOutB P=true) {W W':World} (hb:Below W.heap.size W W'):∀(ts:List TypeId) (vs:List Value) (ds:List (DataW H)) (ps:List MemPlace),(ts.all fun t=>P.readableRec t && Nat.blt t P.types.size)=true->
  DataW.TrodAll enc P W 0 (fun _=>true) true ts vs ds ps->(∀x∈ps,x.block < W.heap.size)->DataW.TrodAll enc P W' 0 (fun b=>decide (b < W.heap.size)) true ts vs ds ps:=by
 intro ts
 induction ts with
 | nil=>intro vs ds ps _ h _;cases vs <;> cases ds <;> simp [DataW.TrodAll] at h ⊢;exact h
 | cons t ts ih=>
  intro vs ds ps hr h hlt
  simp only [List.all_cons,Bool.and_eq_true] at hr
  cases vs <;> cases ds <;> simp only [DataW.TrodAll] at h ⊢
  rename_i v vs d ds
  obtain ⟨p,q,hp,hq,rfl⟩:=h
  exact ⟨p,q,WideElems.Trod_stays hl hr.1.1 (iC hr.1.2) hp (fun x hx=>hb.same (hlt x (by simp [hx]))) (fun x hx=>by simpa using hlt x (by simp [hx])),ih vs ds q hr.2 hq (fun x hx=>hlt x (by simp [hx])),rfl⟩
theorem yN:∀{ts:List TypeId} {vs:List Value} {ds:List (DataW H)} {ps:List MemPlace},DataW.TrodAll enc P w base sp held ts vs ds ps->vs.length=ts.length/\ds.length=ts.length
 | [],[],[],_,_=>⟨rfl,rfl⟩
 | _ :: _,_ :: _,_ :: _,_,⟨_,_,_,h,_⟩=>by simp [yN h]
theorem EJ {X:Ext} {C:Checked} {f:FuncId} {fn:Func} {s:ChangeSpec} {tys:List Ty} {pre:HL tys->Prop} (hs:s.vars = []) (hl:laidOutB C.prog=true)
  (hsp:∀ds:List (DataW H),ds.length=tys.length->s.fn H ds = {results:=[.lit (.bool true)],args:=ds})
  {n:Nat} (hf:nU C.prog n fn.params.toList tys=true) (hr:(fn.params.toList.all fun t=>C.prog.readableRec t && Nat.blt t C.prog.types.size)=true)
  {tb:TypeId} (hres:fn.resultTypes = #[tb]) (hb:C.prog.underlying tb=some .bool)
  (h:bI C.prog eT X f tys [.bool] pre (fun _ y=>y=true))
  {W:World} {base:Nat} {args:Array Value} {ds gs:List (DataW H)} {before:List MemPlace}
  (hval:∀(j:Nat) t v,fn.params[j]?=some t->args[j]?=some v->Value.okWide C.prog W .any base t v)
  (hW:DataW.Whole enc C.prog fn.params.toList s.vars false W args.toList ds gs before)
  (hG:X.pI W) (hpre:∀xs,gu eT gv W tys xs args.toList->pre xs) :
  Calls C.prog f args W fun e W'=>∃v,e = .returned v/\s.post enc C.prog fn false true false false W args v W':=by
 have hW0:=hW
 obtain ⟨p,q,hA,hV,rfl,_,_⟩:=hW
 rw [hs] at hV
 obtain ⟨rfl,rfl⟩:gs = []/\q = []:=by cases gs <;> simp [DataW.TrodVars] at hV;exact ⟨rfl,hV⟩
 obtain ⟨xs,hxs⟩:=EI (eT:=eT) _ _ _ _ _ hf (fun j t v h1 h2=>hval j t v (by rw [<-Array.getElem?_toList];exact h1) (by rw [<-Array.getElem?_toList];exact h2)) hA
 have:=h.ok gv W xs args.toList hG (fun _ _ h=>h.elim) hxs (hpre xs hxs)
 rw [Array.toArray_toList] at this
 refine this.mono ?_
 rintro e W' ⟨us,ys,rfl,rfl,hr',hbel⟩
 obtain ⟨u,rfl,hu⟩:=hr'
 have hu:u = .bool true:=by
  have:=VR.one rfl hu
  simpa [R] using this
 subst hu
 have hlen:ds.length=tys.length:=by
  have h1:=hxs.length
  have h2:=yN hA
  omega
 simp only [List.append_nil] at hW0 ⊢
 have hlt:∀x∈p,x.block < W.heap.size:=hW0.lt
 refine ⟨_,rfl,ds,[],p,[],p,[],hW0,?_,?_,?_,hbel.frame _,fun hh=>by cases hh⟩
 ·rw [List.append_nil,hsp ds hlen,hres]
  exact ⟨[],[],shut_bool hb true,rfl,rfl⟩
 ·rw [List.append_nil,hsp ds hlen]
  exact C4 hl hbel _ _ _ _ hr hA hlt
 ·rw [List.append_nil,hsp ds hlen,hs]
  rfl
end
end Go.Vg

namespace Go.Vg
open Go.RowKit
theorem holds_of {v:VC} {p:Prop} (e:v.holds=p) (h:p):v.holds:=by rw [e];exact h
section
variable {A B:Prop}
theorem iD {p:Prop} [Decidable p] (f:p->A) (g:¬ p->B):(decide p=true->A)/\(decide p=false->B):=⟨fun h=>f (of_decide_eq_true h),fun h=>g (of_decide_eq_false h)⟩
theorem iL {a b:Int} (f:a < b->A) (g:b<=a->B):(decide (a < b)=true->A)/\(decide (a < b)=false->B):=iD f fun h=>g (Int.not_lt.1 h)
theorem iE {a b:Int} (f:a<=b->A) (g:b < a->B):(decide (a<=b)=true->A)/\(decide (a<=b)=false->B):=iD f fun h=>g (Int.not_le.1 h)
theorem iB {b:Bool} (f:b=false->A) (g:b=true->B):((!b)=true->A)/\((!b)=false->B):=⟨fun h=>f (Bool.not_eq_true' b▸h),fun h=>g (Bool.not_eq_false' b▸h)⟩
theorem iQ {α:Type} [BEq α] [LawfulBEq α] {a b:α} (f:a=b->A) (g:¬ a=b->B):((a == b)=true->A)/\((a == b)=false->B):=⟨fun h=>f (eq_of_beq h),fun h=>g fun e=>by rw [e,beq_self_eq_true] at h;cases h⟩
theorem iN {α:Type} [BEq α] [LawfulBEq α] {a b:α} (f:¬ a=b->A) (g:a=b->B):((a != b)=true->A)/\((a != b)=false->B):=
 ⟨fun h=>f fun e=>(by rw [e,bne_self_eq_false] at h;cases h),fun h=>g (by simpa using h)⟩
end
def Jw:Ext where
 rel k t x l w:=match k with
  | 0=>fV t x l w
  | 1=>nc t x l w
  | 2=>oe t x l w
  | _=>False
 inside {k t x l w} h:=by
  match k,h with
  | 0,h=>exact fV.inside h
  | 1,h=>exact nc.inside h
  | 2,h=>exact oe.inside h
 ptr {k t x l w} hk h:=by
  match k,hk,h with
  | 0,hk,_=>omega
  | 1,hk,_=>omega
  | 2,_,h=>obtain ⟨rfl,b,p,v,h⟩:=h;exact ⟨_,h.lv⟩
 deep:=Iff.rfl
 map:=Iff.rfl
 Hs:=Iff.rfl
 frame {k t x l w w'} h hb:=by
  match k,h with
  | 0,h=>exact fV.frame h hb
  | 1,h=>exact nc.frame h hb
  | 2,h=>exact oe.frame h hb
 pI _:=True
 BF:=[]
 Ht _ _ hb:=by cases hb
 xV _ _:=trivial
def codeOf (fn:Func):Code:=fn.body.getD .skip
def cD (B:Cx) (Γ:List (FuncId × (Bool × bQ))) (fn:Func) (anns:cu) (ts rts:List Ty) (post:HL ts->HL rts->Prop) (xs:HL ts):VC:=
 BY B Γ fn.ntmps anns fn.results.toList (codeOf fn) ts rts post xs
def nV (fn:Func) (n:Nat):Bool:=fn.body.isSome && !(fn.name == "runtime.NumGoroutine") && Nat.ble n fn.ntmps
def bZ (P:Program) (B:Cx) (X:Ext) (Γ:List (FuncId × (Bool × bQ))):Prop:=∀N,jn P (l8 B Γ N) X
section
variable {P:Program} {B:Cx} {X:Ext} {Γ:List (FuncId × (Bool × bQ))}
theorem bU {f:FuncId} {fn:Func} {ts rts:List Ty} {pre:HL ts->Prop} {post:HL ts->HL rts->Prop} (hok:bZ P B X Γ) (hf:P.funcs[f]?=some fn) (hc:nV fn ts.length=true)
  (anns:HL ts->cu) (h:∀xs,ec ts xs->pre xs->(cD B Γ fn (anns xs) ts rts post xs).holds):bI P B.eT X f ts rts pre post:=by
 simp only [nV,Bool.and_eq_true,Bool.not_eq_true'] at hc
 obtain ⟨⟨h1,h2⟩,h3⟩:=hc
 refine C1 (hok fn.ntmps) hf (c:=codeOf fn) ?_ h2 rfl anns (Nat.le_of_ble_eq_true h3) h
 unfold codeOf
 cases hb:fn.body with
 | none=>rw [hb] at h1;cases h1
 | some c=>rfl
theorem cm (h:TyOK P B):bZ P B X []:=fun _=>H4 h
theorem aO {f:FuncId} {q:Bool} {sp:bQ} (h:cG P B.eT X f q sp) (hΓ:bZ P B X Γ):bZ P B X ((f,q,sp) :: Γ):=fun N=>Gt h (hΓ N)
def lG (B:Cx) (l:List Nat):Cx:={B with hint:=l}
theorem bZ.hint {l:List Nat} (h:bZ P B X Γ):bZ P (lG B l) X Γ:=fun N=>
 {fit:=(h N).fit,iX:=(h N).iX,fB:=(h N).fB,mixed:=(h N).mixed,arr:=(h N).arr,om:=(h N).om,eqs:=(h N).eqs,jj:=(h N).jj,kT:=(h N).kT,mr:=(h N).mr,calls:=(h N).calls}
def C5 (B:Cx):Cx:={B with wr:=true}
theorem bZ.wrap (h:bZ P B X Γ):bZ P (C5 B) X Γ:=fun N=>
 {fit:=(h N).fit,iX:=(h N).iX,fB:=(h N).fB,mixed:=(h N).mixed,arr:=(h N).arr,om:=(h N).om,eqs:=(h N).eqs,jj:=(h N).jj,kT:=(h N).kT,mr:=(h N).mr,calls:=(h N).calls}
theorem l9 {α:Type} {l:List (Nat × α)} {n:Nat} {x:α} (h:look l n=some x):(n,x)∈l:=by
 induction l with
 | nil=>cases h
 | cons p r ih=>
  obtain ⟨m,y⟩:=p
  rw [bM] at h
  split at h
  ·rename_i e;subst e;cases h;simp
  ·exact List.mem_cons_of_mem _ (ih h)
def EK (P:Program) (B:Cx) (n:Nat):Bool:=
 (B.τ.all fun p=>fits P n p.1 p.2) &&
 (match P.underlying B.eT with | some (.int .i64)=>true | _=>false) &&
 (match P.info? B.eT with | some i=>(match i.zero with | some (.int .i64 0)=>true | _=>false) | none=>false) &&
 P.follows .mixedOrders &&
 (B.si.all fun p=>match P.underlying p.1 with | some (.array m e)=>Nat.beq m p.2.1 && Nat.beq e p.2.2 | _=>false) &&
 (B.si.all fun p=>match look B.τ p.2.2 with
  | some e=>(match P.info? p.1 with
   | some i=>(match i.zero with
    | some z=>kf e p.2.1 z.cells.toList
    | none=>false)
   | none=>false)
  | none=>true) &&
 B.eqs.all (CB P) && B.jj.all (x4 P) &&
 (B.kT.all fun p=>match P.underlying p.1 with
  | some (.map k e)=>Nat.beq k p.2.1 && Nat.beq e p.2.2 && (match P.underlying p.2.1 with | some .string=>true | _=>false) &&
   (match P.info? p.2.2 with
    | some i=>(match i.zero with | some (.agg _)=>true | _=>false)
    | none=>false)
  | _=>false) &&
 (B.mr.all fun p=>match P.info? p.1 with
  | some i=>(match i.zero with
   | some (.agg cs)=>(match cs.toList with
    | [.pointer none, .slice none 0 0]=>true
    | _=>false)
   | _=>false)
  | none=>false)
theorem H5 {n:Nat} (h:EK P B n=true):TyOK P B:=by
 simp only [EK,Bool.and_eq_true,List.all_eq_true] at h
 obtain ⟨⟨⟨⟨⟨⟨⟨⟨⟨h1,h2⟩,h3⟩,h4⟩,h5⟩,h6⟩,h7⟩,h8⟩,h9⟩,h10⟩:=h
 refine ⟨fun t ty hl=>⟨n,h1 _ (l9 hl)⟩,?_,?_,h4,fun t ht=>h7 t (oI ht),fun t ht=>h8 t (oI ht),fun t m e hl => ?_,fun t k e hl => ?_,fun t e hl => ?_,fun t m te e hl he => ?_⟩
 ·split at h2
  ·assumption
  ·cases h2
 ·split at h3
  ·rename_i i hi
   refine ⟨i,hi,?_⟩
   split at h3
   ·assumption
   ·cases h3
  ·cases h3
 ·have:=h5 _ (l9 hl)
  simp only at this
  split at this
  ·rename_i m' e' hu
   simp only [Bool.and_eq_true] at this
   rw [hu,Nat.eq_of_beq_eq_true this.1,Nat.eq_of_beq_eq_true this.2]
  ·cases this
 ·have:=h9 _ (l9 hl)
  simp only at this
  split at this
  ·rename_i k' e' hu
   simp only [Bool.and_eq_true] at this
   obtain ⟨⟨⟨e1,e2⟩,e3⟩,e4⟩:=this
   rw [hu,Nat.eq_of_beq_eq_true e1,Nat.eq_of_beq_eq_true e2]
   refine ⟨rfl,?_,?_⟩
   ·split at e3
    ·assumption
    ·cases e3
   ·split at e4
    ·rename_i i hi
     split at e4
     ·rename_i cs hz;exact ⟨i,cs,hi,hz⟩
     ·cases e4
    ·cases e4
  ·cases this
 ·have:=h10 _ (l9 hl)
  simp only at this
  split at this
  ·rename_i i hi
   split at this
   ·rename_i cs hz
    split at this
    ·rename_i hr
     exact ⟨i,hi,by rw [hz];congr 2;exact Array.toList_inj.1 hr⟩
    ·cases this
   ·cases this
  ·cases this
 ·have:=h6 _ (l9 hl)
  simp only [he] at this
  split at this
  ·rename_i i hi
   split at this
   ·rename_i z hz
    exact ⟨i,z,hi,hz,this⟩
   ·cases this
  ·cases this
end
end Go.Vg

namespace Go.Vg
open Go.RowKit
def kq:Nat->List bY->List (Nat × SV)
 | _,[]=>[]
 | k,a :: r=>(k, .s a) :: kq (k + 1) r
def jS (B:Cx) (Γ:List (FuncId × (Bool × bQ))) (fn:Func) (anns:cu):bQ:=fun args st K=>
 match Nat.ble args.length fn.ntmps with
 | true=>C0 (l8 B Γ fn.ntmps) anns fn.results.toList (codeOf fn) {env:=kq 0 args,aE:=st.aE,next:=st.next} fun vs st'=>K (mJ vs) {st' with env:=st.env}
 | false => .ff
theorem rV {eT:TypeId} {S:aU}:∀{args:List bY} {vs:List Value} (k:Nat),cp eT S args vs->∀t sv,look (kq k args) t=some sv->k<=t/\∃v,vs[t - k]?=some v/\cA eT S sv v:=by
 intro args
 induction args with
 | nil=>intro vs k _ t sv h;simp [kq,look] at h
 | cons a r ih=>
  intro vs k hr t sv h
  cases hr with
  | cons h1 h2=>
   simp only [kq,bM] at h
   split at h
   ·rename_i e
    cases h
    subst e
    exact ⟨Nat.le_refl _,_,by simp,h1⟩
   ·rename_i e
    obtain ⟨k1,v,k2,k3⟩:=ih (k + 1) h2 t sv h
    refine ⟨by omega,v,?_,k3⟩
    rw [show t - k=(t - (k + 1)) + 1 by omega]
    simpa using k2
theorem lp {P:Program} {B:Cx} {X:Ext} {Γ:List (FuncId × (Bool × bQ))} (hok:bZ P B X Γ) {f:FuncId} {fn:Func} (hf:P.funcs[f]?=some fn) (hg:nV fn 0=true) (anns:cu) :
  cG P B.eT X f false (jS B Γ fn anns):=by
 simp only [nV,Bool.and_eq_true,Bool.not_eq_true'] at hg
 obtain ⟨⟨h1,h2⟩,_⟩:=hg
 obtain ⟨c,hc⟩:=Option.isSome_iff_exists.1 h1
 refine ⟨⟨fn,hf,by rw [hc];rfl,h2⟩,fun O st loc w args vs K hK g hO ha => ?_⟩
 unfold jS at hK
 split at hK
 case h_2=>exact hK.elim
 rename_i hlen
 have hlen:=Nat.le_of_ble_eq_true hlen
 have hcode:codeOf fn=c:=by unfold codeOf;rw [hc];rfl
 rw [hcode] at hK
 have:=nt (X:=X) (hok fn.ntmps) hf hc (by rfl) anns (O:=O) (loc:=loc) (w:=w) (args:=vs.toArray)
  (st:={env:=kq 0 args,aE:=st.aE,next:=st.next}) (by rw [List.size_toArray,<-ha.len];exact hlen) g hO
  (fun t sv h=>by
   obtain ⟨_,v,k1,k2⟩:=rV 0 ha t sv h
   exact ⟨v,by simpa using k1,k2⟩) hK
 refine this.mono ?_
 rintro e w' ⟨rs,us,st',loc',he,hk,hr,g',tr⟩
 exact ⟨_,_,_,loc',he,hk,rfl,(fun h=>by cases h),g',tr,qj hr⟩
def Jx (st:St) (t k:Nat):Nat:=
 match look st.env t with
 | some (.s (.one (.fn _ caps)))=>caps.getD k 0
 | _=>0
def JI (ty:Ty) (st:St) (n:Nat):D ty:=
 match look st.aE n with
 | some (.cells _ cs)=>match gM ty cs with
  | some (x,_)=>x
  | none=>bL ty
 | _=>bL ty
end Go.Vg

namespace Go.Vg
open Go.RowKit
def fy:List Cl->St->List bY->List bY × St
 | .d _ :: r,st,v :: vs=>match sO st v with
  | (v',st1)=>match fy r st1 vs with
   | (vs',st2)=>(v' :: vs',st2)
 | .obj _ :: r,st,v :: vs=>match fy r st vs with
  | (vs',st2)=>(v :: vs',st2)
 | .dX :: r,st,v :: vs=>match fy r st vs with
  | (vs',st2)=>(v :: vs',st2)
 | _,st,vs=>(vs,st)
def la:List (Nat × OC)->List Nat->List (Nat × OC)
 | l,[]=>l
 | l,n :: r=>la (lV l n) r
def mK:Ob->Ob->Bool
 | .box T _, .box T' _=>Nat.beq T T'
 | .ext k t, .ext k' t'=>Nat.beq k k' && Ty.beq t t'
 | .row true t, .row true t'=>Ty.beq t t'
 | _,_=>false
def hM:List Ob->List Ob->List Nat->Nat->List Nat
 | o :: os,o' :: os',n :: ns,b=>(match mK o o' with | true=>n | false=>b) :: hM os os' ns (b + 1)
 | _,_ :: os',_,b=>b :: hM [] os' [] (b + 1)
 | _,[],_,_=>[]
def vh:Nat->List Ob->List Ob->List (Nat × Nat)
 | k,o :: os,o' :: os'=>match mK o o' with
  | true=>(k,k) :: vh (k + 1) os os'
  | false=>vh (k + 1) os os'
 | _,_,_=>[]
def oS:Nat->List Ob->List Ob->List Nat->Bool
 | k,o :: os,o' :: os',n :: ns=>(match mK o o' with | true=>Nat.beq n k | false=>true) && oS (k + 1) os os' ns
 | _,_,_,_=>true
structure Alt (aK:List Ob) (args:List Cl):Type 1 where
 cv:Bool:=false
 bE:List Ob
 res:List Cl
 ok:CD args->PD aK->Prop:=fun _ _=>True
 out:CD args->PD aK->PD bE
 ret:CD args->PD aK->CD res
section
variable {aK:List Ob} {args:List Cl}
def xR (al:Alt aK args) (a:CD args) (x:PD aK) (ν:List Nat) (st:St) (K:SV->St->VC):VC:=
 match nodupB (hM aK al.bE ν st.next) && fG (st.next + al.bE.length) (hM aK al.bE ν st.next) with
 | true => .imp (al.ok a x) (K (mJ (sK (ef al.bE (al.out a x) (hM aK al.bE ν st.next)) al.res (al.ret a x)))
   {env:=st.env,aE:=gr (ef al.bE (al.out a x) (hM aK al.bE ν st.next)) al.bE (al.out a x) (hM aK al.bE ν st.next)++la st.aE ν,next:=st.next + al.bE.length})
 | false => .ff
def tZ (a:CD args) (x:PD aK) (ν:List Nat) (st:St) (K:SV->St->VC):List (Alt aK args)->VC
 | [] => .leaf True
 | [al]=>xR al a x ν st K
 | al :: al2 :: r => .both (xR al a x ν st K) (tZ a x ν st K (al2 :: r))
def bG (aK:List Ob) (args:List Cl) (pre:CD args->PD aK->Prop) (alts:List (Alt aK args)):bQ:=fun as st K=>
 match fy args st as with
 | (as,st)=>match Hy aK args as st.aE [] with
  | some ν=>match nodupB ν,gQ false st.aE aK ν args as,cJ false st.aE aK ν aK ν with
   | true,some a,some x=>Gp (gY aK x args as++eP aK x st.aE aK ν) (.and (pre a x) (tZ a x ν st K alts))
   | _,_,_ => .ff
  | none => .ff
def lN (aK:List Ob) (args:List Cl) (a:CD args) (x:PD aK):St:=
 {env:=kq 0 (sK (ef aK x (upto 0 aK.length)) args a),aE:=gr (ef aK x (upto 0 aK.length)) aK x (upto 0 aK.length),next:=aK.length}
def rk (a:CD args) (x:PD aK) (vs:List bY) (st:St):List (Alt aK args)->VC
 | [] => .ff
 | al :: r=>match fy al.res st vs with
  | (vs',st')=>match Hy al.bE al.res vs' st'.aE (vh 0 aK al.bE) with
   | some ν=>match nodupB ν && (oS 0 aK al.bE ν && (!al.cv || (mE aK && (dr al.bE && eQ al.res)))),gQ al.cv st'.aE al.bE ν al.res vs',cJ al.cv st'.aE al.bE ν al.bE ν with
    | true,some b,some y => .leaf (CS (gY al.bE y al.res vs'++eP al.bE y st'.aE al.bE ν++[al.ok a x/\y=al.out a x/\b=al.ret a x]))
    | _,_,_=>rk a x vs st r
   | none=>rk a x vs st r
def dR (B:Cx) (Γ:List (FuncId × (Bool × bQ))) (fn:Func) (anns:cu) (aK:List Ob) (args:List Cl) (alts:List (Alt aK args)) (a:CD args) (x:PD aK):VC:=
 C0 (l8 B Γ fn.ntmps) anns fn.results.toList (codeOf fn) (lN aK args a x) fun vs st'=>rk a x vs st' alts
def hP:(cls:List Cl)->CD cls->Prop
 | [],_=>True
 | .d t :: r,x=>wf t x.1/\hP r x.2
 | .obj _ :: r,x=>hP r x
 | .dX :: r,x=>hP r x
end
section
variable {eT:TypeId} {X:Ext}
theorem pB {k:Nat}:∀{l:List Nat} {n:Nat},fG k l=true->n∈l->n < k
 | [],_,_,h=>by simp at h
 | m :: r,n,h,hn=>by
  simp only [fG,Bool.and_eq_true] at h
  rcases List.mem_cons.1 hn with e | hn
  ·rw [e];exact iC h.1
  ·exact pB h.2 hn
theorem gG (m:Nat):∀(ns:List Nat) (l:List (Nat × OC)),look (la l ns) m=if m∈ns then none else look l m
 | [],l=>by simp [la]
 | n :: r,l=>by
  simp only [la]
  rw [gG m r,gW]
  by_cases h1:m∈r
  ·simp [h1]
  ·by_cases h2:n=m
   ·subst h2;simp
   ·have:¬ m=n:=fun e=>h2 e.symm
    simp [h1,h2,this]
theorem mL:∀{aK bE:List Ob} {ν:List Nat} {b i n:Nat},(hM aK bE ν b)[i]?=some n->
  (∃o o',aK[i]?=some o/\bE[i]?=some o'/\mK o o'=true/\ν[i]?=some n)\/b<=n
 | aK,[],ν,b,i,n,h=>by
  cases aK <;> cases ν <;> simp [hM] at h
 | [],o' :: os',ν,b,i,n,h=>by
  simp only [hM] at h
  cases i with
  | zero=>simp at h;exact .inr (by omega)
  | succ i=>
   rcases mL (aK:=[]) (ν:=[]) (by simpa using h) with ⟨o,_,h1,_⟩ | h1
   ·simp at h1
   ·exact .inr (by omega)
 | o :: os,o' :: os',[],b,i,n,h=>by
  simp only [hM] at h
  cases i with
  | zero=>simp at h;exact .inr (by omega)
  | succ i=>
   rcases mL (aK:=[]) (ν:=[]) (by simpa using h) with ⟨o,_,h1,_⟩ | h1
   ·simp at h1
   ·exact .inr (by omega)
 | o :: os,o' :: os',n0 :: ns,b,i,n,h=>by
  simp only [hM] at h
  cases i with
  | zero=>
   simp only [List.getElem?_cons_zero,Option.some.injEq] at h
   split at h
   ·rename_i hk;exact .inl ⟨o,o',rfl,rfl,hk,by simp [h]⟩
   ·exact .inr (by omega)
  | succ i=>
   rcases mL (by simpa using h) with ⟨a,a',h1,h2,h3⟩ | h1
   ·exact .inl ⟨a,a',by simpa using h1,by simpa using h2,by simpa using h3⟩
   ·exact .inr (by omega)
theorem ma:∀{aK bE:List Ob} {ν:List Nat} {b:Nat},(hM aK bE ν b).length=bE.length
 | aK,[],ν,b=>by cases aK <;> cases ν <;> rfl
 | [],o' :: os',ν,b=>by simp [hM,ma]
 | o :: os,o' :: os',[],b=>by simp [hM,ma]
 | o :: os,o' :: os',n0 :: ns,b=>by simp [hM,ma]
theorem ua:∀{aK bE:List Ob} {ν:List Nat} {k i n:Nat} {o o':Ob},oS k aK bE ν=true->aK[i]?=some o->bE[i]?=some o'->mK o o'=true->ν[i]?=some n->n=k + i
 | [],_,_,_,_,_,_,_,_,h,_,_,_=>by simp at h
 | _ :: _,[],_,_,_,_,_,_,_,_,h,_,_=>by simp at h
 | _ :: _,_ :: _,[],_,_,_,_,_,_,_,_,_,h=>by simp at h
 | a :: os,a' :: os',m :: ns,k,0,n,o,o',h,h1,h2,h3,h4=>by
  simp at h1 h2 h4
  subst h1;subst h2;subst h4
  simp only [oS,h3,Bool.and_eq_true] at h
  have:=Nat.eq_of_beq_eq_true h.1
  omega
 | a :: os,a' :: os',m :: ns,k,i + 1,n,o,o',h,h1,h2,h3,h4=>by
  simp only [oS,Bool.and_eq_true] at h
  have:=ua h.2 (by simpa using h1) (by simpa using h2) h3 (by simpa using h4)
  omega
theorem v8:∀{l:List Ob} {o:Ob} {t:Ty},mE l=true->o∈l->o≠.tok t
 | [],_,_,_,h=>by simp at h
 | a :: r,o,t,h,ho=>by
  rcases List.mem_cons.1 ho with e | ho
  ·subst e;intro e;subst e;simp [mE] at h
  ·exact v8 (by cases a <;> simp_all [mE]) ho
theorem rl {S:aU} {F:Nat->Value->Prop}:∀{cls:List Cl} {x:CD cls} {vs:List Value},nk eT S F cls x vs->hP cls x
 | [],_,_,_=>trivial
 | .d t :: r,x,v :: vs,h=>⟨h.1.wf,rl h.2⟩
 | .obj k :: r,x,v :: vs,h=>rl (cls:=r) h.2
 | .dX :: r,x,v :: vs,h=>rl (cls:=r) h.2
theorem oT {S:aU} {F:Nat->Value->Prop}:∀{cls:List Cl} {x:CD cls} {vs:List Value},nk eT S F cls x vs->vs.length=cls.length
 | [],_,_,h=>by rw [show _ = [] from h];rfl
 | .d t :: r,x,v :: vs,h=>by simp [oT h.2]
 | .obj k :: r,x,v :: vs,h=>by simp [oT (cls:=r) h.2]
 | .dX :: r,x,v :: vs,h=>by simp [oT (cls:=r) h.2]
theorem ub {O:aF} {loc:Nat->Loc} {w:World}:∀(cls:List Cl) (xs:List bY) {st:St},Good eT X (aB O st loc w)->
  Tr (aB O st loc w) (aB O (fy cls st xs).2 loc w)/\Good eT X (aB O (fy cls st xs).2 loc w)/\(fy cls st xs).2.env=st.env/\
   ∀vs,cp eT (aB O st loc w) xs vs->cp eT (aB O (fy cls st xs).2 loc w) (fy cls st xs).1 vs:=by
 intro cls
 induction cls with
 | nil=>intro xs st g;exact ⟨Tr.refl _,g,rfl,fun vs h=>h⟩
 | cons cl r ih=>
  intro xs st g
  cases xs with
  | nil=>cases cl <;> exact ⟨Tr.refl _,g,rfl,fun vs h=>h⟩
  | cons x xs=>
   cases cl with
   | d t=>
    have g':Good (Cx.mk eT [] [] [] 0 [] [] [] false [] []).eT X (aB O st loc w):=g
    obtain ⟨t1,g1,e1,k1⟩:=oR g' x
    obtain ⟨t2,g2,e2,k2⟩:=ih xs g1
    refine ⟨t1.trans t2,g2,e2.trans e1,fun vs h => ?_⟩
    cases h with
    | cons h1 h3=>exact .cons ((k1 _ h1).tr t2) (k2 _ (h3.tr t1))
   | obj k=>
    obtain ⟨t2,g2,e2,k2⟩:=ih xs g
    refine ⟨t2,g2,e2,fun vs h => ?_⟩
    cases h with
    | cons h1 h3=>exact .cons (h1.tr t2) (k2 _ h3)
   | dX=>
    obtain ⟨t2,g2,e2,k2⟩:=ih xs g
    refine ⟨t2,g2,e2,fun vs h => ?_⟩
    cases h with
    | cons h1 h3=>exact .cons (h1.tr t2) (k2 _ h3)
end
end Go.Vg

namespace Go.Vg
open Go.RowKit
section
variable {X:Ext} {P:Program} {aK:List Ob} {args:List Cl}
theorem uc {a:CD args} {x:PD aK} {ν:List Nat} {st:St} {K:SV->St->VC}:∀{alts:List (Alt aK args)},(tZ a x ν st K alts).holds->∀al∈alts,(xR al a x ν st K).holds
 | [],_,al,h=>by simp at h
 | [al0],h,al,ha=>by simp at ha;subst ha;exact h
 | al0 :: al1 :: r,h,al,ha=>by
  rcases List.mem_cons.1 ha with e | ha
  ·subst e;exact h.1
  ·exact uc h.2 al ha
theorem wa {a:CD args} {x:PD aK} {vs:List bY} {st:St}:∀{alts:List (Alt aK args)},(rk a x vs st alts).holds->∃al∈alts,∃ν,
  nodupB ν=true/\oS 0 aK al.bE ν=true/\(al.cv=false\/(mE aK=true/\dr al.bE=true/\eQ al.res=true))/\al.ok a x/\
  gQ al.cv (fy al.res st vs).2.aE al.bE ν al.res (fy al.res st vs).1=some (al.ret a x)/\cJ al.cv (fy al.res st vs).2.aE al.bE ν al.bE ν=some (al.out a x)/\
  (∀p∈gY al.bE (al.out a x) al.res (fy al.res st vs).1,p)/\(∀p∈eP al.bE (al.out a x) (fy al.res st vs).2.aE al.bE ν,p)
 | [],h=>h.elim
 | al :: r,h=>by
  have rest:(rk a x vs st r).holds->∃al'∈al :: r,∃ν,
    nodupB ν=true/\oS 0 aK al'.bE ν=true/\(al'.cv=false\/(mE aK=true/\dr al'.bE=true/\eQ al'.res=true))/\al'.ok a x/\
    gQ al'.cv (fy al'.res st vs).2.aE al'.bE ν al'.res (fy al'.res st vs).1=some (al'.ret a x)/\cJ al'.cv (fy al'.res st vs).2.aE al'.bE ν al'.bE ν=some (al'.out a x)/\
    (∀p∈gY al'.bE (al'.out a x) al'.res (fy al'.res st vs).1,p)/\(∀p∈eP al'.bE (al'.out a x) (fy al'.res st vs).2.aE al'.bE ν,p):=fun h=>by
   obtain ⟨al',h1,h2⟩:=wa h
   exact ⟨al',by simp [h1],h2⟩
  simp only [rk] at h
  split at h
  ·rename_i ν hν
   split at h
   ·rename_i b y hc hb hy
    simp only [Bool.and_eq_true,Bool.or_eq_true,Bool.not_eq_true'] at hc
    obtain ⟨h1,h2,h3⟩:=hc
    have hall:=sL h
    have k3:al.ok a x/\y=al.out a x/\b=al.ret a x:=hall _ (List.mem_append_right _ (by simp))
    obtain ⟨k4,k5,k6⟩:=k3
    subst k5;subst k6
    obtain ⟨k1,_⟩:=fP.1 hall
    obtain ⟨k1,k2⟩:=fP.1 k1
    exact ⟨al,by simp,ν,h1,h2,h3,k4,hb,hy,k1,k2⟩
   ·exact rest h
  ·exact rest h
theorem Gv {B:Cx} {Γ:List (FuncId × (Bool × bQ))} (hok:bZ P B X Γ) {f:FuncId} {fn:Func} {c:Code} (hf:P.funcs[f]?=some fn) (hb:fn.body=some c) (hN:args.length<=fn.ntmps) {anns:CD args->PD aK->cu}
  {pre:CD args->PD aK->Prop} {alts:List (Alt aK args)} (h:∀a x,hP args a->pre a x->(dR B Γ fn (anns a x) aK args alts a x).holds)
  {O:aF} {st:St} {loc:Nat->Loc} {w:World} {as:List bY} {vs:List Value} {K:SV->St->VC} (g:Good B.eT X (aB O st loc w)) (hO:de O w) (ha:cp B.eT (aB O st loc w) as vs)
  {ν:List Nat} {a:CD args} {x:PD aK} (hnd:nodupB ν=true) (hga:gQ false st.aE aK ν args as=some a) (hx:cJ false st.aE aK ν aK ν=some x)
  (hp1:∀p∈gY aK x args as,p) (hp2:∀p∈eP aK x st.aE aK ν,p) (hpre:pre a x) (hK:(tZ a x ν st K alts).holds) :
  Calls P f vs.toArray w fun e w'=>∃v sv st' loc',e = .returned v/\(K sv st').holds/\st'.env=st.env/\Good B.eT X (aB O st' loc' w')/\
   Tr (aB O st loc w) (aB O st' loc' w')/\cA B.eT (aB O st' loc' w') sv v:=by
 have hvals:=vQ g hx hga ha hp1
 have hobsl:=lE hx
 let us:=upto 0 aK.length
 have hul:ν.length=us.length:=by rw [oK];exact hobsl.symm
 let O':aF:=fun b off=>O b off\/∃n oc,look st.aE n=some oc/\n∉ν/\b∈(loc n).bs/\oc.lo<=off
 let st0:=lN aK args a x
 have hOin':de O' w:=by
  rintro b off (h | ⟨n,oc,h1,_,h2,_⟩)
  ·exact hO b off h
  ·exact (g.obj n oc h1).2.inside b h2
 have hlo:∀n∈ν,∀oc,look st.aE n=some oc->mE aK=true->oc.lo=0:=by
  intro n hn oc h1 h2
  obtain ⟨o,oc',y,k1,k2,k3⟩:=gD hx hn
  rw [h1] at k2;cases k2
  have:=(kV k3 (fun _ => .any)).2.2.2 (fun t=>v8 h2 k1) rfl
  cases oc <;> first | rfl | exact (this _ _ rfl).elim
 have hν:∀n∈ν,∃oc,look st.aE n=some oc:=fun n hn=>let ⟨_,oc,_,_,k,_⟩:=gD hx hn;⟨oc,k⟩
 let loc0:=cU us (ν.map loc) loc
 have hf0:∀k oc,look st0.aE k=some oc->∃(i n:Nat) (o:Ob) (y:OD o) (oc0:OC),ν[i]?=some n/\us[i]?=some k/\aK[i]?=some o/\look st.aE n=some oc0/\fp false st.aE aK ν o oc0=some y/\oc=l5 (ef aK x us) o y/\loc0 k=loc n:=by
  intro k oc hk
  obtain ⟨i,n,o,y,oc0,k1,k2,k3,k4,k5,k6,_⟩:=lD hx (lC (X:=X) g hx hx hp2) hul hk
  exact ⟨i,n,o,y,oc0,k1,k2,k3,k4,k5,k6,gh (fF _ _) k2 (by simp [k1])⟩
 have hA0:∀b o,(aB O' st0 loc0 w).A b o->(aB O st loc w).A b o:=by
  rintro b off ((h | ⟨n,oc,h1,_,h2,h3⟩) | ⟨k,oc,h1,h2,h3⟩)
  ·exact .inl h
  ·exact .inr ⟨n,oc,h1,h2,h3⟩
  ·obtain ⟨i,n,o,y,oc0,_,_,_,k4,k5,k6,k7⟩:=hf0 k oc h1
   refine .inr ⟨n,oc0,k4,by simp only [aB] at h2;rw [k7] at h2;exact h2,?_⟩
   rcases vf (f:=ef aK x us) k5 with e | e
   ·rw [<-e,<-k6];exact h3
   ·cases e
 have hown0:∀b,(aB O' st0 loc0 w).kd b->∃n∈ν,b∈(loc n).bs:=by
  rintro b ⟨k,oc,h1,h2⟩
  obtain ⟨i,n,o,y,oc0,k1,_,_,_,_,_,k7⟩:=hf0 k oc h1
  exact ⟨n,List.mem_of_getElem? k1,by simp only [aB] at h2;rw [k7] at h2;exact h2⟩
 obtain ⟨g0,laid0⟩:=CV (X:=X) g hx hp2 hnd (O2:=O') (ν2:=us) (rest:=[]) (locR:=loc) (st2:=st0) (fF _ _) hul
  (by simp [st0,lN,us]) (fun n hn=>by have:=oJ hn;simp [st0,lN];omega)
  (fun n hn b hb off=>by
   obtain ⟨oc,k⟩:=hν n hn
   rintro (h | ⟨m,oc',h1,h2,h3,_⟩)
   ·exact g.out n oc b off k hb h
   ·exact h2 (by rw [<-g.apart n m oc oc' b k h1 hb h3];exact hn))
  (fun n hn b hb m oc h=>by simp [look] at h) (fun m oc h=>by simp [look] at h) (fun m m' oc oc' b h=>by simp [look] at h) (fun m oc b off h=>by simp [look] at h) (.inr hA0)
  (fun b hb h=>by
   obtain ⟨n,hn,hbn⟩:=hown0 b h
   obtain ⟨oc,k⟩:=hν n hn
   exact g.ji.2 b hb ⟨n,oc,k,hbn⟩)
 have hargs:cp B.eT (aB O' st0 loc0 w) (sK (ef aK x us) args a) vs:=yF (S:=aB O st loc w) (S':=aB O' st0 loc0 w) rfl (fun k v hk=>tM laid0 hk) (.inr hA0) hvals
 have hcode:codeOf fn=c:=by unfold codeOf;rw [hb];rfl
 have hvc:=h a x (rl hvals) hpre
 unfold dR at hvc
 rw [hcode] at hvc
 have hcalls:=nt (X:=X) (hok fn.ntmps) hf hb (by rfl) (anns a x) (O:=O') (loc:=loc0) (w:=w) (args:=vs.toArray) (st:=st0)
  (by rw [List.size_toArray,oT hvals];exact hN) g0 hOin'
  (fun t sv ht=>by
   obtain ⟨_,v,k1,k2⟩:=rV 0 hargs t sv ht
   exact ⟨v,by simpa using k1,k2⟩) hvc
 refine hcalls.mono ?_
 rintro e w' ⟨rs,us',st',locE,he,hk,hr,gE',trE'⟩
 obtain ⟨al,hal,ν',hnd',hkept,hcv,hokal,hret,hout,hc1,hc2⟩:=wa hk
 obtain ⟨tF,gE,_,kF⟩:=ub al.res rs gE'
 generalize hst2:(fy al.res st' rs).2=st2 at *
 generalize hrs2:(fy al.res st' rs).1=rs2 at *
 have trE:=trE'.trans tF
 have hrE:=kF us' hr
 have hKal:=uc hK al hal
 unfold xR at hKal
 split at hKal
 case h_2=>exact hKal.elim
 rename_i hn1
 simp only [Bool.and_eq_true] at hn1
 obtain ⟨hnd1,hbel⟩:=hn1
 have hKal:=hKal hokal
 generalize hν1:hM aK al.bE ν st.next=ν1 at *
 have hl1:ν'.length=ν1.length:=by rw [<-hν1,ma];exact (lE hout).symm
 generalize hst1:({env:=st.env,aE:=gr (ef al.bE (al.out a x) ν1) al.bE (al.out a x) ν1++la st.aE ν,next:=st.next + al.bE.length}:St)=st1 at hKal
 have h1env:st1.env=st.env:=by rw [<-hst1]
 have h1objs:st1.aE=gr (ef al.bE (al.out a x) ν1) al.bE (al.out a x) ν1++la st.aE ν:=by rw [<-hst1]
 have h1next:st1.next=st.next + al.bE.length:=by rw [<-hst1]
 let loc1:=cU ν1 (ν'.map locE) loc
 have hf1:∀m oc,look st1.aE m=some oc->(∃(i n:Nat) (o:Ob) (y:OD o) (oc0:OC),ν'[i]?=some n/\ν1[i]?=some m/\al.bE[i]?=some o/\look st2.aE n=some oc0/\fp al.cv st2.aE al.bE ν' o oc0=some y/\
   oc=l5 (ef al.bE (al.out a x) ν1) o y/\loc1 m=locE n)\/(m∉ν1/\m∉ν/\look st.aE m=some oc/\loc1 m=loc m):=by
  intro m oc hm
  rw [h1objs,cL] at hm
  split at hm
  ·rename_i oc' hm'
   cases hm
   obtain ⟨i,n,o,y,oc0,k1,k2,k3,k4,k5,k6,_⟩:=lD hout (lC (X:=X) gE hout hout hc2) hl1 hm'
   exact .inl ⟨i,n,o,y,oc0,k1,k2,k3,k4,k5,k6,gh hnd1 k2 (by simp [k1])⟩
  ·rename_i hm'
   have hnin:m∉ν1:=fun hmem=>by
    obtain ⟨oc1,h2⟩:=kW (f:=ef al.bE (al.out a x) ν1) (x:=al.out a x) (by rw [<-hν1,ma]) hmem
    rw [h2] at hm';cases hm'
   rw [gG] at hm
   split at hm
   ·cases hm
   ·rename_i hmn
    exact .inr ⟨hnin,hmn,hm,jv hnin⟩
 have hownE:∀n∈ν',∀b∈(locE n).bs,(aB O' st2 locE w').kd b:=by
  intro n hn b hb
  obtain ⟨_,oc,_,_,k,_⟩:=gD hout hn
  exact ⟨n,oc,k,hb⟩
 have hblk:∀m oc,look st.aE m=some oc->m∉ν->∀b∈(loc m).bs,¬ (aB O' st0 loc0 w).kd b:=by
  intro m oc h1 h2 b hb' ho
  obtain ⟨n,hn,hbn⟩:=hown0 b ho
  obtain ⟨oc',k⟩:=hν n hn
  have:=g.apart n m oc' oc b k h1 hbn hb'
  exact h2 (by rw [<-this];exact hn)
 have hA1:al.cv=false->∀b o,(aB O st1 loc1 w').A b o->(aB O' st2 locE w').A b o:=by
  rintro hcv0 b off (h | ⟨m,oc,h1,h2,h3⟩)
  ·exact .inl (.inl h)
  ·rcases hf1 m oc h1 with ⟨i,n,o,y,oc0,k1,k2,k3,k4,k5,k6,k7⟩ | ⟨k1,k2,k3,k4⟩
   ·refine .inr ⟨n,oc0,k4,by simp only [aB] at h2;rw [k7] at h2;exact h2,?_⟩
    rcases vf (f:=ef al.bE (al.out a x) ν1) k5 with e | e
    ·rw [<-e,<-k6];exact h3
    ·rw [hcv0] at e;cases e
   ·exact .inl (.inr ⟨m,oc,k3,k2,by simp only [aB] at h2;rw [k4] at h2;exact h2,h3⟩)
 have hkeep:∀(m i:Nat),ν1[i]?=some m->m < st.next->∃o o',aK[i]?=some o/\al.bE[i]?=some o'/\mK o o'=true/\ν[i]?=some m:=by
  intro m i h1 h2
  rw [<-hν1] at h1
  rcases mL h1 with h3 | h3
  ·exact h3
  ·omega
 have hT:Tr (aB O st loc w) (aB O st1 loc1 w'):={
  O:=rfl
  next:=by simp only [aB];omega
  os:=trE.os
  output:=trE.output
  size:=trE.size
  own:=by
   rintro b ⟨m,oc,h1,h2⟩
   rcases hf1 m oc h1 with ⟨i,n,o,y,oc0,k1,k2,k3,k4,k5,k6,k7⟩ | ⟨k1,k2,k3,k4⟩
   ·simp only [aB] at h2;rw [k7] at h2
    rcases trE.own b (hownE n (List.mem_of_getElem? k1) b h2) with h3 | h3
    ·obtain ⟨n',hn',hb'⟩:=hown0 b h3
     obtain ⟨oc',k⟩:=hν n' hn'
     exact .inl ⟨n',oc',k,hb'⟩
    ·exact .inr h3
   ·simp only [aB] at h2;rw [k4] at h2;exact .inl ⟨m,oc,k3,h2⟩
  cell:=by
   intro b off v hna hcell
   obtain ⟨h1,h2⟩:=trE.cell b off v (fun h=>hna (hA0 b off h)) hcell
   refine ⟨h1,fun h3 => ?_⟩
   rcases hcv with hcv | ⟨hnt,_,_⟩
   ·exact h2 (hA1 hcv b off h3)
   ·rcases h3 with h3 | ⟨m,oc,h3,h4,h5⟩
    ·exact hna (.inl h3)
    ·rcases hf1 m oc h3 with ⟨i,n,o,y,oc0,k1,k2,k3,k4,k5,k6,k7⟩ | ⟨k1,k2,k3,k4⟩
     ·simp only [aB] at h4;rw [k7] at h4
      rcases trE.own b (hownE n (List.mem_of_getElem? k1) b h4) with h6 | h6
      ·obtain ⟨n',hn',hb'⟩:=hown0 b h6
       obtain ⟨oc',k⟩:=hν n' hn'
       exact hna (.inr ⟨n',oc',k,hb',by rw [hlo n' hn' oc' k hnt];exact Nat.zero_le _⟩)
      ·have:=World.block_lt_of_cell? _ _ hcell
       simp only [aB] at this h6
       omega
     ·simp only [aB] at h4;rw [k4] at h4;exact hna (.inr ⟨m,oc,k3,h4,h5⟩)
  block:=fun b hb' ho=>trE.block b hb' fun h=>ho (by
   obtain ⟨n,hn,hbn⟩:=hown0 b h
   obtain ⟨oc,k⟩:=hν n hn
   exact ⟨n,oc,k,hbn⟩)
  loc:=by
   intro m hm hfix
   by_cases hin:m∈ν1
   ·obtain ⟨i,hi⟩:=List.getElem?_of_mem hin
    obtain ⟨o,o',e1,e2,e3,e4⟩:=hkeep m i hi hm
    have hiE:i < ν'.length:=by rw [hl1];exact aR hi
    have hn':ν'[i]?=some ν'[i]:=List.getElem?_eq_getElem hiE
    have hni:=ua hkept e1 e2 e3 hn'
    rw [Nat.zero_add] at hni
    have e5:loc1 m=locE i:=by
     have:=gh (d:=loc) hnd1 hi (ls:=ν'.map locE) (l:=locE i) (by simp [hn',hni])
     exact this
    have hui:us[i]?=some i:=by have:=sN aK.length 0 i (aR e1);simpa using this
    have e6:loc0 i=loc m:=gh (fF _ _) hui (by simp [e4])
    have e7:=trE.loc i (show i < st0.next by simp [st0,lN];exact aR e1) (fun t ys hy=>by
     obtain ⟨j,n,o2,y,oc0,k1,k2,k3,k4,k5,k6,k7⟩:=hf0 i _ hy
     have hj:j=i:=kX (fF _ _) k2 hui
     subst hj
     rw [e1] at k3;cases k3
     cases o <;> simp [l5] at k6
     cases o' <;> simp [mK] at e3)
    show (loc1 m).v=(loc m).v/\(_->loc1 m=loc m)
    rw [e5,<-e6]
    refine ⟨e7.1,fun hr=>e7.2 fun t z hy => ?_⟩
    obtain ⟨j,n,o2,y,oc0,k1,k2,k3,k4,k5,k6,k7⟩:=hf0 i _ hy
    have hj:j=i:=kX (fF _ _) k2 hui
    subst hj
    rw [e4] at k1;cases k1
    cases o2 <;> simp [l5] at k6
    obtain ⟨rfl,rfl,_⟩:=k6
    obtain ⟨z',rfl⟩:=(kV k5 (fun _ => .any)).2.1 _ _ rfl
    exact hr _ _ k4
   ·exact iV (jv hin)
  kind:=by
   intro m oc' hm hob
   rcases hf1 m oc' hob with ⟨i,n,o,y,oc0,k1,k2,k3,k4,k5,k6,k7⟩ | ⟨k1,k2,k3,k4⟩
   ·obtain ⟨o0,o',e1,e2,e3,e4⟩:=hkeep m i k2 hm
    rw [k3] at e2;cases e2
    have hui:us[i]?=some i:=by have:=sN aK.length 0 i (aR e1);simpa using this
    obtain ⟨oc2,h2⟩:=kW (f:=ef aK x us) (x:=x) (ms:=us) (by rw [oK]) (List.mem_of_getElem? hui)
    obtain ⟨j,n2,o2,y2,oc3,j1,j2,j3,j4,j5,j6,j7⟩:=hf0 i oc2 (by simpa [st0,lN] using h2)
    have hj:j=i:=kX (fF _ _) j2 hui
    subst hj
    rw [e1] at j3;cases j3
    rw [e4] at j1;cases j1
    refine ⟨oc3,j4,?_⟩
    cases o0 <;> cases o <;> simp [mK] at e3
    ·subst e3
     obtain ⟨cs,rfl⟩:=(kV j5 (fun _ => .any)).1 _ _ rfl
     rw [k6]
     rfl
    ·rename_i kp t kp' t'
     cases kp <;> cases kp' <;> simp at e3
     have e3:=Ty.eq_of_beq e3
     subst e3
     obtain ⟨xs,rfl⟩:=(kV j5 (fun _ => .any)).2.2.1 _ _ rfl rfl
     rw [k6]
     rfl
    ·obtain ⟨e3,e4⟩:=e3
     have e4:=Ty.eq_of_beq e4
     subst e3;subst e4
     obtain ⟨z,rfl⟩:=(kV j5 (fun _ => .any)).2.1 _ _ rfl
     rw [k6]
     exact ⟨rfl,rfl⟩
   ·refine ⟨oc',k3,?_⟩
    cases oc' <;> simp [aN,aB,k4]}
 obtain ⟨g1,laid1⟩:=CV (X:=X) gE hout hc2 hnd' (O2:=O) (ν2:=ν1) (rest:=la st.aE ν) (locR:=loc) (st2:=st1) hnd1 hl1 h1objs
  (fun n hn=>by rw [h1next];exact pB hbel hn)
  (fun n hn b hb' off h=>by
   obtain ⟨_,oc,_,_,k,_⟩:=gD hout hn
   exact gE.out n oc b off k hb' (.inl h))
  (fun n hn b hb' m oc h1 h2 h3=>by
   rw [gG] at h1
   split at h1
   ·cases h1
   ·rename_i hmn
    rcases trE.own b (hownE n hn b hb') with h4 | h4
    ·exact hblk m oc h1 hmn b h3 h4
    ·have:=(g.obj m oc h1).2.inside b h3
     simp only [aB] at this h4
     omega)
  (fun m oc h1 h2=>by
   rw [gG] at h1
   split at h1
   ·cases h1
   ·rename_i hmn
    obtain ⟨k1,k2⟩:=g.obj m oc h1
    refine ⟨by rw [h1next];simp only [aB] at k1;omega,k2.tr hT fun b hb' => ?_⟩
    exact trE.block b (k2.inside b hb') (hblk m oc h1 hmn b hb'))
  (fun m m' oc oc' b h1 h2 _ _ h3 h4=>by
   rw [gG] at h1 h2
   split at h1
   ·cases h1
   ·split at h2
    ·cases h2
    ·exact g.apart m m' oc oc' b h1 h2 h3 h4)
  (fun m oc b off h1 _ h2=>by
   rw [gG] at h1
   split at h1
   ·cases h1
   ·exact g.out m oc b off h1 h2)
  (by
   rcases hcv with hcv | ⟨_,hcv,_⟩
   ·exact .inr (hA1 hcv)
   ·exact .inl hcv)
  (g.ji.tr hT).2
 have hres:=vQ gE hout hret hrE hc1
 refine ⟨_,_,st1,loc1,he,hKal,h1env,g1,hT,qj (yF (S:=aB O' st2 locE w') (S':=aB O st1 loc1 w') rfl (fun k v hk=>tM laid1 hk) ?_ hres)⟩
 rcases hcv with hcv | ⟨_,_,hcv⟩
 ·exact .inr (hA1 hcv)
 ·exact .inl hcv
theorem ch {B:Cx} {Γ:List (FuncId × (Bool × bQ))} (hok:bZ P B X Γ) {f:FuncId} {fn:Func} (hf:P.funcs[f]?=some fn) (hg:nV fn args.length=true) (anns:CD args->PD aK->cu)
  {pre:CD args->PD aK->Prop} {alts:List (Alt aK args)} (h:∀a x,hP args a->pre a x->(dR B Γ fn (anns a x) aK args alts a x).holds) :
  cG P B.eT X f false (bG aK args pre alts):=by
 simp only [nV,Bool.and_eq_true,Bool.not_eq_true'] at hg
 obtain ⟨⟨h1,h2⟩,h3⟩:=hg
 obtain ⟨c,hc⟩:=Option.isSome_iff_exists.1 h1
 refine ⟨⟨fn,hf,by rw [hc];rfl,h2⟩,fun O st loc w as vs K hK g hO ha => ?_⟩
 unfold bG at hK
 obtain ⟨t1,g1,e1,k1⟩:=ub args as g
 simp only at hK
 split at hK
 case h_2=>exact hK.elim
 rename_i ν hν
 split at hK
 case h_2=>exact hK.elim
 rename_i a x hnd hga hx
 obtain ⟨hp,hpre,hK⟩:=yD hK
 obtain ⟨hp1,hp2⟩:=fP.1 hp
 refine (Gv hok hf hc (Nat.le_of_ble_eq_true h3) h g1 hO (k1 vs ha) hnd hga hx hp1 hp2 hpre hK).mono ?_
 rintro e w' ⟨v,sv,st',loc',q1,q2,q3,q4,q5,q6⟩
 exact ⟨v,sv,st',loc',q1,q2,q3.trans e1,(fun hq=>by cases hq),q4,t1.trans q5,q6⟩
end
end Go.Vg

namespace Go.Vg
@[reducible] def aD:Ty:=.prod .str (.prod (.int .i64) (.prod .bool .unit))
@[reducible] def yO:Ty:=.prod (.int .i64) (.prod (.int .i64) .unit)
@[reducible] def aL:Ty:=.prod (.int .i64) (.prod (.int .i64) (.prod (.int .i64) (.prod .str (.prod .bool .unit))))
@[reducible] def ud:Ty:=.prod (.int .i64) (.prod (.int .i64) (.prod (.int .i64) .unit))
@[reducible] def fQ:Ty:=.prod .str (.prod (.int .i64) (.prod (.int .i64) .unit))
@[reducible] def aA:Ty:=.prod (.slice .str) (.prod (.slice (.int .i64)) (.prod (.slice aD) (.prod (.slice aL) .unit)))
@[reducible] def ez:Ty:=.prod .str (.prod (.slice fQ) (.prod (.slice ud) .unit))
@[reducible] def bB:Ty:=.prod .str (.prod .str (.prod .str (.prod (.int .i64) (.prod (.int .u64) (.prod ez .unit)))))
@[reducible] def C6:Ty:=.prod .str (.prod (.int .i64) (.prod (.slice (.int .i64)) .unit))
@[reducible] def xS:Ty:=.prod (.int .i64) (.prod .str .unit)
@[reducible] def HB:Ty:=.prod (.slice .str) (.prod (.slice .str) (.prod (.slice xS) (.prod (.int .i64) (.prod .bool .unit))))
@[reducible] def bR:Ty:=.prod .str (.prod .str (.prod (.int .i64) .unit))
@[reducible] def B2:Ty:=.prod (.slice bR) (.prod (.int .i64) .unit)
theorem bl :
  (∀(p:Prop) [Decidable p],(decide p=true)=p)/\(∀(p:Prop) [Decidable p],(decide p=false)=¬ p)/\
  (∀(α:Type) [BEq α] [LawfulBEq α] (a b:α),((a == b)=true)=(a=b))/\(∀(α:Type) [BEq α] [LawfulBEq α] (a b:α),((a == b)=false)=¬ a=b)/\
  (∀(α:Type) [BEq α] [LawfulBEq α] (a b:α),((a != b)=true)=¬ a=b)/\(∀(α:Type) [BEq α] [LawfulBEq α] (a b:α),((a != b)=false)=(a=b))/\
  (∀b:Bool,((!b)=true)=(b=false))/\(∀b:Bool,((!b)=false)=(b=true))/\(∀b:Bool,(¬ b=true)=(b=false))/\(∀b:Bool,(¬ b=false)=(b=true))/\
  (∀a b:Bool,((a && b)=true)=(a=true/\b=true))/\(∀a b:Bool,((a || b)=true)=(a=true\/b=true))/\
  (∀a b:Bool,((a && b)=false)=(a=false\/b=false))/\(∀a b:Bool,((a || b)=false)=(a=false/\b=false))/\
  (∀a b:Int,(¬ a < b)=(b<=a))/\(∀a b:Int,(¬ a<=b)=(b < a)):=by
 refine ⟨?_,?_,?_,?_,?_,?_,?_,?_,?_,?_,?_,?_,?_,?_,?_,?_⟩ <;> intros <;> first | (simp;done) | (rename_i a b;cases a <;> cases b <;> simp)
end Go.Vg

namespace Go.Vg
open Go.RowKit
theorem IY {w:World} {b i:Nat} {c:Array Value} {T:TypeId} {v:Value} (hb:w.heap[b]?=some (.cells c T (0,0))):(w.setCell ⟨b,i,none⟩ v).heap[b]?=some (.cells (c.setIfInBounds i v) T (0,0)):=by
 simp [World.setCell,Array.getElem?_modify,hb]
theorem H6 {P:Program} {w:World} {t u ty e:TypeId} {i:TypeInfo} (ht:P.underlying t=some (.slice e)) (hu:P.underlying u=some .string) (hi:P.info? e=some i) (hz:i.zero=some (.int .u8 0))
  (hsize:i.size=1) (hby:i.bytes=1) {v:Value} {xs:List Value} (hown:w.ownsRow 0 e 1 v xs.length xs) (hcap:∀a n c,v = .slice (some a) n c->0 < c) (s:ByteArray) (hlen:xs.length + s.size<=140737488355328) :
  ∃v' w',(Builtin.append_ #[t,u] ty #[v, .string s]).run P w = .ok v' w'/\w'.ownsRow 0 e 1 v' (xs.length + s.size) (xs++Lib.strCells s)/\w.grownBy w' v.ownBlock/\(∀a n c,v' = .slice (some a) n c->0 < c)/\
   (∀g,v'.ownBlock=some g->v.ownBlock=some g\/w.heap.size<=g):=by
 rcases hown.2 with ⟨rfl,h0⟩ | ⟨g,cap,cur,rfl,hbg,hg,hnc,hcm,hcs,htake⟩
 ·have hown':w.ownsRow w.heap.size e 1 (.slice none 0 0) xs.length xs:=⟨hown.1, .inl ⟨rfl,h0⟩⟩
  obtain ⟨v',w',h1,h2,h3,h4⟩:=Lib.run_append_own_string (P:=P) w w.heap.size t u ty e i ht hu hi hz hsize hby _ _ _ hown' s (by unfold maxLen;omega) hlen (Nat.le_refl _)
  rcases h2.2 with ⟨rfl,h6⟩ | ⟨g,cap,cur,rfl,k1,k2,k3,k4⟩
  ·exact ⟨_,w',h1,⟨h2.1, .inl ⟨rfl,h6⟩⟩,h3,(fun a n c hh=>by cases hh),(fun g hh=>by cases hh)⟩
  ·refine ⟨_,w',h1,⟨h2.1, .inr ⟨g,cap,cur,rfl,Nat.zero_le _,k2,k3,k4⟩⟩,h3,fun a n c hh => ?_,fun g' hh=>by cases hh;exact .inr k1⟩
   cases hh
   by_cases hs:s.size=0
   ·have:=h4.2 ⟨rfl,hs⟩;cases this
   ·omega
 ·have hc0:=hcap _ _ _ rfl
  by_cases hroom:xs.length + s.size<=cap
  ·obtain ⟨w',h1,h2,h3⟩:=Lib.run_append_fits_string (P:=P) w 0 t u ty e i ht hu hi hsize _ _ _ _ hown s hc0 hroom
   exact ⟨_,w',h1,h2,h3,(fun a n c hh=>by cases hh;exact hc0),(fun g' hh => .inl hh)⟩
  ·have holds:∀j u,xs[j]?=some u->w.cell? ((⟨g,0,none⟩:Addr).add j)=some u:=hown.cells (g:=g) rfl
   have hr:=Lib.run_append_grow_string (P:=P) w t u ty e i (.int .u8 0) ht hu hi hz ⟨g,0,none⟩ xs.length cap xs (by rw [hsize];simp) holds s (by omega) (by omega) (by rw [hby];exact growslice_fits (by omega) (by omega))
   have hge:=grownCap_ge w (xs.length + s.size) cap e
   have hcm':grownCap w (xs.length + s.size) cap e<=maxLen:=grownCap_le_maxLen w (xs.length + s.size) cap e (by unfold maxLen;omega)
   refine ⟨_,_,hr,⟨by simp [Lib.strCells_length], .inr ⟨w.heap.size,_,_,rfl,Nat.zero_le _,heap_alloc_new w.drew _,hge,hcm',?_,?_⟩⟩,⟨rfl,rfl,rfl,by simp,fun k hk _=>Go.Deep.blk_alloc_lt w.drew _ k hk⟩,(fun a n c hh=>by cases hh;omega),(fun g' hh=>by cases hh;exact .inr (Nat.le_refl _))⟩
   ·have hz1:(Value.int IntKind.u8 0).cells.size=1:=rfl
    simp only [Array.size_append,List.size_toArray,size_zeroCells,hz1,Lib.strCells_length]
    omega
   ·simp only [Array.toList_append,List.append_assoc]
    rw [<-List.append_assoc]
    have:(xs++Lib.strCells s).length=(xs.length + s.size) * 1:=by simp [Lib.strCells_length]
    rw [<-this]
    exact List.take_left
theorem rH {P:Program} {w w':World} {ops:Array Oper} {rest:List Oper} {o:Oper} {a:Act} {Q:Exit->Act->World->Prop} (hgd:o.guard=none) (sl x:Operand) (t u:TypeId)
  (ho:o.op = .call {callee:=.builtin .append,args:=#[sl,x],argTypes:=#[t,u]}) {v v' y:Value} (hs:a.eval sl=v) (hx:a.eval x=y)
  (hr:(Builtin.append_ #[t,u] o.type #[v,y]).run P w = .ok v' w') (h:wpList P ops Q rest (a.put o.dst v') w'):wpList P ops Q (o :: rest) a w:=by
 refine wpList_plain hgd fun K hK => ?_
 unfold Oper.wp execOp
 simp only [ho,resolve,invoke,builtin,Sem.run_bind,Sem.run_pure,Result.andThen_ok,List.map_toArray,List.map_cons,List.map_nil,hs,hx,hr]
 exact hK _ _ h
structure Kept (b:Nat) (v:Value) (w w':World):Prop where
 os:w'.os=w.os
 output:w'.output=w.output
 size:w.heap.size<=w'.heap.size
 block:∀k,k < w.heap.size->k≠b->v.ownBlock≠some k->w'.heap[k]?=w.heap[k]?
structure C7 (v:Value) (w w':World):Prop where
 os:w'.os=w.os
 output:w'.output=w.output
 size:w'.heap.size=w.heap.size
 block:∀k,v.ownBlock≠some k->w'.heap[k]?=w.heap[k]?
theorem AW {w:World} {g n c:Nat} {m:Nat}:C7 (.slice (some ⟨g,0,none⟩) n c) w (w.drew.freeze ⟨g,0,none⟩ m):=by
 unfold World.freeze
 split
 ·exact ⟨rfl,rfl,rfl,fun _ _=>rfl⟩
 ·refine ⟨rfl,rfl,by simp,fun k hk => ?_⟩
  have:k≠g:=fun e=>hk (by rw [e];rfl)
  simp only [Array.getElem?_modify]
  rw [if_neg (fun e=>this e.symm)]
  rfl
def oU (T e:Nat):bQ:=fun args st K=>
 match args with
 | [.one (.dh n), .one (.d .str s)]=>match look st.aE n with
  | some (.ext 2 t x)=>match h:Ty.beq t fO with
   | true => .and ((bP h x).2.1=(T:Int)/\(bP h x).2.2.1=(e:Int)/\(bP h x).1.length + s.length<=140737488355328)
     (K (.iw [.one (.d (.int .i64) (s.length:Int)), .one (.d .err .nil)]) (setObj st n (.ext 2 fO ((bP h x).1++cf s,(T:Int),(e:Int),()))))
   | false => .ff
  | _ => .ff
 | _ => .ff
def mM (T e:Nat):bQ:=fun args st K=>
 match args with
 | [.one (.dh n)]=>match look st.aE n with
  | some (.ext 2 t x)=>match h:Ty.beq t fO with
   | true => .and ((bP h x).2.1=(T:Int)/\(bP h x).2.2.1=(e:Int)) (K (.s (.one (.d .str (bytesOf (bP h x).1)))) (aS st n))
   | false => .ff
  | _ => .ff
 | _ => .ff
def ue (T e:Nat):bQ:=fun args st K=>
 match args with
 | [.one (.dh n)]=>match look st.aE n with
  | some (.ext 2 t x)=>match h:Ty.beq t fO with
   | true => .and ((bP h x).2.1=(T:Int)/\(bP h x).2.2.1=(e:Int)) (K (.s (.one (.d (.int .i64) ((bP h x).1.length:Int)))) st)
   | false => .ff
  | _ => .ff
 | _ => .ff
section
variable {P:Program} {eT:TypeId} {X:Ext} {f:FuncId}
theorem yP {O:aF} {st:St} {loc:Nat->Loc} {w:World} (g:Good eT X (aB O st loc w)) {n:Nat} {x:D fO} (hob:look st.aE n=some (.ext 2 fO x)) {v:Value} (hv:CR eT (aB O st loc w) (.dh n) v) :
  ∃b p u,v = .pointer (some ⟨b,0,none⟩)/\Ix x (loc n) w b p u:=by
 obtain ⟨h0,b,p,u,hD⟩:=X.Hs.1 (g.obj n _ hob).2
 exact ⟨b,p,u,(hv.2 _ hob rfl).trans hD.lv,hD⟩
theorem C8 (s:List UInt8):bytesOf (cf s)=s:=by
 induction s with
 | nil=>rfl
 | cons c r ih=>
  simp only [bytesOf,cf,List.map_cons,List.map_map] at ih ⊢
  rw [ih]
  simp
theorem C9 {xs:List Int} (h:∀y∈xs,0<=(y:Int)/\(y:Int)<=255):cf (bytesOf xs)=xs:=by
 induction xs with
 | nil=>rfl
 | cons y r ih=>
  have h1:=h y (by simp)
  have h2:=ih fun z hz=>h z (by simp [hz])
  simp only [cf,bytesOf,List.map_map,List.map_cons] at h2 ⊢
  rw [h2]
  congr 1
  simp only [UInt8.toNat_ofNat']
  omega
theorem Da (s:List UInt8):∀y∈cf s,0<=(y:Int)/\(y:Int)<=255:=by
 intro y hy
 simp only [cf,List.mem_map] at hy
 obtain ⟨c,_,rfl⟩:=hy
 have:=c.toNat_lt
 omega
theorem Gw {xs:List Int} (h:∀y∈xs,0<=(y:Int)/\(y:Int)<=255):xs.map (Value.int .u8)=(bytesOf xs).map fun c=>Value.int .u8 c.toNat:=by
 conv=>lhs;rw [<-C9 h]
 simp [cf]
theorem uf {T e:Nat} (hfn:∃fn,P.funcs[f]?=some fn/\fn.body.isNone=false/\(fn.name == "runtime.NumGoroutine")=false)
  (H:∀(b:Nat) (p v:Value) (xs:List Value) (s:ByteArray) (w:World),w.heap[b]?=some (.cells #[p,v] T (0,0))->(p = .pointer none\/p = .pointer (some ⟨b,0,none⟩))->w.ownsRow 0 e 1 v xs.length xs->v.ownBlock≠some b->
   (∀a n c,v = .slice (some a) n c->0 < c)->xs.length + s.size<=140737488355328->
   Calls P f #[.pointer (some ⟨b,0,none⟩), .string s] w fun r w'=>r = .returned (.tuple #[.int .i64 s.size, .nilIface])/\
    ∃v',w'.heap[b]?=some (.cells #[.pointer (some ⟨b,0,none⟩),v'] T (0,0))/\w'.ownsRow 0 e 1 v' (xs.length + s.size) (xs++Lib.strCells s)/\v'.ownBlock≠some b/\Kept b v w w'/\
     (∀a n c,v' = .slice (some a) n c->0 < c)/\(∀g,v'.ownBlock=some g->v.ownBlock=some g\/w.heap.size<=g)) :
  cG P eT X f false (oU T e):=by
 refine ⟨hfn,fun O st loc w args vs K hs g hO ha => ?_⟩
 unfold oU at hs
 split at hs
 case h_2=>exact hs.elim
 rename_i n s
 split at hs
 case h_2=>exact hs.elim
 rename_i t x hob
 split at hs
 case h_2=>exact hs.elim
 rename_i ht
 have ht':=Ty.eq_of_beq ht
 subst ht'
 rw [fc] at hs
 obtain ⟨⟨hT,he,hlen⟩,hs⟩:=hs
 match vs,ha with
 | [v0,v1], .cons h0 (.cons h1 .nil)=>
 obtain ⟨b,p,u,rfl,hD⟩:=yP g hob h0
 obtain ⟨rfl,hsl⟩:=fj.1 (show CR eT _ (.d .str s) v1 from h1)
 have hsz:(⟨s.toArray⟩:ByteArray).size=s.length:=by simp [ByteArray.size]
 have hT':x.2.1.toNat=T:=by rw [hT];rfl
 have he':x.2.2.1.toNat=e:=by rw [he];rfl
 have hheap:=hD.heap
 have hrow:=hD.row
 rw [hT'] at hheap
 rw [he'] at hrow
 refine (H b p u (x.1.map (Value.int .u8)) ⟨s.toArray⟩ w hheap hD.ptr (by simpa using hrow) hD.ne hD.cap (by simpa [hsz] using hlen)).mono ?_
 rintro r w' ⟨rfl,v',k1,k2,k3,k4,k5,k6⟩
 have hlt:b < w.heap.size:=(Array.getElem?_eq_some_iff.1 hheap).1
 obtain ⟨tr1,g1⟩:=ke (S:=aB O st loc w) (S':=aB O (setObj st n (.ext 2 fO (x.1++cf s,(T:Int),(e:Int),()))) (bx loc n ⟨.pointer (some ⟨b,0,none⟩),b :: v'.ownBlock.toList⟩) w') (n:=n)
  (oc:=.ext 2 fO x) (oc':=.ext 2 fO (x.1++cf s,(T:Int),(e:Int),())) (l':=⟨.pointer (some ⟨b,0,none⟩),b :: v'.ownBlock.toList⟩) g rfl hO hob
  (fun m=>jl st n m _) (fun _=>rfl) rfl (fun _=>⟨hD.lv.symm,fun h=>(h _ _ rfl).elim⟩) ⟨rfl,rfl⟩ k4.os k4.output k4.size
  (fun b' h1 h2=>k4.block b' h1 (fun e=>h2 (by simp only [aB];rw [hD.bs,e];simp)) (fun e=>h2 (by simp only [aB];rw [hD.bs,e];simp)))
  (fun b' o v _ ho=>by simp [OC.lo] at ho)
  (fun b' hb'=>by
   rcases List.mem_cons.1 hb' with rfl | hb'
   ·exact .inl ⟨by simp only [aB];rw [hD.bs];simp,Nat.le_refl _⟩
   ·have hb':v'.ownBlock=some b':=by simpa using hb'
    rcases k6 b' hb' with h | h
    ·exact .inl ⟨by simp only [aB];rw [hD.bs,h];simp,Nat.le_refl _⟩
    ·exact .inr h)
 have g1:=g1 (X.Hs.2 ⟨rfl,b, .pointer (some ⟨b,0,none⟩),v',rfl, .inr rfl,k1,by
  have e1:x.1.map (Value.int .u8)++Lib.strCells ⟨s.toArray⟩=(x.1++cf s).map (Value.int .u8):=by rw [rO,List.map_append]
  have e2:(x.1.map (Value.int .u8)).length + (⟨s.toArray⟩:ByteArray).size=(x.1++cf s).length:=by simp [hsz,cf]
  rw [e1,e2] at k2
  exact k2,rfl,k3,(fun y hy=>by
   rcases List.mem_append.1 hy with h | h
   ·exact hD.u8 y h
   ·exact Da s y h),k5⟩)
 refine ⟨_,_,_,_,rfl,hs,rfl,(fun hh=>by cases hh),g1,tr1,⟨[.int .i64 (⟨s.toArray⟩:ByteArray).size, .nilIface],rfl, .cons ?_ (.cons ?_ .nil)⟩⟩
 ·refine cd.2 ⟨by rw [hsz],?_⟩
  simp only [IntKind.min,IntKind.max,IntKind.signed,IntKind.bits]
  unfold aH at hsl
  constructor <;> simp <;> omega
 ·exact ie.2 rfl
theorem Db {O:aF} {st:St} {loc:Nat->Loc} {w w':World} (g:Good eT X (aB O st loc w)) {n:Nat} {oc0:OC} (hn:look st.aE n=some oc0) (h0:oc0.lo=0)
  (hos:w'.os=w.os) (hout:w'.output=w.output) (hsz:w.heap.size<=w'.heap.size) (hb:∀b,b < w.heap.size->b∉(loc n).bs->w'.heap[b]?=w.heap[b]?) :
  Tr (aB O st loc w) (aB O (aS st n) loc w')/\Good eT X (aB O (aS st n) loc w'):=by
 have hob:∀m oc,look (aS st n).aE m=some oc->m≠n/\look st.aE m=some oc:=by
  intro m oc h
  simp only [aS] at h
  rw [gW] at h
  split at h
  ·cases h
  ·rename_i hne;exact ⟨fun e=>hne e.symm,h⟩
 have hA:∀b o,(aB O (aS st n) loc w').A b o->(aB O st loc w).A b o:=by
  rintro b o (h | ⟨m,oc,h1,h2⟩)
  ·exact .inl h
  ·exact .inr ⟨m,oc,(hob _ _ h1).2,h2⟩
 have ht:Tr (aB O st loc w) (aB O (aS st n) loc w'):={
  O:=rfl
  next:=Nat.le_refl _
  os:=hos
  output:=hout
  size:=hsz
  own:=fun b h=>by obtain ⟨m,oc,h1,h2⟩:=h;exact .inl ⟨m,oc,(hob _ _ h1).2,h2⟩
  cell:=fun b o v h1 h2=>by
   have hlt:=World.block_lt_of_cell? w _ h2
   refine ⟨?_,fun h=>h1 (hA b o h)⟩
   show w'.cell? _=_
   rw [World.cell?_of_block (w:=w) (w':=w') (a:=⟨b,o,none⟩) (hb b hlt fun hm=>h1 (.inr ⟨n,oc0,hn,hm,by rw [h0];exact Nat.zero_le _⟩))]
   exact h2
  block:=fun b h1 h2=>hb b h1 fun hm=>h2 ⟨n,oc0,hn,hm⟩
  loc:=fun _ _ _=>iV rfl
  kind:=fun m oc _ h=>⟨oc,(hob _ _ h).2,by cases oc <;> simp [aN,aB]⟩}
 refine ⟨ht,⟨fun m oc h => ?_,fun m1 m2 oc1 oc2 b h1 h2 h3 h4 => ?_,fun m oc b off h1 h2 => ?_,g.ji.tr ht⟩⟩
 ·obtain ⟨hne,h⟩:=hob _ _ h
  obtain ⟨h1,h2⟩:=g.obj m oc h
  exact ⟨h1,h2.tr ht fun b hbm=>hb b (h2.inside b hbm) fun hbn=>hne (g.apart m n oc oc0 b h hn hbm hbn)⟩
 ·exact g.apart m1 m2 oc1 oc2 b (hob _ _ h1).2 (hob _ _ h2).2 h3 h4
 ·exact g.out m oc b off (hob _ _ h1).2 h2
theorem sP {T e:Nat} (hfn:∃fn,P.funcs[f]?=some fn/\fn.body.isNone=false/\(fn.name == "runtime.NumGoroutine")=false)
  (H:∀(b:Nat) (p v:Value) (l:List UInt8) (w:World),w.heap[b]?=some (.cells #[p,v] T (0,0))->w.ownsRow 0 e 1 v l.length (l.map fun c=>Value.int .u8 c.toNat)->(∀a n c,v = .slice (some a) n c->0 < c)->
   Calls P f #[.pointer (some ⟨b,0,none⟩)] w fun r w'=>r = .returned (.string ⟨l.toArray⟩)/\C7 v w w') :
  cG P eT X f false (mM T e):=by
 refine ⟨hfn,fun O st loc w args vs K hs g hO ha => ?_⟩
 unfold mM at hs
 split at hs
 case h_2=>exact hs.elim
 rename_i n
 split at hs
 case h_2=>exact hs.elim
 rename_i t x hob
 split at hs
 case h_2=>exact hs.elim
 rename_i ht
 have ht':=Ty.eq_of_beq ht
 subst ht'
 rw [fc] at hs
 obtain ⟨⟨hT,he⟩,hs⟩:=hs
 match vs,ha with
 | [v0], .cons h0 .nil=>
 obtain ⟨b,p,u,rfl,hD⟩:=yP g hob h0
 have hT':x.2.1.toNat=T:=by rw [hT];rfl
 have he':x.2.2.1.toNat=e:=by rw [he];rfl
 have hheap:=hD.heap
 have hrow:=hD.row
 rw [hT'] at hheap
 rw [he',Gw hD.u8,show x.1.length=(bytesOf x.1).length by simp [bytesOf]] at hrow
 refine (H b p u (bytesOf x.1) w hheap hrow hD.cap).mono ?_
 rintro r w' ⟨rfl,k⟩
 obtain ⟨tr1,g1⟩:=Db (w':=w') g hob rfl k.os k.output (by rw [k.size];exact Nat.le_refl _) (fun b' _ h2=>k.block b' fun e=>h2 (by rw [hD.bs,e];simp))
 refine ⟨_,_,_,_,rfl,hs,rfl,(fun hh=>by cases hh),g1,tr1,?_⟩
 refine (fj (eT:=eT) (S:=aB O (aS st n) loc w')).2 ⟨rfl,?_⟩
 rcases hrow.2 with ⟨_,h⟩ | ⟨_,cap,_,_,_,_,h1,h2,_⟩
 ·rw [h];exact Nat.zero_le _
 ·unfold maxLen at h2;unfold aH;omega
theorem xA {T e:Nat} (hfn:∃fn,P.funcs[f]?=some fn/\fn.body.isNone=false/\(fn.name == "runtime.NumGoroutine")=false)
  (H:∀(b:Nat) (p q:Value) (a:Option Addr) (n c:Nat) (w:World),w.heap[b]?=some (.cells #[p, .slice a n c] T (0,0))->
   Calls P f #[.pointer (some ⟨b,0,none⟩)] w fun r w'=>r = .returned (.int .i64 n)/\w'=w) :
  cG P eT X f true (ue T e):=by
 refine ⟨hfn,fun O st loc w args vs K hs g hO ha => ?_⟩
 unfold ue at hs
 split at hs
 case h_2=>exact hs.elim
 rename_i n
 split at hs
 case h_2=>exact hs.elim
 rename_i t x hob
 split at hs
 case h_2=>exact hs.elim
 rename_i ht
 have ht':=Ty.eq_of_beq ht
 subst ht'
 rw [fc] at hs
 obtain ⟨⟨hT,he⟩,hs⟩:=hs
 match vs,ha with
 | [v0], .cons h0 .nil=>
 obtain ⟨b,p,u,rfl,hD⟩:=yP g hob h0
 have hT':x.2.1.toNat=T:=by rw [hT];rfl
 have hheap:=hD.heap
 rw [hT'] at hheap
 obtain ⟨a,c,rfl,hl⟩:∃a c,u = .slice a x.1.length c/\x.1.length<=aH:=by
  rcases hD.row.2 with ⟨rfl,h⟩ | ⟨g',cap,cur,h,_,_,h1,h2,_⟩
  ·exact ⟨none,0,by rw [h],by rw [h];exact Nat.zero_le _⟩
  ·exact ⟨_,_,h,by unfold maxLen at h2;unfold aH;omega⟩
 refine (H b p p a x.1.length c w hheap).mono ?_
 rintro r w' ⟨rfl,rfl⟩
 refine ⟨_,_,_,loc,rfl,hs,rfl,fun _=>Below.refl _ _,g,Tr.refl _,?_⟩
 refine (cd (eT:=eT) (S:=aB O st loc w')).2 ⟨rfl,?_⟩
 unfold aH at hl
 simp only [IntKind.min,IntKind.max,IntKind.signed,IntKind.bits]
 constructor <;> simp <;> omega
end
end Go.Vg

namespace Go.Mrl
open Go.Vg
def small (c:UInt8):Bool:=decide ((97:Int)<=c.toNat) && decide ((c.toNat:Int)<=122)
def other (c:UInt8):Bool:=(decide ((48:Int)<=c.toNat) && decide ((c.toNat:Int)<=57)) || ((c.toNat:Int) == 95)
def ew (i:Nat) (c:UInt8):Bool:=!small c && ((i:Int) == 0 || !other c)
def nW (s:List UInt8):Bool:=(List.range s.length).any fun i=>ew i (bC s i)
def aI (s:List UInt8):Int:=if s.length < 1\/8 < s.length then 1 else if nW s=true then 3 else 0
def aX (n:Int):cg:=if n=0 then .nil else .no n
def cV:cg->Int->Bool
 | .nil,n=>n == 0
 | .no m,n=>decide (n > 0) && m == n
 | .other,_=>false
theorem kN {n:Int} (h:0<=n):cV (aX n) n=true:=by
 unfold aX
 split
 ·rename_i e;subst e;rfl
 ·simp [cV];omega
theorem bK (s:List UInt8):0<=aI s:=by
 unfold aI;split
 ·decide
 ·split <;> decide
theorem AX {s:List UInt8} {i:Nat} (h:i < s.length) (hb:ew i (bC s i)=true):nW s=true:=by
 simp only [nW,List.any_eq_true,List.mem_range]
 exact ⟨i,h,hb⟩
theorem yQ {s:List UInt8} (h:∀i,i < s.length->ew i (bC s i)=false):nW s=false:=by
 simp only [nW,List.any_eq_false,List.mem_range]
 intro i hi;rw [h i hi];simp
theorem wb {s:List UInt8} {i:Nat} (h:i < s.length):s[i]?=some (bC s i):=by
 rw [nH (List.getElem?_eq_getElem h),List.getElem?_eq_getElem h]
theorem pC {s:List UInt8} (h:s.length < 1\/8 < s.length):aI s=1:=by unfold aI;rw [if_pos h]
theorem eh {s:List UInt8} {i:Nat} (h:¬ (s.length < 1\/8 < s.length)) (hi:i < s.length) (hb:ew i (bC s i)=true):aI s=3:=by
 unfold aI
 rw [if_neg h,if_pos (AX hi hb)]
theorem nX {s:List UInt8} (h:¬ (s.length < 1\/8 < s.length)) (hb:∀i,i < s.length->ew i (bC s i)=false):aI s=0:=by
 unfold aI
 rw [if_neg h,if_neg (by rw [yQ hb];decide)]
theorem gi {i:Nat} {c:UInt8}:ew i c=true ↔ ¬ (97<=c.toNat/\c.toNat<=122)/\(i=0\/¬ ((48<=c.toNat/\c.toNat<=57)\/c.toNat=95)):=by
 simp only [ew,small,other,Bool.and_eq_true,Bool.not_eq_true',Bool.and_eq_false_iff,Bool.or_eq_true,Bool.or_eq_false_iff,decide_eq_false_iff_not,beq_iff_eq,beq_eq_false_iff_ne]
 omega
theorem fR {i:Nat} {c:UInt8}:ew i c=false ↔ ¬ (¬ (97<=c.toNat/\c.toNat<=122)/\(i=0\/¬ ((48<=c.toNat/\c.toNat<=57)\/c.toNat=95))):=by
 rw [<-gi];simp
theorem jq {s:List UInt8} {i:Nat} (h:∀j,j < i->ew j (bC s j)=false) (hb:ew i (bC s i)=false):∀j,j < i + 1->ew j (bC s j)=false:=by
 intro j hj
 rcases Nat.lt_or_ge j i with hlt | hge
 ·exact h j hlt
 ·obtain rfl:j=i:=by omega
  exact hb
end Go.Mrl

namespace Go.Mrl
open Go.Vg
def ld (p:D aD->Prop) (l:List (D aA)) (i k:Nat):Prop:=
 i < l.length/\k < (nth aA l i).2.2.1.length/\p (nth aD (nth aA l i).2.2.1 k)
def wc (s:List UInt8) (x:D aD):Prop:=x.1=s
def kr (s:List UInt8) (x:D aD):Prop:=x.1=s/\x.2.2.1=false
def ahead (i k i' k':Nat):Prop:=i < i'\/(i=i'/\k < k')
def nY (p:D aD->Prop) (l:List (D aA)) (i k:Nat):Prop:=∀i' k',ahead i' k' i k->¬ ld p l i' k'
def jU (p:D aD->Prop) (l:List (D aA)) (i k:Nat):Prop:=ld p l i k/\nY p l i k
theorem qk {p:D aD->Prop} {l:List (D aA)} {i k i' k':Nat} (h:jU p l i k) (h':jU p l i' k'):i=i'/\k=k':=by
 have h1:¬ ahead i k i' k':=fun a=>h'.2 i k a h.1
 have h2:¬ ahead i' k' i k:=fun a=>h.2 i' k' a h'.1
 unfold ahead at h1 h2
 omega
open Classical in
noncomputable def dU (x:List (D aA) × List UInt8):Int × Int:=
 if h:∃p:Nat × Nat,jU (kr x.2) x.1 p.1 p.2 then (((Classical.choose h).1:Nat),((Classical.choose h).2:Nat))
 else if h:∃p:Nat × Nat,jU (wc x.2) x.1 p.1 p.2 then (((Classical.choose h).1:Nat),((Classical.choose h).2:Nat))
 else (-1,-1)
theorem mb {l:List (D aA)} {s:List UInt8} {i k:Nat} (h:jU (kr s) l i k):dU (l,s)=((i:Int),(k:Int)):=by
 have hx:∃p:Nat × Nat,jU (kr s) l p.1 p.2:=⟨(i,k),h⟩
 unfold dU
 rw [dif_pos hx]
 have:=qk h (Classical.choose_spec hx)
 rw [<-this.1,<-this.2]
theorem ug {l:List (D aA)} {s:List UInt8} {i k:Nat} (hn:∀i k,¬ ld (kr s) l i k) (h:jU (wc s) l i k):dU (l,s)=((i:Int),(k:Int)):=by
 have hx:∃p:Nat × Nat,jU (wc s) l p.1 p.2:=⟨(i,k),h⟩
 unfold dU
 rw [dif_neg (fun ⟨p,h⟩=>hn p.1 p.2 h.1),dif_pos hx]
 have:=qk h (Classical.choose_spec hx)
 rw [<-this.1,<-this.2]
theorem uh {l:List (D aA)} {s:List UInt8} (hn:∀i k,¬ ld (wc s) l i k):dU (l,s)=(-1,-1):=by
 unfold dU
 rw [dif_neg (fun ⟨p,h⟩=>hn p.1 p.2 ⟨h.1.1,h.1.2.1,h.1.2.2.1⟩),dif_neg (fun ⟨p,h⟩=>hn p.1 p.2 h.1)]
def er (l:List (D aA)) (s:List UInt8) (i k:Nat) (a b:Int):Prop:=
 nY (kr s) l i k/\((a = -1/\b = -1/\nY (wc s) l i k)\/∃i0 k0:Nat,a=i0/\b=k0/\jU (wc s) l i0 k0)
theorem er.start (l:List (D aA)) (s:List UInt8):er l s 0 0 (-1) (-1):=
 ⟨fun i' k' h=>by unfold ahead at h;omega, .inl ⟨rfl,rfl,fun i' k' h=>by unfold ahead at h;omega⟩⟩
theorem nY.next {p:D aD->Prop} {l:List (D aA)} {i k:Nat} (h:nY p l i k) (hn:¬ ld p l i k):nY p l i (k + 1):=by
 intro i' k' ha hp
 by_cases e:i'=i/\k'=k
 ·rw [e.1,e.2] at hp;exact hn hp
 ·exact h i' k' (by unfold ahead at *;omega) hp
theorem er.skip {l:List (D aA)} {s:List UInt8} {i k:Nat} {a b:Int} (h:er l s i k a b) (hn:¬ (nth aD (nth aA l i).2.2.1 k).1=s):er l s i (k + 1) a b:=by
 refine ⟨h.1.next fun hp=>hn hp.2.2.1,?_⟩
 rcases h.2 with ⟨h1,h2,h3⟩ | h3
 ·exact .inl ⟨h1,h2,h3.next fun hp=>hn hp.2.2⟩
 ·exact .inr h3
theorem er.IZ {l:List (D aA)} {s:List UInt8} {i k:Nat} {a b:Int} (h:er l s i k a b) (hi:i < l.length) (hk:k < (nth aA l i).2.2.1.length)
  (hs:(nth aD (nth aA l i).2.2.1 k).1=s) (hw:(nth aD (nth aA l i).2.2.1 k).2.2.1=false):dU (l,s)=((i:Int),(k:Int)):=
 mb ⟨⟨hi,hk,hs,hw⟩,h.1⟩
theorem er.u9 {l:List (D aA)} {s:List UInt8} {i k:Nat} {a b:Int} (h:er l s i k a b) (hi:i < l.length) (hk:k < (nth aA l i).2.2.1.length)
  (hs:(nth aD (nth aA l i).2.2.1 k).1=s) (hw:¬ (nth aD (nth aA l i).2.2.1 k).2.2.1=false) (ha:a < 0):er l s i (k + 1) (i:Int) (k:Int):=by
 refine ⟨h.1.next fun hp=>hw hp.2.2.2, .inr ⟨i,k,rfl,rfl,⟨hi,hk,hs⟩,?_⟩⟩
 rcases h.2 with ⟨_,_,h3⟩ | ⟨i0,k0,h1,_⟩
 ·exact h3
 ·omega
theorem er.more {l:List (D aA)} {s:List UInt8} {i k:Nat} {a b:Int} (h:er l s i k a b)
  (hw:¬ (nth aD (nth aA l i).2.2.1 k).2.2.1=false) (ha:¬ a < 0):er l s i (k + 1) a b:=by
 refine ⟨h.1.next fun hp=>hw hp.2.2.2,?_⟩
 rcases h.2 with ⟨h1,_,_⟩ | h3
 ·omega
 ·exact .inr h3
theorem nY.row {p:D aD->Prop} {l:List (D aA)} {i k:Nat} (h:nY p l i k) (hk:(nth aA l i).2.2.1.length<=k):nY p l (i + 1) 0:=by
 intro i' k' ha hp
 refine h i' k' ?_ hp
 unfold ahead at *
 by_cases e:i'=i
 ·subst e;have:=hp.2.1;omega
 ·omega
theorem er.row {l:List (D aA)} {s:List UInt8} {i k:Nat} {a b:Int} (h:er l s i k a b) (hk:(nth aA l i).2.2.1.length<=k):er l s (i + 1) 0 a b:=by
 refine ⟨h.1.row hk,?_⟩
 rcases h.2 with ⟨h1,h2,h3⟩ | h3
 ·exact .inl ⟨h1,h2,h3.row hk⟩
 ·exact .inr h3
theorem nY.all {p:D aD->Prop} {l:List (D aA)} {i k:Nat} (h:nY p l i k) (hi:l.length<=i):∀i k,¬ ld p l i k:=
 fun i' k' hp=>h i' k' (by have:=hp.1;unfold ahead;omega) hp
theorem er.done {l:List (D aA)} {s:List UInt8} {i k:Nat} {a b:Int} (h:er l s i k a b) (hi:l.length<=i):dU (l,s)=(a,b):=by
 rcases h.2 with ⟨rfl,rfl,h3⟩ | ⟨i0,k0,rfl,rfl,h3⟩
 ·exact uh (h3.all hi)
 ·exact ug (h.1.all hi) h3
theorem iq {p:Nat->Prop} {n:Nat} (h:∀j,j < n->p j) (hn:p n):∀j,j < n + 1->p j:=by
 intro j hj
 by_cases e:j=n
 ·rw [e];exact hn
 ·exact h j (by omega)
def hU (o:D aA):Prop:=o.1.length<=6/\o.2.1.length<=50/\o.2.2.1.length<=10/\o.2.2.2.1.length<=10/\
 (∀i,i < o.1.length->(nth .str o.1 i).length<=20)/\(∀i,i < o.2.2.1.length->(nth aD o.2.2.1 i).1.length<=20)/\(∀i,i < o.2.2.2.1.length->(nth aL o.2.2.2.1 i).2.2.2.1.length<=20)
def lO (l:List (D aA)):Prop:=l.length<=8/\∀i,i < l.length->hU (nth aA l i)
end Go.Mrl

namespace Go.Mrl
open Go.Vg
end Go.Mrl
namespace Go.Mrl
open Go.Vg
end Go.Mrl
namespace Go.Mrl
open Go.Vg
end Go.Mrl

namespace Go.Mrl
open Go.Vg
end Go.Mrl
namespace Go.Mrl
open Go.Vg
end Go.Mrl
namespace Go.Mrl
open Go.Vg
end Go.Mrl
namespace Go.Mrl
open Go.Vg
end Go.Mrl
namespace Go.Mrl
open Go.Vg
end Go.Mrl
namespace Go.Mrl
open Go.Vg
end Go.Mrl

namespace Go.Mrl
open Go.Vg
theorem mc {t:Ty} {xs:List (D t)} {i:Nat} (h:i < xs.length):xs[i]?=some (nth t xs i):=by
 rw [List.getElem?_eq_getElem h,<-dN (List.getElem?_eq_getElem h)]
theorem jx {t:Ty} {xs:List (D t)} {i:Nat} (h:i < xs.length):nth t xs i∈xs:=by
 have:=mc (t:=t) h
 exact List.mem_of_getElem? this
theorem B3 {t:Ty} {xs:List (D t)} {x:D t} (h:x∈xs):∃i,i < xs.length/\nth t xs i=x:=by
 obtain ⟨i,hi,e⟩:=List.getElem_of_mem h
 exact ⟨i,hi,by rw [<-e];exact dN (List.getElem?_eq_getElem hi)⟩
end Go.Mrl
namespace Go.Mrl
open Go.Vg
end Go.Mrl
namespace Go.Mrl
open Go.Vg
end Go.Mrl
namespace Go.Mrl
open Go.Vg
end Go.Mrl
namespace Go.Mrl
open Go.Vg
end Go.Mrl

namespace Go.Mrl
open Go.Vg
theorem kO {t:Ty} {a b:List (D t)} (hl:a.length=b.length) (h:∀i,i < a.length->nth t a i=nth t b i):a=b:=by
 apply List.ext_getElem hl
 intro i h1 h2
 have:=h i h1
 rwa [show nth t a i=a[i] from dN (List.getElem?_eq_getElem h1),show nth t b i=b[i] from dN (List.getElem?_eq_getElem h2)] at this
def fX (a b:List Int):Bool:=decide (a=b)
def cZ (a b:List (List UInt8)):Bool:=decide (a=b)
theorem Dc {a b:List Int} (hl:(a.length:Int)=b.length) (h:∀i,i < a.length->nth (.int .i64) a i=nth (.int .i64) b i):true=fX a b:=by
 rw [kO (t:=.int .i64) (by omega) h];simp [fX]
theorem EL {a b:List Int} (hl:¬ (a.length:Int)=b.length):false=fX a b:=by
 symm;simp only [fX,decide_eq_false_iff_not];intro e;exact hl (by rw [e])
theorem Gx {a b:List Int} {i:Nat} (h:¬ nth (.int .i64) a i=nth (.int .i64) b i):false=fX a b:=by
 symm;simp only [fX,decide_eq_false_iff_not];intro e;exact h (by rw [e])
theorem Dd {a b:List (List UInt8)} (hl:(a.length:Int)=b.length) (h:∀i,i < a.length->nth .str a i=nth .str b i):true=cZ a b:=by
 rw [kO (t:=.str) (by omega) h];simp [cZ]
theorem EM {a b:List (List UInt8)} (hl:¬ (a.length:Int)=b.length):false=cZ a b:=by
 symm;simp only [cZ,decide_eq_false_iff_not];intro e;exact hl (by rw [e])
theorem Gy {a b:List (List UInt8)} {i:Nat} (h:¬ nth .str a i=nth .str b i):false=cZ a b:=by
 symm;simp only [cZ,decide_eq_false_iff_not];intro e;exact h (by rw [e])
theorem JJ {α:Type} {p:Nat->α->Prop} {f:Nat->α} {k:Nat} (h:∀j,j < k->p j (f j)) (hk:p k (f k)):∀j,j < k + 1->p j (f j):=by
 intro j hj
 by_cases e:j=k
 ·subst e;exact hk
 ·exact h j (by omega)
theorem ql {p:Nat->Prop} {k:Nat} (h:∀j,j < k->p j) (hk:p k):∀j,j < k + 1->p j:=by
 intro j hj
 by_cases e:j=k
 ·subst e;exact hk
 ·exact h j (by omega)
end Go.Mrl

namespace Go.Mrl
open Go.Vg
theorem oV {t:Ty} {a b:List (D t)} {i:Nat}:nth t (a++b) i=if i < a.length then nth t a i else nth t b (i - a.length):=by
 unfold nth
 simp only [List.getD_eq_getElem?_getD,List.getElem?_append]
 split <;> rfl
theorem yR {t:Ty} {a:List (D t)} {n i:Nat} (h:i < n):nth t (a.take n) i=nth t a i:=by
 unfold nth
 simp only [List.getD_eq_getElem?_getD,List.getElem?_take,if_pos h]
end Go.Mrl

namespace Go.Mrl
open Go.Vg
theorem ui {t:Ty} {l:List (D t)} {i j:Nat} {x:D t} (h:¬ i=j):nth t (l.set i x) j=nth t l j:=by
 unfold nth;simp only [List.getD_eq_getElem?_getD];rw [List.getElem?_set_ne h]
theorem uj {t:Ty} {l:List (D t)} {i:Nat} {x:D t} (h:i < l.length):nth t (l.set i x) i=x:=by
 unfold nth;simp only [List.getD_eq_getElem?_getD];rw [List.getElem?_set_self h];rfl
theorem we {t:Ty} {l:List (D t)} {k:Nat} (h:k < l.length):l.take (k + 1)=l.take k++[nth t l k]:=by
 rw [List.take_add_one,mc h];rfl
end Go.Mrl

namespace Go.Mrl
open Go.Vg
theorem eC {t:Ty} {l:List (D t)} {i:Nat} (h:i < l.length):l.drop i=nth t l i :: l.drop (i + 1):=by
 rw [List.drop_eq_getElem_cons h]
 congr 1
 have:=mc h
 rw [List.getElem?_eq_getElem h] at this
 exact Option.some.inj this
def et (l:List (D aA)) (s:List UInt8) (pass i k:Nat):Prop:=
 (pass=0->nY (kr s) l i k)/\(pass=1->(∀i k,¬ ld (kr s) l i k)/\nY (wc s) l i k)/\(2<=pass->∀i k,¬ ld (wc s) l i k)
theorem et.start (l:List (D aA)) (s:List UInt8):et l s 0 0 0:=
 ⟨fun _ i' k' h=>by unfold ahead at h;omega,fun h=>by omega,fun h=>by omega⟩
theorem et.row {l:List (D aA)} {s:List UInt8} {pass i k:Nat} (h:et l s pass i k) (hk:(nth aA l i).2.2.1.length<=k):et l s pass (i + 1) 0:=
 ⟨fun e=>(h.1 e).row hk,fun e=>⟨(h.2.1 e).1,(h.2.1 e).2.row hk⟩,h.2.2⟩
theorem et.pass {l:List (D aA)} {s:List UInt8} {pass i k:Nat} (h:et l s pass i k) (hi:l.length<=i):et l s (pass + 1) 0 0:=by
 refine ⟨fun e=>by omega,fun e => ?_,fun e => ?_⟩
 ·obtain rfl:pass=0:=by omega
  exact ⟨(h.1 rfl).all hi,fun i' k' h=>by unfold ahead at h;omega⟩
 ·by_cases c:pass=1
  ·exact (h.2.1 c).2.all hi
  ·exact h.2.2 (by omega)
theorem et.next {l:List (D aA)} {s:List UInt8} {pass i k:Nat} (h:et l s pass i k) (hn:¬ ((nth aD (nth aA l i).2.2.1 k).1=s/\((nth aD (nth aA l i).2.2.1 k).2.2.1=true ↔ (pass:Int)=1))):et l s pass i (k + 1):=by
 refine ⟨fun e=>(h.1 e).next fun hp=>hn ⟨hp.2.2.1,?_⟩,fun e=>⟨(h.2.1 e).1,(h.2.1 e).2.next fun hp=>hn ⟨hp.2.2,?_⟩⟩,h.2.2⟩
 ·rw [hp.2.2.2];simp;omega
 ·subst e
  have:=(h.2.1 rfl).1 i k
  cases c:(nth aD (nth aA l i).2.2.1 k).2.2.1 with
  | true=>simp
  | false=>exact absurd ⟨hp.1,hp.2.1,hp.2.2,c⟩ this
theorem et.found {l:List (D aA)} {s:List UInt8} {pass i k:Nat} (h:et l s pass i k) (hp:pass < 2) (hi:i < l.length) (hk:k < (nth aA l i).2.2.1.length) (hs:(nth aD (nth aA l i).2.2.1 k).1=s)
  (hw:(nth aD (nth aA l i).2.2.1 k).2.2.1=true ↔ (pass:Int)=1):dU (l,s)=((i:Int),(k:Int)):=by
 by_cases c:pass=0
 ·subst c
  refine mb ⟨⟨hi,hk,hs,?_⟩,h.1 rfl⟩
  cases c:(nth aD (nth aA l i).2.2.1 k).2.2.1 with
  | true=>have:=hw.1 c;simp at this
  | false=>rfl
 ·have h1:=h.2.1 (by omega)
  exact ug h1.1 ⟨⟨hi,hk,hs⟩,h1.2⟩
theorem et.done {l:List (D aA)} {s:List UInt8} {pass i k:Nat} (h:et l s pass i k) (hp:¬ pass < 2):dU (l,s)=(-1,-1):=uh (h.2.2 (by omega))
end Go.Mrl

namespace Go.Mrl
open Go.Vg
abbrev aC:=List UInt8
def iy (a b:aC):Prop:=Op.bytesLess a b=true
theorem yS (a:UInt8):¬ a < a:=fun h=>by have:=UInt8.lt_iff_toNat_lt.1 h;omega
theorem jV:∀a:aC,¬ iy a a
 | []=>fun h=>by cases h
 | a :: x=>fun h=>by
  unfold iy at h
  simp only [Op.bytesLess,Bool.or_eq_true,decide_eq_true_eq,Bool.and_eq_true] at h
  rcases h with h | ⟨_,h⟩
  ·exact yS a h
  ·exact jV x h
theorem qm:∀{a b c:aC},iy a b->iy b c->iy a c
 | a,[],_,h,_=>by unfold iy at h;cases a <;> simp [Op.bytesLess] at h
 | _,_ :: _,[],_,h=>by unfold iy at h;simp [Op.bytesLess] at h
 | [],_ :: _,_ :: _,_,_=>rfl
 | a :: x,b :: y,c :: z,h1,h2=>by
  unfold iy at h1 h2 ⊢
  simp only [Op.bytesLess,Bool.or_eq_true,decide_eq_true_eq,Bool.and_eq_true,beq_iff_eq] at h1 h2 ⊢
  rcases h1 with h1 | ⟨rfl,h1⟩
  ·rcases h2 with h2 | ⟨rfl,h2⟩
   ·left;rw [UInt8.lt_iff_toNat_lt] at *;omega
   ·exact .inl h1
  ·rcases h2 with h2 | ⟨rfl,h2⟩
   ·exact .inl h2
   ·exact .inr ⟨rfl,qm h1 h2⟩
theorem mN:∀{a b:aC},¬ iy a b->¬ iy b a->a=b
 | [],[],_,_=>rfl
 | [],_ :: _,h,_=>(h rfl).elim
 | _ :: _,[],_,h=>(h rfl).elim
 | a :: x,b :: y,h1,h2=>by
  unfold iy at h1 h2
  simp only [Op.bytesLess,Bool.or_eq_true,decide_eq_true_eq,Bool.and_eq_true,beq_iff_eq,not_or,not_and] at h1 h2
  have hab:a=b:=by
   apply UInt8.toNat_inj.1
   have h3:=h1.1;have h4:=h2.1
   rw [UInt8.lt_iff_toNat_lt] at h3 h4
   omega
  subst hab
  rw [mN (h1.2 rfl) (h2.2 rfl)]
def iR (a b:aC):Prop:=¬ iy b a
theorem yT (a:aC):iR a a:=jV a
theorem lf {a b:aC} (h:iy a b):iR a b:=fun h'=>jV a (qm h h')
theorem qn {a b c:aC} (h1:iR a b) (h2:iR b c):iR a c:=by
 intro h
 by_cases hab:iy a b
 ·exact h2 (qm h hab)
 ·have:=mN hab h1;subst this;exact h2 h
theorem yU {a b:aC} (h1:iR a b) (h2:iR b a):a=b:=mN h2 h1
theorem qo {a b:aC} (h1:iR a b) (h2:a≠b):iy a b:=Classical.byContradiction fun h=>h2 (mN h h1)
theorem lq:∀{a b:List aC},a.Perm b->a.Pairwise iR->b.Pairwise iR->a=b
 | [],b,hp,_,_=>hp.nil_eq
 | x :: a,[],hp,_,_=>by have:=hp.length_eq;simp at this
 | x :: a,y :: b,hp,ha,hb=>by
  have ha':=List.pairwise_cons.1 ha
  have hb':=List.pairwise_cons.1 hb
  have hxy:x=y:=by
   have h1:x∈y :: b:=hp.mem_iff.1 (by simp)
   have h2:y∈x :: a:=hp.mem_iff.2 (by simp)
   rcases List.mem_cons.1 h1 with h1 | h1
   ·exact h1
   ·rcases List.mem_cons.1 h2 with h2 | h2
    ·exact h2.symm
    ·exact yU (ha'.1 y h2) (hb'.1 x h1)
  subst hxy
  rw [lq (List.perm_cons x |>.1 hp) ha'.2 hb'.2]
def sQ (x:aC):List aC->List aC
 | []=>[x]
 | y :: r=>if Op.bytesLess y x=true then y :: sQ x r else x :: y :: r
def fY (l:List aC):List aC:=l.foldr sQ []
theorem qp (x:aC):∀l:List aC,(sQ x l).Perm (x :: l)
 | [] => .refl _
 | y :: r=>by
  unfold sQ
  split
  ·exact ((qp x r).cons y).trans (List.Perm.swap x y r)
  ·exact .refl _
theorem rW (x:aC):∀{l:List aC},l.Pairwise iR->(sQ x l).Pairwise iR
 | [],_=>by simp [sQ]
 | y :: r,h=>by
  have h':=List.pairwise_cons.1 h
  unfold sQ
  split
  ·rename_i c
   refine List.pairwise_cons.2 ⟨fun z hz => ?_,rW x h'.2⟩
   rcases List.mem_cons.1 ((qp x r).mem_iff.1 hz) with rfl | hz
   ·exact lf c
   ·exact h'.1 z hz
  ·rename_i c
   have hxy:iR x y:=c
   refine List.pairwise_cons.2 ⟨fun z hz => ?_,h⟩
   rcases List.mem_cons.1 hz with rfl | hz
   ·exact hxy
   ·exact qn hxy (h'.1 z hz)
theorem lH:∀l:List aC,(fY l).Perm l
 | [] => .refl _
 | x :: l=>(qp x _).trans ((lH l).cons x)
theorem jW:∀l:List aC,(fY l).Pairwise iR
 | [] => .nil
 | x :: l=>rW x (jW l)
theorem yV {a b:List aC} (hp:a.Perm b) (hs:a.Pairwise iR):fY b=a:=lq ((lH b).trans hp.symm) (jW b) hs
theorem xB {a b:List aC} (hp:a.Perm b):fY a=fY b:=lq ((lH a).trans (hp.trans (lH b).symm)) (jW a) (jW b)
def mO (l:List aC) (j:Nat):List aC:=(l.set j (nth .str l (j - 1))).set (j - 1) (nth .str l j)
theorem yW (l:List aC) (j:Nat):(mO l j).length=l.length:=by simp [mO]
theorem De {l:List aC} {j:Nat} (h0:0 < j) (h:j < l.length):(mO l j).Perm l:=by
 have e1:nth .str l (j - 1)=l[j - 1]:=dN (t:=.str) (List.getElem?_eq_getElem (by omega))
 have e2:nth .str l j=l[j]:=dN (t:=.str) (List.getElem?_eq_getElem h)
 unfold mO
 rw [e1,e2]
 exact List.set_set_perm h (by omega)
theorem wg {l:List aC} {j k:Nat} (h0:0 < j) (h:j < l.length):nth .str (mO l j) k=if k=j then nth .str l (j - 1) else if k=j - 1 then nth .str l j else nth .str l k:=by
 unfold mO
 by_cases c:k=j - 1
 ·subst c
  rw [uj (t:=.str) (by simp;omega),if_neg (by omega),if_pos rfl]
 ·rw [ui (t:=.str) (fun e=>c e.symm)]
  by_cases c2:k=j
  ·subst c2;rw [uj (t:=.str) h,if_pos rfl]
  ·rw [ui (t:=.str) (fun e=>c2 e.symm),if_neg c2,if_neg c]
def qq (l:List aC) (i:Nat):Prop:=∀a b,a < b->b < i->iR (nth .str l a) (nth .str l b)
def pD (l:List aC) (i j:Nat):Prop:=∀a b,a < b->b<=i->b≠j->iR (nth .str l a) (nth .str l b)
theorem pD.start {l:List aC} {i:Nat} (h:qq l i):pD l i i:=fun a b h1 h2 h3=>h a b h1 (by omega)
theorem pD.swap {l:List aC} {i j:Nat} (h:pD l i j) (h0:0 < j) (hj:j < l.length) (hi:j<=i) (hlt:iy (nth .str l j) (nth .str l (j - 1))):pD (mO l j) i (j - 1):=by
 intro a b h1 h2 h3
 rw [wg h0 hj,wg h0 hj]
 by_cases cb:b=j
 ·subst cb
  rw [if_pos rfl,if_neg (by omega)]
  by_cases ca:a=b - 1
  ·rw [if_pos ca];exact lf hlt
  ·rw [if_neg ca];exact h a (b - 1) (by omega) (by omega) (by omega)
 ·rw [if_neg cb,if_neg h3]
  by_cases ca:a=j
  ·subst ca;rw [if_pos rfl];exact h (a - 1) b (by omega) h2 cb
  ·rw [if_neg ca]
   by_cases ca2:a=j - 1
   ·rw [if_pos ca2];exact h j b (by omega) h2 cb
   ·rw [if_neg ca2];exact h a b h1 h2 cb
theorem pD.done {l:List aC} {i j:Nat} (h:pD l i j) (hj:j=0\/¬ iy (nth .str l j) (nth .str l (j - 1))) (hi:j<=i):qq l (i + 1):=by
 intro a b h1 h2
 by_cases c:b=j
 ·subst c
  rcases hj with hj | hj
  ·omega
  ·by_cases ca:a=b - 1
   ·rw [ca];exact hj
   ·exact qn (h a (b - 1) (by omega) (by omega) (by omega)) hj
 ·exact h a b h1 (by omega) c
theorem AY {l:List aC} (h:qq l l.length):l.Pairwise iR:=by
 rw [List.pairwise_iff_getElem]
 intro i j hi hj hij
 have:=h i j hij hj
 rwa [show nth .str l i=l[i] from dN (t:=.str) (List.getElem?_eq_getElem hi),show nth .str l j=l[j] from dN (t:=.str) (List.getElem?_eq_getElem hj)] at this
theorem EN {l xs:List aC} (hp:l.Perm xs) (h:qq l l.length):l=fY xs:=(yV hp (AY h)).symm
end Go.Mrl

namespace Go.Mrl
open Go.Vg
end Go.Mrl

namespace Go.Mrl
open Go.Vg
theorem vj {a:Int} (h0:0<=a) (h:a < 18446744073709551616):IntKind.u64.wrap a=a:=
 nE (by simp [IntKind.min,IntKind.max,IntKind.signed,IntKind.bits];omega)
theorem bN {n:Int}:(aX n).isNil=true ↔ n=0:=by
 unfold aX;split
 ·rename_i h;simp [h,cg.isNil]
 ·rename_i h;simp [h,cg.isNil]
theorem nZ {a:Int} (h0 : -9223372036854775808<=a) (h:a < 9223372036854775808):IntKind.i64.wrap a=a:=
 nE (by rw [lK];unfold aJ;omega)
end Go.Mrl
namespace Go.Mrl
open Go.Vg
def lg (e:D ez):Prop:=e.1.length<=20/\e.2.1.length<=8/\e.2.2.1.length<=40/\∀i,i < e.2.1.length->(nth fQ e.2.1 i).1.length<=20
def qt (a:D bB):Prop:=a.2.1.length<=100/\a.2.2.1.length<=1300/\lg a.2.2.2.2.2.1
def ku (l:List (D bB)) (m:Int):Prop:=(l.length:Int)<=m/\∀i,i < l.length->qt (nth bB l i)
end Go.Mrl

namespace Go.Mrl
open Go.Vg
@[reducible] def cq:Ty:=.prod .str (.prod (.int .i64) .unit)
abbrev FE:=aC × (aC × Int × Unit) × Int × Unit
abbrev eH:=(Int × Unit) × (List FE × Int × Unit) × Unit
def bS (y:FE):Int:=y.2.2.1
def fz (y:FE):aC:=y.1
def bF (x:eH) (s:aC):aC × Int × Int:=
 if cY cq x.2.1.1 s=true then ((jN cq x.2.1.1 s).1,(jN cq x.2.1.1 s).2.1,0) else ([],0,5)
def db (x:eH) (s t:aC):eH × Int:=
 if ¬ aI s=0 then (x,aI s) else if 1200 < t.length then (x,2)
 else if (cY cq x.2.1.1 s=false/\x.2.1.1.length=6)\/x.1.1=1000000 then (x,8)
 else (((x.1.1 + 1,()),(dF cq x.2.1.1 s (t,x.1.1 + 1,()) x.2.1.2.1,gI cq x.2.1.1 s x.2.1.2.1,()),()),0)
def dv (x:eH) (s:aC):eH × Int:=
 if cY cq x.2.1.1 s=true then ((x.1,(eU cq x.2.1.1 s,x.2.1.2.1,()),()),0) else (x,5)
def jX (x:eH):List aC:=fY (x.2.1.1.map fz)
def rm:eH:=((0,()),([],0,()),())
theorem mP {x:eH} {s:aC} (h:cY cq x.2.1.1 s=false):bF x s=([],0,5):=by unfold bF;rw [if_neg (by rw [h];simp)]
theorem oW {x:eH} {s:aC} (h:cY cq x.2.1.1 s=true):bF x s=((jN cq x.2.1.1 s).1,(jN cq x.2.1.1 s).2.1,0):=by unfold bF;rw [if_pos h]
theorem qu {x:eH} {s t:aC} (h:¬ aI s=0):db x s t=(x,aI s):=by unfold db;rw [if_pos h]
theorem qv {x:eH} {s t:aC} (h:aI s=0) (h1:1200 < t.length):db x s t=(x,2):=by unfold db;rw [if_neg (by simp [h]),if_pos h1]
theorem qw {x:eH} {s t:aC} (h:aI s=0) (h1:¬ 1200 < t.length) (h2:(cY cq x.2.1.1 s=false/\x.2.1.1.length=6)\/x.1.1=1000000):db x s t=(x,8):=by unfold db;rw [if_neg (by simp [h]),if_neg h1,if_pos h2]
theorem uk {x:eH} {s t:aC} (h:aI s=0) (h1:¬ 1200 < t.length) (h2:¬ ((cY cq x.2.1.1 s=false/\x.2.1.1.length=6)\/x.1.1=1000000)) :
  db x s t=(((x.1.1 + 1,()),(dF cq x.2.1.1 s (t,x.1.1 + 1,()) x.2.1.2.1,gI cq x.2.1.1 s x.2.1.2.1,()),()),0):=by unfold db;rw [if_neg (by simp [h]),if_neg h1,if_neg h2]
theorem rX {x:eH} {s:aC} (h:cY cq x.2.1.1 s=false):dv x s=(x,5):=by unfold dv;rw [if_neg (by rw [h];simp)]
theorem qx {x:eH} {s:aC} (h:cY cq x.2.1.1 s=true):dv x s=((x.1,(eU cq x.2.1.1 s,x.2.1.2.1,()),()),0):=by unfold dv;rw [if_pos h]
theorem EO {es:List FE} {seen:List Int} {y:FE} (h:y∈eG cq es seen):(eG cq es (seen++[bS y])).length < (eG cq es seen).length:=by
 have e:eG cq es (seen++[bS y])=(eG cq es seen).filter fun z => !(bS z == bS y):=by
  unfold eG
  rw [List.filter_filter]
  apply List.filter_congr
  intro z _
  show (!(seen++[bS y]).contains (bS z))=_
  rw [Bool.eq_iff_iff]
  simp [bS,and_comm]
 rw [e]
 exact List.length_filter_lt_length_iff_exists.2 ⟨y,h,by simp⟩
theorem xC {α β:Type} {f:α->β} {l:List α} (h:(l.map f).Nodup):l.Nodup:=by
 unfold List.Nodup at h ⊢
 rw [List.pairwise_map] at h
 exact h.imp fun hne e=>hne (by rw [e])
theorem qy {α:Type} [DecidableEq α]:∀{a b:List α},a.Nodup->(∀y∈a,y∈b)->a.length<=b.length
 | [],_,_,_=>by simp
 | x :: a,b,hn,hs=>by
  have hn':=List.nodup_cons.1 hn
  have h1:(b.erase x).length=b.length - 1:=List.length_erase_of_mem (hs x (by simp))
  have h2:0 < b.length:=List.length_pos_of_mem (hs x (by simp))
  have:=qy (b:=b.erase x) hn'.2 fun y hy=>(List.mem_erase_of_ne (fun (e:y=x)=>hn'.1 (by rw [<-e];exact hy))).2 (hs y (by simp [hy]))
  simp only [List.length_cons]
  omega
theorem yX {es x:List FE} (hs:∀y∈x,y∈es) (hn:(x.map bS).Nodup):x.length<=es.length:=by
 have h1:=xC hn
 exact qy h1 hs
structure kP (es:List FE) (x:List FE):Prop where
 sub:∀y∈x,y∈es
 nodup:(x.map bS).Nodup
theorem kP.more {es x:List FE} {y:FE} (h:kP es x) (hy:y∈eG cq es (x.map bS)):kP es (x++[y]):=by
 unfold eG at hy
 have hy':=List.mem_filter.1 hy
 have hn:bS y∉x.map bS:=by
  have:=hy'.2
  simpa [bS] using this
 refine ⟨fun z hz => ?_,?_⟩
 ·rcases List.mem_append.1 hz with hz | hz
  ·exact h.sub z hz
  ·simp at hz;subst hz;exact hy'.1
 ·rw [List.map_append,List.nodup_append]
  refine ⟨h.nodup,by simp,fun a ha b hb => ?_⟩
  simp at hb;subst hb
  exact fun e=>hn (e▸ha)
theorem qz {α β:Type} {f:α->β} {l:List α} (h:(l.map f).Nodup):l.Nodup:=by
 unfold List.Nodup at h ⊢
 rw [List.pairwise_map] at h
 exact h.imp fun hne e=>hne (by rw [e])
theorem born_inj:∀{es:List FE},(es.map bS).Nodup->∀{a b:FE},a∈es->b∈es->bS a=bS b->a=b
 | [],_,_,_,h,_,_=>by simp at h
 | y :: r,hn,a,b,ha,hb,e=>by
  simp only [List.map_cons,List.nodup_cons] at hn
  rcases List.mem_cons.1 ha with ha' | ha' <;> rcases List.mem_cons.1 hb with hb' | hb'
  ·rw [ha',hb']
  ·exact (hn.1 (by rw [<-ha',e];exact List.mem_map_of_mem hb')).elim
  ·exact (hn.1 (by rw [<-hb',<-e];exact List.mem_map_of_mem ha')).elim
  ·exact born_inj hn.2 ha' hb' e
theorem kP.all {es x:List FE} (h:kP es x) (hn:(es.map bS).Nodup) (hl:eG cq es (x.map bS) = []):x.Perm es:=by
 refine (List.perm_ext_iff_of_nodup (qz h.nodup) (qz hn)).2 fun y=>⟨h.sub y,fun hy => ?_⟩
 have hin:bS y∈x.map bS:=by
  apply Classical.byContradiction
  intro hc
  have:y∈eG cq es (x.map bS):=List.mem_filter.2 ⟨hy,by simpa [bS] using hc⟩
  rw [hl] at this;simp at this
 obtain ⟨z,hz,e⟩:=List.mem_map.1 hin
 have:=born_inj hn (h.sub z hz) hy e
 rw [<-this];exact hz
theorem yY {es x:List FE} (h:kP es x) (hn:(es.map bS).Nodup) (hl:eG cq es (x.map bS) = []):fY (x.map fz)=fY (es.map fz):=xB ((h.all hn hl).map fz)
theorem at_mem:∀{es:List FE} {y:FE},(es.map bS).Nodup->y∈es->py cq es (bS y)=y/\lB cq es (bS y)=true
 | [],_,_,h=>by simp at h
 | z :: r,y,hn,hy=>by
  simp only [List.map_cons,List.nodup_cons] at hn
  rcases List.mem_cons.1 hy with rfl | hy
  ·exact ⟨by rw [py];exact if_pos rfl,by rw [lB];exact if_pos rfl⟩
  ·have hne:¬ bS z=bS y:=fun e=>hn.1 (by rw [e];exact List.mem_map_of_mem hy)
   obtain ⟨h1,h2⟩:=at_mem hn.2 hy
   exact ⟨by rw [py];exact (if_neg hne).trans h1,by rw [lB];exact (if_neg hne).trans h2⟩
theorem um (l:List Int) (a:Int):jO (l++[a])=a:=by simp [jO]
end Go.Mrl

namespace Go.Mrl
open Go.Vg
def c6 (n:Int):Bool:=decide (-2147483648<=n) && decide (n<=2147483647)
def ei:List (List UInt8)->List (List UInt8)->Int
 | _,[]=>0
 | p,s :: r=>if aI s > 0 then aI s else if p.any (· == s)=true then 3 else ei (p++[s]) r
def eY:List Int->Int
 | []=>0
 | n :: r=>if c6 n=true then eY r else 1
def dV (n:Nat):List (D aD)->List (D aD)->Int
 | _,[]=>0
 | p,s :: r=>if aI s.1 > 0 then aI s.1 else if s.2.1 < 0\/s.2.1>=(n:Int) then 1 else if p.any (fun x=>x.1 == s.1)=true then 3 else dV n (p++[s]) r
def dG (a:Int):Option Int->Bool
 | some b=>decide (a<=b)
 | none=>false
def dL (n:Nat) (prev:Option Int) (t:D aL):Int:=
 if t.1 < 0\/t.1>=(n:Int)\/c6 t.2.2.1=false then 1
 else if t.2.1 < 1\/t.2.1 > 3\/dG t.1 prev=true then 3
 else if t.2.1=1 then (if t.2.2.2.1≠[]\/t.2.2.2.2.1=true then 3 else 0)
 else aI t.2.2.2.1
def fr (n:Nat):Option Int->List (D aL)->Int
 | _,[]=>0
 | prev,t :: r=>if dL n prev t≠0 then dL n prev t else fr n (some t.1) r
def cW (o:D aA):Prop:=o.1.length > 4\/o.2.1.length < 1\/o.2.1.length > 40\/o.2.2.1.length > 8\/o.2.2.2.1.length > 6
instance (o:D aA):Decidable (cW o):=by unfold cW;infer_instance
def bA (o:D aA):Int:=
 if cW o then 2 else if ei [] o.1≠0 then ei [] o.1 else if eY o.2.1≠0 then eY o.2.1
 else if dV o.2.1.length [] o.2.2.1≠0 then dV o.2.1.length [] o.2.2.1 else fr o.2.1.length none o.2.2.2.1
theorem fS {t:Ty} {l:List (D t)} {i:Nat} (h:i < l.length):l.take (i + 1)=l.take i++[nth t l i]:=by
 rw [List.take_add_one];congr 1;unfold nth;simp [h]
theorem pE:∀(l p:List (List UInt8)),0<=ei p l
 | [],_=>Int.le_refl _
 | s :: r,p=>by
  unfold ei
  split
  ·omega
  ·split
   ·decide
   ·exact pE r _
theorem pF:∀l:List Int,0<=eY l
 | []=>Int.le_refl _
 | n :: r=>by
  unfold eY
  split
  ·exact pF r
  ·decide
theorem me (n:Nat):∀(l p:List (D aD)),0<=dV n p l
 | [],_=>Int.le_refl _
 | s :: r,p=>by
  unfold dV
  split
  ·omega
  ·split
   ·decide
   ·split
    ·decide
    ·exact me n r _
theorem AZ (n:Nat) (p:Option Int) (t:D aL):0<=dL n p t:=by
 unfold dL
 split
 ·decide
 ·split
  ·decide
  ·split
   ·split <;> decide
   ·exact bK _
theorem qA (n:Nat):∀(l:List (D aL)) (p:Option Int),0<=fr n p l
 | [],_=>Int.le_refl _
 | t :: r,p=>by
  unfold fr
  split
  ·exact AZ n p t
  ·exact qA n r _
theorem pG (o:D aA):0<=bA o:=by
 unfold bA
 split
 ·decide
 ·split
  ·exact pE _ _
  ·split
   ·exact pF _
   ·split
    ·exact me _ _ _
    ·exact qA _ _ _
structure ej (l:List (List UInt8)) (i:Nat):Prop where
 le:i<=l.length
 eq:ei (l.take i) (l.drop i)=ei [] l
theorem ej.zero (l:List (List UInt8)):ej l 0:=⟨Nat.zero_le _,rfl⟩
theorem ej.fault {l:List (List UInt8)} {i:Nat} (h:ej l i) (hi:i < l.length) (hf:aI (nth .str l i) > 0):ei [] l=aI (nth .str l i):=by
 rw [<-h.eq,eC (t:=.str) hi];unfold ei;rw [if_pos hf]
theorem ej.dup {l:List (List UInt8)} {i:Nat} (h:ej l i) (hi:i < l.length) (hf:aI (nth .str l i)<=0) (ha:(l.take i).any (· == nth .str l i)=true):ei [] l=3:=by
 rw [<-h.eq,eC (t:=.str) hi];unfold ei;rw [if_neg (by omega),if_pos ha]
theorem ej.next {l:List (List UInt8)} {i:Nat} (h:ej l i) (hi:i < l.length) (hf:aI (nth .str l i)<=0) (ha:(l.take i).any (· == nth .str l i)=false):ej l (i + 1):=by
 refine ⟨hi,?_⟩
 rw [<-h.eq,eC (t:=.str) hi,fS (t:=.str) hi]
 conv=>rhs;unfold ei
 rw [if_neg (by omega),if_neg (by rw [ha];decide)]
theorem ej.done {l:List (List UInt8)} {i:Nat} (h:ej l i) (hi:¬ i < l.length):ei [] l=0:=by
 rw [<-h.eq,List.drop_eq_nil_of_le (by omega)];rfl
structure eM (l:List Int) (i:Nat):Prop where
 le:i<=l.length
 eq:eY (l.drop i)=eY l
theorem eM.zero (l:List Int):eM l 0:=⟨Nat.zero_le _,rfl⟩
theorem eM.fault {l:List Int} {i:Nat} (h:eM l i) (hi:i < l.length) (hf:c6 (nth (.int .i64) l i)=false):eY l=1:=by
 rw [<-h.eq,eC (t:=.int .i64) hi];unfold eY;rw [if_neg (by rw [hf];decide)]
theorem eM.next {l:List Int} {i:Nat} (h:eM l i) (hi:i < l.length) (hf:c6 (nth (.int .i64) l i)=true):eM l (i + 1):=by
 refine ⟨hi,?_⟩
 rw [<-h.eq,eC (t:=.int .i64) hi]
 conv=>rhs;unfold eY
 rw [if_pos hf]
theorem eM.done {l:List Int} {i:Nat} (h:eM l i) (hi:¬ i < l.length):eY l=0:=by
 rw [<-h.eq,List.drop_eq_nil_of_le (by omega)];rfl
structure eI (n:Nat) (l:List (D aD)) (i:Nat):Prop where
 le:i<=l.length
 eq:dV n (l.take i) (l.drop i)=dV n [] l
theorem eI.zero (n:Nat) (l:List (D aD)):eI n l 0:=⟨Nat.zero_le _,rfl⟩
theorem eI.fault {n:Nat} {l:List (D aD)} {i:Nat} (h:eI n l i) (hi:i < l.length) (hf:aI (nth aD l i).1 > 0):dV n [] l=aI (nth aD l i).1:=by
 rw [<-h.eq,eC (t:=aD) hi];unfold dV;rw [if_pos hf]
theorem eI.out {n:Nat} {l:List (D aD)} {i:Nat} (h:eI n l i) (hi:i < l.length) (hf:aI (nth aD l i).1<=0) (ho:(nth aD l i).2.1 < 0\/(nth aD l i).2.1>=(n:Int)):dV n [] l=1:=by
 rw [<-h.eq,eC (t:=aD) hi];unfold dV;rw [if_neg (by omega),if_pos ho]
theorem eI.dup {n:Nat} {l:List (D aD)} {i:Nat} (h:eI n l i) (hi:i < l.length) (hf:aI (nth aD l i).1<=0) (ho:¬ ((nth aD l i).2.1 < 0\/(nth aD l i).2.1>=(n:Int)))
  (ha:(l.take i).any (fun x=>x.1 == (nth aD l i).1)=true):dV n [] l=3:=by
 rw [<-h.eq,eC (t:=aD) hi];unfold dV;rw [if_neg (by omega),if_neg ho,if_pos ha]
theorem eI.next {n:Nat} {l:List (D aD)} {i:Nat} (h:eI n l i) (hi:i < l.length) (hf:aI (nth aD l i).1<=0) (ho:¬ ((nth aD l i).2.1 < 0\/(nth aD l i).2.1>=(n:Int)))
  (ha:(l.take i).any (fun x=>x.1 == (nth aD l i).1)=false):eI n l (i + 1):=by
 refine ⟨hi,?_⟩
 rw [<-h.eq,eC (t:=aD) hi,fS (t:=aD) hi]
 conv=>rhs;unfold dV
 rw [if_neg (by omega),if_neg ho,if_neg (by rw [ha];decide)]
theorem eI.done {n:Nat} {l:List (D aD)} {i:Nat} (h:eI n l i) (hi:¬ i < l.length):dV n [] l=0:=by
 rw [<-h.eq,List.drop_eq_nil_of_le (by omega)];rfl
def ek (l:List (D aL)) (i:Nat):Option Int:=if i=0 then none else some (nth aL l (i - 1)).1
structure fI (n:Nat) (l:List (D aL)) (i:Nat):Prop where
 le:i<=l.length
 eq:fr n (ek l i) (l.drop i)=fr n none l
theorem fI.zero (n:Nat) (l:List (D aL)):fI n l 0:=⟨Nat.zero_le _,rfl⟩
theorem fI.fault {n:Nat} {l:List (D aL)} {i:Nat} (h:fI n l i) (hi:i < l.length) {f:Int} (hf:dL n (ek l i) (nth aL l i)=f) (h0:f≠0):fr n none l=f:=by
 rw [<-h.eq,eC (t:=aL) hi];unfold fr;rw [if_pos (by rw [hf];exact h0),hf]
theorem fI.next {n:Nat} {l:List (D aL)} {i:Nat} (h:fI n l i) (hi:i < l.length) (hf:dL n (ek l i) (nth aL l i)=0):fI n l (i + 1):=by
 refine ⟨hi,?_⟩
 rw [<-h.eq,eC (t:=aL) hi]
 conv=>rhs;unfold fr
 rw [if_neg (by rw [hf];decide)]
 rfl
theorem fI.done {n:Nat} {l:List (D aL)} {i:Nat} (h:fI n l i) (hi:¬ i < l.length):fr n none l=0:=by
 rw [<-h.eq,List.drop_eq_nil_of_le (by omega)];rfl
theorem oX {t:Ty} {l:List (D t)} {i j:Nat} {f:D t->Bool} (hj:j < i) (hi:i<=l.length) (h:f (nth t l j)=true):(l.take i).any f=true:=by
 rw [List.any_eq_true]
 refine ⟨nth t l j,?_,h⟩
 have:(l.take i)[j]?=some (nth t l j):=by
  rw [List.getElem?_take,if_pos hj]
  unfold nth
  rw [List.getD_eq_getElem?_getD,List.getElem?_eq_getElem (by omega)];rfl
 exact List.mem_of_getElem? this
theorem mQ {t:Ty} {l:List (D t)} {i:Nat} {f:D t->Bool} (h:∀j,j < i->f (nth t l j)=false):(l.take i).any f=false:=by
 rw [List.any_eq_false]
 intro x hx
 obtain ⟨j,hj,rfl⟩:=List.getElem_of_mem hx
 rw [List.length_take] at hj
 have:=h j (by omega)
 rw [List.getElem_take]
 have e:nth t l j=l[j]'(by omega):=by unfold nth;simp [show j < l.length by omega]
 rw [e] at this
 rw [this];decide
theorem contains_of {l:List (List UInt8)} {s:List UInt8} {y:Int} (h:(y = -1/\∀j,j < l.length->nth .str l j≠s)\/(0<=y/\y.toNat < l.length/\nth .str l y.toNat=s)):decide (y>=0)=l.any (· == s):=by
 rcases h with ⟨rfl,h⟩ | ⟨h1,h2,h3⟩
 ·have:=mQ (t:=.str) (l:=l) (i:=l.length) (f:=(· == s)) fun j hj=>by simpa using h j hj
  rw [List.take_length] at this
  rw [this];rfl
 ·have:=oX (t:=.str) (l:=l) (i:=l.length) (f:=(· == s)) h2 (Nat.le_refl _) (by simpa using h3)
  rw [List.take_length] at this
  rw [this];simpa using h1
theorem rY {o:D aA} (h:cW o):bA o=2:=by unfold bA;rw [if_pos h]
theorem jY {o:D aA} (h:¬ cW o) {f:Int} (hf:ei [] o.1=f) (h0:f≠0):bA o=f:=by unfold bA;rw [if_neg h,if_pos (by rw [hf];exact h0),hf]
theorem qB {o:D aA} (h:¬ cW o) (h1:ei [] o.1=0) {f:Int} (hf:eY o.2.1=f) (h0:f≠0):bA o=f:=by
 unfold bA;rw [if_neg h,if_neg (by rw [h1];decide),if_pos (by rw [hf];exact h0),hf]
theorem iS {o:D aA} (h:¬ cW o) (h1:ei [] o.1=0) (h2:eY o.2.1=0) {f:Int} (hf:dV o.2.1.length [] o.2.2.1=f) (h0:f≠0):bA o=f:=by
 unfold bA;rw [if_neg h,if_neg (by rw [h1];decide),if_neg (by rw [h2];decide),if_pos (by rw [hf];exact h0),hf]
theorem ed {o:D aA} (h:¬ cW o) (h1:ei [] o.1=0) (h2:eY o.2.1=0) (h3:dV o.2.1.length [] o.2.2.1=0) {f:Int} (hf:fr o.2.1.length none o.2.2.2.1=f):bA o=f:=by
 unfold bA;rw [if_neg h,if_neg (by rw [h1];decide),if_neg (by rw [h2];decide),if_neg (by rw [h3];decide),hf]
end Go.Mrl

namespace Go.Mrl
open Go.Vg
abbrev RF:=aC × aC × Int × Unit
abbrev RS:=List RF × Int × Unit
def dK (y:RF):aC:=y.1
def c7 (s:aC) (y:RF):Bool:=!(y.1 == s)
def bX:List RF->aC->aC × Int × Int
 | [],_=>([],0,5)
 | y :: r,s=>if y.1=s then (y.2.1,y.2.2.1,0) else bX r s
def gw (s:aC) (e:RF):List RF->List RF
 | []=>[e]
 | y :: r=>if (Op.bytesLess s y.1 || s == y.1)=true then e :: (y :: r).filter (c7 s) else y :: gw s e r
def dH (x:RS) (s t:aC):RS × Int:=
 if ¬ aI s=0 then (x,aI s) else if 1200 < t.length then (x,2)
 else if (0 < (bX x.1 s).2.2/\x.1.length=6)\/x.2.1=1000000 then (x,8)
 else ((gw s (s,t,x.2.1 + 1,()) x.1,x.2.1 + 1,()),0)
def dB (x:RS) (s:aC):RS × Int:=if (x.1.filter (c7 s)).length=x.1.length then (x,5) else ((x.1.filter (c7 s),x.2),0)
theorem Df (L:List RF) (s:aC):(bX L s).2.2=0\/(bX L s).2.2=5:=by
 induction L with
 | nil=>exact .inr rfl
 | cons y r ih=>unfold bX;split;exact .inl rfl;exact ih
def mR (y:FE):RF:=(y.1,y.2.1.1,y.2.1.2.1,())
def n5 (L:List RF):Prop:=L.Pairwise fun a b=>iy a.1 b.1
structure aW (x:eH) (r:RS):Prop where
 now:r.2.1=x.1.1
 lo:0<=x.1.1
 hi:x.1.1<=1000000
 len:x.2.1.1.length<=6
 born:(x.2.1.1.map bS).Nodup
 nC:∀y∈x.2.1.1,bS y < x.2.1.2.1
 vk:n5 r.1
 perm:r.1.Perm (x.2.1.1.map mR)
theorem aW.new:aW rm ([],0,()):=⟨rfl,Int.le_refl _,by decide,by decide,by decide,fun y hy=>by simp [rm] at hy, .nil, .refl _⟩
theorem qC {L:List RF} (h:n5 L):(L.map dK).Nodup:=by
 unfold List.Nodup
 rw [List.pairwise_map]
 exact h.imp fun hlt e=>by unfold dK at e;rw [e] at hlt;exact jV _ hlt
theorem aW.names {x:eH} {r:RS} (h:aW x r):(x.2.1.1.map fz).Nodup:=by
 have h1:=(h.perm.map dK).nodup_iff.1 (qC h.vk)
 rw [List.map_map] at h1
 exact h1
theorem wh:∀{L:List RF} {s:aC},(L.map dK).Nodup->∀y∈L,y.1=s->bX L s=(y.2.1,y.2.2.1,0)
 | [],_,_,_,h,_=>by simp at h
 | z :: r,s,hn,y,hy,e=>by
  simp only [List.map_cons,List.nodup_cons] at hn
  unfold bX
  rcases List.mem_cons.1 hy with rfl | hy
  ·rw [if_pos e]
  ·have:¬ z.1=s:=fun e2=>hn.1 (by rw [show dK z=dK y from e2.trans e.symm];exact List.mem_map_of_mem hy)
   rw [if_neg this]
   exact wh hn.2 y hy e
theorem oY:∀{L:List RF} {s:aC},(∀y∈L,¬ y.1=s)->bX L s=([],0,5)
 | [],_,_=>rfl
 | z :: r,s,h=>by
  unfold bX
  rw [if_neg (h z (by simp))]
  exact oY fun y hy=>h y (by simp [hy])
theorem kv:∀{es:List FE} {s:aC},cY cq es s=true ↔ ∃y∈es,y.1=s
 | [],_=>by simp [cY]
 | z :: r,s=>by
  unfold cY
  by_cases c:z.1=s
  ·simp [c]
  ·rw [if_neg c,kv];simp [c]
theorem yZ:∀{es:List FE} {s:aC},(es.map fz).Nodup->∀y∈es,y.1=s->jN cq es s=y.2.1
 | [],_,_,_,h,_=>by simp at h
 | z :: r,s,hn,y,hy,e=>by
  simp only [List.map_cons,List.nodup_cons] at hn
  unfold jN
  rcases List.mem_cons.1 hy with rfl | hy
  ·rw [if_pos e]
  ·have:¬ z.1=s:=fun e2=>hn.1 (by rw [show fz z=fz y from e2.trans e.symm];exact List.mem_map_of_mem hy)
   rw [if_neg this]
   exact yZ hn.2 y hy e
theorem aW.read {x:eH} {r:RS} (h:aW x r) (s:aC):bF x s=bX r.1 s:=by
 by_cases c:cY cq x.2.1.1 s=true
 ·obtain ⟨y,hy,e⟩:=kv.1 c
  rw [oW c,yZ h.names y hy e]
  exact (wh (qC h.vk) (mR y) (h.perm.mem_iff.2 (List.mem_map_of_mem hy)) e).symm
 ·rw [mP (by simpa using c)]
  refine (oY fun y hy e=>c ?_).symm
  obtain ⟨z,hz,rfl⟩:=List.mem_map.1 (h.perm.mem_iff.1 hy)
  exact kv.2 ⟨z,hz,e⟩
theorem aW.list {x:eH} {r:RS} (h:aW x r):jX x=r.1.map dK:=by
 unfold jX
 refine yV ?_ ?_
 ·have:=h.perm.map dK
  rw [List.map_map] at this
  exact this
 ·rw [List.pairwise_map]
  exact h.vk.imp lf
theorem dD {s:aC} {y:RF}:c7 s y=true ↔ ¬ y.1=s:=by simp [c7]
theorem y5 {s:aC} {e:RF}:∀{L:List RF} {y:RF},y∈gw s e L->y=e\/y∈L
 | [],y,h=>by simp [gw] at h;exact .inl h
 | z :: r,y,h=>by
  unfold gw at h
  split at h
  ·rcases List.mem_cons.1 h with h | h
   ·exact .inl h
   ·exact .inr (List.mem_filter.1 h).1
  ·rcases List.mem_cons.1 h with rfl | h
   ·exact .inr (by simp)
   ·rcases y5 h with h | h
    ·exact .inl h
    ·exact .inr (by simp [h])
theorem not_le {s a:aC} (h:¬ (Op.bytesLess s a || s == a)=true):iy a s:=by
 simp at h
 exact qo (a:=a) (b:=s) (by unfold iR iy;rw [h.1];simp) (fun e=>h.2 e.symm)
theorem rZ {s:aC} {e:RF} (he:e.1=s):∀{L:List RF},n5 L->n5 (gw s e L)
 | [],_=>by simp [gw,n5]
 | z :: r,h=>by
  have h':=List.pairwise_cons.1 h
  unfold gw
  split
  ·rename_i c
   refine List.pairwise_cons.2 ⟨fun y hy => ?_,h.filter _⟩
   have hy':=List.mem_filter.1 hy
   have hn:=dD.1 hy'.2
   have hz:iR s z.1:=by
    simp at c
    rcases c with c | rfl
    ·exact lf c
    ·exact yT _
   have hzy:iR z.1 y.1:=by
    rcases List.mem_cons.1 hy'.1 with e2 | hy2
    ·rw [e2];exact yT _
    ·exact lf (h'.1 y hy2)
   rw [he]
   exact qo (qn hz hzy) (fun e2=>hn e2.symm)
  ·rename_i c
   have hlt:=not_le c
   refine List.pairwise_cons.2 ⟨fun y hy => ?_,rZ he h'.2⟩
   rcases y5 hy with rfl | hy
   ·rw [he];exact hlt
   ·exact h'.1 y hy
theorem filter_all {s:aC}:∀{L:List RF},(∀y∈L,¬ y.1=s)->L.filter (c7 s)=L:=fun h=>List.filter_eq_self.2 fun y hy=>dD.2 (h y hy)
theorem wi {s:aC} {e:RF}:∀{L:List RF},n5 L->(gw s e L).Perm (e :: L.filter (c7 s))
 | [],_ => .refl _
 | z :: r,h=>by
  have h':=List.pairwise_cons.1 h
  unfold gw
  split
  ·exact .refl _
  ·rename_i c
   have hlt:=not_le c
   have hz:c7 s z=true:=dD.2 fun e=>by rw [e] at hlt;exact jV _ hlt
   rw [List.filter_cons,if_pos hz]
   exact ((wi h'.2).cons z).trans (List.Perm.swap e z _)
theorem qD {s:aC} {v:aC × Int × Unit} {c:Int}:∀{es:List FE},(es.map fz).Nodup->((dF cq es s v c).map mR).Perm ((s,v.1,v.2.1,()) :: (es.map mR).filter (c7 s))
 | [],_ => .refl _
 | z :: r,hn=>by
  simp only [List.map_cons,List.nodup_cons] at hn
  unfold dF
  by_cases e:z.1=s
  ·rw [if_pos e]
   have h1:c7 s (mR z)=false:=by
    cases h:c7 s (mR z) with
    | false=>rfl
    | true=>exact absurd e (dD.1 h)
   rw [List.map_cons,List.map_cons,List.filter_cons,if_neg (by rw [h1];simp),filter_all]
   ·exact .refl _
   ·intro y hy e2
    obtain ⟨z2,hz2,rfl⟩:=List.mem_map.1 hy
    exact hn.1 (by rw [show fz z=fz z2 from e.trans (show s=z2.1 from e2.symm)];exact List.mem_map_of_mem hz2)
  ·rw [if_neg e]
   have h1:c7 s (mR z)=true:=dD.2 e
   rw [List.map_cons,List.map_cons,List.filter_cons,if_pos h1]
   exact ((qD hn.2).cons (mR z)).trans (List.Perm.swap _ _ _)
theorem mS {s:aC} {v:aC × Int × Unit} {c:Int}:∀{es:List FE},(dF cq es s v c).map bS=if cY cq es s=true then es.map bS else es.map bS++[c]
 | []=>rfl
 | z :: r=>by
  unfold dF cY
  by_cases e:z.1=s
  ·rw [if_pos e,if_pos e];rfl
  ·rw [if_neg e,if_neg e,List.map_cons,mS]
   split <;> rfl
theorem y7 {s:aC}:∀{es:List FE},(es.map fz).Nodup->(eU cq es s).map mR=(es.map mR).filter (c7 s)
 | [],_=>rfl
 | z :: r,hn=>by
  simp only [List.map_cons,List.nodup_cons] at hn
  unfold eU
  by_cases e:z.1=s
  ·have h1:¬ c7 s (mR z)=true:=fun h=>dD.1 h e
   rw [if_pos e,List.map_cons,List.filter_cons,if_neg h1,filter_all]
   intro y hy e2
   obtain ⟨z2,hz2,rfl⟩:=List.mem_map.1 hy
   exact hn.1 (by rw [show fz z=fz z2 from e.trans (show s=z2.1 from e2.symm)];exact List.mem_map_of_mem hz2)
  ·have h1:c7 s (mR z)=true:=dD.2 e
   rw [if_neg e,List.map_cons,List.map_cons,List.filter_cons,if_pos h1,y7 hn.2]
theorem oZ {s:aC}:∀{es:List FE},(eU cq es s).Sublist es
 | [] => .refl _
 | z :: r=>by
  unfold eU
  split
  ·exact List.sublist_cons_self _ _
  ·exact oZ.cons_cons _
theorem aW.has {x:eH} {r:RS} (h:aW x r) (s:aC):0 < (bX r.1 s).2.2 ↔ cY cq x.2.1.1 s=false:=by
 rw [<-h.read s]
 cases c:cY cq x.2.1.1 s with
 | true=>rw [oW c];simp
 | false=>rw [mP c];simp
theorem aW.write {x:eH} {r:RS} (h:aW x r) (s t:aC):aW (db x s t).1 (dH r s t).1/\(db x s t).2=(dH r s t).2:=by
 have hlen:r.1.length=x.2.1.1.length:=by rw [h.perm.length_eq,List.length_map]
 have hc:((cY cq x.2.1.1 s=false/\x.2.1.1.length=6)\/x.1.1=1000000) ↔ ((0 < (bX r.1 s).2.2/\r.1.length=6)\/r.2.1=1000000):=by rw [h.has,hlen,h.now]
 by_cases h1:aI s=0
 ·by_cases h2:1200 < t.length
  ·rw [qv h1 h2]
   unfold dH;rw [if_neg (by simp [h1]),if_pos h2]
   exact ⟨h,rfl⟩
  ·by_cases h3:(cY cq x.2.1.1 s=false/\x.2.1.1.length=6)\/x.1.1=1000000
   ·rw [qw h1 h2 h3]
    unfold dH;rw [if_neg (by simp [h1]),if_neg h2,if_pos (hc.1 h3)]
    exact ⟨h,rfl⟩
   ·rw [uk h1 h2 h3]
    unfold dH;rw [if_neg (by simp [h1]),if_neg h2,if_neg (fun h'=>h3 (hc.2 h'))]
    refine ⟨⟨by rw [h.now],by have:=h.lo;simp only;omega,by have:=h.hi;simp only;omega,?_,?_,?_,rZ (s:=s) (e:=(s,t,r.2.1 + 1,())) rfl h.vk,?_⟩,rfl⟩
    ·have hp:=(qD (s:=s) (v:=(t,x.1.1 + 1,())) (c:=x.2.1.2.1) h.names).length_eq
     have hb:=congrArg List.length (mS (s:=s) (v:=(t,x.1.1 + 1,())) (c:=x.2.1.2.1) (es:=x.2.1.1))
     simp only [List.length_map] at hb
     show (dF cq x.2.1.1 s (t,x.1.1 + 1,()) x.2.1.2.1).length<=6
     rw [hb]
     have:=h.len
     cases c:cY cq x.2.1.1 s with
     | true=>simpa using this
     | false=>
      have:¬ x.2.1.1.length=6:=fun e=>h3 (.inl ⟨c,e⟩)
      simp;omega
    ·show ((dF cq x.2.1.1 s (t,x.1.1 + 1,()) x.2.1.2.1).map bS).Nodup
     rw [mS]
     split
     ·exact h.born
     ·rw [List.nodup_append]
      refine ⟨h.born,by simp,fun a ha b hb e => ?_⟩
      simp at hb
      obtain ⟨y,hy,rfl⟩:=List.mem_map.1 ha
      have:=h.nC y hy
      omega
    ·intro y hy
     have hy':bS y∈(dF cq x.2.1.1 s (t,x.1.1 + 1,()) x.2.1.2.1).map bS:=List.mem_map_of_mem hy
     rw [mS] at hy'
     show bS y < gI cq x.2.1.1 s x.2.1.2.1
     unfold gI
     split at hy'
     ·rename_i c
      rw [if_pos c]
      obtain ⟨z,hz,e⟩:=List.mem_map.1 hy'
      rw [<-e];exact h.nC z hz
     ·rename_i c
      rw [if_neg c]
      rcases List.mem_append.1 hy' with hy' | hy'
      ·obtain ⟨z,hz,e⟩:=List.mem_map.1 hy'
       have:=h.nC z hz
       omega
      ·simp at hy';omega
    ·refine (wi h.vk).trans ?_
     rw [h.now]
     exact ((h.perm.filter _).cons _).trans (qD (v:=(t,x.1.1 + 1,())) (c:=x.2.1.2.1) h.names).symm
 ·rw [qu h1]
  unfold dH;rw [if_pos h1]
  exact ⟨h,rfl⟩
theorem aW.remove {x:eH} {r:RS} (h:aW x r) (s:aC):aW (dv x s).1 (dB r s).1/\(dv x s).2=(dB r s).2:=by
 have hp:(r.1.filter (c7 s)).Perm ((eU cq x.2.1.1 s).map mR):=by rw [y7 h.names];exact h.perm.filter _
 cases c:cY cq x.2.1.1 s with
 | false=>
  have hall:r.1.filter (c7 s)=r.1:=filter_all fun y hy e=>by
   obtain ⟨z,hz,rfl⟩:=List.mem_map.1 (h.perm.mem_iff.1 hy)
   have:=kv.2 ⟨z,hz,e⟩
   rw [c] at this;cases this
  rw [rX c]
  unfold dB;rw [if_pos (by rw [hall])]
  exact ⟨h,rfl⟩
 | true=>
  obtain ⟨y,hy,e⟩:=kv.1 c
  have hlt:(r.1.filter (c7 s)).length < r.1.length:=List.length_filter_lt_length_iff_exists.2 ⟨mR y,h.perm.mem_iff.2 (List.mem_map_of_mem hy),by rw [dD];exact fun h=>h e⟩
  rw [qx c]
  unfold dB;rw [if_neg (by omega)]
  refine ⟨⟨h.now,h.lo,h.hi,Nat.le_trans oZ.length_le h.len,(oZ.map bS).nodup h.born,fun y hy=>h.nC y (oZ.subset hy),List.Pairwise.filter _ h.vk,hp⟩,rfl⟩
theorem hY {L:List RF} {i:Nat} (h:i < L.length):L.drop i=nth bR L i :: L.drop (i + 1):=eC (t:=bR) h
theorem y8:∀{L:List RF} {s:aC} {i:Nat},(∀j,j < i->¬ (nth bR L j).1=s)->i < L.length->(nth bR L i).1=s->bX L s=((nth bR L i).2.1,(nth bR L i).2.2.1,0)
 | [],_,_,_,h,_=>by simp at h
 | y :: r,s,0,_,_,e=>by unfold bX;rw [if_pos (show y.1=s from e)];rfl
 | y :: r,s,i + 1,hn,h,e=>by
  unfold bX
  rw [if_neg (show ¬ y.1=s from hn 0 (by omega))]
  exact y8 (L:=r) (i:=i) (fun j hj=>hn (j + 1) (by omega)) (by simpa using h) e
theorem EP {L:List RF} {s:aC} (h:∀j,j < L.length->¬ (nth bR L j).1=s):bX L s=([],0,5):=
 oY fun y hy e=>by
  obtain ⟨j,hj,rfl⟩:=B3 (t:=bR) hy
  exact h j hj e
def bT (L:List RF) (s:aC) (e:RF) (i:Nat) (laid:Bool) (out:List RF):Prop:=
 (laid=false->out++gw s e (L.drop i)=gw s e L)/\(laid=true->out++(L.drop i).filter (c7 s)=gw s e L)/\out.length<=i + 1/\(laid=false->out.length<=i)
theorem bT.start (L:List RF) (s:aC) (e:RF):bT L s e 0 false []:=⟨fun _=>rfl,fun h=>(by cases h),by simp,fun _=>by simp⟩
theorem bT.put {L:List RF} {s:aC} {e:RF} {i:Nat} {out:List RF} (h:bT L s e i false out) (hi:i < L.length) (hle:(Op.bytesLess s (nth bR L i).1 || s == (nth bR L i).1)=true)
  (hne:¬ (nth bR L i).1=s):bT L s e (i + 1) true (out++[e]++[nth bR L i]):=by
 refine ⟨fun h=>by (cases h),fun _ => ?_,by have:=h.2.2.2 rfl;simp;omega,fun h=>by cases h⟩
 rw [<-h.1 rfl,hY hi,gw,if_pos hle,List.filter_cons,if_pos (dD.2 hne)]
 simp
theorem bT.B4 {L:List RF} {s:aC} {e:RF} {i:Nat} {out:List RF} (h:bT L s e i false out) (hi:i < L.length) (hle:(Op.bytesLess s (nth bR L i).1 || s == (nth bR L i).1)=true)
  (hne:(nth bR L i).1=s):bT L s e (i + 1) true (out++[e]):=by
 refine ⟨fun h=>by (cases h),fun _ => ?_,by have:=h.2.2.2 rfl;simp;omega,fun h=>by cases h⟩
 rw [<-h.1 rfl,hY hi,gw,if_pos hle,List.filter_cons,if_neg (fun h=>dD.1 h hne)]
 simp
theorem bT.low {L:List RF} {s:aC} {e:RF} {i:Nat} {out:List RF} (h:bT L s e i false out) (hi:i < L.length) (hle:(Op.bytesLess s (nth bR L i).1 || s == (nth bR L i).1)=false):bT L s e (i + 1) false (out++[nth bR L i]):=by
 refine ⟨fun _ => ?_,fun h=>by (cases h),by have:=h.2.2.2 rfl;simp;omega,fun _=>by have:=h.2.2.2 rfl;simp;omega⟩
 rw [<-h.1 rfl,hY hi,gw,if_neg (by rw [hle];simp)]
 simp
theorem bT.high {L:List RF} {s:aC} {e:RF} {i:Nat} {out:List RF} (h:bT L s e i true out) (hi:i < L.length) (hne:¬ (nth bR L i).1=s):bT L s e (i + 1) true (out++[nth bR L i]):=by
 refine ⟨fun h=>by (cases h),fun _ => ?_,by have:=h.2.2.1;simp;omega,fun h=>by cases h⟩
 rw [<-h.2.1 rfl,hY hi,List.filter_cons,if_pos (dD.2 hne)]
 simp
theorem bT.skip {L:List RF} {s:aC} {e:RF} {i:Nat} {out:List RF} (h:bT L s e i true out) (hi:i < L.length) (hne:(nth bR L i).1=s):bT L s e (i + 1) true out:=by
 refine ⟨fun h=>by (cases h),fun _ => ?_,by have:=h.2.2.1;omega,fun h=>by cases h⟩
 rw [<-h.2.1 rfl,hY hi,List.filter_cons,if_neg (fun h=>dD.1 h hne)]
theorem bT.last {L:List RF} {s:aC} {e:RF} {i:Nat} {out:List RF} (h:bT L s e i false out) (hi:L.length<=i):out++[e]=gw s e L:=by
 rw [<-h.1 rfl,List.drop_eq_nil_of_le hi];rfl
theorem bT.all {L:List RF} {s:aC} {e:RF} {i:Nat} {out:List RF} (h:bT L s e i true out) (hi:L.length<=i):out=gw s e L:=by
 rw [<-h.2.1 rfl,List.drop_eq_nil_of_le hi];simp
theorem ER {L out T:List RF} {s:aC} {i:Nat} (h:out++(L.drop i).filter (c7 s)=T) (hi:i < L.length) (hne:¬ (nth bR L i).1=s):out++[nth bR L i]++(L.drop (i + 1)).filter (c7 s)=T:=by
 rw [<-h,hY hi,List.filter_cons,if_pos (dD.2 hne)];simp
theorem ES {L out T:List RF} {s:aC} {i:Nat} (h:out++(L.drop i).filter (c7 s)=T) (hi:i < L.length) (hne:(nth bR L i).1=s):out++(L.drop (i + 1)).filter (c7 s)=T:=by
 rw [<-h,hY hi,List.filter_cons,if_neg (fun h=>dD.1 h hne)]
theorem y9 {L out T:List RF} {s:aC} {i:Nat} (h:out++(L.drop i).filter (c7 s)=T) (hi:L.length<=i):out=T:=by
 rw [<-h,List.drop_eq_nil_of_le hi];simp
theorem uo {L:List RF} {i:Nat} (hi:i < L.length):(L.take i).map dK++[(nth bR L i).1]=(L.take (i + 1)).map dK:=by
 rw [we (t:=bR) hi,List.map_append];rfl
theorem A0 {x:RS} {s t:aC} (h:¬ aI s=0):dH x s t=(x,aI s):=by unfold dH;rw [if_pos h]
theorem A4 {x:RS} {s t:aC} (h:aI s=0) (h1:1200 < t.length):dH x s t=(x,2):=by unfold dH;rw [if_neg (by simp [h]),if_pos h1]
theorem A5 {x:RS} {s t:aC} (h:aI s=0) (h1:¬ 1200 < t.length) (h2:(0 < (bX x.1 s).2.2/\x.1.length=6)\/x.2.1=1000000):dH x s t=(x,8):=by unfold dH;rw [if_neg (by simp [h]),if_neg h1,if_pos h2]
theorem mT {x:RS} {s t:aC} (h:aI s=0) (h1:¬ 1200 < t.length) (h2:¬ ((0 < (bX x.1 s).2.2/\x.1.length=6)\/x.2.1=1000000)) :
  dH x s t=((gw s (s,t,x.2.1 + 1,()) x.1,x.2.1 + 1,()),0):=by unfold dH;rw [if_neg (by simp [h]),if_neg h1,if_neg h2]
theorem Dg {x:RS} {s:aC} (h:(x.1.filter (c7 s)).length=x.1.length):dB x s=(x,5):=by unfold dB;rw [if_pos h]
theorem A6 {x:RS} {s:aC} (h:¬ (x.1.filter (c7 s)).length=x.1.length):dB x s=((x.1.filter (c7 s),x.2),0):=by unfold dB;rw [if_neg h]
end Go.Mrl

namespace Go.Mrl
open Go.Vg
def qE:aC:=[119,114,105,116,101]
def kQ (x:eH × RS) (a:D bB):eH × RS:=
 if a.1=qE then ((db x.1 a.2.1 a.2.2.1).1,(dH x.2 a.2.1 a.2.2.1).1) else ((dv x.1 a.2.1).1,(dB x.2 a.2.1).1)
def dM (l:List (D bB)):eH × RS:=l.foldl kQ (rm,([],0,()))
theorem ET (l:List (D bB)) (a:D bB):dM (l++[a])=kQ (dM l) a:=by simp [dM]
theorem wj {l:List (D bB)} {i:Nat} (h:i < l.length):dM (l.take (i + 1))=kQ (dM (l.take i)) (nth bB l i):=by rw [we (t:=bB) h,ET]
theorem EU {x:eH × RS} (a:D bB) (h:aW x.1 x.2):aW (kQ x a).1 (kQ x a).2:=by
 unfold kQ
 split
 ·exact (h.write _ _).1
 ·exact (h.remove _).1
theorem wk:∀(l:List (D bB)) {x:eH × RS},aW x.1 x.2->aW (l.foldl kQ x).1 (l.foldl kQ x).2
 | [],_,h=>h
 | a :: l,_,h=>wk l (EU a h)
theorem cB (l:List (D bB)):aW (dM l).1 (dM l).2:=wk l aW.new
theorem A7 {x:eH × RS} {a:D bB} (h:a.1=qE):kQ x a=((db x.1 a.2.1 a.2.2.1).1,(dH x.2 a.2.1 a.2.2.1).1):=if_pos h
theorem zA {x:eH × RS} {a:D bB} (h:¬ a.1=qE):kQ x a=((dv x.1 a.2.1).1,(dB x.2 a.2.1).1):=if_neg h
theorem zB (x:eH) (s t:aC):0<=(db x s t).2:=by
 unfold db;split
 ·exact bK s
 ·split
  ·simp
  ·split <;> simp
theorem xD (x:eH) (s:aC):0<=(dv x s).2:=by unfold dv;split <;> simp
theorem A8 (x:eH) (s:aC):0<=(bF x s).2.2:=by unfold bF;split <;> simp
theorem aW.HC {x:eH} {r:RS} (h:aW x r):cZ (jX x) (r.1.map dK)=true:=by rw [h.list];simp [cZ]
theorem aW.Dh {x:eH} {r:RS} (h:aW x r):r.1.length<=6:=by rw [h.perm.length_eq,List.length_map];exact h.len
theorem aW.pre {x:eH} {r:RS} (h:aW x r):x.2.1.1.length<=6/\0<=x.1.1/\x.1.1<=1000000:=⟨h.len,h.lo,h.hi⟩
theorem aW.JK {x:eH} {r:RS} (h:aW x r):r.1.length<=6/\0<=r.2.1/\r.2.1<=1000000:=⟨h.Dh,by rw [h.now];exact h.lo,by rw [h.now];exact h.hi⟩
theorem aW.I0 {x:eH} {r:RS} (h:aW x r):x.2.1.1.length<=6/\(x.2.1.1.map bS).Nodup:=⟨h.len,h.born⟩
theorem aW.HD {x:eH} {r:RS} (h:aW x r) (s:aC):cV (aX (bF x s).2.2) (bX r.1 s).2.2=true:=by rw [<-h.read s];exact kN (A8 x s)
theorem aW.I1 {x:eH} {r:RS} (h:aW x r) (s t:aC):cV (aX (db x s t).2) (dH r s t).2=true:=by rw [<-(h.write s t).2];exact kN (zB x s t)
theorem aW.H7 {x:eH} {r:RS} (h:aW x r) (s:aC):cV (aX (dv x s).2) (dB r s).2=true:=by rw [<-(h.remove s).2];exact kN (xD x s)
end Go.Mrl

namespace Go.Mrl
open Go.Vg
end Go.Mrl

