/- A part of the proof that the law EntrySaysCard holds of the given program: facts that are used there. -/
import Derived.Test.YtgokjhhcfemnhabGreatDoorPart1
import Derived.Deep.LoopGhost
import Derived.ProofKit
import Derived.KernelRfl
import Derived.Deep.Heap
import Derived.Room.AppendFits
import Derived.Lib.UnsafeStr
set_option linter.unusedSimpArgs false
set_option linter.unusedVariables false
namespace Go.Vg
open Go.RowKit
def jz:List Cl->Bool
 | []=>true
 | .d t :: r=>t.flat && jz r
 | _ :: r=>jz r
def gI:List Ob->Bool
 | []=>true
 | .box _ cls :: r=>jz cls && gI r
 | .row _ t :: r=>t.flat && gI r
 | .tok t :: r=>t.flat && gI r
 | .ext _ _ :: r=>gI r
def r9:List Ob->Bool
 | []=>true
 | .tok _ :: _=>false
 | _ :: r=>r9 r
section
variable {eT:TypeId} {X:Ext}
theorem VR.to {t:Ty} {x:D t} {S S':bN} {v:Value} (hw:S'.w=S.w) (hA:t.flat=true\/∀b o,S'.A b o->S.A b o) (h:VR eT t x S.A S.w v):VR eT t x S'.A S'.w v:=by
 rcases hA with hA | hA
 ·exact VR.of_flat hA h
 ·rw [hw];exact VR.CM h fun b o k h'=>k (hA b o h')
def Laid (eT:TypeId) (S:bN):(os:List Ob)->PD os->List Nat->List Loc->Prop
 | [],_,ns,ls=>ns = []/\ls = []
 | o :: r,x,n :: ns,l :: ls=>(S.loc n=l/\n < S.next/\(match o,x.1 with
  | .box _ _,_=>∃b,l.v = .pointer (some ⟨b,0,none⟩)
  | .tok t,y=>VR eT (.slice t) y S.A S.w l.v/\∀ys,S.ob n=some (.tok t ys)->ys=y
  | .row _ _,_=>∃a k c,l.v = .slice a k c
  | .ext 0 _,_=>∃v,∃hs:List Value,l.v = .tuple (v :: hs).toArray
  | .ext (_ + 1) _,_=>wB l.v=l.v))/\Laid eT S r x.2 ns ls
 | _,_,_,_=>False
theorem A7 {S:bN}:∀{os:List Ob} {x:PD os} {ns:List Nat} {ls:List Loc} {k:Nat} {v:Value},Laid eT S os x ns ls->CN ls k v->CR eT S (iA os x ns k) v:=by
 intro os
 induction os with
 | nil=>intro x ns ls k v h hr;exact trivial
 | cons o r ih=>
  intro x ns ls k v h hr
  match ns,ls,h with
  | n :: ns,l :: ls,⟨⟨h1,h2,h3⟩,h4⟩=>
   obtain ⟨l0,hl,hv⟩:=hr
   cases k with
   | succ k=>exact ih h4 ⟨l0,by simpa using hl,hv⟩
   | zero=>
    simp at hl
    subst hl
    subst hv
    show CR eT S (Ui o x.1 n) _
    cases o with
    | box T cls=>
     obtain ⟨b,hb⟩:=h3
     rw [hb]
     exact ⟨h2,fun T cs _=>⟨b,by rw [h1];exact hb,rfl⟩⟩
    | row kp t=>
     obtain ⟨a,k,c,hb⟩:=h3
     rw [hb]
     exact ⟨h2,fun t xs _=>by rw [h1,hb];rfl⟩
    | tok t=>
     obtain ⟨a,c,hb,_⟩:=tm h3.1
     rw [show wB l.v=l.v by rw [hb];rfl]
     exact ⟨h3.1,h2,fun ys hy=>by rw [h3.2 ys hy];exact ⟨Nat.le_refl _,fun _=>by rw [h1]⟩⟩
    | ext k t=>
     cases k with
     | zero=>
      obtain ⟨v,hs,hb⟩:=h3
      rw [hb]
      exact ⟨h2,fun t x _=>⟨hs,by rw [h1,hb];rfl⟩⟩
     | succ k=>
      rw [show wB l.v=l.v from h3]
      exact ⟨h2,fun oc _ _=>by rw [h1]⟩
theorem Q5 {S S':bN} {F:Nat->Value->Prop} {f:Nat->C} (hw:S'.w=S.w) (hF:∀k v,F k v->CR eT S' (f k) v):∀{cls:List Cl} {x:CD cls} {vs:List Value},
  (jz cls=true\/∀b o,S'.A b o->S.A b o)->sP eT S F cls x vs->(∀v∈vs,v.oneCell'=true)->eP eT S' (Gz f cls x) vs:=by
 intro cls
 induction cls with
 | nil=>intro x vs _ h _;rw [show vs = [] from h];exact .nil
 | cons cl r ih=>
  intro x vs hA h h1
  cases vs with
  | nil=>cases cl <;> exact h.elim
  | cons v vs=>
   have hr:jz r=true\/∀b o,S'.A b o->S.A b o:=by
    rcases hA with hA | hA
    ·left;cases cl <;> simp [jz] at hA <;> first | exact hA.2 | exact hA
    ·exact .inr hA
   cases cl with
   | d t=>
    refine .cons (VR.to hw ?_ h.1) (h1 v (by simp)) (ih hr h.2 fun u hu=>h1 u (by simp [hu]))
    rcases hA with hA | hA
    ·left;simp [jz] at hA;exact hA.1
    ·exact .inr hA
   | obj k=>exact .cons (hF k v h.1) (h1 v (by simp)) (ih hr h.2 fun u hu=>h1 u (by simp [hu]))
   | iv=>exact .cons h.1 (h1 v (by simp)) (ih hr h.2 fun u hu=>h1 u (by simp [hu]))
theorem GC {S S':bN} {F:Nat->Value->Prop} {f:Nat->C} (hw:S'.w=S.w) (hF:∀k v,F k v->CR eT S' (f k) v):∀{cls:List Cl} {x:CD cls} {vs:List Value},
  (jz cls=true\/∀b o,S'.A b o->S.A b o)->sP eT S F cls x vs->dR eT S' (Ab f cls x) vs:=by
 intro cls
 induction cls with
 | nil=>intro x vs _ h;rw [show vs = [] from h];exact .nil
 | cons cl r ih=>
  intro x vs hA h
  cases vs with
  | nil=>cases cl <;> exact h.elim
  | cons v vs=>
   have hr:jz r=true\/∀b o,S'.A b o->S.A b o:=by
    rcases hA with hA | hA
    ·left;cases cl <;> simp [jz] at hA <;> first | exact hA.2 | exact hA
    ·exact .inr hA
   cases cl with
   | d t=>
    refine .cons (show VR eT t x.1 S'.A S'.w v from VR.to hw ?_ h.1) (ih hr h.2)
    rcases hA with hA | hA
    ·left;simp [jz] at hA;exact hA.1
    ·exact .inr hA
   | obj k=>exact .cons (hF k v h.1) (ih hr h.2)
   | iv=>exact .cons h.1 (ih hr h.2)
theorem lH.to {S S':bN} {t:Ty} {xs:List (D t)} {vs:Array Value} (hw:S'.w=S.w) (hA:t.flat=true\/∀b o,S'.A b o->S.A b o) (h:lH eT S t xs vs):lH eT S' t xs vs:=by
 intro i y hy
 obtain ⟨us,h1,h2⟩:=h i y hy
 refine ⟨us,?_,h2⟩
 rcases hA with hA | hA
 ·exact h1.of_flat hA
 ·rw [hw];exact h1.frame fun b o v k h'=>⟨h',fun h''=>k (hA b o h'')⟩
theorem GD.to {S S':bN} {t:Ty} {xs:List (D t)} {l:Loc} (hw:S'.w=S.w) (hA:t.flat=true\/∀b o,S'.A b o->S.A b o) (h:OR eT X S l (.bE t xs)):OR eT X S' l (.bE t xs):=by
 rcases h with h | ⟨b,vs,T,cap,h1,h2,h3,h4,h5,h6,h7⟩
 ·exact .inl h
 ·exact .inr ⟨b,vs,T,cap,h1,h2,by rw [hw];exact h3,h4,h5,h6,h7.to hw hA⟩
def rp (o:Ob):Bool:=gI [o]
theorem Uk {S S':bN} {F:Nat->Value->Prop} {f:Nat->C} (hw:S'.w=S.w) (hF:∀k v,F k v->CR eT S' (f k) v) {o:Ob} {x:OD o} {l:Loc}
  (hA:rp o=true\/∀b o,S'.A b o->S.A b o) (h:Oq eT X S F o x l):OR eT X S' l (rn f o x):=by
 cases o with
 | box T cls=>
  obtain ⟨b,vs,h1,h2,h3,h4,h5⟩:=h
  refine ⟨b,vs,h1,h2,by rw [hw];exact h3,Q5 hw hF ?_ h4 h5⟩
  rcases hA with hA | hA
  ·left;simpa [rp,gI] using hA
  ·exact .inr hA
 | row kp t=>
  refine GD.to hw ?_ h
  rcases hA with hA | hA
  ·left;simpa [rp,gI] using hA
  ·exact .inr hA
 | tok t=>
  refine GD.to (X:=X) (l:=l) hw ?_ h
  rcases hA with hA | hA
  ·left;simpa [rp,gI] using hA
  ·exact .inr hA
 | ext k t=>show X.rel _ _ _ _ _;rw [hw];exact h
theorem Q6 {S:bN} {t:Ty} {xs:List (D t)} {l:Loc} (h:OR eT X S l (.tok t xs)) (hA:∀b∈l.bs,∀off,off < xs.length * t.size->¬ S.A b off):VR eT (.slice t) xs S.A S.w l.v:=by
 rcases h with ⟨rfl,⟨a,ha⟩,_⟩ | ⟨b,vs,T,cap,h1,h2,h3,h4,h5,h6,he⟩
 ·exact VR.cZ rfl ⟨_,rfl,by simp, .inl ⟨rfl,a,0,ha⟩⟩
 ·refine VR.cZ rfl ⟨_,rfl,h6, .inr ⟨b,0,cap,h1,h5,fun i y hy => ?_⟩⟩
  obtain ⟨us,r1,r2⟩:=he i y hy
  refine ⟨us,r1,fun j u hj=>⟨?_,?_⟩⟩
  ·rw [Nat.zero_add,cell_of_row S.w b _ vs T (0,0) h3];exact r2 j u hj
  ·rw [Nat.zero_add]
   refine hA b (by rw [h2];simp) _ ?_
   have hi:=bI hy
   have hjl:=bI hj
   rw [r1.length] at hjl
   have:(i + 1) * t.size<=xs.length * t.size:=Nat.mul_le_mul_right _ hi
   rw [Nat.add_mul] at this
   omega
def fL:List Nat->List Loc->(Nat->Loc)->Nat->Loc
 | n :: ns,l :: ls,d,m=>if n=m then l else fL ns ls d m
 | _,_,d,m=>d m
theorem oF:∀{ns:List Nat} {ls:List Loc} {d:Nat->Loc} {m:Nat},m∉ns->fL ns ls d m=d m
 | [],_,_,_,_=>by cases ‹List Loc› <;> rfl
 | n :: ns,[],_,_,_=>rfl
 | n :: ns,l :: ls,d,m,h=>by
  simp only [List.mem_cons,not_or] at h
  simp only [fL]
  rw [if_neg (fun e=>h.1 e.symm)]
  exact oF h.2
theorem Ad {n:Nat} {l:List Nat}:oq n l=true ↔ n∈l:=by
 refine ⟨uz,fun h => ?_⟩
 induction l with
 | nil=>simp at h
 | cons m r ih=>
  simp only [oq]
  split
  ·rfl
  ·rename_i hb
   rcases List.mem_cons.1 h with h | h
   ·subst h;rw [Nat.beq_refl] at hb;cases hb
   ·exact ih h
theorem nJ {n:Nat} {r:List Nat} (h:nodupB (n :: r)=true):n∉r/\nodupB r=true:=by
 simp only [nodupB,Bool.and_eq_true,Bool.not_eq_true'] at h
 exact ⟨fun hm=>by rw [Ad.2 hm] at h;exact absurd h.1 (by decide),h.2⟩
theorem lB:∀{ns:List Nat} {ls:List Loc} {d:Nat->Loc} {i n:Nat} {l:Loc},nodupB ns=true->ns[i]?=some n->ls[i]?=some l->fL ns ls d n=l
 | [],_,_,_,_,_,_,h,_=>by simp at h
 | n :: ns,[],_,_,_,_,_,_,h=>by simp at h
 | n :: ns,l :: ls,d,0,m,k,_,h1,h2=>by simp at h1 h2;subst h1;subst h2;simp [fL]
 | n :: ns,l :: ls,d,i + 1,m,k,hn,h1,h2=>by
  obtain ⟨hm,hn⟩:=nJ hn
  simp at h1 h2
  simp only [fL]
  rw [if_neg (fun e=>hm (by rw [e];exact List.mem_of_getElem? h1))]
  exact lB hn h1 h2
theorem qF {cv:Bool} {aK:List (Nat × OC)} {aU:List Ob} {ν:List Nat} {f:Nat->C} {S:bN} {F:Nat->Value->Prop} {loc:Nat->Loc}:∀{os:List Ob} {x:PD os} {ns ms:List Nat} {m:Nat} {oc:OC},eS cv aK aU ν os ns=some x->L4 eT X S F os x (ns.map loc)->ns.length=ms.length->
  look (lM f os x ms) m=some oc->∃(i n:Nat) (o:Ob) (y:OD o) (oc0:OC),ns[i]?=some n/\ms[i]?=some m/\os[i]?=some o/\look aK n=some oc0/\kj cv aK aU ν o oc0=some y/\oc=rn f o y/\Oq eT X S F o y (loc n):=by
 intro os
 induction os with
 | nil=>intro x ns ms m oc _ _ _ h;simp [lM,look] at h
 | cons o r ih=>
  intro x ns ms m oc hg hR hl h
  cases ns with
  | nil=>simp [eS] at hg
  | cons n ns=>
   cases ms with
   | nil=>simp at hl
   | cons k ms=>
    simp only [eS] at hg
    split at hg
    case h_2=>cases hg
    rename_i oc0 hob
    split at hg
    case h_2=>cases hg
    rename_i x0 y0 h1 h2
    cases hg
    simp only [lM,cV] at h
    split at h
    ·rename_i e
     cases h
     exact ⟨0,n,o,x0,oc0,rfl,by simp [e],rfl,hob,h1,rfl,hR.1⟩
    ·obtain ⟨i,n',o',y',oc',k1,k2,k3,k4⟩:=ih h2 hR.2 (by simpa using hl) h
     exact ⟨i + 1,n',o',y',oc',by simpa using k1,by simpa using k2,by simpa using k3,k4⟩
theorem CP {cv:Bool} {aK:List (Nat × OC)} {aU:List Ob} {ν:List Nat} {f:Nat->C} {o:Ob} {y:OD o} {oc:OC} (h:kj cv aK aU ν o oc=some y):(rn f o y).lo=oc.lo\/cv=true:=by
 cases o <;> cases oc <;> simp only [kj,reduceCtorEq] at h
 ·exact .inl rfl
 ·exact .inl rfl
 ·split at h
  ·exact .inr rfl
  ·cases h
 ·obtain ⟨e,h3⟩:=ow h
  subst e;simp only at h3;subst h3;exact .inl rfl
 ·exact .inl rfl
theorem qe {cv:Bool} {aK:List (Nat × OC)} {aU:List Ob} {ν:List Nat} {o:Ob} {y:OD o} {oc:OC} (h:kj cv aK aU ν o oc=some y) (f:Nat->C):(∀T cls,o = .box T cls->∃cs,oc = .cells T cs)/\
  (∀k t,o = .ext k t->∃x,oc = .ext k t x)/\(∀k t,o = .row k t->cv=false->∃xs,oc = .bE t xs)/\((∀t,o≠.tok t)->cv=false->∀t xs,oc≠.tok t xs):=by
 refine ⟨fun T cls e => ?_,fun k t e => ?_,fun k t e e2 => ?_,fun h1 h2 t xs e => ?_⟩
 ·subst e
  cases oc <;> simp only [kj,reduceCtorEq] at h
  split at h
  ·rename_i hT;rw [Nat.eq_of_beq_eq_true hT];exact ⟨_,rfl⟩
  ·cases h
 ·subst e
  cases oc <;> simp only [kj,reduceCtorEq] at h
  split at h
  ·rename_i hT
   obtain ⟨e,_⟩:=GB h
   subst e
   rw [Nat.eq_of_beq_eq_true hT];exact ⟨_,rfl⟩
  ·cases h
 ·subst e;subst e2
  cases oc <;> simp only [kj,reduceCtorEq] at h
  ·obtain ⟨e,_⟩:=ow h
   subst e
   exact ⟨_,rfl⟩
 ·subst e;subst h2
  cases o <;> simp only [kj,reduceCtorEq] at h
  exact h1 _ rfl
theorem qG {cv:Bool} {aK:List (Nat × OC)} {aU:List Ob} {ν:List Nat}:∀{os:List Ob} {ns:List Nat} {x:PD os},eS cv aK aU ν os ns=some x->os.length=ns.length:=by
 intro os
 induction os with
 | nil=>intro ns x h;cases ns with | nil=>rfl | cons=>simp [eS] at h
 | cons o r ih=>
  intro ns x h
  cases ns with
  | nil=>simp [eS] at h
  | cons n ns=>
   simp only [eS] at h
   split at h
   case h_2=>cases h
   split at h
   case h_2=>cases h
   rename_i h2
   simp [ih h2]
theorem qf {f:Nat->C}:∀{os:List Ob} {x:PD os} {ms:List Nat} {m:Nat},os.length=ms.length->m∈ms->∃oc,look (lM f os x ms) m=some oc:=by
 intro os
 induction os with
 | nil=>intro x ms m h hm;cases ms with | nil=>simp at hm | cons=>simp at h
 | cons o r ih=>
  intro x ms m h hm
  cases ms with
  | nil=>simp at h
  | cons k ms=>
   simp only [lM,cV]
   by_cases e:k=m
   ·exact ⟨_,by rw [if_pos e]⟩
   ·rw [if_neg e]
    rcases List.mem_cons.1 hm with hm | hm
    ·exact (e hm.symm).elim
    ·exact ih (by simpa using h) hm
theorem qg:∀{l:List Nat} {i j n:Nat},nodupB l=true->l[i]?=some n->l[j]?=some n->i=j
 | [],_,_,_,_,h,_=>by simp at h
 | m :: r,0,0,_,_,_,_=>rfl
 | m :: r,0,j + 1,n,hn,h1,h2=>by
  simp at h1 h2;subst h1
  exact ((nJ hn).1 (List.mem_of_getElem? h2)).elim
 | m :: r,i + 1,0,n,hn,h1,h2=>by
  simp at h1 h2;subst h2
  exact ((nJ hn).1 (List.mem_of_getElem? h1)).elim
 | m :: r,i + 1,j + 1,n,hn,h1,h2=>by
  simp at h1 h2
  rw [qg (nJ hn).2 h1 h2]
theorem wC {a:Ob} {r:List Ob} (h:gI (a :: r)=true):rp a=true/\gI r=true:=by
 cases a <;> simp [gI,rp] at h ⊢ <;> exact h
theorem yD:∀{l:List Ob} {i:Nat} {o:Ob},gI l=true->l[i]?=some o->rp o=true
 | [],_,_,_,h=>by simp at h
 | a :: r,0,o,hfl,h=>by simp at h;subst h;exact (wC hfl).1
 | a :: r,i + 1,o,hfl,h=>yD (wC hfl).2 (by simpa using h)
theorem Tm {S S2:bN} {F:Nat->Value->Prop} {f:Nat->C} {loc:Nat->Loc} (hNA:∀m t ys,S2.ob m=some (.tok t ys)->∀b∈(S2.loc m).bs,∀off,off < ys.length * t.size->¬ S2.A b off) (hw:S2.w=S.w) :
  ∀{os:List Ob} {x:PD os} {ns ms:List Nat},(gI os=true\/∀b o,S2.A b o->S.A b o)->L4 eT X S F os x (ns.map loc)->nodupB ms=true->ns.length=ms.length->(∀n∈ms,S2.ob n=look (lM f os x ms) n)->
   (∀(i n m:Nat),ns[i]?=some n->ms[i]?=some m->S2.loc m=loc n/\m < S2.next)->Laid eT S2 os x ms (ns.map loc):=by
 intro os
 induction os with
 | nil=>
  intro x ns ms _ h _ hl _ _
  have h:ns.map loc = []:=h
  cases ns with
  | nil=>cases ms with
   | nil=>exact ⟨rfl,rfl⟩
   | cons=>simp at hl
  | cons=>simp at h
 | cons o r ih=>
  intro x ns ms hA h hnd hl hob hloc
  cases ns with
  | nil=>exact h.elim
  | cons n ns=>
   cases ms with
   | nil=>simp at hl
   | cons m ms=>
    obtain ⟨hm,hnd'⟩:=nJ hnd
    obtain ⟨h1,h2⟩:=hloc 0 n m rfl rfl
    have hA':gI r=true\/∀b o,S2.A b o->S.A b o:=by
     rcases hA with hA | hA
     ·left;cases o <;> simp [gI] at hA <;> first | exact hA.2 | exact hA
     ·exact .inr hA
    refine ⟨⟨h1,h2,?_⟩,ih hA' h.2 hnd' (by simpa using hl) (fun k hk => ?_) (fun i a b ha hb=>hloc (i + 1) a b (by simpa using ha) (by simpa using hb))⟩
    ·cases o with
     | box T cls=>obtain ⟨b,vs,k1,_⟩:=h.1;exact ⟨b,k1⟩
     | row kp t=>rcases h.1 with ⟨_,⟨a,ha⟩,_⟩ | ⟨b,vs,T,cap,ha,_⟩ <;> exact ⟨_,_,_,ha⟩
     | tok t=>
      have hobm:S2.ob m=some (.tok t x.1):=by rw [hob m (by simp)];simp [lM,cV,rn]
      refine ⟨?_,fun ys hy=>by rw [hobm] at hy;cases hy;rfl⟩
      refine Q6 (X:=X) (GD.to (X:=X) (l:=loc n) hw ?_ h.1) fun b hb off ho=>hNA m t x.1 hobm b (by rw [h1];exact hb) off ho
      rcases hA with hA | hA
      ·left;simp [gI] at hA;exact hA.1
      ·exact .inr hA
     | ext k t=>
      cases k with
      | zero=>
       have hd:=X.deep.1 h.1
       obtain ⟨e,s,rfl,_⟩:=rV hd
       obtain ⟨_,_,v,hs,hv,_⟩:=hd
       exact ⟨v,hs,hv⟩
      | succ k=>
       show wB (loc n).v=(loc n).v
       cases k with
       | zero=>obtain ⟨e,_,b,es,fC,hm⟩:=X.map.1 h.1;rw [hm.lv];rfl
       | succ k=>obtain ⟨a,ha⟩:=X.ptr (by omega) h.1;rw [ha];rfl
    ·rw [hob k (by simp [hk])]
     simp only [lM,cV]
     rw [if_neg (fun e=>hm (by rw [e];exact hk))]
theorem L6 {cv:Bool} {aU:List Ob} {ν:List Nat} {x:PD aU} {O:aM} {st:St} {loc:Nat->Loc} {w:World} (g:Good eT X (aB O st loc w)) (hx:eS cv st.aK aU ν aU ν=some x)
  (hp:∀p∈jy aU x st.aK aU ν,p) (hnd:nodupB ν=true)
  {O2:aM} {ν2:List Nat} {rest:List (Nat × OC)} {locR:Nat->Loc} {st2:St} (hnd2:nodupB ν2=true) (hlen:ν.length=ν2.length)
  (hobjs:st2.aK=lM (iA aU x ν2) aU x ν2++rest) (hlt:∀n∈ν2,n < st2.next)
  (hO2:∀n∈ν,∀b∈(loc n).bs,∀off,¬ O2 b off)
  (hD:∀n∈ν,∀b∈(loc n).bs,∀m oc,look rest m=some oc->m∉ν2->b∉(locR m).bs)
  (hR:∀m oc,look rest m=some oc->m∉ν2->m < st2.next/\OR eT X (aB O2 st2 (fL ν2 (ν.map loc) locR) w) (locR m) oc)
  (hR2:∀m m' oc oc' b,look rest m=some oc->look rest m'=some oc'->m∉ν2->m'∉ν2->b∈(locR m).bs->b∈(locR m').bs->m=m')
  (hR3:∀m oc b off,look rest m=some oc->m∉ν2->b∈(locR m).bs->¬ O2 b off)
  (hA:gI aU=true\/∀b o,(aB O2 st2 (fL ν2 (ν.map loc) locR) w).A b o->(aB O st loc w).A b o)
  (hGl:∀b∈X.KC,¬ (aB O2 st2 (fL ν2 (ν.map loc) locR) w).pr b) :
  Good eT X (aB O2 st2 (fL ν2 (ν.map loc) locR) w)/\Laid eT (aB O2 st2 (fL ν2 (ν.map loc) locR) w) aU x ν2 (ν.map loc):=by
 have hobs:=qE (X:=X) g hx hx hp
 have hol:=qG hx
 generalize hf:iA aU x ν2=f at hobjs
 have hob:∀m oc,(aB O2 st2 (fL ν2 (ν.map loc) locR) w).ob m=some oc->
   (∃(i n:Nat) (o:Ob) (y:OD o) (oc0:OC),ν[i]?=some n/\ν2[i]?=some m/\look st.aK n=some oc0/\kj cv st.aK aU ν o oc0=some y/\oc=rn f o y/\Oq eT X (aB O st loc w) (CN (ν.map loc)) o y (loc n)/\
    fL ν2 (ν.map loc) locR m=loc n/\aU[i]?=some o)\/
   (look rest m=some oc/\m∉ν2/\fL ν2 (ν.map loc) locR m=locR m):=by
  intro m oc h
  simp only [aB,hobjs] at h
  rw [fB] at h
  split at h
  ·rename_i oc' h'
   cases h
   obtain ⟨i,n,o,y,oc0,k1,k2,k3,k4,k5,k6,k7⟩:=qF hx hobs hlen h'
   exact .inl ⟨i,n,o,y,oc0,k1,k2,k4,k5,k6,k7,lB hnd2 k2 (by simp [k1]),k3⟩
  ·rename_i h'
   have:m∉ν2:=fun hm=>by
    obtain ⟨oc1,h1⟩:=qf (f:=f) (x:=x) (by omega) hm
    rw [h1] at h';cases h'
   exact .inr ⟨h,this,oF this⟩
 have hap:∀m m' oc oc' b,(aB O2 st2 (fL ν2 (ν.map loc) locR) w).ob m=some oc->(aB O2 st2 (fL ν2 (ν.map loc) locR) w).ob m'=some oc'->
   b∈(fL ν2 (ν.map loc) locR m).bs->b∈(fL ν2 (ν.map loc) locR m').bs->m=m':=by
  intro m m' oc oc' b h1 h2 h3 h4
  rcases hob m oc h1 with ⟨i,n,o,y,oc0,k1,k2,k4,_,_,_,k8,_⟩ | ⟨k1,k2,k3⟩ <;> rcases hob m' oc' h2 with ⟨i',n',o',y',oc0',j1,j2,j4,_,_,_,j8,_⟩ | ⟨j1,j2,j3⟩
  ·rw [k8] at h3;rw [j8] at h4
   have e:=g.apart n n' oc0 oc0' b k4 j4 h3 h4
   subst e
   have:=qg hnd k1 j1
   subst this
   rw [k2] at j2;cases j2;rfl
  ·rw [k8] at h3;rw [j3] at h4
   exact (hD n (List.mem_of_getElem? k1) b h3 m' oc' j1 j2 h4).elim
  ·rw [k3] at h3;rw [j8] at h4
   exact (hD n' (List.mem_of_getElem? j1) b h4 m oc k1 k2 h3).elim
  ·rw [k3] at h3;rw [j3] at h4
   exact hR2 m m' oc oc' b k1 j1 k2 j2 h3 h4
 have hout:∀m oc b off,(aB O2 st2 (fL ν2 (ν.map loc) locR) w).ob m=some oc->b∈(fL ν2 (ν.map loc) locR m).bs->¬ O2 b off:=by
  intro m oc b off h1 h2
  rcases hob m oc h1 with ⟨i,n,o,y,oc0,k1,k2,k4,_,_,_,k8,_⟩ | ⟨k1,k2,k3⟩
  ·rw [k8] at h2;exact hO2 n (List.mem_of_getElem? k1) b h2 off
  ·rw [k3] at h2;exact hR3 m oc b off k1 k2 h2
 have hNA:∀m t ys,(aB O2 st2 (fL ν2 (ν.map loc) locR) w).ob m=some (.tok t ys)->∀b∈((aB O2 st2 (fL ν2 (ν.map loc) locR) w).loc m).bs,∀off,off < ys.length * t.size->¬ (aB O2 st2 (fL ν2 (ν.map loc) locR) w).A b off:=by
  rintro m t ys h1 b hb off ho (h2 | ⟨m',oc',h2,h3,h4⟩)
  ·exact hout m _ b off h1 hb h2
  ·have:=hap m m' _ oc' b h1 h2 hb h3
   subst this
   rw [h1] at h2;cases h2
   simp only [OC.lo] at h4
   omega
 have hlaid:Laid eT (aB O2 st2 (fL ν2 (ν.map loc) locR) w) aU x ν2 (ν.map loc):=by
  refine Tm (X:=X) (S:=aB O st loc w) (f:=f) hNA rfl hA hobs hnd2 hlen (fun n hn => ?_) (fun i n m h1 h2=>⟨lB hnd2 h2 (by simp [h1]),hlt m (List.mem_of_getElem? h2)⟩)
  show look st2.aK n=_
  rw [hobjs,fB]
  obtain ⟨oc1,h1⟩:=qf (f:=f) (x:=x) (by omega) hn
  rw [h1]
 refine ⟨⟨fun m oc h => ?_,fun m m' oc oc' b h1 h2 h3 h4=>hap m m' oc oc' b h1 h2 h3 h4,fun m oc b off h1 h2=>hout m oc b off h1 h2,g.oh.1,hGl⟩,hlaid⟩
 rcases hob m oc h with ⟨i,n,o,y,oc0,k1,k2,k4,k5,k6,k7,k8,k9⟩ | ⟨k1,k2,k3⟩
 ·refine ⟨hlt m (List.mem_of_getElem? k2),?_⟩
  show OR _ _ _ (fL ν2 (ν.map loc) locR m) oc
  rw [k8,k6]
  refine Uk (S:=aB O st loc w) (S':=aB O2 st2 (fL ν2 (ν.map loc) locR) w) rfl (fun k v hk=>by rw [<-hf];exact A7 hlaid hk) ?_ k7
  rcases hA with hA | hA
  ·left
   exact yD hA k9
  ·exact .inr hA
 ·obtain ⟨h1,h2⟩:=hR m oc k1 k2
  refine ⟨h1,?_⟩
  show OR _ _ _ (fL ν2 (ν.map loc) locR m) oc
  rw [k3];exact h2
def upto:Nat->Nat->List Nat
 | _,0=>[]
 | k,m + 1=>k :: upto (k + 1) m
def SR (aU:List Ob) (cls:List Cl) (vs:List dE) (aK:List (Nat × OC)) (Vy:List (Nat × Nat)):Option (List Nat):=
 match On cls vs Vy with
 | some as1=>match x9 aK 0 aU as1 with
  | some as2=>wz as2 0 aU.length
  | none=>none
 | none=>none
theorem Ae:∀(m k i:Nat),i < m->(upto k m)[i]?=some (k + i)
 | m + 1,k,0,_=>by simp [upto]
 | m + 1,k,i + 1,h=>by
  simp only [upto,List.getElem?_cons_succ]
  rw [Ae m (k + 1) i (by omega)]
  congr 1;omega
theorem uA:∀{m k n:Nat},n∈upto k m->k<=n/\n < k + m
 | 0,k,n,h=>by simp [upto] at h
 | m + 1,k,n,h=>by
  simp only [upto,List.mem_cons] at h
  rcases h with h | h
  ·omega
  ·have:=uA h;omega
theorem uB:∀(m k:Nat),(upto k m).length=m
 | 0,_=>rfl
 | m + 1,k=>by simp [upto,uB m]
theorem kJ:∀(m k:Nat),nodupB (upto k m)=true
 | 0,_=>rfl
 | m + 1,k=>by
  simp only [upto,nodupB,kJ m,Bool.and_true,Bool.not_eq_true']
  rw [Bool.eq_false_iff]
  intro h
  have:=uA (Ad.1 h)
  omega
theorem l9 {cv:Bool} {aK:List (Nat × OC)} {aU:List Ob} {ν:List Nat}:∀{os:List Ob} {ns:List Nat} {x:PD os} {n:Nat},eS cv aK aU ν os ns=some x->n∈ns->
  ∃o oc y,o∈os/\look aK n=some oc/\kj cv aK aU ν o oc=some y:=by
 intro os
 induction os with
 | nil=>intro ns x n h hn;cases ns with | nil=>simp at hn | cons=>simp [eS] at h
 | cons o r ih=>
  intro ns x n h hn
  cases ns with
  | nil=>simp at hn
  | cons k ns=>
   simp only [eS] at h
   split at h
   case h_2=>cases h
   rename_i oc hob
   split at h
   case h_2=>cases h
   rename_i x0 y0 h1 h2
   rcases List.mem_cons.1 hn with e | hn
   ·subst e;exact ⟨o,oc,x0,by simp,hob,h1⟩
   ·obtain ⟨o',oc',y',k1,k2⟩:=ih h2 hn
    exact ⟨o',oc',y',by simp [k1],k2⟩
end
end Go.Vg

namespace Go.Vg
open Go.RowKit
inductive Ex where
 | normal
 | exit (n:Nat)
 | ret
def FN:(cls:List Cl)->CD cls
 | []=>()
 | .d t :: r=>(bO t,FN r)
 | .obj _ :: r=>FN r
 | .iv :: r=>FN r
def U8:(o:Ob)->OD o
 | .box _ cls=>FN cls
 | .row _ _=>[]
 | .tok _=>[]
 | .ext _ t=>bO t
def SS:(os:List Ob)->PD os
 | []=>()
 | o :: r=>(U8 o,SS r)
structure lW:Type 1 where
 X:Type
 inv:X->Prop
 bA:X->Nat
 aS:X->List (Nat × SV)
 aK:X->List (Nat × OC):=fun _=>[]
 aX:List Nat
 jj:List Nat:=[]
 eD:List Nat:=[]
 aU:List Ob:=[]
 refs:List (Nat × Nat):=[]
 pd:X->PD aU:=fun _=>SS aU
@[reducible] def sI (x:Int):SV:=.s (.one (.d (.int .i64) x))
@[reducible] def sB (x:Bool):SV:=.s (.one (.d .bool x))
@[reducible] def sS (x:List UInt8):SV:=.s (.one (.d .str x))
@[reducible] def sD (t:Ty) (x:D t):SV:=.s (.one (.d t x))
abbrev cN:=List (Nat × (St->lW))
def uC:C->C->Prop
 | .lit b, .d .bool c=>b=c
 | .d t x, .d t' y=>match h:Ty.beq t t' with
  | true=>cR h x=y
  | false=>False
 | .app t xs n, .app t' ys m=>match h:Ty.beq (.slice t) (.slice t'),Nat.beq n m with
  | true,true=>cR h (a:=.slice t) (b:=.slice t') xs=ys
  | _,_=>False
 | a,b=>a=b
def qh:SV->SV->Prop
 | .s (.one a), .s (.one b)=>uC a b
 | a,b=>a=b
def wD:List C->List C->Prop
 | [],[]=>True
 | a :: Vy,b :: bs=>uC a b/\wD Vy bs
 | _,_=>False
def mC:OC->OC->Prop
 | .cells T cs, .cells T' cs'=>match Nat.beq T T' with
  | true=>wD cs cs'
  | false=>False
 | .bE t xs, .bE t' ys=>match h:Ty.beq (.slice t) (.slice t') with
  | true=>cR h (a:=.slice t) (b:=.slice t') xs=ys
  | false=>False
 | .arr t xs, .arr t' ys=>match h:Ty.beq (.slice t) (.slice t') with
  | true=>cR h (a:=.slice t) (b:=.slice t') xs=ys
  | false=>False
 | .tok t xs, .tok t' ys=>match h:Ty.beq (.slice t) (.slice t') with
  | true=>cR h (a:=.slice t) (b:=.slice t') xs=ys
  | false=>False
 | .ext k t x, .ext k' t' y=>match Nat.beq k k',h:Ty.beq t t' with
  | true,true=>cR h x=y
  | _,_=>False
 | .iter cs seen cl, .iter cs' seen' cl'=>wD cs cs'/\seen=seen'/\cl=cl'
 | _,_=>False
def nK (st:St):List (Nat × SV)->Prop
 | []=>True
 | (n,v) :: r=>match look st.env n with
  | some u=>qh u v/\nK st r
  | none=>False
def nL (st:St):List (Nat × OC)->Prop
 | []=>True
 | (n,v) :: r=>match look st.aK n with
  | some u=>mC u v/\nL st r
  | none=>False
def pE (st:St):List Nat->List (Nat × SV)
 | []=>[]
 | t :: r=>match look st.env t with
  | some v=>(t,v) :: pE st r
  | none=>pE st r
def jH (st:St):List Nat->List (Nat × OC)
 | []=>[]
 | t :: r=>match look st.aK t with
  | some v=>(t,v) :: jH st r
  | none=>jH st r
def cE (an:lW) (st:St) (x:an.X):St:=
 {env:=an.aS x++pE st an.aX,aK:=an.aK x++jH st an.jj,next:=st.next}
def ic (l:List Oper):List Nat:=l.filterMap (·.dst)
def writes (anns:cN):Nat->Code->List Nat
 | _, .region _ ops _=>ic ops.toList
 | k, .seq a b=>writes anns k a++writes anns k b
 | k, .cond _ a b=>writes anns k a++writes anns k b
 | _, .block id b=>writes anns id b
 | k, .loop b=>match look anns (k + 200000) with
  | some _=>allM :: writes anns k b
  | none=>writes anns k b
 | _,_=>[]
def uD (n:Nat):List Nat->Bool
 | []=>false
 | m :: r=>match Nat.beq m n with
  | true=>true
  | false=>uD n r
def sa (l:List Nat) (W:List Nat):Bool:=match l with
 | []=>true
 | _ => !(uD allM W) && l.all fun n => !(uD n W)
def kK (k:Nat):List Nat->Bool
 | []=>true
 | n :: r=>Nat.blt n k && kK k r
def qi (k:Nat):C->Bool
 | .app _ _ n | .bE n | .og n | .eZ n | .xd n _ | .ref n _ | .ra n | .lG n _ _ _ | .oN n _ _ _=>Nat.blt n k
 | .fn _ caps=>kK k caps
 | _=>true
def oG (k:Nat):List C->Bool
 | []=>true
 | c :: r=>qi k c && oG k r
def GF (k:Nat):dE->Bool
 | .one c=>qi k c
 | .agg cs=>oG k cs
def jI (k:Nat):List (Nat × SV)->Bool
 | []=>true
 | (_, .s v) :: r=>GF k v && jI k r
 | (_, .nx _) :: _=>false
def KU (k:Nat):OC->Bool
 | .cells _ cs=>oG k cs
 | .iter cs _ _=>oG k cs
 | _=>true
def jv (k:Nat):List (Nat × OC)->Bool
 | []=>true
 | (n,oc) :: r=>Nat.blt n k && KU k oc && jv k r
def mE (env:List (Nat × SV)):List Nat->Bool
 | []=>true
 | t :: r=>match look env t with
  | some _=>mE env r
  | none=>false
def mF (W:List Nat):List (Nat × SV)->Bool
 | []=>true
 | (n,_) :: r=>uD n W && mF W r
def FO (env:List (Nat × SV)):List Nat->List Nat
 | []=>[]
 | t :: r=>match look env t with
  | some (.s _)=>t :: FO env r
  | _=>FO env r
def sb (eD:List Nat):List (Nat × OC)->List Nat
 | []=>[]
 | (n,_) :: r=>match uD n eD with
  | true=>sb eD r
  | false=>n :: sb eD r
def ya (st:St) (an:lW):lW:=
 {an with aX:=FO st.env an.aX,jj:=match an.jj with
  | []=>sb an.eD st.aK
  | l=>l}
def aZ (ty:Ty) (st:St) (t:Nat):D ty:=
 match look st.env t with
 | some (.s c)=>match qq ty c with
  | some x=>x
  | none=>bO ty
 | _=>bO ty
def rowOf (ty:Ty) (st:St) (n:Nat):List (D ty):=
 match look st.aK n with
 | some (.bE t xs)=>match h:Ty.beq (.slice t) (.slice ty) with
  | true=>cR h (a:=.slice t) xs
  | false=>[]
 | some (.arr t xs)=>match h:Ty.beq (.slice t) (.slice ty) with
  | true=>cR h (a:=.slice t) xs
  | false=>[]
 | some (.tok t xs)=>match h:Ty.beq (.slice t) (.slice ty) with
  | true=>cR h (a:=.slice t) xs
  | false=>[]
 | _=>[]
def aQ (st:St) (t:Nat):Nat:=
 match look st.env t with
 | some (.s (.one (.bE n)))=>n
 | some (.s (.one (.og n)))=>n
 | some (.s (.one (.eZ n)))=>n
 | some (.s (.one (.xd n _)))=>n
 | some (.s (.one (.ref n _)))=>n
 | some (.s (.one (.app _ _ n)))=>n
 | _=>0
def Ul (st:St) (n:Nat) (seen:List Int):OC:=
 match look st.aK n with
 | some (.iter cs _ cl) => .iter cs seen cl
 | _ => .iter [] seen 0
def eL (st:St) (n k:Nat):Nat:=
 match look st.aK n with
 | some (.cells _ cs)=>match cs[k]? with
  | some (.bE m)=>m
  | some (.ref m _)=>m
  | some (.app _ _ m)=>m
  | some (.eZ m)=>m
  | some (.xd m _)=>m
  | _=>0
 | _=>0
def L7 (ty:Ty) (st:St) (n k:Nat):D ty:=
 match look st.aK n with
 | some (.cells _ cs)=>match cs[k]? with
  | some c=>match vF ty c with
   | some x=>x
   | none=>bO ty
  | none=>bO ty
 | _=>bO ty
def Tn (_:Nat) (_:St):Prop:=False
def ln (an:lW) (st st':St):VC:=
 match mE st'.env an.aX with
 | true => .leaf (∃x',an.inv x'/\nK st' (an.aS x')/\nL st' (an.aK x'++jH st an.jj))
 | false => .ff
def SU (st:St):List (Nat × Nat)->Option (List (Nat × Nat))
 | []=>some []
 | (t,k) :: r=>match look st.env t,SU st r with
  | some (.s (.one c)),some Vy=>match SQ c with
   | some n=>match look Vy k with
    | some _=>some Vy
    | none=>some ((k,n) :: Vy)
   | none=>none
  | _,_=>none
def Ot (st:St) (an:lW):Option (List Nat):=
 match SU st an.refs with
 | some as1=>match x9 st.aK 0 an.aU as1 with
  | some as2=>wz as2 0 an.aU.length
  | none=>none
 | none=>none
def wE (st:St) (an:lW) (ν:List Nat):List (Nat × Nat)->Bool
 | []=>true
 | (t,k) :: r=>(match look st.env t with
  | some (.s (.one c))=>ke false st.aK an.aU ν k c
  | _=>false) && wE st an ν r
def A8 (st:St) (an:lW) (y:PD an.aU):List (Nat × Nat)->List Prop
 | []=>[]
 | (t,k) :: r=>(match look st.env t with
  | some (.s (.one c))=>sO an.aU y k c
  | _=>[])++A8 st an y r
def wF (an:lW) (y:PD an.aU) (us:List Nat):List (Nat × Nat)->List (Nat × SV)
 | []=>[]
 | (t,k) :: r=>(t, .s (.one (iA an.aU y us k))) :: wF an y us r
def A9 (an:lW) (st:St) (x:an.X):List (Nat × SV):=an.aS x++pE st an.aX
def qH (an:lW) (st:St) (x:an.X):List (Nat × OC):=an.aK x++jH st an.jj
def dS (an:lW) (st:St) (x:an.X):St:=
 {env:=wF an (an.pd x) (upto st.next an.aU.length) an.refs++A9 an st x,
  aK:=lM (iA an.aU (an.pd x) (upto st.next an.aU.length)) an.aU (an.pd x) (upto st.next an.aU.length)++qH an st x,next:=st.next + an.aU.length}
def qX (ν:List Nat):List (Nat × OC)->Bool
 | []=>true
 | (n,_) :: r => !(oq n ν) && qX ν r
def wG (aX:List Nat):List (Nat × Nat)->Bool
 | []=>true
 | (t,_) :: r => !(uD t aX) && wG aX r
def tA (an:lW) (st:St) (W:List Nat) (x:an.X):Bool:=jI st.next (A9 an st x) && (jv st.next (qH an st x) && (mF W (an.aS x) && wG an.aX an.refs))
def GG (st:St) (an:lW):lW:=
 {an with aX:=(FO st.env an.aX).filter (fun t=>wG [t] an.refs),jj:=match an.jj with
  | []=>sb (an.eD++(match Ot st an with | some l=>l | none=>[])) st.aK
  | l=>l}
def Ba (an:lW) (st st':St) (more:an.X->Prop):VC:=
 match Ot st' an with
 | some ν=>match nodupB ν && (wE st' an ν an.refs),eS false st'.aK an.aU ν an.aU ν with
  | true,some y => .leaf (L3 (A8 st' an y an.refs++jy an.aU y st'.aK an.aU ν++[∃x',an.inv x'/\more x'/\nK st' (an.aS x')/\nL st' (an.aK x'++jH st an.jj)/\(qX ν (qH an st x')=true/\y=an.pd x')]))
  | _,_ => .ff
 | none => .ff
def FP (cx:Cx) (ops:Array Oper) (draw:Bool) (st:St) (K:St->VC):VC:=
 match draw with
 | false=>FJ cx ops.toList ops.toList st K
 | true=>match uu ops with
  | true=>Ub cx ops st fun st'=>K (canon st.next (ic ops.toList) st')
  | false => .ff
def mG:Code->Nat->Nat
 | .region id _ _,_=>id
 | .seq a b,d=>mG a (mG b d)
 | .cond _ a b,d=>mG a (mG b d)
 | .block _ b,d=>mG b d
 | .loop b,d=>mG b d
 | _,d=>d
def vc (cx:Cx) (anns:cN):Code->Nat->St->(Ex->St->VC)->VC
 | .skip,_,st,K=>K .normal st
 | .region id ops draw,_,st,K=>match (look anns (id + 300000)).map (fun f=>ya st (f st)) with
  | none=>FP cx ops draw st (K .normal)
  | some an=>match sa an.aX (ic ops.toList) with
   | true => .both (FP cx ops draw st (ln an st))
    (.all an.X fun x => .imp (an.inv x) (match jI st.next (cE an st x).env && (jv st.next (cE an st x).aK && mF (ic ops.toList) (an.aS x)) with
     | true=>K .normal (cE an st x)
     | false => .ff))
   | false => .ff
 | .seq a b,cur,st,K=>vc cx anns a cur st fun e st'=>match e with
  | .normal=>vc cx anns b cur st' K
  | e=>K e st'
 | .cond c a b,cur,st,K=>match (look anns (mG a (mG b 0) + 400000)).map (fun f=>ya st (f st)) with
  | none=>match eJ st.env c with
   | .lit true=>vc cx anns a cur st K
   | .lit false=>vc cx anns b cur st K
   | .d .bool g => .ite g (vc cx anns a cur st K) (vc cx anns b cur st K)
   | _ => .ff
  | some an=>match sa an.aX (writes anns cur (.cond c a b)) with
   | true => .both (match eJ st.env c with
    | .lit true=>vc cx anns a cur st fun e st'=>match e with
     | .normal=>ln an st st'
     | e=>K e st'
    | .lit false=>vc cx anns b cur st fun e st'=>match e with
     | .normal=>ln an st st'
     | e=>K e st'
    | .d .bool g => .ite g (vc cx anns a cur st fun e st'=>match e with
     | .normal=>ln an st st'
     | e=>K e st') (vc cx anns b cur st fun e st'=>match e with
     | .normal=>ln an st st'
     | e=>K e st')
    | _ => .ff)
    (.all an.X fun x => .imp (an.inv x) (match jI st.next (cE an st x).env && (jv st.next (cE an st x).aK && mF (writes anns cur (.cond c a b)) (an.aS x)) with
     | true=>K .normal (cE an st x)
     | false => .ff))
   | false => .ff
 | .block id b,_,st,K=>match (look anns (id + 100000)).map (fun f=>ya st (f st)) with
  | none=>vc cx anns b id st fun e st'=>match e with
   | .exit i=>match Nat.beq i id with
    | true=>K .normal st'
    | false=>K (.exit i) st'
   | e=>K e st'
  | some an=>match sa an.aX (writes anns id b) with
   | true => .both (vc cx anns b id st fun e st'=>match e with
    | .exit i=>match Nat.beq i id with
     | true=>ln an st st'
     | false=>K (.exit i) st'
    | .normal=>ln an st st'
    | .ret=>K .ret st')
    (.all an.X fun x => .imp (an.inv x) (match jI st.next (cE an st x).env && (jv st.next (cE an st x).aK && mF (writes anns id b) (an.aS x)) with
     | true=>K .normal (cE an st x)
     | false => .ff))
   | false => .ff
 | .loop b,cur,st,K=>match look anns (cur + 200000) with
  | none=>match (look anns cur).map (fun f=>ya st (f st)) with
   | some an=>match sa an.aX (writes anns cur b) with
    | true => .and (∃x,an.inv x/\nK st (an.aS x)/\nL st (an.aK x))
      (.all an.X fun x => .imp (an.inv x) (match jI st.next (cE an st x).env && (jv st.next (cE an st x).aK && mF (writes anns cur b) (an.aS x)) with
       | true=>vc cx anns b cur (cE an st x) fun e st'=>match e with
        | .normal=>match mE st'.env an.aX with
         | true => .leaf (∃x',an.inv x'/\an.bA x' < an.bA x/\nK st' (an.aS x')/\nL st' (an.aK x'++jH st an.jj))
         | false => .ff
        | e=>K e st'
       | false => .ff))
    | false => .ff
   | none => .leaf (Tn cur st)
  | some f=>match GG st (f st) with
   | an=>match sa an.aX (writes anns cur b) with
    | true => .both (Ba an st st fun _=>True)
      (.all an.X fun x => .imp (an.inv x) (match tA an st (writes anns cur b) x with
       | true=>vc cx anns b cur (dS an st x) fun e st'=>match e with
        | .normal=>match mE st'.env an.aX with
         | true=>Ba an st st' fun x'=>an.bA x' < an.bA x
         | false => .ff
        | e=>K e st'
       | false => .ff))
    | false => .ff
 | .exit id,_,st,K=>K (.exit id) st
 | .ret,_,st,K=>K .ret st
 | _,_,_,_ => .ff
section
variable {X:Ext} {P:Program} {cx:Cx}
theorem Du {S:bN} {a b:C} {v:Value} (h:uC a b) (hv:CR cx.eT S a v):CR cx.eT S b v:=by
 unfold uC at h
 split at h
 ·subst h;exact fA.2 hv
 ·split at h
  ·rename_i hb
   subst h
   exact lJ hb _ hv
  ·exact h.elim
 ·split at h
  ·rename_i t xs n t' ys m _ hb hn
   have hn:=Nat.eq_of_beq_eq_true hn
   subst hn
   have:t=t':=by have:=Ty.eq_of_beq hb;cases this;rfl
   subst this
   rw [gB] at h
   subst h
   exact hv
  ·exact h.elim
 ·subst h;exact hv
theorem Bb {S:bN} {a b:SV} {v:Value} (h:qh a b) (hv:eH cx.eT S a v):eH cx.eT S b v:=by
 unfold qh at h
 split at h
 ·exact Du h hv
 ·subst h;exact hv
theorem Bc {S:bN}:∀{Vy bs:List C} {vs:List Value},wD Vy bs->eP cx.eT S Vy vs->eP cx.eT S bs vs:=by
 intro Vy
 induction Vy with
 | nil=>
  intro bs vs h hv
  cases bs with
  | nil=>exact hv
  | cons=>exact h.elim
 | cons a Vy ih=>
  intro bs vs h hv
  cases bs with
  | nil=>exact h.elim
  | cons b bs=>
   cases hv with
   | cons h1 h2 h3=>exact .cons (Du h.1 h1) h2 (ih h.2 h3)
theorem Bd {S:bN} {l:Loc} {a b:OC} (h:mC a b) (hv:OR cx.eT X S l a):OR cx.eT X S l b/\bB l l a b/\a.lo=b.lo:=by
 unfold mC at h
 split at h
 ·split at h
  ·rename_i hT
   have:=Nat.eq_of_beq_eq_true hT
   subst this
   obtain ⟨b,vs,h1,h2,h3,h4⟩:=hv
   exact ⟨⟨b,vs,h1,h2,h3,Bc h h4⟩,rfl,rfl⟩
  ·exact h.elim
 ·split at h
  ·rename_i t xs t' ys hb
   have:t=t':=by have:=Ty.eq_of_beq hb;cases this;rfl
   subst this;rw [gB] at h;subst h
   exact ⟨hv,rfl,rfl⟩
  ·exact h.elim
 ·split at h
  ·rename_i t xs t' ys hb
   have:t=t':=by have:=Ty.eq_of_beq hb;cases this;rfl
   subst this;rw [gB] at h;subst h
   exact ⟨hv,rfl,rfl⟩
  ·exact h.elim
 ·split at h
  ·rename_i t xs t' ys hb
   have:t=t':=by have:=Ty.eq_of_beq hb;cases this;rfl
   subst this;rw [gB] at h;subst h
   exact ⟨hv,⟨rfl,Nat.le_refl _,fun _=>rfl⟩,rfl⟩
  ·exact h.elim
 ·split at h
  ·rename_i k t x k' t' y hk hb
   have:=Nat.eq_of_beq_eq_true hk
   subst this
   have:=Ty.eq_of_beq hb
   subst this;rw [jS] at h;subst h
   exact ⟨hv,⟨rfl,rfl⟩,rfl⟩
  ·exact h.elim
 ·obtain ⟨h1,rfl,rfl⟩:=h
  obtain ⟨b,m,c,sn,k1,k2,k3,k4,k5,k6⟩:=hv
  exact ⟨⟨b,m,c,sn,k1,k2,k3,Bc h1 k4,k5,k6⟩,trivial,rfl⟩
 ·exact h.elim
theorem uE {n:Nat} {l:List Nat}:uD n l=true ↔ n∈l:=by
 induction l with
 | nil=>simp [uD]
 | cons m r ih=>
  simp only [uD,List.mem_cons]
  by_cases h:m=n
  ·subst h;simp [Nat.beq_refl]
  ·rw [nD h];simp only [ih]
   constructor
   ·exact .inr
   ·rintro (h' | h')
    ·exact absurd h'.symm h
    ·exact h'
theorem sd {l W:List Nat} (h:sa l W=true):∀n∈l,allM∉W/\n∉W:=by
 intro n hn
 unfold sa at h
 split at h
 ·simp at hn
 ·simp only [Bool.and_eq_true,List.all_eq_true,Bool.not_eq_true'] at h
  exact ⟨fun hW=>by rw [uE.2 hW] at h;exact absurd h.1 (by decide),fun hW=>by have:=h.2 n hn;rw [uE.2 hW] at this;cases this⟩
def se (cx:Cx) (X:Ext) (O:aM) (K:Ex->St->VC) (W:List Nat) (st:St) (S:bN):Exit->Act->World->Prop
 | .normal,a,w=>gM cx X O (K .normal) W st S a w
 | .exit n,a,w=>gM cx X O (K (.exit n)) W st S a w
 | .ret,a,w=>gM cx X O (K .ret) W st S a w
 | _,_,_=>False
theorem se.mono {O:aM} {K:Ex->St->VC} {W W':List Nat} {st st1:St} {S S1:bN} {e:Exit} {a:Act} {w:World} (h:se cx X O K W st1 S1 e a w) (ht:Tr S S1) (ha:n5 W' st st1) (hW:∀n∈W,n∈W'):se cx X O K W' st S e a w:=by
 have key:∀K:St->VC,gM cx X O K W st1 S1 a w->gM cx X O K W' st S a w:=by
  rintro K ⟨st',loc',k1,k2,k3,k4,k5⟩
  exact ⟨st',loc',k1,k2,ht.trans k3,k4,ha.trans fun hm t ht=>k5 (fun h=>hm (hW _ h)) t fun h=>ht (hW t h)⟩
 cases e with
 | normal=>exact key _ h
 | exit n=>exact key _ h
 | ret=>exact key _ h
 | goto l=>exact h
 | panic c=>exact h
 | outgrown=>exact h
theorem iC {st:St} {l:List Nat} {n:Nat} {v:SV} (h:look (pE st l) n=some v):n∈l/\look st.env n=some v:=by
 induction l with
 | nil=>simp [pE,look] at h
 | cons t r ih=>
  simp only [pE] at h
  split at h
  ·rename_i u hu
   rw [cV] at h
   by_cases e:t=n
   ·rw [if_pos e] at h;cases h;subst e;exact ⟨by simp,hu⟩
   ·rw [if_neg e] at h;have:=ih h;exact ⟨by simp [this.1],this.2⟩
  ·have:=ih h;exact ⟨by simp [this.1],this.2⟩
theorem Fu {st:St} {l:List Nat} {n:Nat} {v:OC} (h:look (jH st l) n=some v):look st.aK n=some v:=by
 induction l with
 | nil=>simp [jH,look] at h
 | cons t r ih=>
  simp only [jH] at h
  split at h
  ·rename_i u hu
   rw [cV] at h
   by_cases e:t=n
   ·rw [if_pos e] at h;cases h;subst e;exact hu
   ·rw [if_neg e] at h;exact ih h
  ·exact ih h
theorem nM {st:St} {l:List (Nat × SV)} (h:nK st l):∀{n v},look l n=some v->∃u,look st.env n=some u/\qh u v:=by
 induction l with
 | nil=>intro n v hl;simp [look] at hl
 | cons p r ih=>
  obtain ⟨m,x⟩:=p
  intro n v hl
  simp only [nK] at h
  split at h
  ·rename_i u hu
   rw [cV] at hl
   by_cases e:m=n
   ·rw [if_pos e] at hl;cases hl;subst e;exact ⟨u,hu,h.1⟩
   ·rw [if_neg e] at hl;exact ih h.2 hl
  ·exact h.elim
theorem nN {st:St} {l:List (Nat × OC)} (h:nL st l):∀{n v},look l n=some v->∃u,look st.aK n=some u/\mC u v:=by
 induction l with
 | nil=>intro n v hl;simp [look] at hl
 | cons p r ih=>
  obtain ⟨m,x⟩:=p
  intro n v hl
  simp only [nL] at h
  split at h
  ·rename_i u hu
   rw [cV] at hl
   by_cases e:m=n
   ·rw [if_pos e] at hl;cases hl;subst e;exact ⟨u,hu,h.1⟩
   ·rw [if_neg e] at hl;exact ih h.2 hl
  ·exact h.elim
theorem dC {a b:Nat} (h:Nat.blt a b=true):a < b:=nE h
theorem L8 {S S':bN} (hO:∀b o v,¬ S.A b o->S.w.cell? ⟨b,o,none⟩=some v->S'.w.cell? ⟨b,o,none⟩=some v/\¬ S'.A b o) (hloc:S'.loc=S.loc)
  (hob:∀n oc,S'.ob n=some oc->∃oc0,S.ob n=some oc0/\bB (S.loc n) (S.loc n) oc0 oc) {c:C} {v:Value} (hb:qi S'.next c=true) (hv:CR cx.eT S c v):CR cx.eT S' c v:=by
 cases c with
 | lit b=>exact hv
 | d t x=>exact VR.frame hv hO
 | app t xs n=>
  obtain ⟨h1,h2,h3⟩:=hv
  refine ⟨VR.frame h1 hO,dC hb,fun ys hy => ?_⟩
  obtain ⟨oc0,k1,k2⟩:=hob n _ hy
  cases oc0 <;> simp [bB] at k2
  obtain ⟨rfl,k3⟩:=k2
  obtain ⟨m1,m2⟩:=h3 _ k1
  rw [hloc]
  exact ⟨by omega,fun e=>m2 (by omega)⟩
 | jR=>exact hv
 | iv=>exact hv
 | emp=>exact hv
 | bE n=>
  refine ⟨dC hb,fun t xs e => ?_⟩
  obtain ⟨oc0,k1,k2⟩:=hob n _ e
  cases oc0 <;> simp [bB] at k2
  rw [hloc];exact hv.2 _ _ k1
 | oN n t lo len=>
  refine ⟨dC hb,fun xs e => ?_⟩
  obtain ⟨oc0,k1,k2⟩:=hob n _ e
  cases oc0 <;> simp [bB] at k2
  subst k2
  rw [hloc];exact hv.2 _ k1
 | og n=>
  refine ⟨dC hb,fun t xs e => ?_⟩
  obtain ⟨oc0,k1,k2⟩:=hob n _ e
  cases oc0 <;> simp [bB] at k2
  rw [hloc];exact hv.2 _ _ k1
 | eZ n=>
  refine ⟨dC hb,fun oc e hx => ?_⟩
  obtain ⟨oc0,k1,k2⟩:=hob n _ e
  rw [hloc];exact hv.2 _ k1 (by cases oc0 <;> cases oc <;> first | rfl | exact k2.elim | cases hx)
 | xd n p=>
  refine ⟨dC hb,fun t x e => ?_⟩
  obtain ⟨oc0,k1,k2⟩:=hob n _ e
  cases oc0 <;> simp [bB] at k2
  obtain ⟨rfl,rfl⟩:=k2
  rw [hloc];exact hv.2 _ _ k1
 | ref n off=>
  refine ⟨dC hb,fun T cs e => ?_⟩
  obtain ⟨oc0,k1,k2⟩:=hob n _ e
  cases oc0 <;> simp [bB] at k2
  rw [hloc];exact hv.2 _ _ k1
 | ra n=>
  refine ⟨dC hb,?_⟩
  rcases hv.2 with hn | hn
  ·exact .inl hn
  ·refine .inr fun T cs e => ?_
   obtain ⟨oc0,k1,k2⟩:=hob n _ e
   cases oc0 <;> simp [bB] at k2
   rw [hloc];exact hn _ _ k1
 | lG n t i off=>
  refine ⟨dC hb,fun ⟨xs,e⟩ => ?_⟩
  rw [hloc]
  rcases e with e | e
  ·obtain ⟨oc0,k1,k2⟩:=hob n _ e
   cases oc0 <;> simp [bB] at k2
   subst k2;exact hv.2 ⟨_, .inl k1⟩
  ·obtain ⟨oc0,k1,k2⟩:=hob n _ e
   cases oc0 <;> simp [bB] at k2
   subst k2;exact hv.2 ⟨_, .inr k1⟩
 | oO t x=>
  obtain ⟨b,o,us,rfl,h1,h2⟩:=hv
  exact ⟨b,o,us,rfl,h1.frame hO,h2.frame hO⟩
 | fn f caps=>
  obtain ⟨rfl,h2⟩:=hv
  refine ⟨by rw [hloc],fun n hn=>⟨?_,fun t ys e => ?_⟩⟩
  ·have:∀l:List Nat,kK S'.next l=true->n∈l->n < S'.next:=by
    intro l
    induction l with
    | nil=>intro _ h;simp at h
    | cons m r ih=>
     intro h hm
     simp only [kK,Bool.and_eq_true] at h
     rcases List.mem_cons.1 hm with rfl | hm
     ·exact dC h.1
     ·exact ih h.2 hm
   exact this caps hb hn
  ·obtain ⟨oc0,k1,k2⟩:=hob n _ e
   cases oc0 <;> simp [bB] at k2
   exact (h2 n hn).2 _ _ k1
 | any=>trivial
theorem tB {k:Nat}:∀{l:List Nat} {n:Nat},kK k l=true->n∈l->n < k
 | [],_,_,h=>by simp at h
 | m :: r,n,h,hn=>by
  simp only [kK,Bool.and_eq_true] at h
  rcases List.mem_cons.1 hn with e | hn
  ·rw [e];exact dC h.1
  ·exact tB h.2 hn
theorem rq {S S':bN} {k:Nat} (hrel:∀{c:C} {v:Value},qi k c=true->CR cx.eT S c v->CR cx.eT S' c v):∀{cs:List C} {vs:List Value},oG k cs=true->eP cx.eT S cs vs->eP cx.eT S' cs vs:=by
 intro cs
 induction cs with
 | nil=>intro vs _ h;cases h;exact .nil
 | cons c cs ih=>
  intro vs hb h
  simp only [oG,Bool.and_eq_true] at hb
  cases h with
  | cons h1 h2 h3=>exact .cons (hrel hb.1 h1) h2 (ih hb.2 h3)
theorem Jg {S S':bN} (hO:∀b o v,¬ S.A b o->S.w.cell? ⟨b,o,none⟩=some v->S'.w.cell? ⟨b,o,none⟩=some v/\¬ S'.A b o) {k:Nat} (hk:k<=S'.next) (hloc:∀n,n < k->S'.loc n=S.loc n)
  (hob:∀n oc,n < k->S'.ob n=some oc->∃oc0,S.ob n=some oc0/\bB (S.loc n) (S.loc n) oc0 oc) {c:C} {v:Value} (hb:qi k c=true) (hv:CR cx.eT S c v):CR cx.eT S' c v:=by
 cases c with
 | lit b=>exact hv
 | d t x=>exact VR.frame hv hO
 | app t xs n=>
  obtain ⟨h1,h2,h3⟩:=hv
  refine ⟨VR.frame h1 hO,Nat.lt_of_lt_of_le (dC hb) hk,fun ys hy => ?_⟩
  obtain ⟨oc0,k1,k2⟩:=hob n _ (dC hb) hy
  cases oc0 <;> simp [bB] at k2
  obtain ⟨rfl,k3⟩:=k2
  obtain ⟨m1,m2⟩:=h3 _ k1
  rw [hloc n (dC hb)]
  exact ⟨by omega,fun e=>m2 (by omega)⟩
 | jR=>exact hv
 | iv=>exact hv
 | emp=>exact hv
 | bE n=>
  refine ⟨Nat.lt_of_lt_of_le (dC hb) hk,fun t xs e => ?_⟩
  obtain ⟨oc0,k1,k2⟩:=hob n _ (dC hb) e
  cases oc0 <;> simp [bB] at k2
  rw [hloc n (dC hb)];exact hv.2 _ _ k1
 | oN n t lo len=>
  refine ⟨Nat.lt_of_lt_of_le (dC hb) hk,fun xs e => ?_⟩
  obtain ⟨oc0,k1,k2⟩:=hob n _ (dC hb) e
  cases oc0 <;> simp [bB] at k2
  subst k2
  rw [hloc n (dC hb)];exact hv.2 _ k1
 | og n=>
  refine ⟨Nat.lt_of_lt_of_le (dC hb) hk,fun t xs e => ?_⟩
  obtain ⟨oc0,k1,k2⟩:=hob n _ (dC hb) e
  cases oc0 <;> simp [bB] at k2
  rw [hloc n (dC hb)];exact hv.2 _ _ k1
 | eZ n=>
  refine ⟨Nat.lt_of_lt_of_le (dC hb) hk,fun oc e hx => ?_⟩
  obtain ⟨oc0,k1,k2⟩:=hob n _ (dC hb) e
  rw [hloc n (dC hb)];exact hv.2 _ k1 (by cases oc0 <;> cases oc <;> first | rfl | exact k2.elim | cases hx)
 | xd n p=>
  refine ⟨Nat.lt_of_lt_of_le (dC hb) hk,fun t x e => ?_⟩
  obtain ⟨oc0,k1,k2⟩:=hob n _ (dC hb) e
  cases oc0 <;> simp [bB] at k2
  obtain ⟨rfl,rfl⟩:=k2
  rw [hloc n (dC hb)];exact hv.2 _ _ k1
 | ref n off=>
  refine ⟨Nat.lt_of_lt_of_le (dC hb) hk,fun T cs e => ?_⟩
  obtain ⟨oc0,k1,k2⟩:=hob n _ (dC hb) e
  cases oc0 <;> simp [bB] at k2
  rw [hloc n (dC hb)];exact hv.2 _ _ k1
 | ra n=>
  refine ⟨Nat.lt_of_lt_of_le (dC hb) hk,?_⟩
  rcases hv.2 with hn | hn
  ·exact .inl hn
  ·refine .inr fun T cs e => ?_
   obtain ⟨oc0,k1,k2⟩:=hob n _ (dC hb) e
   cases oc0 <;> simp [bB] at k2
   rw [hloc n (dC hb)];exact hn _ _ k1
 | lG n t i off=>
  refine ⟨Nat.lt_of_lt_of_le (dC hb) hk,fun ⟨xs,e⟩ => ?_⟩
  rw [hloc n (dC hb)]
  rcases e with e | e
  ·obtain ⟨oc0,k1,k2⟩:=hob n _ (dC hb) e
   cases oc0 <;> simp [bB] at k2
   subst k2;exact hv.2 ⟨_, .inl k1⟩
  ·obtain ⟨oc0,k1,k2⟩:=hob n _ (dC hb) e
   cases oc0 <;> simp [bB] at k2
   subst k2;exact hv.2 ⟨_, .inr k1⟩
 | oO t x=>
  obtain ⟨b,o,us,rfl,h1,h2⟩:=hv
  exact ⟨b,o,us,rfl,h1.frame hO,h2.frame hO⟩
 | fn f caps=>
  obtain ⟨rfl,h2⟩:=hv
  have hlt:∀n∈caps,n < k:=fun n hn=>tB hb hn
  refine ⟨by rw [show (caps.map fun n=>(S.loc n).v)=(caps.map fun n=>(S'.loc n).v) from List.map_congr_left fun n hn=>by rw [hloc n (hlt n hn)]],fun n hn=>⟨Nat.lt_of_lt_of_le (hlt n hn) hk,fun t ys e => ?_⟩⟩
  obtain ⟨oc0,k1,k2⟩:=hob n _ (hlt n hn) e
  cases oc0 <;> simp [bB] at k2
  exact (h2 n hn).2 _ _ k1
 | any=>trivial
theorem bB.comp {l1 l2 l3:Loc} {a b c:OC} (h:bB l1 l2 a b) (h':bB l2 l3 b c):bB l1 l3 a c:=by
 cases a <;> cases b <;> simp [bB] at h <;> cases c <;> simp [bB] at h' ⊢
 all_goals (try (simp_all;done))
 obtain ⟨rfl,a1,a2⟩:=h
 obtain ⟨rfl,b1,b2⟩:=h'
 refine ⟨rfl,by omega,fun e => ?_⟩
 rw [b2 (by omega),a2 (by omega)]
theorem sQ {S S':bN} (hrel:∀{c:C} {v:Value},qi S'.next c=true->CR cx.eT S c v->CR cx.eT S' c v):∀{cs:List C} {vs:List Value},oG S'.next cs=true->eP cx.eT S cs vs->eP cx.eT S' cs vs:=by
 intro cs
 induction cs with
 | nil=>intro vs _ h;cases h;exact .nil
 | cons c cs ih=>
  intro vs hb h
  simp only [oG,Bool.and_eq_true] at hb
  cases h with
  | cons h1 h2 h3=>exact .cons (hrel hb.1 h1) h2 (ih hb.2 h3)
theorem vJ {k:Nat}:∀{l:List (Nat × SV)},jI k l=true->∀{n v},look l n=some v->∃v0,v = .s v0/\GF k v0=true:=by
 intro l
 induction l with
 | nil=>intro _ n v h;simp [look] at h
 | cons p r ih=>
  obtain ⟨m,x⟩:=p
  intro hb n v h
  cases x with
  | nx vs=>simp [jI] at hb
  | s v0=>
   simp only [jI,Bool.and_eq_true] at hb
   rw [cV] at h
   by_cases e:m=n
   ·rw [if_pos e] at h;cases h;exact ⟨v0,rfl,hb.1⟩
   ·rw [if_neg e] at h;exact ih hb.2 h
theorem ni {k:Nat}:∀{l:List (Nat × OC)},jv k l=true->∀{n v},look l n=some v->n < k/\KU k v=true:=by
 intro l
 induction l with
 | nil=>intro _ n v h;simp [look] at h
 | cons p r ih=>
  obtain ⟨m,x⟩:=p
  intro hb n v h
  simp only [jv,Bool.and_eq_true] at hb
  rw [cV] at h
  by_cases e:m=n
  ·rw [if_pos e] at h;cases h;subst e;exact ⟨dC hb.1.1,hb.1.2⟩
  ·rw [if_neg e] at h;exact ih hb.2 h
theorem uF {an:lW} {O:aM} {st st':St} {loc loc0:Nat->Loc} {w w0:World} {a:Act} (x:an.X) (g:Good cx.eT X (aB O st' loc w)) (hA:ju cx (aB O st' loc w) st' a) (ht:Tr (aB O st loc0 w0) (aB O st' loc w))
  (he:∀n v,look (cE an st x).env n=some v->∃u,look st'.env n=some u/\qh u v)
  (ho:∀n v,look (cE an st x).aK n=some v->∃u,look st'.aK n=some u/\mC u v)
  (hb1:jI st.next (cE an st x).env=true) (hb2:jv st.next (cE an st x).aK=true) :
  Good cx.eT X (aB O (cE an st x) loc w)/\ju cx (aB O (cE an st x) loc w) (cE an st x) a/\Tr (aB O st loc0 w0) (aB O (cE an st x) loc w):=by
 have hob:∀n oc,look (cE an st x).aK n=some oc->∃oc0,look st'.aK n=some oc0/\bB (loc n) (loc n) oc0 oc/\oc0.lo=oc.lo/\OR cx.eT X (aB O st' loc w) (loc n) oc:=by
  intro n oc h
  obtain ⟨u,hu,hs⟩:=ho n oc h
  obtain ⟨h1,h2,h3⟩:=Bd hs (g.obj n u hu).2
  exact ⟨u,hu,h2,h3,h1⟩
 have hAsub:∀b o,(aB O (cE an st x) loc w).A b o->(aB O st' loc w).A b o:=by
  rintro b o (h | ⟨n,oc,h1,h2,h3⟩)
  ·exact .inl h
  ·obtain ⟨oc0,k1,_,k3,_⟩:=hob n oc h1
   exact .inr ⟨n,oc0,k1,h2,by rw [k3];exact h3⟩
 have hcell:∀b o v,¬ (aB O st' loc w).A b o->w.cell? ⟨b,o,none⟩=some v->w.cell? ⟨b,o,none⟩=some v/\¬ (aB O (cE an st x) loc w).A b o:=fun b o v h1 h2=>⟨h2,fun h=>h1 (hAsub b o h)⟩
 have hrel:∀{c:C} {v:Value},qi st.next c=true->CR cx.eT (aB O st' loc w) c v->CR cx.eT (aB O (cE an st x) loc w) c v:=fun hb hv=>
  L8 (S:=aB O st' loc w) (S':=aB O (cE an st x) loc w) hcell rfl (fun n oc h=>let ⟨oc0,k1,k2,_⟩:=hob n oc h;⟨oc0,k1,k2⟩) hb hv
 have hor:∀n oc,look (cE an st x).aK n=some oc->OR cx.eT X (aB O (cE an st x) loc w) (loc n) oc:=by
  intro n oc h
  obtain ⟨_,_,_,_,k4⟩:=hob n oc h
  have hb:=(ni hb2 h).2
  cases oc with
  | cells T cs=>
   obtain ⟨b,vs,h1,h2,h3,h4⟩:=k4
   exact ⟨b,vs,h1,h2,h3,sQ hrel hb h4⟩
  | bE t xs=>
   rcases k4 with k4 | ⟨b,vs,T,cap,h1,h2,h3,h4,h5,h6,h7⟩
   ·exact .inl k4
   ·exact .inr ⟨b,vs,T,cap,h1,h2,h3,h4,h5,h6,fun i y hy=>let ⟨us,r1,r2⟩:=h7 i y hy;⟨us,r1.frame hcell,r2⟩⟩
  | arr t xs=>
   obtain ⟨b,vs,T,h1,h2,h3,h4,h5⟩:=k4
   exact ⟨b,vs,T,h1,h2,h3,h4,fun i y hy=>let ⟨us,r1,r2⟩:=h5 i y hy;⟨us,r1.frame hcell,r2⟩⟩
  | tok t xs=>
   rcases k4 with k4 | ⟨b,vs,T,cap,h1,h2,h3,h4,h5,h6,h7⟩
   ·exact .inl k4
   ·exact .inr ⟨b,vs,T,cap,h1,h2,h3,h4,h5,h6,fun i y hy=>let ⟨us,r1,r2⟩:=h7 i y hy;⟨us,r1.frame hcell,r2⟩⟩
  | ext k t x=>exact k4
  | iter cs seen cl=>obtain ⟨b,m,c,sn,k1,k2,k3,k4,k5⟩:=k4;exact ⟨b,m,c,sn,k1,k2,k3,sQ hrel hb k4,k5⟩
 refine ⟨⟨fun n oc h=>⟨(ni hb2 h).1,hor n oc h⟩,fun n m oc oc' b h1 h2 h3 h4 => ?_,fun n oc b off h1 h2 => ?_,g.oh.sub rfl fun b ⟨n,oc,h1,h2⟩=>by obtain ⟨oc0,k1,_⟩:=hob n oc h1;exact ⟨n,oc0,k1,h2⟩⟩,⟨hA.size,hA.defers,fun n v h => ?_⟩,?_⟩
 ·obtain ⟨oc0,k1,_⟩:=hob n oc h1
  obtain ⟨oc0',k1',_⟩:=hob m oc' h2
  exact g.apart n m oc0 oc0' b k1 k1' h3 h4
 ·obtain ⟨oc0,k1,_⟩:=hob n oc h1
  exact g.out n oc0 b off k1 h2
 ·obtain ⟨u,hu,hs⟩:=he n v h
  have hv:=Bb hs (hA.env n u hu)
  obtain ⟨v0,rfl,hb⟩:=vJ hb1 h
  cases v0 with
  | one c=>exact hrel hb hv
  | agg cs=>obtain ⟨vs,h1,h2⟩:=hv;exact ⟨vs,h1,sQ hrel hb h2⟩
 ·refine {O:=ht.O,next:=Nat.le_refl _,os:=ht.os,output:=ht.output,size:=ht.size,own:=fun b hb => ?_,cell:=fun b o v h1 h2 => ?_,block:=ht.block,loc:=ht.loc,kind:=fun n oc hn h => ?_}
  ·obtain ⟨n,oc,h1,h2⟩:=hb
   obtain ⟨oc0,k1,_⟩:=hob n oc h1
   exact ht.own b ⟨n,oc0,k1,h2⟩
  ·obtain ⟨k1,k2⟩:=ht.cell b o v h1 h2
   exact ⟨k1,fun h=>k2 (hAsub b o h)⟩
  ·obtain ⟨oc0,k1,k2,_⟩:=hob n oc h
   obtain ⟨oc1,m1,m2⟩:=ht.kind n oc0 hn k1
   exact ⟨oc1,m1,m2.comp k2⟩
theorem Ty.beq_refl:∀t:Ty,Ty.beq t t=true:=by
 intro t
 induction t with
 | prod a b iha ihb=>simp [Ty.beq,iha,ihb]
 | slice e ih=>simp [Ty.beq,ih]
 | int k=>simp [Ty.beq]
 | _=>rfl
theorem Be (c:C):uC c c:=by
 cases c with
 | d t x=>
  simp only [uC]
  split
  ·rfl
  ·rename_i h;rw [Ty.beq_refl] at h;cases h
 | app t xs n=>
  simp only [uC]
  split
  ·rfl
  ·rename_i h;exact (h (Ty.beq_refl _) (Nat.beq_refl _)).elim
 | _=>rfl
theorem ma (v:SV):qh v v:=by
 cases v with
 | s v=>
  cases v with
  | one c=>exact Be c
  | agg cs=>rfl
 | nx vs=>rfl
theorem sR:∀cs:List C,wD cs cs
 | []=>trivial
 | c :: cs=>⟨Be c,sR cs⟩
theorem Jh (v:OC):mC v v:=by
 cases v with
 | cells T cs=>
  simp only [mC,Nat.beq_refl]
  exact sR cs
 | bE t xs=>
  simp only [mC]
  split
  ·rfl
  ·rename_i h;rw [Ty.beq_refl] at h;cases h
 | arr t xs=>
  simp only [mC]
  split
  ·rfl
  ·rename_i h;rw [Ty.beq_refl] at h;cases h
 | tok t xs=>
  simp only [mC]
  split
  ·rfl
  ·rename_i h;rw [Ty.beq_refl] at h;cases h
 | ext k t x=>
  simp only [mC]
  split
  ·rfl
  ·rename_i h;exact (h (Nat.beq_refl _) (Ty.beq_refl _)).elim
 | iter cs seen cl=>exact ⟨sR cs,rfl,rfl⟩
theorem pV {W:List Nat}:∀{l:List (Nat × SV)},mF W l=true->∀{n v},look l n=some v->n∈W:=by
 intro l
 induction l with
 | nil=>intro _ n v h;simp [look] at h
 | cons p r ih=>
  obtain ⟨m,x⟩:=p
  intro hb n v h
  simp only [mF,Bool.and_eq_true] at hb
  rw [cV] at h
  by_cases e:m=n
  ·subst e;exact uE.1 hb.1
  ·rw [if_neg e] at h;exact ih hb.2 h
theorem n7 {env:List (Nat × SV)}:∀{l:List Nat},mE env l=true->∀{n},n∈l->∃v,look env n=some v:=by
 intro l
 induction l with
 | nil=>intro _ n h;simp at h
 | cons t r ih=>
  intro hb n h
  simp only [mE] at hb
  split at hb
  ·rename_i u hu
   rcases List.mem_cons.1 h with rfl | h
   ·exact ⟨u,hu⟩
   ·exact ih hb h
  ·cases hb
theorem To {O:aM} {K:Ex->St->VC} {W:List Nat} {st:St} {S:bN} {next:Act->World->Prop} {Q:Exit->Act->World->Prop} {K':Ex->St->VC}
  (hn:∀a w,gM cx X O (K' .normal) W st S a w->next a w) (hK:∀e,e≠.normal->K' e=K e) (hQ:∀e a w,se cx X O K W st S e a w->e≠.normal->Q e a w) {e:Exit} {a:Act} {w:World}
  (h:se cx X O K' W st S e a w):Exit.then next Q e a w:=by
 cases e with
 | normal=>exact hn a w h
 | exit n=>exact hQ _ _ _ (by simpa [se,hK (.exit n) (by simp)] using h) (by simp)
 | ret=>exact hQ _ _ _ (by simpa [se,hK .ret (by simp)] using h) (by simp)
 | goto l=>exact h.elim
 | panic c=>exact h.elim
 | outgrown=>exact h.elim
structure Um (an:lW) (st st':St) (x:an.X) (ν:List Nat):Prop where
 nodup:nodupB ν=true
 refs:wE st' an ν an.refs=true
 get:eS false st'.aK an.aU ν an.aU ν=some (an.pd x)
 Vl:∀p∈A8 st' an (an.pd x) an.refs,p
 conds:∀p∈jy an.aU (an.pd x) st'.aK an.aU ν,p
 env:nK st' (an.aS x)
 aK:nL st' (qH an st x)
 out:qX ν (qH an st x)=true
theorem Dv {an:lW} {st st':St} {more:an.X->Prop} (h:(Ba an st st' more).holds):∃x,an.inv x/\more x/\∃ν,Um an st st' x ν:=by
 unfold Ba at h
 split at h
 ·rename_i ν _
  split at h
  ·rename_i y hc hy
   simp only [Bool.and_eq_true] at hc
   have hall:=Ac h
   obtain ⟨x,h1,h2,h3,h4,h5,h6⟩:=hall (∃x',an.inv x'/\more x'/\nK st' (an.aS x')/\nL st' (an.aK x'++jH st an.jj)/\(qX ν (qH an st x')=true/\y=an.pd x')) (List.mem_append_right _ (List.mem_singleton.2 rfl))
   subst h6
   obtain ⟨k1,_⟩:=kW.1 hall
   obtain ⟨k1,k2⟩:=kW.1 k1
   exact ⟨x,h1,h2,ν,hc.1,hc.2,hy,k1,k2,h3,h4,h5⟩
  ·exact h.elim
 ·exact h.elim
theorem wH {ν:List Nat}:∀{l:List (Nat × OC)},qX ν l=true->∀{n v},look l n=some v->n∉ν
 | [],_,n,v,h=>by simp [look] at h
 | (m,u) :: r,hk,n,v,h=>by
  simp only [qX,Bool.and_eq_true,Bool.not_eq_true'] at hk
  rw [cV] at h
  split at h
  ·rename_i e;subst e
   intro hm;rw [Ad.2 hm] at hk;exact absurd hk.1 (by decide)
  ·exact wH hk.2 h
theorem sU {an:lW} {y:PD an.aU} {us:List Nat}:∀{l:List (Nat × Nat)} {t:Nat} {v:SV},look (wF an y us l) t=some v->∃k,(t,k)∈l/\v = .s (.one (iA an.aU y us k))
 | [],t,v,h=>by simp [wF,look] at h
 | (m,k) :: r,t,v,h=>by
  simp only [wF,cV] at h
  split at h
  ·rename_i e;subst e;cases h;exact ⟨k,by simp,rfl⟩
  ·obtain ⟨k',h1,h2⟩:=sU h;exact ⟨k',by simp [h1],h2⟩
theorem Bf {st:St} {an:lW} {ν:List Nat}:∀{l:List (Nat × Nat)} {t k:Nat},wE st an ν l=true->(t,k)∈l->∃c,look st.env t=some (.s (.one c))/\ke false st.aK an.aU ν k c=true
 | [],_,_,_,h=>by simp at h
 | (m,i) :: r,t,k,h,hm=>by
  simp only [wE,Bool.and_eq_true] at h
  rcases List.mem_cons.1 hm with e | hm
  ·cases e
   obtain ⟨h1,_⟩:=h
   split at h1
   ·rename_i c hc;exact ⟨c,hc,h1⟩
   ·cases h1
  ·exact Bf h.2 hm
theorem Dw {st:St} {an:lW} {y:PD an.aU}:∀{l:List (Nat × Nat)} {t k:Nat} {c:C},(∀p∈A8 st an y l,p)->(t,k)∈l->look st.env t=some (.s (.one c))->∀p∈sO an.aU y k c,p
 | [],_,_,_,_,h,_=>by simp at h
 | (m,i) :: r,t,k,c,h,hm,hl=>by
  simp only [A8] at h
  obtain ⟨h1,h2⟩:=kW.1 h
  rcases List.mem_cons.1 hm with e | hm
  ·cases e
   rw [hl] at h1
   exact h1
  ·exact Dw h2 hm hl
theorem Bg {aX:List Nat}:∀{l:List (Nat × Nat)} {t k:Nat},wG aX l=true->(t,k)∈l->t∉aX
 | [],_,_,_,h=>by simp at h
 | (m,i) :: r,t,k,h,hm=>by
  simp only [wG,Bool.and_eq_true,Bool.not_eq_true'] at h
  rcases List.mem_cons.1 hm with e | hm
  ·cases e
   intro hk;rw [uE.2 hk] at h;exact absurd h.1 (by decide)
  ·exact Bg h.2 hm
theorem Dx {an:lW} {O:aM} {st st':St} {loc loc0:Nat->Loc} {w w0:World} {a:Act} {W:List Nat} (x:an.X) (g:Good cx.eT X (aB O st' loc w)) (hA:ju cx (aB O st' loc w) st' a) (ht:Tr (aB O st loc0 w0) (aB O st' loc w))
  (hok:tA an st W x=true) (hkeep:∀n∈an.aX,∀v,look st.env n=some v->∃u,look st'.env n=some u/\qh u v) (hf:∃ν,Um an st st' x ν) :
  ∃loc',Good cx.eT X (aB O (dS an st x) loc' w)/\ju cx (aB O (dS an st x) loc' w) (dS an st x) a/\Tr (aB O st loc0 w0) (aB O (dS an st x) loc' w):=by
 obtain ⟨ν,hf⟩:=hf
 simp only [tA,Bool.and_eq_true] at hok
 obtain ⟨hb1,hb2,hkeys,hnr⟩:=hok
 generalize husd:upto st.next an.aU.length=us
 have husl:us.length=an.aU.length:=by rw [<-husd];exact uB _ _
 have hus:nodupB us=true:=by rw [<-husd];exact kJ _ _
 have husm:∀n∈us,st.next<=n/\n < st.next + an.aU.length:=fun n hn=>by rw [<-husd] at hn;exact uA hn
 have hlen:ν.length=us.length:=by rw [husl];exact (qG hf.get).symm
 let loc':=fL us (ν.map loc) loc
 have hlow:∀n,n < st.next->loc' n=loc n:=fun n hn=>oF fun hm=>by have:=(husm n hm).1;omega
 have hnu:∀n,n < st.next->n∉us:=fun n hn hm=>by have:=(husm n hm).1;omega
 have hrest:∀m oc,look (qH an st x) m=some oc->m < st.next/\m∉ν/\∃u,look st'.aK m=some u/\bB (loc m) (loc m) u oc/\u.lo=oc.lo/\OR cx.eT X (aB O st' loc w) (loc m) oc:=by
  intro m oc hm
  obtain ⟨u,hu,hs⟩:=nN hf.aK hm
  obtain ⟨h1,h2,h3⟩:=Bd hs (g.obj m u hu).2
  exact ⟨(ni hb2 hm).1,wH hf.out hm,u,hu,h2,h3,h1⟩
 have hob:∀m oc,look (dS an st x).aK m=some oc->(∃(i n:Nat) (o:Ob) (y:OD o) (oc0:OC),ν[i]?=some n/\us[i]?=some m/\look st'.aK n=some oc0/\kj false st'.aK an.aU ν o oc0=some y/\
   oc=rn (iA an.aU (an.pd x) us) o y/\loc' m=loc n)\/(m∉us/\look (qH an st x) m=some oc/\loc' m=loc m):=by
  intro m oc hm
  simp only [dS,husd,fB] at hm
  split at hm
  ·rename_i oc' hm'
   cases hm
   obtain ⟨i,n,o,y,oc0,k1,k2,k3,k4,k5,k6,_⟩:=qF hf.get (qE (X:=X) g hf.get hf.get hf.conds) hlen hm'
   exact .inl ⟨i,n,o,y,oc0,k1,k2,k4,k5,k6,lB hus k2 (by simp [k1])⟩
  ·rename_i hm'
   have hnin:m∉us:=fun hmem=>by
    obtain ⟨oc1,h2⟩:=qf (f:=iA an.aU (an.pd x) us) (x:=an.pd x) husl.symm hmem
    rw [h2] at hm';cases hm'
   exact .inr ⟨hnin,hm,oF hnin⟩
 have hAsub:∀b o,(aB O (dS an st x) loc' w).A b o->(aB O st' loc w).A b o:=by
  rintro b off (h | ⟨m,oc,h1,h2,h3⟩)
  ·exact .inl h
  ·rcases hob m oc h1 with ⟨i,n,o,y,oc0,k1,k2,k4,k5,k6,k7⟩ | ⟨k1,k2,k3⟩
   ·refine .inr ⟨n,oc0,k4,by simp only [aB] at h2;rw [k7] at h2;exact h2,?_⟩
    rcases CP (f:=iA an.aU (an.pd x) us) k5 with e | e
    ·rw [<-e,<-k6];exact h3
    ·cases e
   ·obtain ⟨_,_,u,hu,_,hlo,_⟩:=hrest m oc k2
    exact .inr ⟨m,u,hu,by simp only [aB] at h2;rw [k3] at h2;exact h2,by rw [hlo];exact h3⟩
 have hcell:∀b o v,¬ (aB O st' loc w).A b o->w.cell? ⟨b,o,none⟩=some v->w.cell? ⟨b,o,none⟩=some v/\¬ (aB O (dS an st x) loc' w).A b o:=fun b o v h1 h2=>⟨h2,fun h=>h1 (hAsub b o h)⟩
 have hrel:∀{c:C} {v:Value},qi st.next c=true->CR cx.eT (aB O st' loc w) c v->CR cx.eT (aB O (dS an st x) loc' w) c v:=fun hb hv=>
  Jg (S:=aB O st' loc w) (S':=aB O (dS an st x) loc' w) (k:=st.next) hcell (by simp [aB,dS]) (fun n hn=>hlow n hn) (fun n oc hn h=>by
   rcases hob n oc h with ⟨i,n',o,y,oc0,k1,k2,_⟩ | ⟨k1,k2,k3⟩
   ·exact absurd (List.mem_of_getElem? k2) (hnu n hn)
   ·obtain ⟨_,_,u,hu,hk,_,_⟩:=hrest n oc k2
    exact ⟨u,hu,hk⟩) hb hv
 obtain ⟨gN,laid⟩:=L6 (X:=X) g hf.get hf.conds hf.nodup (O2:=O) (ν2:=us) (rest:=qH an st x) (locR:=loc) (st2:=dS an st x) hus hlen (by simp only [dS,husd])
  (fun n hn=>by have:=(husm n hn).2;simp only [dS];exact this)
  (fun n hn b hb off h=>by
   obtain ⟨_,oc,_,_,k,_⟩:=l9 hf.get hn
   exact g.out n oc b off k hb h)
  (fun n hn b hb m oc h1 h2 h3=>by
   obtain ⟨_,oc0,_,_,k,_⟩:=l9 hf.get hn
   obtain ⟨_,hmν,u,hu,_⟩:=hrest m oc h1
   have:=g.apart n m oc0 u b k hu hb h3
   exact hmν (by rw [<-this];exact hn))
  (fun m oc h1 h2=>by
   obtain ⟨hm,_,u,hu,hk,hlo,hor⟩:=hrest m oc h1
   refine ⟨by simp only [dS];omega,?_⟩
   have hb:=(ni hb2 h1).2
   cases oc with
   | cells T cs=>
    obtain ⟨b,vs,h1,h2,h3,h4⟩:=hor
    exact ⟨b,vs,h1,h2,h3,rq (k:=st.next) hrel hb h4⟩
   | bE t xs=>exact GD.to (S:=aB O st' loc w) (S':=aB O (dS an st x) loc' w) rfl (.inr hAsub) hor
   | tok t xs=>exact GD.to (X:=X) (S:=aB O st' loc w) (S':=aB O (dS an st x) loc' w) (l:=loc m) rfl (.inr hAsub) hor
   | arr t xs=>
    obtain ⟨b,vs,T,h1,h2,h3,h4,h5⟩:=hor
    exact ⟨b,vs,T,h1,h2,h3,h4,fun i y hy=>let ⟨us,r1,r2⟩:=h5 i y hy;⟨us,r1.frame hcell,r2⟩⟩
   | ext k t x=>exact hor
   | iter cs seen cl=>obtain ⟨b,m,c,sn,k1,k2,k3,k4,k5⟩:=hor;exact ⟨b,m,c,sn,k1,k2,k3,rq (k:=st.next) hrel hb k4,k5⟩)
  (fun m m' oc oc' b h1 h2 _ _ h3 h4=>by
   obtain ⟨_,_,u,hu,_⟩:=hrest m oc h1
   obtain ⟨_,_,u',hu',_⟩:=hrest m' oc' h2
   exact g.apart m m' u u' b hu hu' h3 h4)
  (fun m oc b off h1 _ h2=>by
   obtain ⟨_,_,u,hu,_⟩:=hrest m oc h1
   exact g.out m u b off hu h2)
  (.inr hAsub)
  (fun b hb ⟨m,oc,h1,h2⟩=>by
   rcases hob m oc h1 with ⟨i,n,o,y,oc0,k1,k2,k4,k5,k6,k7⟩ | ⟨k1,k2,k3⟩
   ·refine g.oh.2 b hb ⟨n,oc0,k4,?_⟩
    have e:fL us (ν.map loc) loc m=loc n:=k7
    simp only [aB] at h2;rw [e] at h2;exact h2
   ·obtain ⟨_,_,u,hu,_⟩:=hrest m oc k2
    have e:fL us (ν.map loc) loc m=loc m:=k3
    refine g.oh.2 b hb ⟨m,u,hu,?_⟩
    simp only [aB] at h2;rw [e] at h2;exact h2)
 refine ⟨loc',gN,⟨hA.size,hA.defers,fun t sv hl => ?_⟩,?_⟩
 ·simp only [dS,husd,fB] at hl
  split at hl
  ·rename_i v hv
   cases hl
   obtain ⟨k,hk,rfl⟩:=sU hv
   obtain ⟨c,hc,hs⟩:=Bf hf.refs hk
   have hcv:CR cx.eT (aB O st' loc w) c (a.tmps.getD t undef):=hA.env t _ hc
   exact A7 laid (CO g hcv hf.get hs (Dw hf.Vl hk hc))
  ·have hl2:look (A9 an st x) t=some sv:=hl
   have hst:∃u,look st'.env t=some u/\qh u sv:=by
    simp only [A9,fB] at hl2
    split at hl2
    ·rename_i v hv;cases hl2;exact nM hf.env hv
    ·obtain ⟨h1,h2⟩:=iC hl2;exact hkeep t h1 sv h2
   obtain ⟨u,hu,hs⟩:=hst
   have hv:=Bb hs (hA.env t u hu)
   obtain ⟨v0,rfl,hb⟩:=vJ hb1 hl2
   cases v0 with
   | one c=>exact hrel hb hv
   | agg cs=>obtain ⟨vs,h1,h2⟩:=hv;exact ⟨vs,h1,rq (k:=st.next) hrel hb h2⟩
 ·refine {O:=ht.O,next:=by simp [aB,dS],os:=ht.os,output:=ht.output,size:=ht.size,own:=fun b hb => ?_,cell:=fun b o v h1 h2 => ?_,block:=ht.block,loc:=fun n hn hfx => ?_,kind:=fun n oc hn h => ?_}
  ·obtain ⟨m,oc,h1,h2⟩:=hb
   rcases hob m oc h1 with ⟨i,n,o,y,oc0,k1,k2,k4,k5,k6,k7⟩ | ⟨k1,k2,k3⟩
   ·exact ht.own b ⟨n,oc0,k4,by simp only [aB] at h2;rw [k7] at h2;exact h2⟩
   ·obtain ⟨_,_,u,hu,_⟩:=hrest m oc k2
    exact ht.own b ⟨m,u,hu,by simp only [aB] at h2;rw [k3] at h2;exact h2⟩
  ·obtain ⟨k1,k2⟩:=ht.cell b o v h1 h2
   exact ⟨k1,fun h=>k2 (hAsub b o h)⟩
  ·show (loc' n).v=_/\(_->loc' n=_)
   rw [hlow n hn];exact ht.loc n hn hfx
  ·rcases hob n oc h with ⟨i,n',o,y,oc0,k1,k2,_⟩ | ⟨k1,k2,k3⟩
   ·exact absurd (List.mem_of_getElem? k2) (hnu n hn)
   ·obtain ⟨_,_,u,hu,hk,_,_⟩:=hrest n oc k2
    obtain ⟨oc1,m1,m2⟩:=ht.kind n u hn hu
    refine ⟨oc1,m1,?_⟩
    show bB _ (loc' n) _ _
    rw [hlow n hn]
    exact m2.comp hk
theorem L9 {an:lW} {st:St} {W:List Nat} {x:an.X} (hok:tA an st W x=true) {n:Nat} (hn:n∈an.aX) {v:SV} (h:look (dS an st x).env n=some v) (hW:n∉W):look st.env n=some v:=by
 simp only [tA,Bool.and_eq_true] at hok
 obtain ⟨_,_,hkeys,hnr⟩:=hok
 simp only [dS,A9,fB] at h
 split at h
 ·rename_i u hu
  obtain ⟨k,hk,_⟩:=sU hu
  exact absurd hn (Bg hnr hk)
 ·split at h
  ·rename_i u hu;exact absurd (pV hkeys hu) hW
  ·exact (iC h).2
theorem Dy {O:aM} {st:St} {loc:Nat->Loc} {w:World} {an:lW} {W:List Nat} {K:St->VC} (hdis:sa an.aX W=true)
  (hk:(VC.all an.X fun x => .imp (an.inv x) (match jI st.next (cE an st x).env && (jv st.next (cE an st x).aK && mF W (an.aS x)) with
     | true=>K (cE an st x)
     | false => .ff)).holds) {a':Act} {w':World}:gM cx X O (ln an st) W st (aB O st loc w) a' w'->gM cx X O K W st (aB O st loc w) a' w':=by
 have hkeepW:=sd hdis
 rintro ⟨st2,loc2,k1,k2,k3,k4,k5⟩
 simp only [ln] at k1
 split at k1
 case h_2=>exact k1.elim
 rename_i hpres
 obtain ⟨x',hx',hs',ho'⟩:=k1
 have hvx:=hk x' hx'
 split at hvx
 case h_2=>exact hvx.elim
 rename_i hbb
 simp only [Bool.and_eq_true] at hbb
 have hhead:∀t,t∉W->∀v,look (cE an st x').env t=some v->look st.env t=some v:=by
  intro t ht v hv
  simp only [cE,fB] at hv
  split at hv
  ·rename_i u hu;exact absurd (pV hbb.2.2 hu) ht
  ·exact (iC hv).2
 obtain ⟨m1,m2,m3⟩:=uF (an:=an) (st:=st) x' k2 k4 k3 (by
   intro n v hv
   simp only [cE,fB] at hv
   split at hv
   ·rename_i u hu;cases hv;exact nM hs' hu
   ·obtain ⟨hmem,hl⟩:=iC hv
    refine ⟨v,?_,ma v⟩
    obtain ⟨v',hv'⟩:=n7 hpres hmem
    have:=k5 (hkeepW n hmem).1 n (hkeepW n hmem).2 v' hv'
    rw [hl] at this
    cases this
    exact hv')
  (by
   intro n v hv
   simp only [cE] at hv
   exact nN ho' hv) hbb.1 hbb.2.1
 exact ⟨cE an st x',loc2,hvx,m1,m3,m2,fun _ t ht v hv=>hhead t ht v hv⟩
theorem Dz (hok:ov P cx X) {O:aM} {id:Nat} {ops:Array Oper} {draw:Bool} {st:St} {loc:Nat->Loc} {w:World} {a:Act} {K:Ex->St->VC} (hA:ju cx (aB O st loc w) st a) (g:Good cx.eT X (aB O st loc w)) (hO:gv O w)
  (h:(FP cx ops draw st (K .normal)).holds):(Code.region id ops draw).wp P (se cx X O K (ic ops.toList) st (aB O st loc w)) a w:=by
 have hW:∀(j:Nat) (oj:Oper) (d:Nat),ops[j]?=some oj->oj.dst=some d->d∈ic ops.toList:=by
  intro j oj d hj hd
  exact List.mem_filterMap.2 ⟨oj,by rw [<-Array.getElem?_toList] at hj;exact List.mem_of_getElem? hj,hd⟩
 have hq:∀st' loc' a' w',(K .normal st').holds->Good cx.eT X (aB O st' loc' w')->Tr (aB O st loc w) (aB O st' loc' w')->ju cx (aB O st' loc' w') st' a'->n5 (ic ops.toList) st st'->
   se cx X O K (ic ops.toList) st (aB O st loc w) .normal a' w':=fun st' loc' a' w' h1 h2 h3 h4 h5=>⟨st',loc',h1,h2,h3,h4,h5⟩
 unfold FP at h
 cases draw with
 | false=>
  refine wp_region_list ?_
  exact Je hok hW ops.toList (fun o ho d hd=>List.mem_filterMap.2 ⟨o,ho,hd⟩) hA g hO h hq
 | true=>
  split at h
  ·rename_i e;cases e
  ·rename_i e
   split at h
   ·rename_i hreg
    rw [Tj] at h
    refine wp_region_any hok.mixed (KP (loud:=kH cx ops.toList) _ _ _ _ (aB O st loc {w with drawn:=w.drawn + 1}).A ?_)
    have hdrew:Below w.heap.size w {w with drawn:=w.drawn + 1}:=⟨rfl,rfl,Nat.le_refl _,fun _ _=>rfl⟩
    obtain ⟨tr,g'⟩:=ua (S:=aB O st loc w) (S':=aB O st loc {w with drawn:=w.drawn + 1}) g rfl rfl rfl rfl hdrew
    refine Jf hok hW hreg (fun c a w h=>h) ops.size _ ?_ ⟨hA.size,hA.defers,hA.env.tr tr⟩ g' (hO.tr (Nat.le_refl _)) h ?_
    ·intro j o ho hj
     rw [Array.getD_eq_getD_getElem?,Array.getElem?_replicate] at hj
     split at hj <;> simp at hj
    ·intro st' loc' a' w' h1 h2 h3 h4 h5
     obtain ⟨st2,loc2,k1,k2,k3,k4,k5⟩:=gM.Vq (K:=K .normal) (f:=canon st.next (ic ops.toList)) (W:=ic ops.toList) hA (fun st'=>by
      rcases L2 st.next (ic ops.toList) st' with e | ⟨r,q,k1,k2⟩
      ·exact .inl e
      ·exact .inr ⟨r,q,k1,k2⟩) (⟨st',loc',h1,h2,tr.trans h3,h4,h5⟩:gM cx X O (fun st'=>K .normal (canon st.next (ic ops.toList) st')) (ic ops.toList) st (aB O st loc w) a' w')
     exact hq st2 loc2 a' w' k1 k2 k3 k4 k5
   ·exact h.elim
theorem Q7 (hok:ov P cx X) (anns:cN) {O:aM}:∀(c:Code) (cur:Nat) {st:St} {loc:Nat->Loc} {w:World} {a:Act} {K:Ex->St->VC},
  ju cx (aB O st loc w) st a->Good cx.eT X (aB O st loc w)->gv O w->(vc cx anns c cur st K).holds->c.wp P (se cx X O K (writes anns cur c) st (aB O st loc w)) a w:=by
 intro c
 induction c with
 | skip=>intro cur st loc w a K hA g hO h;exact wp_skip ⟨st,loc,h,g,Tr.refl _,hA,fun _ _ _ _ h=>h⟩
 | region id ops draw=>
  intro cur st loc w a K hA g hO h
  simp only [vc] at h
  split at h
  ·exact Dz hok hA g hO h
  ·rename_i an _
   split at h
   case h_2=>exact h.elim
   rename_i hdis
   obtain ⟨hb,hk⟩:=h
   refine wp_mono (Dz (K:=fun e=>match e with | .normal=>ln an st | e=>K e) hok hA g hO hb) ?_
   intro e a' w' hq
   cases e with
   | normal=>exact Dy hdis hk hq
   | exit i=>exact hq
   | ret=>exact hq
   | goto l=>exact hq.elim
   | panic c=>exact hq.elim
   | outgrown=>exact hq.elim
 | seq c1 c2 ih1 ih2=>
  intro cur st loc w a K hA g hO h
  refine wp_seq ?_
  refine wp_mono (ih1 cur hA g hO h) ?_
  intro e a' w' hq
  refine To (K:=K) (W:=writes anns cur c1) ?_ (fun e he=>by cases e <;> simp_all) ?_ hq
  ·rintro a1 w1 ⟨st',loc',k1,k2,k3,k4,k5⟩
   refine wp_mono (ih2 cur k4 k2 (hO.tr k3.size) k1) ?_
   intro e a2 w2 hq2
   exact hq2.mono k3 (W':=writes anns cur (.seq c1 c2)) (fun hm t ht=>k5 (fun h=>hm (List.mem_append.2 (.inl h))) t fun hm=>ht (List.mem_append.2 (.inl hm))) (fun n hn=>List.mem_append.2 (.inr hn))
  ·intro e a1 w1 hq1 _
   exact hq1.mono (Tr.refl _) (fun _ _ _ _ h=>h) (fun n hn=>List.mem_append.2 (.inl hn))
 | cond x c1 c2 ih1 ih2=>
  intro cur st loc w a K hA g hO h
  have hx:=bS hA.env x
  have h1:∀{K},(vc cx anns c1 cur st K).holds->c1.wp P (se cx X O K (writes anns cur (.cond x c1 c2)) st (aB O st loc w)) a w:=fun h=>
   wp_mono (ih1 cur hA g hO h) fun e a' w' hq=>hq.mono (Tr.refl _) (fun _ _ _ _ h=>h) (fun n hn=>List.mem_append.2 (.inl hn))
  have h2:∀{K},(vc cx anns c2 cur st K).holds->c2.wp P (se cx X O K (writes anns cur (.cond x c1 c2)) st (aB O st loc w)) a w:=fun h=>
   wp_mono (ih2 cur hA g hO h) fun e a' w' hq=>hq.mono (Tr.refl _) (fun _ _ _ _ h=>h) (fun n hn=>List.mem_append.2 (.inr hn))
  have base:∀{K:Ex->St->VC},(match eJ st.env x with
    | .lit true=>vc cx anns c1 cur st K
    | .lit false=>vc cx anns c2 cur st K
    | .d .bool g => .ite g (vc cx anns c1 cur st K) (vc cx anns c2 cur st K)
    | _ => .ff).holds->(Code.cond x c1 c2).wp P (se cx X O K (writes anns cur (.cond x c1 c2)) st (aB O st loc w)) a w:=by
   intro K h
   split at h
   ·rename_i hl;rw [hl] at hx;exact wp_cond_true hx (h1 h)
   ·rename_i hl;rw [hl] at hx;exact wp_cond_false hx (h2 h)
   ·rename_i b hl
    rw [hl] at hx
    have hx:=(fA (eT:=cx.eT) (S:=aB O st loc w) (b:=b)).1 hx
    cases b
    ·exact wp_cond_false hx (h2 (h.2 rfl))
    ·exact wp_cond_true hx (h1 (h.1 rfl))
   ·exact h.elim
  simp only [vc] at h
  split at h
  ·exact base h
  ·rename_i an _
   split at h
   case h_2=>exact h.elim
   rename_i hdis
   obtain ⟨hb,hk⟩:=h
   refine wp_mono (base (K:=fun e st'=>match e with | .normal=>ln an st st' | e=>K e st') hb) ?_
   intro e a' w' hq
   cases e with
   | normal=>exact Dy hdis hk hq
   | exit i=>exact hq
   | ret=>exact hq
   | goto l=>exact hq.elim
   | panic c=>exact hq.elim
   | outgrown=>exact hq.elim
 | block id b ih=>
  intro cur st loc w a K hA g hO h
  refine wp_block ?_
  simp only [vc] at h
  split at h
  case h_2=>
   rename_i an _
   split at h
   case h_2=>exact h.elim
   rename_i hdis
   have hkeepW:=sd hdis
   obtain ⟨hb,hk⟩:=h
   refine wp_mono (ih id hA g hO hb) ?_
   intro e a' w' hq
   have join:gM cx X O (ln an st) (writes anns id b) st (aB O st loc w) a' w'->se cx X O K (writes anns cur (.block id b)) st (aB O st loc w) .normal a' w':=by
    rintro ⟨st2,loc2,k1,k2,k3,k4,k5⟩
    simp only [ln] at k1
    split at k1
    case h_2=>exact k1.elim
    rename_i hpres
    obtain ⟨x',hx',hs',ho'⟩:=k1
    have hvx:=hk x' hx'
    split at hvx
    case h_2=>exact hvx.elim
    rename_i hbb
    simp only [Bool.and_eq_true] at hbb
    have hhead:∀t,t∉writes anns id b->∀v,look (cE an st x').env t=some v->look st.env t=some v:=by
     intro t ht v hv
     simp only [cE,fB] at hv
     split at hv
     ·rename_i u hu;exact absurd (pV hbb.2.2 hu) ht
     ·exact (iC hv).2
    obtain ⟨m1,m2,m3⟩:=uF (an:=an) (st:=st) x' k2 k4 k3 (by
      intro n v hv
      simp only [cE,fB] at hv
      split at hv
      ·rename_i u hu;cases hv;exact nM hs' hu
      ·obtain ⟨hmem,hl⟩:=iC hv
       refine ⟨v,?_,ma v⟩
       obtain ⟨v',hv'⟩:=n7 hpres hmem
       have:=k5 (hkeepW n hmem).1 n (hkeepW n hmem).2 v' hv'
       rw [hl] at this
       cases this
       exact hv')
     (by
      intro n v hv
      simp only [cE] at hv
      exact nN ho' hv) hbb.1 hbb.2.1
    exact ⟨cE an st x',loc2,hvx,m1,m3,m2,fun _ t ht v hv=>hhead t ht v hv⟩
   cases e with
   | normal=>exact join hq
   | exit i=>
    show if i=id then _ else _
    by_cases hi:i=id
    ·rw [if_pos hi]
     subst hi
     obtain ⟨st',loc',k1,k2⟩:=hq
     simp only [Nat.beq_refl] at k1
     exact join ⟨st',loc',k1,k2⟩
    ·rw [if_neg hi]
     obtain ⟨st',loc',k1,k2⟩:=hq
     simp only [nD hi] at k1
     exact ⟨st',loc',k1,k2⟩
   | ret=>exact hq
   | goto l=>exact hq.elim
   | panic c=>exact hq.elim
   | outgrown=>exact hq.elim
  refine wp_mono (ih id hA g hO h) ?_
  intro e a' w' hq
  cases e with
  | normal=>exact hq
  | exit i=>
   obtain ⟨st',loc',k1,k2,k3,k4,k5⟩:=hq
   simp only at k1
   show if i=id then _ else _
   split at k1
   ·rename_i hi
    rw [if_pos (Nat.eq_of_beq_eq_true hi)]
    exact ⟨st',loc',k1,k2,k3,k4,k5⟩
   ·rename_i hi
    rw [if_neg (fun e=>by rw [e,Nat.beq_refl] at hi;cases hi)]
    exact ⟨st',loc',k1,k2,k3,k4,k5⟩
  | ret=>exact hq
  | goto l=>exact hq.elim
  | panic c=>exact hq.elim
  | outgrown=>exact hq.elim
 | loop b ih=>
  intro cur st loc w a K hA g hO h
  simp only [vc] at h
  split at h
  ·rename_i hnone
   have hwl:writes anns cur (.loop b)=writes anns cur b:=by simp only [writes,hnone]
   split at h
   case h_2=>exact h.elim
   rename_i an _
   split at h
   ·rename_i hdis
    have hkeepW:=sd hdis
    obtain ⟨⟨x0,hx0,hs0,ho0⟩,h⟩:=h
    have hobk:∀x n v,look (cE an st x).aK n=some v->look (an.aK x) n=some v\/look st.aK n=some v:=by
     intro x n v hv
     simp only [cE,fB] at hv
     split at hv
     ·rename_i u hu;cases hv;exact .inl hu
     ·exact .inr (Fu hv)
    have hhead:∀x,mF (writes anns cur b) (an.aS x)=true->∀t,t∉writes anns cur b->∀v,look (cE an st x).env t=some v->look st.env t=some v:=by
     intro x hk t ht v hv
     simp only [cE,fB] at hv
     split at hv
     ·rename_i u hu;exact absurd (pV hk hu) ht
     ·exact (iC hv).2
    refine wp_loop_ghost (fun n a' w'=>∃x loc',an.inv x/\an.bA x=n/\jI st.next (cE an st x).env=true/\(jv st.next (cE an st x).aK=true/\mF (writes anns cur b) (an.aS x)=true)/\
     (vc cx anns b cur (cE an st x) fun e st'=>match e with
       | .normal=>match mE st'.env an.aX with
        | true => .leaf (∃x',an.inv x'/\an.bA x' < an.bA x/\nK st' (an.aS x')/\nL st' (an.aK x'++jH st an.jj))
        | false => .ff
       | e=>K e st').holds/\
     Good cx.eT X (aB O (cE an st x) loc' w')/\ju cx (aB O (cE an st x) loc' w') (cE an st x) a'/\Tr (aB O st loc w) (aB O (cE an st x) loc' w')) (an.bA x0) ?_ ?_
    ·have hx:=h x0 hx0
     split at hx
     ·rename_i hb
      simp only [Bool.and_eq_true] at hb
      obtain ⟨m1,m2,m3⟩:=uF (an:=an) (st:=st) x0 g hA (Tr.refl _) (by
        intro n v hv
        simp only [cE,fB] at hv
        split at hv
        ·rename_i u hu;cases hv;exact nM hs0 hu
        ·obtain ⟨_,hl⟩:=iC hv
         exact ⟨v,hl,ma v⟩)
       (by
        intro n v hv
        rcases hobk x0 n v hv with hv | hv
        ·exact nN ho0 hv
        ·exact ⟨v,hv,Jh v⟩) hb.1 hb.2.1
      exact ⟨x0,loc,hx0,rfl,hb.1,hb.2,hx,m1,m2,m3⟩
     ·exact hx.elim
    ·rintro n a1 w1 ⟨x,loc1,hx,hn,hb1,hb2,hvc,g1,hA1,tr1⟩
     refine wp_mono (ih cur hA1 g1 (hO.tr tr1.size) hvc) ?_
     intro e a2 w2 hq
     have up:∀Kx:St->VC,gM cx X O Kx (writes anns cur b) (cE an st x) (aB O (cE an st x) loc1 w1) a2 w2->gM cx X O Kx (writes anns cur (.loop b)) st (aB O st loc w) a2 w2:=by
      rintro Kx ⟨st2,loc2,k1,k2,k3,k4,k5⟩
      exact ⟨st2,loc2,k1,k2,tr1.trans k3,k4,fun hm t ht v hv=>by rw [hwl] at hm ht;exact hhead x hb2.2 t ht v (k5 hm t ht v hv)⟩
     cases e with
     | normal=>
      obtain ⟨st2,loc2,k1,k2,k3,k4,k5⟩:=hq
      simp only at k1
      split at k1
      case h_2=>exact k1.elim
      rename_i hpres
      obtain ⟨x',hx',hlt,hs',ho'⟩:=k1
      have hvx:=h x' hx'
      refine ⟨an.bA x',by rw [<-hn];exact hlt,?_⟩
      split at hvx
      ·rename_i hb
       simp only [Bool.and_eq_true] at hb
       obtain ⟨m1,m2,m3⟩:=uF (an:=an) (st:=st) x' k2 k4 (tr1.trans k3) (by
         intro n v hv
         simp only [cE,fB] at hv
         split at hv
         ·rename_i u hu;cases hv;exact nM hs' hu
         ·obtain ⟨hmem,hl⟩:=iC hv
          refine ⟨v,?_,ma v⟩
          obtain ⟨v',hv'⟩:=n7 hpres hmem
          have:=hhead x hb2.2 n (hkeepW n hmem).2 v' (k5 (hkeepW n hmem).1 n (hkeepW n hmem).2 v' hv')
          rw [hl] at this
          cases this
          exact hv')
        (by
         intro n v hv
         simp only [cE] at hv
         exact nN ho' hv) hb.1 hb.2.1
       exact ⟨x',loc2,hx',rfl,hb.1,hb.2,hvx,m1,m2,m3⟩
      ·exact hvx.elim
     | exit i=>exact up _ hq
     | ret=>exact up _ hq
     | goto l=>exact hq.elim
     | panic c=>exact hq.elim
     | outgrown=>exact hq.elim
   ·exact h.elim
  ·rename_i f hsome
   have hwl:writes anns cur (.loop b)=allM :: writes anns cur b:=by simp only [writes,hsome]
   generalize GG st (f st)=an at h
   split at h
   case h_2=>exact h.elim
   rename_i hdis
   have hkeepW:=sd hdis
   obtain ⟨hfit,h⟩:=h
   obtain ⟨x0,hx0,_,hf0⟩:=Dv hfit
   refine wp_loop_ghost (fun n a' w'=>∃x loc',an.inv x/\an.bA x=n/\tA an st (writes anns cur b) x=true/\
    (vc cx anns b cur (dS an st x) fun e st'=>match e with
      | .normal=>match mE st'.env an.aX with
       | true=>Ba an st st' fun x'=>an.bA x' < an.bA x
       | false => .ff
      | e=>K e st').holds/\
    Good cx.eT X (aB O (dS an st x) loc' w')/\ju cx (aB O (dS an st x) loc' w') (dS an st x) a'/\Tr (aB O st loc w) (aB O (dS an st x) loc' w')) (an.bA x0) ?_ ?_
   ·have hx:=h x0 hx0
    split at hx
    case h_2=>exact hx.elim
    rename_i hok2
    obtain ⟨loc',m1,m2,m3⟩:=Dx (an:=an) (st:=st) x0 g hA (Tr.refl _) hok2 (fun n hn v hv=>⟨v,hv,ma v⟩) hf0
    exact ⟨x0,loc',hx0,rfl,hok2,hx,m1,m2,m3⟩
   ·rintro n a1 w1 ⟨x,loc1,hx,hn,hokx,hvc,g1,hA1,tr1⟩
    refine wp_mono (ih cur hA1 g1 (hO.tr tr1.size) hvc) ?_
    intro e a2 w2 hq
    have up:∀Kx:St->VC,gM cx X O Kx (writes anns cur b) (dS an st x) (aB O (dS an st x) loc1 w1) a2 w2->gM cx X O Kx (writes anns cur (.loop b)) st (aB O st loc w) a2 w2:=by
     rintro Kx ⟨st2,loc2,k1,k2,k3,k4,k5⟩
     exact ⟨st2,loc2,k1,k2,tr1.trans k3,k4,fun hm=>by rw [hwl] at hm;exact absurd (List.mem_cons_self) hm⟩
    cases e with
    | normal=>
     obtain ⟨st2,loc2,k1,k2,k3,k4,k5⟩:=hq
     simp only at k1
     split at k1
     case h_2=>exact k1.elim
     rename_i hpres
     obtain ⟨x',hx',hlt,hf'⟩:=Dv k1
     have hvx:=h x' hx'
     split at hvx
     case h_2=>exact hvx.elim
     rename_i hok2
     refine ⟨an.bA x',by rw [<-hn];exact hlt,?_⟩
     obtain ⟨loc',m1,m2,m3⟩:=Dx (an:=an) (st:=st) x' k2 k4 (tr1.trans k3) hok2 (fun n hn v hv=>by
      obtain ⟨v',hv'⟩:=n7 hpres hn
      have h1:=k5 (hkeepW n hn).1 n (hkeepW n hn).2 v' hv'
      refine ⟨v',hv',?_⟩
      have h2:=L9 hokx hn h1 (hkeepW n hn).2
      rw [hv] at h2;cases h2
      exact ma v) hf'
     exact ⟨x',loc',hx',rfl,hok2,hvx,m1,m2,m3⟩
    | exit i=>exact up _ hq
    | ret=>exact up _ hq
    | goto l=>exact hq.elim
    | panic c=>exact hq.elim
    | outgrown=>exact hq.elim
 | rangeFunc f ps Vy b _ _=>intro cur st loc w a K _ _ _ h;exact h.elim
 | exit id=>intro cur st loc w a K hA g hO h;exact wp_exit ⟨st,loc,h,g,Tr.refl _,hA,fun _ _ _ _ h=>h⟩
 | scope b _=>intro cur st loc w a K _ _ _ h;exact h.elim
 | label l=>intro cur st loc w a K _ _ _ h;exact h.elim
 | goto l=>intro cur st loc w a K _ _ _ h;exact h.elim
 | ret=>intro cur st loc w a K hA g hO h;exact wp_ret ⟨st,loc,h,g,Tr.refl _,hA,fun _ _ _ _ h=>h⟩
 | refuse why=>intro cur st loc w a K _ _ _ h;exact h.elim
end
end Go.Vg

namespace Go.Vg
open Go.RowKit
@[reducible] def HL:List Ty->Type
 | []=>Unit
 | [t]=>D t
 | t :: u :: r=>D t × HL (u :: r)
def kL:List Ty->Bool
 | []=>true
 | t :: r=>t.flat && kL r
def FQ (st:St) (want:Ty) (n:Nat):Option (D want):=
 match look st.aK n with
 | some (.ext 0 t xs)=>match h:Ty.beq t want with
  | true=>some (cR h (a:=t) xs)
  | false=>none
 | _=>none
def Ma (lend:Bool) (st:St) (t:Ty) (a:dE):Option (D t):=
 match lend,t,a with
 | true, .slice e, .one (.bE n)=>wa st e (.bE n)
 | true,t, .one (.xd n .top)=>FQ st t n
 | _,t,a=>qq t a
def n8 (lend:Bool) (st:St):(ts:List Ty)->List dE->Option (HL ts)
 | [],[]=>some ()
 | [t],[a]=>Ma lend st t a
 | t :: u :: r,a :: Vy=>match Ma lend st t a,n8 lend st (u :: r) Vy with
  | some x,some xs=>some (x,xs)
  | _,_=>none
 | _,_=>none
def pF:(ts:List Ty)->HL ts->List dE
 | [],_=>[]
 | [t],y=>[.one (.d t y)]
 | t :: u :: r,ys => .one (.d t ys.1) :: pF (u :: r) ys.2
def sf:List dE->SV
 | [v] => .s v
 | vs => .nx vs
def wI (st:St) (c:C):C × St:=
 match c with
 | .bE n=>match look st.aK n with
  | some (.bE t xs)=>(.d (.slice t) xs,bL st n)
  | _=>(c,st)
 | .xd n .top=>match look st.aK n with
  | some (.ext 0 t xs)=>(.d t xs,bL st n)
  | _=>(c,st)
 | c=>(c,st)
def uG:St->List C->List C × St
 | st,[]=>([],st)
 | st,c :: cs=>match wI st c with
  | (c',st1)=>match uG st1 cs with
   | (cs',st2)=>(c' :: cs',st2)
def Af (st:St) (v:dE):dE × St:=
 match v with
 | .one c=>match wI st c with
  | (c',st')=>(.one c',st')
 | .agg cs=>match uG st cs with
  | (cs',st')=>(.agg cs',st')
def CQ (lend:Bool) (st:St) (v:dE):dE × St:=
 match lend,v with
 | true, .one c=>(.one c,st)
 | _,v=>Af st v
def sV (lend:Bool):St->List dE->List dE × St
 | st,[]=>([],st)
 | st,v :: vs=>match CQ lend st v with
  | (v',st1)=>match sV lend st1 vs with
   | (vs',st2)=>(v' :: vs',st2)
def km (ts rts:List Ty) (pre:HL ts->Prop) (post:HL ts->HL rts->Prop):bQ:=fun args st K=>
 match sV (kL rts) st args with
 | (args,st)=>match n8 (kL rts) st ts args with
  | some xs => .and (pre xs) (.all (HL rts) fun ys => .imp (post xs ys) (K (sf (pF rts ys)) st))
  | none => .ff
def aL (ts rts:List Ty) (pre:HL ts->Prop) (g:HL ts->HL rts):bQ:=fun args st K=>
 match sV (kL rts) st args with
 | (args,st)=>match n8 (kL rts) st ts args with
  | some xs => .and (pre xs) (K (sf (pF rts (g xs))) st)
  | none => .ff
inductive Un (α:Type) where
 | ret (a:α)
 | ite (c:Bool) (a b:Un α)
def Un.eval {α:Type}:Un α->α
 | .ret a=>a
 | .ite c a b=>match c with
  | true=>a.eval
  | false=>b.eval
def Ou (st:St) (want:Ty) (c:C):Option (D want):=
 match c with
 | .bE n=>match look st.aK n with
  | some (.bE t xs)=>match h:Ty.beq (.slice t) want with
   | true=>some (cR h (a:=.slice t) xs)
   | false=>none
  | _=>none
 | .xd n .top=>FQ st want n
 | c=>vF want c
def n9 (st:St):(t:Ty)->List C->Option (D t × List C)
 | .prod a b,cs=>match n9 st a cs with
  | some (x,cs1)=>match n9 st b cs1 with
   | some (y,cs2)=>some ((x,y),cs2)
   | none=>none
  | none=>none
 | .unit,cs=>some ((),cs)
 | t,c :: cs=>match Ou st t c with
  | some x=>some (x,cs)
  | none=>none
 | _,[]=>none
def Mb (st:St) (want:Ty):dE->Option (D want)
 | .one c=>Ou st want c
 | .agg cs=>match want.one with
  | true=>none
  | false=>match n9 st want cs with
   | some (x,[])=>some x
   | _=>none
def wJ (st:St):(ts:List Ty)->List dE->Option (HL ts)
 | [],[]=>some ()
 | [t],[a]=>Mb st t a
 | t :: u :: r,a :: Vy=>match Mb st t a,wJ st (u :: r) Vy with
  | some x,some xs=>some (x,xs)
  | _,_=>none
 | _,_=>none
def uH (cx:Cx) (st:St):List ResultVar->(List dE->VC)->VC
 | [],K=>K []
 | .tmp t :: r,K=>match ev st.env (.tmp t) with
  | .s v=>uH cx st r fun vs=>K (v :: vs)
  | _ => .ff
 | .cell a t :: r,K=>v7 cx st t (eJ st.env (.tmp a)) fun sv=>match sv with
  | .s v=>uH cx st r fun vs=>K (v :: vs)
  | _ => .ff
def Mc (cx:Cx) (anns:cN) (res:List ResultVar) (c:Code) (st:St) (K:List dE->St->VC):VC:=
 vc cx anns c 0 st fun e st'=>match e with
  | .exit _ => .ff
  | _=>uH cx st' res fun vs=>K vs st'
def rr (B:Cx) (Γ:List (FuncId × (Bool × bQ))) (N:Nat):Cx:={B with Γ:=Γ,N:=N}
def tC:Nat->(ts:List Ty)->HL ts->List (Nat × SV)
 | _,[],_=>[]
 | k,[t],x=>[(k, .s (.one (.d t x)))]
 | k,t :: u :: r,xs=>(k, .s (.one (.d t xs.1))) :: tC (k + 1) (u :: r) xs.2
def pW (ts:List Ty) (xs:HL ts):St:={env:=tC 0 ts xs,aK:=[],next:=0}
def KV (B:Cx) (Γ:List (FuncId × (Bool × bQ))) (N:Nat) (anns:cN) (res:List ResultVar) (c:Code) (ts rts:List Ty) (post:HL ts->HL rts->Prop) (xs:HL ts):VC:=
 Mc (rr B Γ N) anns res c (pW ts xs) fun vs st=>match wJ st rts vs with
  | some ys => .leaf (post xs ys)
  | none => .ff
section
variable {eT:TypeId} {X:Ext} {P:Program} {cx:Cx}
def lN (eT:TypeId) (A:aM) (w:World):(ts:List Ty)->HL ts->List Value->Prop
 | [],_,vs=>vs = []
 | [t],x,vs=>∃v,vs = [v]/\VR eT t x A w v
 | t :: u :: r,xs,vs=>∃v vs',vs=v :: vs'/\VR eT t xs.1 A w v/\lN eT A w (u :: r) xs.2 vs'
def GH:List Value->Value
 | [v]=>v
 | vs => .tuple vs.toArray
structure bK (P:Program) (eT:TypeId) (X:Ext) (f:FuncId) (ts rts:List Ty) (pre:HL ts->Prop) (post:HL ts->HL rts->Prop):Prop where
 fn:∃fn,P.funcs[f]?=some fn/\fn.body.isNone=false/\(fn.name == "runtime.NumGoroutine")=false
 ok:∀O w xs vs,X.vV w->gv O w->lN eT O w ts xs vs->pre xs->
  Calls P f vs.toArray w fun e w'=>∃us ys,e = .returned (GH us)/\post xs ys/\lN eT O w' rts ys us/\Below w.heap.size w w'
def wK (tmps:Array Value):ResultVar->Sem Value
 | .tmp t=>pure (tmps.getD t undef)
 | .cell b t=>do loadVar t (<-asAddr (tmps.getD b undef))
theorem Ji (hok:TyOK P cx) {O:aM} {st:St} {loc:Nat->Loc} {w:World} {a:Act} (g:Good cx.eT X (aB O st loc w)) (he:jg cx.eT (aB O st loc w) st.env a) :
  ∀{rs:List ResultVar} {K:List dE->VC},(uH cx st rs K).holds->
  ∃vs us,(K vs).holds/\dR cx.eT (aB O st loc w) vs us/\(rs.mapM (wK a.tmps):Sem (List Value)).run P w = .ok us w:=by
 intro rs
 induction rs with
 | nil=>intro K h;exact ⟨[],[],h, .nil,rfl⟩
 | cons r rs ih=>
  intro K h
  cases r with
  | tmp t=>
   simp only [uH] at h
   split at h
   ·rename_i v hv
    obtain ⟨vs,us,h1,h2,h3⟩:=ih h
    have hr:=mw he (.tmp t)
    rw [hv] at hr
    refine ⟨v :: vs,a.tmps.getD t undef :: us,h1, .cons hr h2,?_⟩
    rw [List.mapM_cons]
    simp only [wK,Sem.run_bind,Sem.run_pure,Result.andThen_ok,h3]
   ·exact h.elim
  | cell b t=>
   simp only [uH] at h
   obtain ⟨sv,u,h1,h2,h3⟩:=ue (P:=P) hok g (bS he (.tmp b)) h
   split at h1
   ·rename_i v
    obtain ⟨vs,us,k1,k2,k3⟩:=ih h1
    have h3:=h3 w (Below.refl _ _)
    refine ⟨v :: vs,u :: us,k1, .cons h2 k2,?_⟩
    rw [List.mapM_cons]
    have h4:(do loadVar t (<-asAddr (a.tmps.getD b undef)):Sem Value).run P w = .ok u w:=by
     have h3:(Instr.loadAt t (a.tmps.getD b undef)).run P w = .ok u w:=h3
     generalize a.tmps.getD b undef=p at h3
     cases p with
     | pointer q=>
      cases q with
      | none=>simp [Instr.loadAt,Instr.sureAddr] at h3
      | some q=>simpa [Instr.loadAt,Instr.sureAddr,asAddr] using h3
     | _=>simp [Instr.loadAt,Instr.sureAddr] at h3
    simp only [wK,Sem.run_bind] at h4 ⊢
    simp only [h4,Sem.run_pure,Result.andThen_ok,k3]
   ·exact h1.elim
theorem dR.len {S:bN} {xs:List dE} {us:List Value} (h:dR eT S xs us):xs.length=us.length:=by
 induction h with
 | nil=>rfl
 | cons _ _ ih=>simp [ih]
theorem wL {S:bN} {vs:List dE} {us:List Value} (h:dR eT S vs us):eH eT S (sf vs) (GH us):=by
 match vs,us,h with
 | [],[],h=>exact ⟨[],rfl,h⟩
 | [v],[u], .cons h1 .nil=>exact h1
 | _ :: _ :: _,_ :: _ :: _,h=>exact ⟨_,rfl,h⟩
theorem sW (hok:ov P cx X) {f:FuncId} {fn:Func} {c:Code} (hf:P.funcs[f]?=some fn) (hb:fn.body=some c) (hN:cx.N=fn.ntmps) (anns:cN) {O:aM} {st:St} {loc:Nat->Loc} {w:World}
  {args:Array Value} {K:List dE->St->VC} (hsz:args.size<=fn.ntmps) (g:Good cx.eT X (aB O st loc w)) (hO:gv O w)
  (henv:∀t sv,look st.env t=some sv->∃v,args[t]?=some v/\eH cx.eT (aB O st loc w) sv v)
  (h:(Mc cx anns fn.results.toList c st K).holds) :
  Calls P f args w fun e w'=>∃vs us st' loc',e = .returned (GH us)/\(K vs st').holds/\dR cx.eT (aB O st' loc' w') vs us/\Good cx.eT X (aB O st' loc' w')/\Tr (aB O st loc w) (aB O st' loc' w'):=by
 refine calls_of_wp hf hb ?_
 have hA:ju cx (aB O st loc w) st {tmps:=args++Array.replicate (fn.ntmps - args.size) undef,defers:=[]}:=by
  refine ⟨by simp [hN];omega,rfl,fun t sv ht => ?_⟩
  obtain ⟨v,hv,hr⟩:=henv t sv ht
  have hlt:t < args.size:=by
   rcases Nat.lt_or_ge t args.size with hh | hh
   ·exact hh
   ·rw [Array.getElem?_eq_none hh] at hv;cases hv
  rw [Array.getD_eq_getD_getElem?,Array.getElem?_append,if_pos hlt,hv]
  exact hr
 refine wp_mono (Q7 hok anns c 0 hA g hO h) ?_
 have fin:∀(a':Act) (w':World),gM cx X O (fun st'=>uH cx st' fn.results.toList fun vs=>K vs st') (writes anns 0 c) st (aB O st loc w) a' w'->a'.defers = []/\∃v,(results fn a'.tmps).run P w' = .ok v w'/\
   ∃vs us st' loc',Ending.returned v = .returned (GH us)/\(K vs st').holds/\dR cx.eT (aB O st' loc' w') vs us/\Good cx.eT X (aB O st' loc' w')/\Tr (aB O st loc w) (aB O st' loc' w'):=by
  rintro a' w' ⟨st',loc',k1,k2,k3,k4,_⟩
  obtain ⟨vs,us,m1,m2,m3⟩:=Ji (P:=P) hok.toTyOK k2 k4.env k1
  refine ⟨k4.defers,GH us,?_,vs,us,st',loc',rfl,m1,m2,k2,k3⟩
  have hm:(fn.results.mapM (wK a'.tmps):Sem (Array Value)).run P w' = .ok us.toArray w':=by
   rw [<-Array.toArray_toList (xs:=fn.results),List.mapM_toArray,Sem.run_map,m3]
   rfl
  have he:results fn a'.tmps=(do
    let xs <-fn.results.mapM (wK a'.tmps)
    return if h:xs.size=1 then xs[0] else .tuple xs):=by
   unfold results
   congr 1
  rw [he,Sem.run_bind,hm]
  simp only [Result.andThen_ok,Sem.run_pure]
  match us with
  | []=>rfl
  | [u]=>rfl
  | _ :: _ :: _=>rfl
 intro e a' w' hq
 cases e with
 | normal=>exact fin a' w' hq
 | ret=>exact fin a' w' hq
 | exit n=>obtain ⟨st',loc',k1,_⟩:=hq;exact k1.elim
 | goto l=>exact hq.elim
 | panic c=>exact hq.elim
 | outgrown=>exact hq.elim
end
end Go.Vg

namespace Go.Vg
open Go.RowKit
section
variable {X:Ext} {P:Program} {cx:Cx}
theorem Ov {O:aM} {st:St} {loc:Nat->Loc} {w:World} {b o:Nat} (h:¬ (aB O st loc w).A b o):¬ O b o:=fun k=>h (.inl k)
theorem Vm {O:aM} {st:St} {loc:Nat->Loc} {w:World} {t:Ty} {x:D t} {v:Value} {eT:TypeId} (h:VR eT t x (aB O st loc w).A w v):VR eT t x O w v:=
 VR.frame h fun _ _ _ ha hc=>⟨hc,Ov ha⟩
theorem KW {O:aM} {st:St} {loc:Nat->Loc} {w:World} (g:Good cx.eT X (aB O st loc w)) {n:Nat} {t:Ty} {xs:List (D t)} (hob:look st.aK n=some (.bE t xs))
  {v:Value} (hx:CR cx.eT (aB O st loc w) (.bE n) v):VR cx.eT (.slice t) xs O w v:=by
 rcases (g.obj _ _ hob).2 with ⟨rfl,⟨a,ha⟩,_⟩ | ⟨b,vs,T,cap,hl,ib,hheap,hvs,hcap,hbig,he⟩
 ·exact VR.cZ rfl ⟨_,rfl,by simp, .inl ⟨rfl,a,0,(hx.2 _ _ hob).trans ha⟩⟩
 refine VR.cZ rfl ⟨_,rfl,hbig, .inr ⟨b,0,cap,(hx.2 _ _ hob).trans hl,hcap,fun i y hy => ?_⟩⟩
 obtain ⟨us,h1,h2⟩:=he i y hy
 refine ⟨us,h1.frame fun _ _ _ ha hc=>⟨hc,Ov ha⟩,fun j u hj=>⟨?_,?_⟩⟩
 ·rw [Nat.zero_add,cell_of_row w b _ vs T (0,0) hheap];exact h2 j u hj
 ·exact g.out n _ b _ hob (by rw [ib];simp)
theorem KX {O:aM} {st:St} {loc:Nat->Loc} {w:World} (g:Good cx.eT X (aB O st loc w)) {n:Nat} {t:Ty} {xs:D t} (hob:look st.aK n=some (.ext 0 t xs))
  {v:Value} (hx:CR cx.eT (aB O st loc w) (.xd n .top) v) {A:aM} (hA:∀b∈(loc n).bs,∀o,¬ A b o):VR cx.eT t xs A w v:=by
 have hd:lh t xs (loc n) w:=X.deep.1 (g.obj _ _ hob).2
 obtain ⟨e,s,rfl,hs⟩:=rV hd
 exact hd.data (hx.2 _ _ hob) hA
theorem DA {O:aM} {st:St} {loc:Nat->Loc} {w:World} (g:Good cx.eT X (aB O st loc w)) {n:Nat} {t:Ty} {xs:D t} (h:FQ st t n=some xs)
  {v:Value} (hx:CR cx.eT (aB O st loc w) (.xd n .top) v):VR cx.eT t xs O w v:=by
 unfold FQ at h
 split at h
 ·rename_i t' ys hob
  split at h
  ·cases h;rename_i hb
   exact lJ hb _ (KX g hob hx fun b hb o=>g.out n _ b o hob hb)
  ·cases h
 ·cases h
theorem KY {O:aM} {st:St} {loc:Nat->Loc} {w:World} (g:Good cx.eT X (aB O st loc w)) {want:Ty} {c:C} {x:D want} {v:Value} (h:Ou st want c=some x)
  (hc:CR cx.eT (aB O st loc w) c v):VR cx.eT want x O w v:=by
 unfold Ou at h
 split at h
 ·rename_i n
  split at h
  ·rename_i t xs hob
   split at h
   ·cases h;rename_i hb;exact lJ hb _ (KW g hob hc)
   ·cases h
  ·cases h
 ·exact DA g h hc
 ·exact Vm (tg h hc)
theorem Ow {O:aM} {st:St} {loc:Nat->Loc} {w:World} (g:Good cx.eT X (aB O st loc w)):∀{t:Ty} {cs cs':List C} {x:D t} {vs:List Value},n9 st t cs=some (x,cs')->eP cx.eT (aB O st loc w) cs vs->
  ∃us vs',vs=us++vs'/\R cx.eT t x O w us/\eP cx.eT (aB O st loc w) cs' vs':=by
 have one:∀{t:Ty} {c:C} {cs cs':List C} {x:D t} {vs:List Value},(match Ou st t c with | some x=>some (x,cs) | none=>none)=some (x,cs')->eP cx.eT (aB O st loc w) (c :: cs) vs->
   ∃us vs',vs=us++vs'/\R cx.eT t x O w us/\eP cx.eT (aB O st loc w) cs' vs':=by
  intro t c cs cs' x vs h hc
  cases hc with
  | cons h1 h2 h3=>
   rename_i v vs0
   split at h
   ·rename_i y hy
    cases h
    exact ⟨[v],vs0,rfl,(yu h2 (KY g hy h1)).2,h3⟩
   ·cases h
 intro t
 induction t with
 | prod a b iha ihb=>
  intro cs cs' x vs h hc
  simp only [n9] at h
  split at h
  ·rename_i y cs1 h1
   split at h
   ·rename_i z cs2 h2
    cases h
    obtain ⟨u1,v1,rfl,r1,k1⟩:=iha h1 hc
    obtain ⟨u2,v2,rfl,r2,k2⟩:=ihb h2 k1
    exact ⟨u1++u2,v2,by simp,⟨u1,u2,rfl,r1,r2⟩,k2⟩
   ·cases h
  ·cases h
 | unit=>
  intro cs cs' x vs h hc
  simp only [n9] at h
  cases h
  exact ⟨[],vs,rfl,rfl,hc⟩
 | bool=>intro cs cs' x vs h hc;cases cs with | nil=>simp [n9] at h | cons c cs=>exact one (t:=.bool) h hc
 | int k=>intro cs cs' x vs h hc;cases cs with | nil=>simp [n9] at h | cons c cs=>exact one (t:=.int k) h hc
 | str=>intro cs cs' x vs h hc;cases cs with | nil=>simp [n9] at h | cons c cs=>exact one (t:=.str) h hc
 | err=>intro cs cs' x vs h hc;cases cs with | nil=>simp [n9] at h | cons c cs=>exact one (t:=.err) h hc
 | fK=>intro cs cs' x vs h hc;cases cs with | nil=>simp [n9] at h | cons c cs=>exact one (t:=.fK) h hc
 | slice e _=>intro cs cs' x vs h hc;cases cs with | nil=>simp [n9] at h | cons c cs=>exact one (t:=.slice e) h hc
theorem GI {O:aM} {st:St} {loc:Nat->Loc} {w:World} (g:Good cx.eT X (aB O st loc w)) {want:Ty} {c:dE} {x:D want} {v:Value} (h:Mb st want c=some x)
  (hc:jt cx.eT (aB O st loc w) c v):VR cx.eT want x O w v:=by
 cases c with
 | one c=>exact KY g h hc
 | agg cs=>
  simp only [Mb] at h
  obtain ⟨vs,rfl,hcs⟩:=hc
  split at h
  ·cases h
  ·rename_i ho
   split at h
   ·rename_i y hy
    cases h
    obtain ⟨us,vs',rfl,r,k⟩:=Ow g hy hcs
    cases k
    unfold VR
    rw [if_neg (by simp [ho])]
    exact ⟨_,rfl,by simpa using r⟩
   ·cases h
theorem GJ {O:aM} {st:St} {loc:Nat->Loc} {w:World} (g:Good cx.eT X (aB O st loc w)):∀{ts:List Ty} {vs:List dE} {ys:HL ts} {us:List Value},wJ st ts vs=some ys->
  dR cx.eT (aB O st loc w) vs us->lN cx.eT O w ts ys us
 | [],[],_,_,_, .nil=>rfl
 | [t],[a],ys,_,h, .cons h1 .nil=>⟨_,rfl,GI g h h1⟩
 | t :: u :: r,a :: Vy,ys,_,h, .cons h1 h2=>by
  simp only [wJ] at h
  split at h
  ·rename_i x xs k1 k2
   cases h
   exact ⟨_,_,rfl,GI g k1 h1,GJ g k2 h2⟩
  ·cases h
 | [],_ :: _,_,_,h,_=>by simp [wJ] at h
 | [_],[],_,_,h,_=>by simp [wJ] at h
 | [_],_ :: _ :: _,_,_,h,_=>by simp [wJ] at h
 | _ :: _ :: _,[],_,_,h,_=>by simp [wJ] at h
theorem Bh {eT:TypeId} {O:aM} {w:World} {S:bN} (hS:S.w=w) (hA:∀b o,¬ O b o->¬ S.A b o):∀(ts:List Ty) (k:Nat) (xs:HL ts) (vs:List Value),lN eT O w ts xs vs->
  ∀t sv,look (tC k ts xs) t=some sv->k<=t/\∃v,vs[t - k]?=some v/\eH eT S sv v
 | [],k,xs,vs,_,t,sv,h=>by simp [tC,look] at h
 | [ty],k,x,_,⟨v,rfl,hv⟩,t,sv,h=>by
  simp only [tC,cV] at h
  split at h
  ·cases h
   rename_i e;subst e
   exact ⟨Nat.le_refl _,v,by simp,VR.frame hv fun b o _ ha hc=>⟨by rw [hS];exact hc,hA b o ha⟩⟩
  ·simp [look] at h
 | ty :: u :: r,k,xs,_,⟨v,vs',rfl,hv,hr⟩,t,sv,h=>by
  simp only [tC,cV] at h
  split at h
  ·cases h
   rename_i e;subst e
   exact ⟨Nat.le_refl _,v,by simp,VR.frame hv fun b o _ ha hc=>⟨by rw [hS];exact hc,hA b o ha⟩⟩
  ·obtain ⟨h1,v',h2,h3⟩:=Bh hS hA (u :: r) (k + 1) xs.2 vs' hr t sv h
   refine ⟨by omega,v',?_,h3⟩
   rw [show t - k=(t - (k + 1)) + 1 from by omega,List.getElem?_cons_succ]
   exact h2
theorem lN.length {eT:TypeId} {O:aM} {w:World}:∀{ts:List Ty} {xs:HL ts} {vs:List Value},lN eT O w ts xs vs->vs.length=ts.length
 | [],_,_,h=>by rw [show _ = [] from h];rfl
 | [_],_,_,⟨_,rfl,_⟩=>rfl
 | _ :: u :: r,_,_,⟨_,_,rfl,_,h⟩=>by simp [lN.length h]
def wf:(t:Ty)->D t->Prop
 | .int k,x=>k.min<=x/\x<=k.max
 | .str,x=>x.length<=aJ
 | .prod a b,x=>wf a x.1/\wf b x.2
 | .slice e,x=>x.length<=aJ/\∀(i:Nat) y,x[i]?=some y->wf e y
 | _,_=>True
def eE:(ts:List Ty)->HL ts->Prop
 | [],_=>True
 | [t],x=>wf t x
 | t :: u :: r,xs=>wf t xs.1/\eE (u :: r) xs.2
theorem R.wf {eT:TypeId}:∀{t:Ty} {x:D t} {A:aM} {w:World} {vs:List Value},R eT t x A w vs->Vg.wf t x:=by
 intro t
 induction t with
 | int k=>intro x A w vs h;exact h.2
 | str=>intro x A w vs h;exact h.2
 | prod a b iha ihb=>intro x A w vs h;obtain ⟨_,_,_,h1,h2⟩:=h;exact ⟨iha h1,ihb h2⟩
 | slice e ih=>
  intro x A w vs h
  obtain ⟨v,_,hl,h⟩:=h
  refine ⟨hl,fun i y hy => ?_⟩
  rcases h with ⟨rfl,_⟩ | ⟨b,o,cap,_,_,h⟩
  ·simp at hy
  ·obtain ⟨us,h1,_⟩:=h i y hy;exact ih h1
 | _=>intro x A w vs h;trivial
theorem VR.wf {eT:TypeId} {t:Ty} {x:D t} {A:aM} {w:World} {v:Value} (h:VR eT t x A w v):Vg.wf t x:=(VR.cells h).wf
theorem lN.wf {eT:TypeId} {O:aM} {w:World}:∀{ts:List Ty} {xs:HL ts} {vs:List Value},lN eT O w ts xs vs->eE ts xs
 | [],_,_,_=>trivial
 | [_],_,_,⟨_,_,h⟩=>h.wf
 | _ :: _ :: _,_,_,⟨_,_,_,h,h'⟩=>⟨h.wf,lN.wf h'⟩
theorem Md {B:Cx} {X:Ext} {Γ:List (FuncId × (Bool × bQ))} {N:Nat} {f:FuncId} {fn:Func} {c:Code} (hok:ov P (rr B Γ N) X) (hf:P.funcs[f]?=some fn) (hb:fn.body=some c) (hn:(fn.name == "runtime.NumGoroutine")=false)
  (hN:fn.ntmps=N) {ts rts:List Ty} (anns:HL ts->cN) (hts:ts.length<=N) {pre:HL ts->Prop} {post:HL ts->HL rts->Prop}
  (h:∀xs,eE ts xs->pre xs->(KV B Γ N (anns xs) fn.results.toList c ts rts post xs).holds) :
  bK P B.eT X f ts rts pre post:=by
 refine ⟨⟨fn,hf,by rw [hb];rfl,hn⟩,fun O w xs vs hG hO ha hp => ?_⟩
 have g0:Good (rr B Γ N).eT X (aB O (pW ts xs) (fun _=>default) w):=
  ⟨fun n oc h=>by simp [aB,pW,look] at h,fun n m oc oc' b h=>by simp [aB,pW,look] at h,fun n oc b off h=>by simp [aB,pW,look] at h,hG,fun b hb ⟨n,oc,h,_⟩=>by simp [aB,pW,look] at h⟩
 have hA0:∀b o,¬ O b o->¬ (aB O (pW ts xs) (fun _=>default) w).A b o:=by
  rintro b o h (k | ⟨n,oc,k,_⟩)
  ·exact h k
  ·simp [aB,pW,look] at k
 refine Calls.mono (sW hok hf hb hN.symm (anns xs) (by simpa [ha.length,hN] using hts) g0 hO ?_ (h xs ha.wf hp)) ?_
 ·intro t sv ht
  obtain ⟨_,v,h1,h2⟩:=Bh (eT:=B.eT) (S:=aB O (pW ts xs) (fun _=>default) w) rfl hA0 ts 0 xs vs ha t sv ht
  exact ⟨v,by simpa using h1,h2⟩
 ·rintro e w' ⟨vs',us,st',loc',rfl,h1,h2,h3,h4⟩
  split at h1
  ·rename_i ys hys
   refine ⟨us,ys,rfl,h1,GJ h3 hys h2,h4.os,h4.output,h4.size,fun k hk=>h4.block k hk ?_⟩
   rintro ⟨n,oc,k,_⟩
   simp [aB,pW,look] at k
  ·exact h1.elim
def lO:aM:=fun _ _=>False
def outer (lend:Bool) (A:aM):aM:=match lend with
 | true=>lO
 | false=>A
theorem GK {O:aM} {st:St} {loc:Nat->Loc} {w:World} (g:Good cx.eT X (aB O st loc w)) {lend:Bool} {t:Ty} {a:dE} {x:D t} {v:Value} (h:Ma lend st t a=some x)
  (ha:jt cx.eT (aB O st loc w) a v):VR cx.eT t x (outer lend (aB O st loc w).A) w v:=by
 have base:qq t a=some x->VR cx.eT t x (outer lend (aB O st loc w).A) w v:=by
  intro h
  refine VR.CM (lK h ha) fun b o k => ?_
  cases lend with
  | true=>exact id
  | false=>exact k
 unfold Ma at h
 split at h
 ·rename_i e n x' heq
  unfold wa at h
  simp only [Cy] at h
  split at h
  ·rename_i e' ys hob
   split at h
   ·cases h;rename_i hb
    exact lJ hb _ (VR.CM (KW g hob ha) fun _ _ _=>id)
   ·cases h
  ·cases h
 ·exact VR.CM (DA g h ha) fun _ _ _=>id
 ·exact base h
theorem DB {O:aM} {st:St} {loc:Nat->Loc} {w:World} (g:Good cx.eT X (aB O st loc w)) {lend:Bool}:∀{ts:List Ty} {Vy:List dE} {xs:HL ts} {vs:List Value},n8 lend st ts Vy=some xs->
  dR cx.eT (aB O st loc w) Vy vs->lN cx.eT (outer lend (aB O st loc w).A) w ts xs vs
 | [],[],_,_,_, .nil=>rfl
 | [t],[a],xs,_,h, .cons h1 .nil=>⟨_,rfl,GK g h h1⟩
 | t :: u :: r,a :: Vy,xs,_,h, .cons h1 h2=>by
  simp only [n8] at h
  split at h
  ·rename_i x xs k1 k2
   cases h
   exact ⟨_,_,rfl,GK g k1 h1,DB g k2 h2⟩
  ·cases h
 | [],_ :: _,_,_,h,_=>by simp [n8] at h
 | [_],[],_,_,h,_=>by simp [n8] at h
 | [_],_ :: _ :: _,_,_,h,_=>by simp [n8] at h
 | _ :: _ :: _,[],_,_,h,_=>by simp [n8] at h
theorem yE {eT:TypeId} {S:bN} {O:aM} {w:World} (hS:S.w=w):∀{ts:List Ty} {ys:HL ts} {us:List Value},(kL ts=true\/O=S.A)->lN eT O w ts ys us->dR eT S (pF ts ys) us
 | [],_,_,_,h=>by rw [show _ = [] from h];exact .nil
 | [t],y,_,hl,⟨v,rfl,hv⟩=>by
  refine .cons ?_ .nil
  subst hS
  rcases hl with hl | hl
  ·simp only [kL,Bool.and_true] at hl
   exact VR.of_flat hl hv
  ·subst hl;exact hv
 | t :: u :: r,ys,_,hl,⟨v,vs',rfl,hv,hr⟩=>by
  refine .cons ?_ (yE hS ?_ hr)
  ·subst hS
   rcases hl with hl | hl
   ·simp only [kL,Bool.and_eq_true] at hl
    exact VR.of_flat hl.1 hv
   ·subst hl;exact hv
  ·rcases hl with hl | hl
   ·simp only [kL,Bool.and_eq_true] at hl ⊢;exact .inl hl.2
   ·exact .inr hl
theorem U9 {O:aM} {st:St} {loc:Nat->Loc} {w:World} {eT:TypeId} (g:Good eT X (aB O st loc w)) (hO:gv O w):gv (aB O st loc w).A w:=by
 rintro b off (h | ⟨n,oc,h1,h2,_⟩)
 ·exact hO b off h
 ·exact (g.obj n oc h1).2.inside b h2
theorem DC {eT:TypeId} {f:FuncId} {ts rts:List Ty} {pre:HL ts->Prop} {post:HL ts->HL rts->Prop} (h:bK P eT X f ts rts pre post)
  {O:aM} {st:St} {loc:Nat->Loc} {w:World} {args:List dE} {vs:List Value} {xs:HL ts} (hx:n8 (kL rts) st ts args=some xs) (hp:pre xs)
  {K:SV->St->VC} (hK:∀ys,post xs ys->(K (sf (pF rts ys)) st).holds)
  (g:Good eT X (aB O st loc w)) (hO:gv O w) (ha:dR eT (aB O st loc w) args vs) :
  Calls P f vs.toArray w fun e w'=>∃v sv st' loc',e = .returned v/\(K sv st').holds/\st'.env=st.env/\(true=true->Below w.heap.size w w')/\Good eT X (aB O st' loc' w')/\
   Tr (aB O st loc w) (aB O st' loc' w')/\eH eT (aB O st' loc' w') sv v:=by
 have g':Good (Cx.mk eT [] [] [] 0 [] [] [] false [] []).eT X (aB O st loc w):=g
 have hOut:gv (outer (kL rts) (aB O st loc w).A) w:=by
  intro b off hb
  cases hf:kL rts with
  | true=>rw [hf] at hb;exact hb.elim
  | false=>rw [hf] at hb;exact U9 g hO b off hb
 refine Calls.mono (h.ok _ w xs vs g.oh.1 hOut (DB g' hx ha) hp) ?_
 rintro e w' ⟨us,ys,rfl,h1,h2,h3⟩
 obtain ⟨t,g2⟩:=ua (S':=aB O st loc w') g rfl rfl rfl rfl h3
 refine ⟨_,_,st,loc,rfl,hK ys h1,rfl,fun _=>h3,g2,t,wL (yE rfl ?_ h2)⟩
 cases hf:kL rts with
 | true=>exact .inl rfl
 | false=>exact .inr (by simp only [outer];funext b off;simp [bN.A,aB])
theorem Bi {O:aM} {st:St} {loc:Nat->Loc} {w:World} (g:Good cx.eT X (aB O st loc w)) (c:C) :
  Tr (aB O st loc w) (aB O (wI st c).2 loc w)/\Good cx.eT X (aB O (wI st c).2 loc w)/\(wI st c).2.env=st.env/\
   ∀v,CR cx.eT (aB O st loc w) c v->CR cx.eT (aB O (wI st c).2 loc w) (wI st c).1 v:=by
 unfold wI
 split
 ·rename_i n
  split
  ·rename_i t xs hob
   obtain ⟨h1,h2⟩:=rY g n
   exact ⟨h1,h2,rfl,fun v hv=>I9 g hob hv⟩
  ·exact ⟨Tr.refl _,g,rfl,fun v hv=>hv⟩
 ·rename_i n
  split
  ·rename_i t xs hob
   obtain ⟨h1,h2⟩:=rY g n
   refine ⟨h1,h2,rfl,fun v hv=>KX g hob hv fun b hb o => ?_⟩
   rintro (hA' | ⟨m,oc,k1,k2,k3⟩)
   ·exact g.out n _ b o hob hb hA'
   ·simp only [aB,bL] at k1 k2
    rw [mz] at k1
    split at k1
    ·cases k1
    ·rename_i h8;exact h8 (g.apart n m _ _ b hob k1 hb k2)
  ·exact ⟨Tr.refl _,g,rfl,fun v hv=>hv⟩
 ·exact ⟨Tr.refl _,g,rfl,fun v hv=>hv⟩
theorem yF {O:aM} {loc:Nat->Loc} {w:World}:∀(cs:List C) {st:St},Good cx.eT X (aB O st loc w)->
  Tr (aB O st loc w) (aB O (uG st cs).2 loc w)/\Good cx.eT X (aB O (uG st cs).2 loc w)/\(uG st cs).2.env=st.env/\
   ∀vs,eP cx.eT (aB O st loc w) cs vs->eP cx.eT (aB O (uG st cs).2 loc w) (uG st cs).1 vs
 | [],st,g=>⟨Tr.refl _,g,rfl,fun vs h=>h⟩
 | c :: cs,st,g=>by
  obtain ⟨t1,g1,e1,k1⟩:=Bi g c
  obtain ⟨t2,g2,e2,k2⟩:=yF cs g1
  refine ⟨t1.trans t2,g2,e2.trans e1,fun vs h => ?_⟩
  cases h with
  | cons h1 h2 h3=>exact .cons ((k1 _ h1).tr t2) h2 (k2 _ (h3.tr t1))
theorem uI {O:aM} {st:St} {loc:Nat->Loc} {w:World} (g:Good cx.eT X (aB O st loc w)) (x:dE) :
  Tr (aB O st loc w) (aB O (Af st x).2 loc w)/\Good cx.eT X (aB O (Af st x).2 loc w)/\(Af st x).2.env=st.env/\
   ∀v,jt cx.eT (aB O st loc w) x v->jt cx.eT (aB O (Af st x).2 loc w) (Af st x).1 v:=by
 cases x with
 | one c=>exact Bi g c
 | agg cs=>
  obtain ⟨t1,g1,e1,k1⟩:=yF cs g
  exact ⟨t1,g1,e1,fun v ⟨vs,h1,h2⟩=>⟨vs,h1,k1 _ h2⟩⟩
theorem Me {O:aM} {st:St} {loc:Nat->Loc} {w:World} (g:Good cx.eT X (aB O st loc w)) (lend:Bool) (x:dE) :
  Tr (aB O st loc w) (aB O (CQ lend st x).2 loc w)/\Good cx.eT X (aB O (CQ lend st x).2 loc w)/\(CQ lend st x).2.env=st.env/\
   ∀v,jt cx.eT (aB O st loc w) x v->jt cx.eT (aB O (CQ lend st x).2 loc w) (CQ lend st x).1 v:=by
 cases lend with
 | false=>cases x <;> exact uI g _
 | true=>
  cases x with
  | one c=>exact ⟨Tr.refl _,g,rfl,fun v hv=>hv⟩
  | agg cs=>exact uI g _
theorem Bj {O:aM} {loc:Nat->Loc} {w:World} (lend:Bool):∀(xs:List dE) {st:St},Good cx.eT X (aB O st loc w)->
  Tr (aB O st loc w) (aB O (sV lend st xs).2 loc w)/\Good cx.eT X (aB O (sV lend st xs).2 loc w)/\(sV lend st xs).2.env=st.env/\
   ∀vs,dR cx.eT (aB O st loc w) xs vs->dR cx.eT (aB O (sV lend st xs).2 loc w) (sV lend st xs).1 vs
 | [],st,g=>⟨Tr.refl _,g,rfl,fun vs h=>h⟩
 | x :: xs,st,g=>by
  obtain ⟨t1,g1,e1,k1⟩:=Me g lend x
  obtain ⟨t2,g2,e2,k2⟩:=Bj lend xs g1
  refine ⟨t1.trans t2,g2,e2.trans e1,fun vs h => ?_⟩
  cases h with
  | cons h1 h3=>exact .cons ((k1 _ h1).tr t2) (k2 _ (h3.tr t1))
theorem DD {eT:TypeId} {f:FuncId} {q:Bool} {sp:bQ} {lend:Bool}
  (h:∀O st loc w args vs K,(sp args st K).holds->Good eT X (aB O st loc w)->gv O w->dR eT (aB O st loc w) args vs->
   Calls P f vs.toArray w fun e w'=>∃v sv st' loc',e = .returned v/\(K sv st').holds/\st'.env=st.env/\(q=true->Below w.heap.size w w')/\Good eT X (aB O st' loc' w')/\
    Tr (aB O st loc w) (aB O st' loc' w')/\eH eT (aB O st' loc' w') sv v)
  (O:aM) (st:St) (loc:Nat->Loc) (w:World) (args:List dE) (vs:List Value) (K:SV->St->VC) (hs:(sp (sV lend st args).1 (sV lend st args).2 K).holds)
  (g:Good eT X (aB O st loc w)) (hO:gv O w) (ha:dR eT (aB O st loc w) args vs) :
  Calls P f vs.toArray w fun e w'=>∃v sv st' loc',e = .returned v/\(K sv st').holds/\st'.env=st.env/\(q=true->Below w.heap.size w w')/\Good eT X (aB O st' loc' w')/\
   Tr (aB O st loc w) (aB O st' loc' w')/\eH eT (aB O st' loc' w') sv v:=by
 have g':Good (Cx.mk eT [] [] [] 0 [] [] [] false [] []).eT X (aB O st loc w):=g
 obtain ⟨t1,g1,e1,k1⟩:=Bj lend args g'
 refine Calls.mono (h O _ loc w _ vs K hs g1 hO (k1 _ ha)) ?_
 rintro e w' ⟨v,sv,st',loc',h1,h2,h3,h4,h5,h6,h7⟩
 exact ⟨v,sv,st',loc',h1,h2,h3.trans e1,h4,h5,t1.trans h6,h7⟩
theorem gu {eT:TypeId} {f:FuncId} {ts rts:List Ty} {pre:HL ts->Prop} {post:HL ts->HL rts->Prop} (h:bK P eT X f ts rts pre post) :
  dK P eT X f true (km ts rts pre post):=by
 refine ⟨h.fn,DD (lend:=kL rts) (sp:=fun args st K=>match n8 (kL rts) st ts args with
  | some xs => .and (pre xs) (.all (HL rts) fun ys => .imp (post xs ys) (K (sf (pF rts ys)) st))
  | none => .ff) fun O st loc w args vs K hs g hO ha => ?_⟩
 split at hs
 ·rename_i xs hx
  exact DC h hx hs.1 (fun ys hy=>hs.2 ys hy) g hO ha
 ·exact hs.elim
theorem aC {eT:TypeId} {f:FuncId} {ts rts:List Ty} {pre:HL ts->Prop} {g:HL ts->HL rts} (h:bK P eT X f ts rts pre (fun xs ys=>ys=g xs)) :
  dK P eT X f true (aL ts rts pre g):=by
 refine ⟨h.fn,DD (lend:=kL rts) (sp:=fun args st K=>match n8 (kL rts) st ts args with
  | some xs => .and (pre xs) (K (sf (pF rts (g xs))) st)
  | none => .ff) fun O st loc w args vs K hs hg hO ha => ?_⟩
 split at hs
 ·rename_i xs hx
  exact DC h hx hs.1 (fun ys hy=>by rw [hy];exact hs.2) hg hO ha
 ·exact hs.elim
theorem Tp {B:Cx} {N:Nat} (h:TyOK P B):ov P (rr B [] N) X:=
 {fit:=h.fit,nY:=h.nY,kE:=h.kE,mixed:=h.mixed,arr:=h.arr,uc:=h.uc,eqs:=h.eqs,om:=h.om,qc:=h.qc,rW:=h.rW,calls:=fun f q sp hl=>by simp [rr,look] at hl}
theorem Q8 {B:Cx} {Γ:List (FuncId × (Bool × bQ))} {N:Nat} {f:FuncId} {q:Bool} {sp:bQ} (h:dK P B.eT X f q sp) (hΓ:ov P (rr B Γ N) X):ov P (rr B ((f,q,sp) :: Γ) N) X:=
 {fit:=hΓ.fit,nY:=hΓ.nY,kE:=hΓ.kE,mixed:=hΓ.mixed,arr:=hΓ.arr,uc:=hΓ.uc,eqs:=hΓ.eqs,om:=hΓ.om,qc:=hΓ.qc,rW:=hΓ.rW,calls:=fun f' q' sp' hl=>by
   simp only [rr,cV] at hl
   split at hl
   ·rename_i e;subst e;cases hl;exact h
   ·exact hΓ.calls f' q' sp' hl}
end
end Go.Vg

namespace Go.Vg
open Go.RowKit
def Ty.plain:Ty->Bool
 | .err | .fK=>false
 | .prod a b=>a.plain && b.plain
 | .slice e=>e.plain
 | _=>true
def Ty.low:Ty->Bool
 | .slice e=>Nat.blt 0 e.size && e.low
 | .prod a b=>a.low && b.low
 | _=>true
section
variable {H:Type} {enc:TypeId × Value->H} {P:Program} {w:World} {base:Nat} {sp:Nat->Bool} {held:Bool} {eT:TypeId}
theorem Fit.cellsOf {t:TypeId} {ty:Ty} {i:TypeInfo} {d:TypeDesc} (h:Fit P t ty i d):P.cellsOf t=ty.size:=by
 unfold Program.cellsOf;rw [h.info];exact h.size
theorem Jj {f:TypeId->Ty->Bool} {cs:List Value} {fuel:Nat}
  (ih:∀t ty,f t ty=true->P.cellsOf t=ty.size/\∀us d ps,ty.plain=true->ty.low=true->DataW.trod enc P w base sp held fuel t us=some (d,ps)->∃x,R eT ty x lO w us) :
  ∀(gs:List Field) (off:Nat) (ty:Ty) (xs:List (DataW H × List MemPlace)),dY f gs off ty=true->ty.plain=true->ty.low=true->
   gs.mapM (fun f=>DataW.trod enc P w base sp held fuel f.type ((cs.drop f.offset).take (P.cellsOf f.type)))=some xs->cs.length=off + ty.size->∃x,R eT ty x lO w (cs.drop off):=by
 intro gs
 induction gs with
 | nil=>
  intro off ty xs h hp hs hm hl
  cases ty <;> simp [dY] at h
  refine ⟨(),?_⟩
  show cs.drop off = []
  exact List.drop_eq_nil_of_le (by simp [Ty.size] at hl;omega)
 | cons g gs ihg=>
  intro off ty xs h hp hs hm hl
  cases ty <;> simp [dY] at h
  rename_i a b
  obtain ⟨⟨⟨h1,h2⟩,h3⟩,h4⟩:=h
  simp only [Ty.plain,Bool.and_eq_true] at hp
  simp only [Ty.size] at hl
  rw [List.mapM_cons] at hm
  obtain ⟨k1,k2⟩:=ih _ _ h2
  subst h1
  rw [k1] at hm
  cases hx:DataW.trod enc P w base sp held fuel g.type ((cs.drop g.offset).take a.size) with
  | none=>simp [hx] at hm
  | some y=>
   cases hxs:gs.mapM (fun f=>DataW.trod enc P w base sp held fuel f.type ((cs.drop f.offset).take (P.cellsOf f.type))) with
   | none=>simp [hx,hxs] at hm
   | some ys=>
    simp only [Ty.low,Bool.and_eq_true] at hs
    obtain ⟨x,rx⟩:=k2 _ y.1 y.2 hp.1 hs.1 hx
    obtain ⟨z,rz⟩:=ihg _ _ _ h4 hp.2 hs.2 hxs (by omega)
    refine ⟨(x,z),_,_,?_,rx,rz⟩
    rw [<-List.drop_drop,List.take_append_drop]
theorem Mf:∀(n:Nat) (t:TypeId) (ty:Ty),fits P n t ty=true->P.cellsOf t=ty.size/\∀fuel us d ps,ty.plain=true->ty.low=true->
  DataW.trod enc P w base sp held fuel t us=some (d,ps)->∃x,R eT ty x lO w us:=by
 intro n
 induction n with
 | zero=>intro t ty h;simp [fits] at h
 | succ n ih=>
  intro t ty h
  obtain ⟨m,i,dsc,hm,fit,hsh⟩:=lI h
  cases hm
  refine ⟨fit.cellsOf,fun fuel us d ps hp hs hd => ?_⟩
  cases fuel with
  | zero=>simp [DataW.trod] at hd
  | succ fuel=>
   unfold DataW.trod at hd
   rw [fit.jm] at hd
   cases ty with
   | bool=>
    cases dsc <;> simp [cQ] at hsh
    split at hd
    case h_1 _ _ b _=>exact ⟨b,rfl⟩
    all_goals simp_all
   | int k=>
    cases dsc <;> simp [cQ] at hsh
    subst hsh
    split at hd
    case h_2 _ _ k1 k2 x h0=>
     cases h0
     split at hd
     ·rename_i h1
      obtain ⟨rfl,h1⟩:=h1
      simp only [Lit.wf,Bool.and_eq_true,decide_eq_true_eq] at h1
      exact ⟨x,rfl,h1⟩
     ·cases hd
    all_goals simp_all
   | str=>
    cases dsc <;> simp [cQ] at hsh
    split at hd
    case h_4 _ _ s _=>
     split at hd
     ·rename_i h1
      refine ⟨s.data.toList,?_,?_⟩
      ·rw [Array.toArray_toList]
      ·unfold maxLen at h1
       unfold aJ
       rw [Array.length_toList]
       exact h1
     ·cases hd
    all_goals simp_all
   | err=>simp [Ty.plain] at hp
   | fK=>simp [Ty.plain] at hp
   | unit=>
    cases dsc <;> simp [cQ] at hsh
    rename_i fs
    simp only at hd
    split at hd
    ·rename_i hl
     rw [fit.cellsOf] at hl
     refine ⟨(),?_⟩
     exact List.length_eq_zero_iff.1 hl
    ·cases hd
   | prod a b=>
    cases dsc <;> simp [cQ] at hsh
    rename_i fs
    simp only at hd
    split at hd
    ·rename_i hl
     rw [fit.cellsOf] at hl
     cases hxs:fs.toList.mapM (fun f=>DataW.trod enc P w base sp held fuel f.type ((us.drop f.offset).take (P.cellsOf f.type))) with
     | none=>rw [hxs] at hd;simp at hd
     | some xs=>
      obtain ⟨x,hx⟩:=Jj (fun t ty hf=>⟨(ih t ty hf).1,(ih t ty hf).2 fuel⟩) _ _ _ _ hsh hp hs hxs (by omega)
      exact ⟨x,by simpa using hx⟩
    ·cases hd
   | slice e=>
    cases dsc <;> simp [cQ] at hsh
    rename_i te
    simp only [Ty.low,Bool.and_eq_true] at hs
    have hpos:=nE hs.1
    obtain ⟨hce,hel⟩:=ih te e hsh
    split at hd
    case h_7=>exact ⟨[],_,rfl,by simp [aJ], .inl ⟨rfl,_,_,rfl⟩⟩
    case h_8 _ _ te' b l c h0=>
     cases h0
     simp only at hd
     split at hd
     case isFalse=>cases hd
     rename_i hcond
     obtain ⟨hb,hlc,hcm⟩:=hcond
     obtain ⟨es,hes,_⟩:=Option.bind_eq_some_iff.1 hd
     rw [hce] at hes
     have hlen:=mapM_some_length hes
     simp only [List.length_range] at hlen
     by_cases hl0:l=0
     ·subst hl0
      exact ⟨[],_,rfl,by simp [aJ], .inl ⟨rfl,_,_,rfl⟩⟩
     have hspot:b.spot=none:=by
      have h1:=mapM_some_get hes 0 0 (by rw [List.getElem?_range (by omega)])
      rw [List.getElem?_eq_getElem (by omega)] at h1
      obtain ⟨us,hu,hd1⟩:=Option.bind_eq_some_iff.1 h1
      obtain ⟨_,q1,q2⟩:=World.cells?_some hu
      have q3:=q2 0 hpos
      rw [List.getElem?_eq_getElem (by omega)] at q3
      have e0:(b.add (0 * e.size)).add 0=b:=by simp [Addr.add]
      rw [e0] at q3
      unfold World.cell? at q3
      split at q3
      ·cases hb0:b.spot with
       | none=>rfl
       | some k=>rw [hb0] at q3;simp at q3
      ·cases q3
     obtain ⟨bb,oo,so⟩:=b
     simp only at hspot
     subst hspot
     have hget:∀i,i < l->∃x us,R eT e x lO w us/\Row lO w bb (oo + i * e.size) us:=by
      intro i hi
      have h1:=mapM_some_get hes i i (by simp [hi])
      rw [List.getElem?_eq_getElem (by omega)] at h1
      obtain ⟨us,hu,hd1⟩:=Option.bind_eq_some_iff.1 h1
      obtain ⟨_,q1,q2⟩:=World.cells?_some hu
      obtain ⟨x,hx⟩:=hel fuel us (es[i]'(by omega)).1 (es[i]'(by omega)).2 hp hs.2 hd1
      refine ⟨x,us,hx,fun j u hj=>⟨?_,id⟩⟩
      have hjl:j < us.length:=by
       rcases Nat.lt_or_ge j us.length with h | h
       ·exact h
       ·rw [List.getElem?_eq_none h] at hj;cases hj
      have:=q2 j (by omega)
      rw [Addr.add_lit,Addr.add_lit] at this
      rw [this,hj]
     let xs:List (D e):=(List.range l).map fun i=>if h:i < l then (hget i h).choose else bO e
     have hxl:xs.length=l:=by simp [xs]
     have hxi:∀i y,xs[i]?=some y->∃us,R eT e y lO w us/\Row lO w bb (oo + i * e.size) us:=by
      intro i y hy
      have hi:i < l:=by
       rcases Nat.lt_or_ge i l with h | h
       ·exact h
       ·rw [List.getElem?_eq_none (by omega)] at hy;cases hy
      have:xs[i]?=some (hget i hi).choose:=by simp [xs,hi]
      rw [this] at hy
      cases hy
      exact (hget i hi).choose_spec
     refine ⟨xs,_,rfl,?_, .inr ⟨bb,oo,c,?_,?_,hxi⟩⟩
     ·rw [hxl];unfold maxLen at hcm;unfold aJ;omega
     ·rw [hxl]
     ·rw [hxl];exact hlc
    all_goals simp_all
theorem Q9 {n:Nat} {t:TypeId} {ty:Ty} (hf:fits P n t ty=true) (hp:ty.plain=true) (hlow:ty.low=true) {r:Reach} {b:Nat} {v:Value} (hval:Value.okWide P w r b t v) {d:DataW H} {ps:List MemPlace}
  (hd:DataW.Trod enc P w base sp held t v d ps):∃x,VR eT ty x lO w v:=by
 obtain ⟨m,i,dsc,hm,fit,hsh⟩:=lI hf
 obtain ⟨fuel,hd⟩:=hd
 have key:∃x,R eT ty x lO w v.cells.toList:=(Mf (eT:=eT) n t ty hf).2 fuel _ _ _ hp hlow hd
 unfold Value.okWide at hval
 rw [fit.jm] at hval
 have one:ty.one=true->Cell.okWide P w r b t v->(v.cells.toList = [v])->∃x,VR eT ty x lO w v:=by
  intro h1 h2 h3
  rw [h3] at key
  obtain ⟨x,hx⟩:=key
  exact ⟨x,VR.cZ h1 hx⟩
 have agg:ty.one=false->(∃cs,v = .agg cs/\cs.size=P.cellsOf t/\Row.okWide P w r b t cs)->∃x,VR eT ty x lO w v:=by
  rintro h1 ⟨cs,rfl,_,ts,_,_,h2⟩
  obtain ⟨x,hx⟩:=key
  refine ⟨x,?_⟩
  unfold VR
  rw [if_neg (by simp [h1])]
  exact ⟨cs,rfl,hx⟩
 cases ty with
 | err=>simp [Ty.plain] at hp
 | fK=>simp [Ty.plain] at hp
 | prod a b=>cases dsc <;> simp [cQ] at hsh;exact agg rfl hval
 | unit=>cases dsc <;> simp [cQ] at hsh;exact agg rfl hval
 | bool=>
  cases dsc <;> simp [cQ] at hsh
  refine one rfl hval ?_
  cases v <;> simp [Cell.okWide,Cell.ok,fit.jm,Value.cells] at hval ⊢
 | int k=>
  cases dsc <;> simp [cQ] at hsh
  refine one rfl hval ?_
  cases v <;> simp [Cell.okWide,Cell.ok,fit.jm,Value.cells] at hval ⊢
 | str=>
  cases dsc <;> simp [cQ] at hsh
  refine one rfl hval ?_
  cases v <;> simp [Cell.okWide,Cell.ok,fit.jm,Value.cells] at hval ⊢
 | slice e=>
  cases dsc <;> simp [cQ] at hsh
  refine one rfl hval ?_
  cases v <;> simp [Cell.okWide,Cell.ok,fit.jm,Value.cells] at hval ⊢
def tD (P:Program) (n:Nat):List TypeId->List Ty->Bool
 | [],[]=>true
 | t :: ts,ty :: tys=>fits P n t ty && ty.plain && ty.low && tD P n ts tys
 | _,_=>false
theorem Ox {n:Nat} {r:Reach} {b:Nat}:∀(ts:List TypeId) (tys:List Ty) (vs:List Value) (ds:List (DataW H)) (ps:List MemPlace),tD P n ts tys=true->
  (∀(j:Nat) t v,ts[j]?=some t->vs[j]?=some v->Value.okWide P w r b t v)->DataW.TrodAll enc P w base sp held ts vs ds ps->∃xs,lN eT lO w tys xs vs:=by
 intro ts
 induction ts with
 | nil=>
  intro tys vs ds ps hf hv h
  cases tys <;> simp [tD] at hf
  cases vs <;> cases ds <;> simp [DataW.TrodAll] at h
  exact ⟨(),rfl⟩
 | cons t ts ih=>
  intro tys vs ds ps hf hv h
  cases tys <;> simp [tD] at hf
  rename_i ty tys
  obtain ⟨⟨⟨h1,h2⟩,h3⟩,h4⟩:=hf
  cases vs <;> cases ds <;> simp [DataW.TrodAll] at h
  rename_i v vs d ds
  obtain ⟨p,hp,q,hq,_⟩:=h
  obtain ⟨x,hx⟩:=Q9 (eT:=eT) h1 h2 h3 (hv 0 t v rfl rfl) hp
  obtain ⟨xs,hxs⟩:=ih tys vs ds q h4 (fun j t' v' h1 h2=>hv (j + 1) t' v' h1 h2) hq
  cases tys with
  | nil=>exact ⟨x,v,by rw [show vs = [] from hxs],hx⟩
  | cons ty' tys=>exact ⟨(x,xs),v,vs,rfl,hx,hxs⟩
theorem Mg (hl:laidOutB P=true) {W W':World} (hb:Below W.heap.size W W'):∀(ts:List TypeId) (vs:List Value) (ds:List (DataW H)) (ps:List MemPlace),(ts.all fun t=>P.readableRec t && Nat.blt t P.types.size)=true->
  DataW.TrodAll enc P W 0 (fun _=>true) true ts vs ds ps->(∀x∈ps,x.block < W.heap.size)->DataW.TrodAll enc P W' 0 (fun b=>decide (b < W.heap.size)) true ts vs ds ps:=by
 intro ts
 induction ts with
 | nil=>intro vs ds ps _ h _;cases vs <;> cases ds <;> simp [DataW.TrodAll] at h ⊢;exact h
 | cons t ts ih=>
  intro vs ds ps hr h hlt
  simp only [List.all_cons,Bool.and_eq_true] at hr
  cases vs <;> cases ds <;> simp only [DataW.TrodAll] at h ⊢
  rename_i v vs d ds
  obtain ⟨p,q,hp,hq,rfl⟩:=h
  exact ⟨p,q,WideElems.Trod_stays hl hr.1.1 (nE hr.1.2) hp (fun x hx=>hb.same (hlt x (by simp [hx]))) (fun x hx=>by simpa using hlt x (by simp [hx])),ih vs ds q hr.2 hq (fun x hx=>hlt x (by simp [hx])),rfl⟩
theorem GL:∀{ts:List TypeId} {vs:List Value} {ds:List (DataW H)} {ps:List MemPlace},DataW.TrodAll enc P w base sp held ts vs ds ps->vs.length=ts.length/\ds.length=ts.length
 | [],[],[],_,_=>⟨rfl,rfl⟩
 | _ :: _,_ :: _,_ :: _,_,⟨_,_,_,h,_⟩=>by simp [GL h]
theorem Oy {X:Ext} {C:Checked} {f:FuncId} {fn:Func} {s:ChangeSpec} {tys:List Ty} {pre:HL tys->Prop} (hs:s.vars = []) (hl:laidOutB C.prog=true)
  (hsp:∀ds:List (DataW H),ds.length=tys.length->s.fn H ds = {results:=[.lit (.bool true)],args:=ds})
  {n:Nat} (hf:tD C.prog n fn.params.toList tys=true) (hr:(fn.params.toList.all fun t=>C.prog.readableRec t && Nat.blt t C.prog.types.size)=true)
  {tb:TypeId} (hres:fn.resultTypes = #[tb]) (hb:C.prog.underlying tb=some .bool)
  (h:bK C.prog eT X f tys [.bool] pre (fun _ y=>y=true))
  {W:World} {base:Nat} {args:Array Value} {ds gs:List (DataW H)} {before:List MemPlace}
  (hval:∀(j:Nat) t v,fn.params[j]?=some t->args[j]?=some v->Value.okWide C.prog W .any base t v)
  (hW:DataW.Whole enc C.prog fn.params.toList s.vars false W args.toList ds gs before)
  (hG:X.vV W) (hpre:∀xs,lN eT lO W tys xs args.toList->pre xs) :
  Calls C.prog f args W fun e W'=>∃v,e = .returned v/\s.post enc C.prog fn false true false false W args v W':=by
 have hW0:=hW
 obtain ⟨p,q,hA,hV,rfl,_,_⟩:=hW
 rw [hs] at hV
 obtain ⟨rfl,rfl⟩:gs = []/\q = []:=by cases gs <;> simp [DataW.TrodVars] at hV;exact ⟨rfl,hV⟩
 obtain ⟨xs,hxs⟩:=Ox (eT:=eT) _ _ _ _ _ hf (fun j t v h1 h2=>hval j t v (by rw [<-Array.getElem?_toList];exact h1) (by rw [<-Array.getElem?_toList];exact h2)) hA
 have:=h.ok lO W xs args.toList hG (fun _ _ h=>h.elim) hxs (hpre xs hxs)
 rw [Array.toArray_toList] at this
 refine this.mono ?_
 rintro e W' ⟨us,ys,rfl,rfl,hr',hbel⟩
 obtain ⟨u,rfl,hu⟩:=hr'
 have hu:u = .bool true:=by
  have:=VR.one rfl hu
  simpa [R] using this
 subst hu
 have hlen:ds.length=tys.length:=by
  have h1:=hxs.length
  have h2:=GL hA
  omega
 simp only [List.append_nil] at hW0 ⊢
 have hlt:∀x∈p,x.block < W.heap.size:=hW0.lt
 refine ⟨_,rfl,ds,[],p,[],p,[],hW0,?_,?_,?_,hbel.frame _,fun hh=>by cases hh⟩
 ·rw [List.append_nil,hsp ds hlen,hres]
  exact ⟨[],[],shut_bool hb true,rfl,rfl⟩
 ·rw [List.append_nil,hsp ds hlen]
  exact Mg hl hbel _ _ _ _ hr hA hlt
 ·rw [List.append_nil,hsp ds hlen,hs]
  rfl
end
end Go.Vg

namespace Go.Vg
open Go.RowKit
theorem holds_of {v:VC} {p:Prop} (e:v.holds=p) (h:p):v.holds:=by rw [e];exact h
section
variable {A B:Prop}
theorem iD {p:Prop} [Decidable p] (f:p->A) (g:¬ p->B):(decide p=true->A)/\(decide p=false->B):=⟨fun h=>f (of_decide_eq_true h),fun h=>g (of_decide_eq_false h)⟩
theorem iL {a b:Int} (f:a < b->A) (g:b<=a->B):(decide (a < b)=true->A)/\(decide (a < b)=false->B):=iD f fun h=>g (Int.not_lt.1 h)
theorem iE {a b:Int} (f:a<=b->A) (g:b < a->B):(decide (a<=b)=true->A)/\(decide (a<=b)=false->B):=iD f fun h=>g (Int.not_le.1 h)
theorem iB {b:Bool} (f:b=false->A) (g:b=true->B):((!b)=true->A)/\((!b)=false->B):=⟨fun h=>f (Bool.not_eq_true' b▸h),fun h=>g (Bool.not_eq_false' b▸h)⟩
theorem iQ {α:Type} [BEq α] [LawfulBEq α] {a b:α} (f:a=b->A) (g:¬ a=b->B):((a == b)=true->A)/\((a == b)=false->B):=⟨fun h=>f (eq_of_beq h),fun h=>g fun e=>by rw [e,beq_self_eq_true] at h;cases h⟩
theorem iN {α:Type} [BEq α] [LawfulBEq α] {a b:α} (f:¬ a=b->A) (g:a=b->B):((a != b)=true->A)/\((a != b)=false->B):=
 ⟨fun h=>f fun e=>(by rw [e,bne_self_eq_false] at h;cases h),fun h=>g (by simpa using h)⟩
end
def Va:Ext where
 rel k t x l w:=match k with
  | 0=>lh t x l w
  | 1=>sJ t x l w
  | 2=>tZ t x l w
  | _=>False
 inside {k t x l w} h:=by
  match k,h with
  | 0,h=>exact lh.inside h
  | 1,h=>exact sJ.inside h
  | 2,h=>exact tZ.inside h
 ptr {k t x l w} hk h:=by
  match k,hk,h with
  | 0,hk,_=>omega
  | 1,hk,_=>omega
  | 2,_,h=>obtain ⟨rfl,b,p,v,h⟩:=h;exact ⟨_,h.lv⟩
 deep:=Iff.rfl
 map:=Iff.rfl
 SL:=Iff.rfl
 frame {k t x l w w'} h hb:=by
  match k,h with
  | 0,h=>exact lh.frame h hb
  | 1,h=>exact sJ.frame h hb
  | 2,h=>exact tZ.frame h hb
 vV _:=True
 KC:=[]
 SM _ _ hb:=by cases hb
 FW _ _:=trivial
def codeOf (fn:Func):Code:=fn.body.getD .skip
def cM (B:Cx) (Γ:List (FuncId × (Bool × bQ))) (fn:Func) (anns:cN) (ts rts:List Ty) (post:HL ts->HL rts->Prop) (xs:HL ts):VC:=
 KV B Γ fn.ntmps anns fn.results.toList (codeOf fn) ts rts post xs
def tE (fn:Func) (n:Nat):Bool:=fn.body.isSome && !(fn.name == "runtime.NumGoroutine") && Nat.ble n fn.ntmps
def bT (P:Program) (B:Cx) (X:Ext) (Γ:List (FuncId × (Bool × bQ))):Prop:=∀N,ov P (rr B Γ N) X
section
variable {P:Program} {B:Cx} {X:Ext} {Γ:List (FuncId × (Bool × bQ))}
theorem bM {f:FuncId} {fn:Func} {ts rts:List Ty} {pre:HL ts->Prop} {post:HL ts->HL rts->Prop} (hok:bT P B X Γ) (hf:P.funcs[f]?=some fn) (hc:tE fn ts.length=true)
  (anns:HL ts->cN) (h:∀xs,eE ts xs->pre xs->(cM B Γ fn (anns xs) ts rts post xs).holds):bK P B.eT X f ts rts pre post:=by
 simp only [tE,Bool.and_eq_true,Bool.not_eq_true'] at hc
 obtain ⟨⟨h1,h2⟩,h3⟩:=hc
 refine Md (hok fn.ntmps) hf (c:=codeOf fn) ?_ h2 rfl anns (Nat.le_of_ble_eq_true h3) h
 unfold codeOf
 cases hb:fn.body with
 | none=>rw [hb] at h1;cases h1
 | some c=>rfl
theorem bW (h:TyOK P B):bT P B X []:=fun _=>Tp h
theorem aP {f:FuncId} {q:Bool} {sp:bQ} (h:dK P B.eT X f q sp) (hΓ:bT P B X Γ):bT P B X ((f,q,sp) :: Γ):=fun N=>Q8 h (hΓ N)
def jV (B:Cx) (l:List Nat):Cx:={B with hint:=l}
theorem bT.hint {l:List Nat} (h:bT P B X Γ):bT P (jV B l) X Γ:=fun N=>
 {fit:=(h N).fit,nY:=(h N).nY,kE:=(h N).kE,mixed:=(h N).mixed,arr:=(h N).arr,uc:=(h N).uc,eqs:=(h N).eqs,om:=(h N).om,qc:=(h N).qc,rW:=(h N).rW,calls:=(h N).calls}
def Mh (B:Cx):Cx:={B with wr:=true}
theorem bT.wrap (h:bT P B X Γ):bT P (Mh B) X Γ:=fun N=>
 {fit:=(h N).fit,nY:=(h N).nY,kE:=(h N).kE,mixed:=(h N).mixed,arr:=(h N).arr,uc:=(h N).uc,eqs:=(h N).eqs,om:=(h N).om,qc:=(h N).qc,rW:=(h N).rW,calls:=(h N).calls}
theorem ru {α:Type} {l:List (Nat × α)} {n:Nat} {x:α} (h:look l n=some x):(n,x)∈l:=by
 induction l with
 | nil=>cases h
 | cons p r ih=>
  obtain ⟨m,y⟩:=p
  rw [cV] at h
  split at h
  ·rename_i e;subst e;cases h;simp
  ·exact List.mem_cons_of_mem _ (ih h)
def Oz (P:Program) (B:Cx) (n:Nat):Bool:=
 (B.τ.all fun p=>fits P n p.1 p.2) &&
 (match P.underlying B.eT with | some (.int .i64)=>true | _=>false) &&
 (match P.info? B.eT with | some i=>(match i.zero with | some (.int .i64 0)=>true | _=>false) | none=>false) &&
 P.follows .mixedOrders &&
 (B.zN.all fun p=>match P.underlying p.1 with | some (.array m e)=>Nat.beq m p.2.1 && Nat.beq e p.2.2 | _=>false) &&
 (B.zN.all fun p=>match look B.τ p.2.2 with
  | some e=>(match P.info? p.1 with
   | some i=>(match i.zero with
    | some z=>px e p.2.1 z.cells.toList
    | none=>false)
   | none=>false)
  | none=>true) &&
 B.eqs.all (LN P) && B.om.all (F2 P) &&
 (B.qc.all fun p=>match P.underlying p.1 with
  | some (.map k e)=>Nat.beq k p.2.1 && Nat.beq e p.2.2 && (match P.underlying p.2.1 with | some .string=>true | _=>false) &&
   (match P.info? p.2.2 with
    | some i=>(match i.zero with | some (.agg _)=>true | _=>false)
    | none=>false)
  | _=>false) &&
 (B.rW.all fun p=>match P.info? p.1 with
  | some i=>(match i.zero with
   | some (.agg cs)=>(match cs.toList with
    | [.pointer none, .slice none 0 0]=>true
    | _=>false)
   | _=>false)
  | none=>false)
theorem Tq {n:Nat} (h:Oz P B n=true):TyOK P B:=by
 simp only [Oz,Bool.and_eq_true,List.all_eq_true] at h
 obtain ⟨⟨⟨⟨⟨⟨⟨⟨⟨h1,h2⟩,h3⟩,h4⟩,h5⟩,h6⟩,h7⟩,h8⟩,h9⟩,h10⟩:=h
 refine ⟨fun t ty hl=>⟨n,h1 _ (ru hl)⟩,?_,?_,h4,fun t ht=>h7 t (uz ht),fun t ht=>h8 t (uz ht),fun t m e hl => ?_,fun t k e hl => ?_,fun t e hl => ?_,fun t m te e hl he => ?_⟩
 ·split at h2
  ·assumption
  ·cases h2
 ·split at h3
  ·rename_i i hi
   refine ⟨i,hi,?_⟩
   split at h3
   ·assumption
   ·cases h3
  ·cases h3
 ·have:=h5 _ (ru hl)
  simp only at this
  split at this
  ·rename_i m' e' hu
   simp only [Bool.and_eq_true] at this
   rw [hu,Nat.eq_of_beq_eq_true this.1,Nat.eq_of_beq_eq_true this.2]
  ·cases this
 ·have:=h9 _ (ru hl)
  simp only at this
  split at this
  ·rename_i k' e' hu
   simp only [Bool.and_eq_true] at this
   obtain ⟨⟨⟨e1,e2⟩,e3⟩,e4⟩:=this
   rw [hu,Nat.eq_of_beq_eq_true e1,Nat.eq_of_beq_eq_true e2]
   refine ⟨rfl,?_,?_⟩
   ·split at e3
    ·assumption
    ·cases e3
   ·split at e4
    ·rename_i i hi
     split at e4
     ·rename_i cs hz;exact ⟨i,cs,hi,hz⟩
     ·cases e4
    ·cases e4
  ·cases this
 ·have:=h10 _ (ru hl)
  simp only at this
  split at this
  ·rename_i i hi
   split at this
   ·rename_i cs hz
    split at this
    ·rename_i hr
     exact ⟨i,hi,by rw [hz];congr 2;exact Array.toList_inj.1 hr⟩
    ·cases this
   ·cases this
  ·cases this
 ·have:=h6 _ (ru hl)
  simp only [he] at this
  split at this
  ·rename_i i hi
   split at this
   ·rename_i z hz
    exact ⟨i,z,hi,hz,this⟩
   ·cases this
  ·cases this
end
end Go.Vg

namespace Go.Vg
open Go.RowKit
def pG:Nat->List dE->List (Nat × SV)
 | _,[]=>[]
 | k,a :: r=>(k, .s a) :: pG (k + 1) r
def kM (B:Cx) (Γ:List (FuncId × (Bool × bQ))) (fn:Func) (anns:cN):bQ:=fun args st K=>
 match Nat.ble args.length fn.ntmps with
 | true=>Mc (rr B Γ fn.ntmps) anns fn.results.toList (codeOf fn) {env:=pG 0 args,aK:=st.aK,next:=st.next} fun vs st'=>K (sf vs) {st' with env:=st.env}
 | false => .ff
theorem yG {eT:TypeId} {S:bN}:∀{args:List dE} {vs:List Value} (k:Nat),dR eT S args vs->∀t sv,look (pG k args) t=some sv->k<=t/\∃v,vs[t - k]?=some v/\eH eT S sv v:=by
 intro args
 induction args with
 | nil=>intro vs k _ t sv h;simp [pG,look] at h
 | cons a r ih=>
  intro vs k hr t sv h
  cases hr with
  | cons h1 h2=>
   simp only [pG,cV] at h
   split at h
   ·rename_i e
    cases h
    subst e
    exact ⟨Nat.le_refl _,_,by simp,h1⟩
   ·rename_i e
    obtain ⟨k1,v,k2,k3⟩:=ih (k + 1) h2 t sv h
    refine ⟨by omega,v,?_,k3⟩
    rw [show t - k=(t - (k + 1)) + 1 by omega]
    simpa using k2
theorem kC {P:Program} {B:Cx} {X:Ext} {Γ:List (FuncId × (Bool × bQ))} (hok:bT P B X Γ) {f:FuncId} {fn:Func} (hf:P.funcs[f]?=some fn) (hg:tE fn 0=true) (anns:cN) :
  dK P B.eT X f false (kM B Γ fn anns):=by
 simp only [tE,Bool.and_eq_true,Bool.not_eq_true'] at hg
 obtain ⟨⟨h1,h2⟩,_⟩:=hg
 obtain ⟨c,hc⟩:=Option.isSome_iff_exists.1 h1
 refine ⟨⟨fn,hf,by rw [hc];rfl,h2⟩,fun O st loc w args vs K hK g hO ha => ?_⟩
 unfold kM at hK
 split at hK
 case h_2=>exact hK.elim
 rename_i hlen
 have hlen:=Nat.le_of_ble_eq_true hlen
 have hcode:codeOf fn=c:=by unfold codeOf;rw [hc];rfl
 rw [hcode] at hK
 have:=sW (X:=X) (hok fn.ntmps) hf hc (by rfl) anns (O:=O) (loc:=loc) (w:=w) (args:=vs.toArray)
  (st:={env:=pG 0 args,aK:=st.aK,next:=st.next}) (by rw [List.size_toArray,<-ha.len];exact hlen) g hO
  (fun t sv h=>by
   obtain ⟨_,v,k1,k2⟩:=yG 0 ha t sv h
   exact ⟨v,by simpa using k1,k2⟩) hK
 refine this.mono ?_
 rintro e w' ⟨rs,us,st',loc',he,hk,hr,g',tr⟩
 exact ⟨_,_,_,loc',he,hk,rfl,(fun h=>by cases h),g',tr,wL hr⟩
def SW (st:St) (t k:Nat):Nat:=
 match look st.env t with
 | some (.s (.one (.fn _ caps)))=>caps.getD k 0
 | _=>0
def Uo (ty:Ty) (st:St) (n:Nat):D ty:=
 match look st.aK n with
 | some (.cells _ cs)=>match mi ty cs with
  | some (x,_)=>x
  | none=>bO ty
 | _=>bO ty
end Go.Vg

namespace Go.Vg
open Go.RowKit
def ky:List Cl->St->List dE->List dE × St
 | .d _ :: r,st,v :: vs=>match Af st v with
  | (v',st1)=>match ky r st1 vs with
   | (vs',st2)=>(v' :: vs',st2)
 | .obj _ :: r,st,v :: vs=>match ky r st vs with
  | (vs',st2)=>(v :: vs',st2)
 | .iv :: r,st,v :: vs=>match ky r st vs with
  | (vs',st2)=>(v :: vs',st2)
 | _,st,vs=>(vs,st)
def qj:List (Nat × OC)->List Nat->List (Nat × OC)
 | l,[]=>l
 | l,n :: r=>qj (ri l n) r
def sg:Ob->Ob->Bool
 | .box T _, .box T' _=>Nat.beq T T'
 | .ext k t, .ext k' t'=>Nat.beq k k' && Ty.beq t t'
 | .row true t, .row true t'=>Ty.beq t t'
 | _,_=>false
def mH:List Ob->List Ob->List Nat->Nat->List Nat
 | o :: os,o' :: os',n :: ns,b=>(match sg o o' with | true=>n | false=>b) :: mH os os' ns (b + 1)
 | _,_ :: os',_,b=>b :: mH [] os' [] (b + 1)
 | _,[],_,_=>[]
def CS:Nat->List Ob->List Ob->List (Nat × Nat)
 | k,o :: os,o' :: os'=>match sg o o' with
  | true=>(k,k) :: CS (k + 1) os os'
  | false=>CS (k + 1) os os'
 | _,_,_=>[]
def uJ:Nat->List Ob->List Ob->List Nat->Bool
 | k,o :: os,o' :: os',n :: ns=>(match sg o o' with | true=>Nat.beq n k | false=>true) && uJ (k + 1) os os' ns
 | _,_,_,_=>true
structure Alt (aU:List Ob) (args:List Cl):Type 1 where
 cv:Bool:=false
 cG:List Ob
 res:List Cl
 ok:CD args->PD aU->Prop:=fun _ _=>True
 out:CD args->PD aU->PD cG
 ret:CD args->PD aU->CD res
section
variable {aU:List Ob} {args:List Cl}
def FR (al:Alt aU args) (a:CD args) (x:PD aU) (ν:List Nat) (st:St) (K:SV->St->VC):VC:=
 match nodupB (mH aU al.cG ν st.next) && kK (st.next + al.cG.length) (mH aU al.cG ν st.next) with
 | true => .imp (al.ok a x) (K (sf (Ab (iA al.cG (al.out a x) (mH aU al.cG ν st.next)) al.res (al.ret a x)))
   {env:=st.env,aK:=lM (iA al.cG (al.out a x) (mH aU al.cG ν st.next)) al.cG (al.out a x) (mH aU al.cG ν st.next)++qj st.aK ν,next:=st.next + al.cG.length})
 | false => .ff
def Bk (a:CD args) (x:PD aU) (ν:List Nat) (st:St) (K:SV->St->VC):List (Alt aU args)->VC
 | [] => .leaf True
 | [al]=>FR al a x ν st K
 | al :: al2 :: r => .both (FR al a x ν st K) (Bk a x ν st K (al2 :: r))
def bF (aU:List Ob) (args:List Cl) (pre:CD args->PD aU->Prop) (alts:List (Alt aU args)):bQ:=fun Vy st K=>
 match ky args st Vy with
 | (Vy,st)=>match SR aU args Vy st.aK [] with
  | some ν=>match nodupB ν,mm false st.aK aU ν args Vy,eS false st.aK aU ν aU ν with
   | true,some a,some x=>Q4 (mB aU x args Vy++jy aU x st.aK aU ν) (.and (pre a x) (Bk a x ν st K alts))
   | _,_,_ => .ff
  | none => .ff
def qY (aU:List Ob) (args:List Cl) (a:CD args) (x:PD aU):St:=
 {env:=pG 0 (Ab (iA aU x (upto 0 aU.length)) args a),aK:=lM (iA aU x (upto 0 aU.length)) aU x (upto 0 aU.length),next:=aU.length}
def yb (a:CD args) (x:PD aU) (vs:List dE) (st:St):List (Alt aU args)->VC
 | [] => .ff
 | al :: r=>match ky al.res st vs with
  | (vs',st')=>match SR al.cG al.res vs' st'.aK (CS 0 aU al.cG) with
   | some ν=>match nodupB ν && (uJ 0 aU al.cG ν && (!al.cv || (r9 aU && (gI al.cG && jz al.res)))),mm al.cv st'.aK al.cG ν al.res vs',eS al.cv st'.aK al.cG ν al.cG ν with
    | true,some b,some y => .leaf (L3 (mB al.cG y al.res vs'++jy al.cG y st'.aK al.cG ν++[al.ok a x/\y=al.out a x/\b=al.ret a x]))
    | _,_,_=>yb a x vs st r
   | none=>yb a x vs st r
def fD (B:Cx) (Γ:List (FuncId × (Bool × bQ))) (fn:Func) (anns:cN) (aU:List Ob) (args:List Cl) (alts:List (Alt aU args)) (a:CD args) (x:PD aU):VC:=
 Mc (rr B Γ fn.ntmps) anns fn.results.toList (codeOf fn) (qY aU args a x) fun vs st'=>yb a x vs st' alts
def kn:(cls:List Cl)->CD cls->Prop
 | [],_=>True
 | .d t :: r,x=>wf t x.1/\kn r x.2
 | .obj _ :: r,x=>kn r x
 | .iv :: r,x=>kn r x
end
section
variable {eT:TypeId} {X:Ext}
theorem vK {k:Nat}:∀{l:List Nat} {n:Nat},kK k l=true->n∈l->n < k
 | [],_,_,h=>by simp at h
 | m :: r,n,h,hn=>by
  simp only [kK,Bool.and_eq_true] at h
  rcases List.mem_cons.1 hn with e | hn
  ·rw [e];exact nE h.1
  ·exact vK h.2 hn
theorem mb (m:Nat):∀(ns:List Nat) (l:List (Nat × OC)),look (qj l ns) m=if m∈ns then none else look l m
 | [],l=>by simp [qj]
 | n :: r,l=>by
  simp only [qj]
  rw [mb m r,mz]
  by_cases h1:m∈r
  ·simp [h1]
  ·by_cases h2:n=m
   ·subst h2;simp
   ·have:¬ m=n:=fun e=>h2 e.symm
    simp [h1,h2,this]
theorem sh:∀{aU cG:List Ob} {ν:List Nat} {b i n:Nat},(mH aU cG ν b)[i]?=some n->
  (∃o o',aU[i]?=some o/\cG[i]?=some o'/\sg o o'=true/\ν[i]?=some n)\/b<=n
 | aU,[],ν,b,i,n,h=>by
  cases aU <;> cases ν <;> simp [mH] at h
 | [],o' :: os',ν,b,i,n,h=>by
  simp only [mH] at h
  cases i with
  | zero=>simp at h;exact .inr (by omega)
  | succ i=>
   rcases sh (aU:=[]) (ν:=[]) (by simpa using h) with ⟨o,_,h1,_⟩ | h1
   ·simp at h1
   ·exact .inr (by omega)
 | o :: os,o' :: os',[],b,i,n,h=>by
  simp only [mH] at h
  cases i with
  | zero=>simp at h;exact .inr (by omega)
  | succ i=>
   rcases sh (aU:=[]) (ν:=[]) (by simpa using h) with ⟨o,_,h1,_⟩ | h1
   ·simp at h1
   ·exact .inr (by omega)
 | o :: os,o' :: os',n0 :: ns,b,i,n,h=>by
  simp only [mH] at h
  cases i with
  | zero=>
   simp only [List.getElem?_cons_zero,Option.some.injEq] at h
   split at h
   ·rename_i hk;exact .inl ⟨o,o',rfl,rfl,hk,by simp [h]⟩
   ·exact .inr (by omega)
  | succ i=>
   rcases sh (by simpa using h) with ⟨a,a',h1,h2,h3⟩ | h1
   ·exact .inl ⟨a,a',by simpa using h1,by simpa using h2,by simpa using h3⟩
   ·exact .inr (by omega)
theorem rv:∀{aU cG:List Ob} {ν:List Nat} {b:Nat},(mH aU cG ν b).length=cG.length
 | aU,[],ν,b=>by cases aU <;> cases ν <;> rfl
 | [],o' :: os',ν,b=>by simp [mH,rv]
 | o :: os,o' :: os',[],b=>by simp [mH,rv]
 | o :: os,o' :: os',n0 :: ns,b=>by simp [mH,rv]
theorem Bl:∀{aU cG:List Ob} {ν:List Nat} {k i n:Nat} {o o':Ob},uJ k aU cG ν=true->aU[i]?=some o->cG[i]?=some o'->sg o o'=true->ν[i]?=some n->n=k + i
 | [],_,_,_,_,_,_,_,_,h,_,_,_=>by simp at h
 | _ :: _,[],_,_,_,_,_,_,_,_,h,_,_=>by simp at h
 | _ :: _,_ :: _,[],_,_,_,_,_,_,_,_,_,h=>by simp at h
 | a :: os,a' :: os',m :: ns,k,0,n,o,o',h,h1,h2,h3,h4=>by
  simp at h1 h2 h4
  subst h1;subst h2;subst h4
  simp only [uJ,h3,Bool.and_eq_true] at h
  have:=Nat.eq_of_beq_eq_true h.1
  omega
 | a :: os,a' :: os',m :: ns,k,i + 1,n,o,o',h,h1,h2,h3,h4=>by
  simp only [uJ,Bool.and_eq_true] at h
  have:=Bl h.2 (by simpa using h1) (by simpa using h2) h3 (by simpa using h4)
  omega
theorem DE:∀{l:List Ob} {o:Ob} {t:Ty},r9 l=true->o∈l->o≠.tok t
 | [],_,_,_,h=>by simp at h
 | a :: r,o,t,h,ho=>by
  rcases List.mem_cons.1 ho with e | ho
  ·subst e;intro e;subst e;simp [r9] at h
  ·exact DE (by cases a <;> simp_all [r9]) ho
theorem yc {S:bN} {F:Nat->Value->Prop}:∀{cls:List Cl} {x:CD cls} {vs:List Value},sP eT S F cls x vs->kn cls x
 | [],_,_,_=>trivial
 | .d t :: r,x,v :: vs,h=>⟨h.1.wf,yc h.2⟩
 | .obj k :: r,x,v :: vs,h=>yc (cls:=r) h.2
 | .iv :: r,x,v :: vs,h=>yc (cls:=r) h.2
theorem uK {S:bN} {F:Nat->Value->Prop}:∀{cls:List Cl} {x:CD cls} {vs:List Value},sP eT S F cls x vs->vs.length=cls.length
 | [],_,_,h=>by rw [show _ = [] from h];rfl
 | .d t :: r,x,v :: vs,h=>by simp [uK h.2]
 | .obj k :: r,x,v :: vs,h=>by simp [uK (cls:=r) h.2]
 | .iv :: r,x,v :: vs,h=>by simp [uK (cls:=r) h.2]
theorem Bm {O:aM} {loc:Nat->Loc} {w:World}:∀(cls:List Cl) (xs:List dE) {st:St},Good eT X (aB O st loc w)->
  Tr (aB O st loc w) (aB O (ky cls st xs).2 loc w)/\Good eT X (aB O (ky cls st xs).2 loc w)/\(ky cls st xs).2.env=st.env/\
   ∀vs,dR eT (aB O st loc w) xs vs->dR eT (aB O (ky cls st xs).2 loc w) (ky cls st xs).1 vs:=by
 intro cls
 induction cls with
 | nil=>intro xs st g;exact ⟨Tr.refl _,g,rfl,fun vs h=>h⟩
 | cons cl r ih=>
  intro xs st g
  cases xs with
  | nil=>cases cl <;> exact ⟨Tr.refl _,g,rfl,fun vs h=>h⟩
  | cons x xs=>
   cases cl with
   | d t=>
    have g':Good (Cx.mk eT [] [] [] 0 [] [] [] false [] []).eT X (aB O st loc w):=g
    obtain ⟨t1,g1,e1,k1⟩:=uI g' x
    obtain ⟨t2,g2,e2,k2⟩:=ih xs g1
    refine ⟨t1.trans t2,g2,e2.trans e1,fun vs h => ?_⟩
    cases h with
    | cons h1 h3=>exact .cons ((k1 _ h1).tr t2) (k2 _ (h3.tr t1))
   | obj k=>
    obtain ⟨t2,g2,e2,k2⟩:=ih xs g
    refine ⟨t2,g2,e2,fun vs h => ?_⟩
    cases h with
    | cons h1 h3=>exact .cons (h1.tr t2) (k2 _ h3)
   | iv=>
    obtain ⟨t2,g2,e2,k2⟩:=ih xs g
    refine ⟨t2,g2,e2,fun vs h => ?_⟩
    cases h with
    | cons h1 h3=>exact .cons (h1.tr t2) (k2 _ h3)
end
end Go.Vg

namespace Go.Vg
open Go.RowKit
section
variable {X:Ext} {P:Program} {aU:List Ob} {args:List Cl}
theorem Bn {a:CD args} {x:PD aU} {ν:List Nat} {st:St} {K:SV->St->VC}:∀{alts:List (Alt aU args)},(Bk a x ν st K alts).holds->∀al∈alts,(FR al a x ν st K).holds
 | [],_,al,h=>by simp at h
 | [al0],h,al,ha=>by simp at ha;subst ha;exact h
 | al0 :: al1 :: r,h,al,ha=>by
  rcases List.mem_cons.1 ha with e | ha
  ·subst e;exact h.1
  ·exact Bn h.2 al ha
theorem DF {a:CD args} {x:PD aU} {vs:List dE} {st:St}:∀{alts:List (Alt aU args)},(yb a x vs st alts).holds->∃al∈alts,∃ν,
  nodupB ν=true/\uJ 0 aU al.cG ν=true/\(al.cv=false\/(r9 aU=true/\gI al.cG=true/\jz al.res=true))/\al.ok a x/\
  mm al.cv (ky al.res st vs).2.aK al.cG ν al.res (ky al.res st vs).1=some (al.ret a x)/\eS al.cv (ky al.res st vs).2.aK al.cG ν al.cG ν=some (al.out a x)/\
  (∀p∈mB al.cG (al.out a x) al.res (ky al.res st vs).1,p)/\(∀p∈jy al.cG (al.out a x) (ky al.res st vs).2.aK al.cG ν,p)
 | [],h=>h.elim
 | al :: r,h=>by
  have rest:(yb a x vs st r).holds->∃al'∈al :: r,∃ν,
    nodupB ν=true/\uJ 0 aU al'.cG ν=true/\(al'.cv=false\/(r9 aU=true/\gI al'.cG=true/\jz al'.res=true))/\al'.ok a x/\
    mm al'.cv (ky al'.res st vs).2.aK al'.cG ν al'.res (ky al'.res st vs).1=some (al'.ret a x)/\eS al'.cv (ky al'.res st vs).2.aK al'.cG ν al'.cG ν=some (al'.out a x)/\
    (∀p∈mB al'.cG (al'.out a x) al'.res (ky al'.res st vs).1,p)/\(∀p∈jy al'.cG (al'.out a x) (ky al'.res st vs).2.aK al'.cG ν,p):=fun h=>by
   obtain ⟨al',h1,h2⟩:=DF h
   exact ⟨al',by simp [h1],h2⟩
  simp only [yb] at h
  split at h
  ·rename_i ν hν
   split at h
   ·rename_i b y hc hb hy
    simp only [Bool.and_eq_true,Bool.or_eq_true,Bool.not_eq_true'] at hc
    obtain ⟨h1,h2,h3⟩:=hc
    have hall:=Ac h
    have k3:al.ok a x/\y=al.out a x/\b=al.ret a x:=hall _ (List.mem_append_right _ (by simp))
    obtain ⟨k4,k5,k6⟩:=k3
    subst k5;subst k6
    obtain ⟨k1,_⟩:=kW.1 hall
    obtain ⟨k1,k2⟩:=kW.1 k1
    exact ⟨al,by simp,ν,h1,h2,h3,k4,hb,hy,k1,k2⟩
   ·exact rest h
  ·exact rest h
theorem Ra {B:Cx} {Γ:List (FuncId × (Bool × bQ))} (hok:bT P B X Γ) {f:FuncId} {fn:Func} {c:Code} (hf:P.funcs[f]?=some fn) (hb:fn.body=some c) (hN:args.length<=fn.ntmps) {anns:CD args->PD aU->cN}
  {pre:CD args->PD aU->Prop} {alts:List (Alt aU args)} (h:∀a x,kn args a->pre a x->(fD B Γ fn (anns a x) aU args alts a x).holds)
  {O:aM} {st:St} {loc:Nat->Loc} {w:World} {Vy:List dE} {vs:List Value} {K:SV->St->VC} (g:Good B.eT X (aB O st loc w)) (hO:gv O w) (ha:dR B.eT (aB O st loc w) Vy vs)
  {ν:List Nat} {a:CD args} {x:PD aU} (hnd:nodupB ν=true) (hga:mm false st.aK aU ν args Vy=some a) (hx:eS false st.aK aU ν aU ν=some x)
  (hp1:∀p∈mB aU x args Vy,p) (hp2:∀p∈jy aU x st.aK aU ν,p) (hpre:pre a x) (hK:(Bk a x ν st K alts).holds) :
  Calls P f vs.toArray w fun e w'=>∃v sv st' loc',e = .returned v/\(K sv st').holds/\st'.env=st.env/\Good B.eT X (aB O st' loc' w')/\
   Tr (aB O st loc w) (aB O st' loc' w')/\eH B.eT (aB O st' loc' w') sv v:=by
 have hvals:=Dt g hx hga ha hp1
 have hobsl:=qG hx
 let us:=upto 0 aU.length
 have hul:ν.length=us.length:=by rw [uB];exact hobsl.symm
 let O':aM:=fun b off=>O b off\/∃n oc,look st.aK n=some oc/\n∉ν/\b∈(loc n).bs/\oc.lo<=off
 let st0:=qY aU args a x
 have hOin':gv O' w:=by
  rintro b off (h | ⟨n,oc,h1,_,h2,_⟩)
  ·exact hO b off h
  ·exact (g.obj n oc h1).2.inside b h2
 have hlo:∀n∈ν,∀oc,look st.aK n=some oc->r9 aU=true->oc.lo=0:=by
  intro n hn oc h1 h2
  obtain ⟨o,oc',y,k1,k2,k3⟩:=l9 hx hn
  rw [h1] at k2;cases k2
  have:=(qe k3 (fun _ => .any)).2.2.2 (fun t=>DE h2 k1) rfl
  cases oc <;> first | rfl | exact (this _ _ rfl).elim
 have hν:∀n∈ν,∃oc,look st.aK n=some oc:=fun n hn=>let ⟨_,oc,_,_,k,_⟩:=l9 hx hn;⟨oc,k⟩
 let loc0:=fL us (ν.map loc) loc
 have hf0:∀k oc,look st0.aK k=some oc->∃(i n:Nat) (o:Ob) (y:OD o) (oc0:OC),ν[i]?=some n/\us[i]?=some k/\aU[i]?=some o/\look st.aK n=some oc0/\kj false st.aK aU ν o oc0=some y/\oc=rn (iA aU x us) o y/\loc0 k=loc n:=by
  intro k oc hk
  obtain ⟨i,n,o,y,oc0,k1,k2,k3,k4,k5,k6,_⟩:=qF hx (qE (X:=X) g hx hx hp2) hul hk
  exact ⟨i,n,o,y,oc0,k1,k2,k3,k4,k5,k6,lB (kJ _ _) k2 (by simp [k1])⟩
 have hA0:∀b o,(aB O' st0 loc0 w).A b o->(aB O st loc w).A b o:=by
  rintro b off ((h | ⟨n,oc,h1,_,h2,h3⟩) | ⟨k,oc,h1,h2,h3⟩)
  ·exact .inl h
  ·exact .inr ⟨n,oc,h1,h2,h3⟩
  ·obtain ⟨i,n,o,y,oc0,_,_,_,k4,k5,k6,k7⟩:=hf0 k oc h1
   refine .inr ⟨n,oc0,k4,by simp only [aB] at h2;rw [k7] at h2;exact h2,?_⟩
   rcases CP (f:=iA aU x us) k5 with e | e
   ·rw [<-e,<-k6];exact h3
   ·cases e
 have hown0:∀b,(aB O' st0 loc0 w).pr b->∃n∈ν,b∈(loc n).bs:=by
  rintro b ⟨k,oc,h1,h2⟩
  obtain ⟨i,n,o,y,oc0,k1,_,_,_,_,_,k7⟩:=hf0 k oc h1
  exact ⟨n,List.mem_of_getElem? k1,by simp only [aB] at h2;rw [k7] at h2;exact h2⟩
 obtain ⟨g0,laid0⟩:=L6 (X:=X) g hx hp2 hnd (O2:=O') (ν2:=us) (rest:=[]) (locR:=loc) (st2:=st0) (kJ _ _) hul
  (by simp [st0,qY,us]) (fun n hn=>by have:=uA hn;simp [st0,qY];omega)
  (fun n hn b hb off=>by
   obtain ⟨oc,k⟩:=hν n hn
   rintro (h | ⟨m,oc',h1,h2,h3,_⟩)
   ·exact g.out n oc b off k hb h
   ·exact h2 (by rw [<-g.apart n m oc oc' b k h1 hb h3];exact hn))
  (fun n hn b hb m oc h=>by simp [look] at h) (fun m oc h=>by simp [look] at h) (fun m m' oc oc' b h=>by simp [look] at h) (fun m oc b off h=>by simp [look] at h) (.inr hA0)
  (fun b hb h=>by
   obtain ⟨n,hn,hbn⟩:=hown0 b h
   obtain ⟨oc,k⟩:=hν n hn
   exact g.oh.2 b hb ⟨n,oc,k,hbn⟩)
 have hargs:dR B.eT (aB O' st0 loc0 w) (Ab (iA aU x us) args a) vs:=GC (S:=aB O st loc w) (S':=aB O' st0 loc0 w) rfl (fun k v hk=>A7 laid0 hk) (.inr hA0) hvals
 have hcode:codeOf fn=c:=by unfold codeOf;rw [hb];rfl
 have hvc:=h a x (yc hvals) hpre
 unfold fD at hvc
 rw [hcode] at hvc
 have hcalls:=sW (X:=X) (hok fn.ntmps) hf hb (by rfl) (anns a x) (O:=O') (loc:=loc0) (w:=w) (args:=vs.toArray) (st:=st0)
  (by rw [List.size_toArray,uK hvals];exact hN) g0 hOin'
  (fun t sv ht=>by
   obtain ⟨_,v,k1,k2⟩:=yG 0 hargs t sv ht
   exact ⟨v,by simpa using k1,k2⟩) hvc
 refine hcalls.mono ?_
 rintro e w' ⟨rs,us',st',locE,he,hk,hr,gE',trE'⟩
 obtain ⟨al,hal,ν',hnd',hkept,hcv,hokal,hret,hout,hc1,hc2⟩:=DF hk
 obtain ⟨tF,gE,_,kF⟩:=Bm al.res rs gE'
 generalize hst2:(ky al.res st' rs).2=st2 at *
 generalize hrs2:(ky al.res st' rs).1=rs2 at *
 have trE:=trE'.trans tF
 have hrE:=kF us' hr
 have hKal:=Bn hK al hal
 unfold FR at hKal
 split at hKal
 case h_2=>exact hKal.elim
 rename_i hn1
 simp only [Bool.and_eq_true] at hn1
 obtain ⟨hnd1,hbel⟩:=hn1
 have hKal:=hKal hokal
 generalize hν1:mH aU al.cG ν st.next=ν1 at *
 have hl1:ν'.length=ν1.length:=by rw [<-hν1,rv];exact (qG hout).symm
 generalize hst1:({env:=st.env,aK:=lM (iA al.cG (al.out a x) ν1) al.cG (al.out a x) ν1++qj st.aK ν,next:=st.next + al.cG.length}:St)=st1 at hKal
 have h1env:st1.env=st.env:=by rw [<-hst1]
 have h1objs:st1.aK=lM (iA al.cG (al.out a x) ν1) al.cG (al.out a x) ν1++qj st.aK ν:=by rw [<-hst1]
 have h1next:st1.next=st.next + al.cG.length:=by rw [<-hst1]
 let loc1:=fL ν1 (ν'.map locE) loc
 have hf1:∀m oc,look st1.aK m=some oc->(∃(i n:Nat) (o:Ob) (y:OD o) (oc0:OC),ν'[i]?=some n/\ν1[i]?=some m/\al.cG[i]?=some o/\look st2.aK n=some oc0/\kj al.cv st2.aK al.cG ν' o oc0=some y/\
   oc=rn (iA al.cG (al.out a x) ν1) o y/\loc1 m=locE n)\/(m∉ν1/\m∉ν/\look st.aK m=some oc/\loc1 m=loc m):=by
  intro m oc hm
  rw [h1objs,fB] at hm
  split at hm
  ·rename_i oc' hm'
   cases hm
   obtain ⟨i,n,o,y,oc0,k1,k2,k3,k4,k5,k6,_⟩:=qF hout (qE (X:=X) gE hout hout hc2) hl1 hm'
   exact .inl ⟨i,n,o,y,oc0,k1,k2,k3,k4,k5,k6,lB hnd1 k2 (by simp [k1])⟩
  ·rename_i hm'
   have hnin:m∉ν1:=fun hmem=>by
    obtain ⟨oc1,h2⟩:=qf (f:=iA al.cG (al.out a x) ν1) (x:=al.out a x) (by rw [<-hν1,rv]) hmem
    rw [h2] at hm';cases hm'
   rw [mb] at hm
   split at hm
   ·cases hm
   ·rename_i hmn
    exact .inr ⟨hnin,hmn,hm,oF hnin⟩
 have hownE:∀n∈ν',∀b∈(locE n).bs,(aB O' st2 locE w').pr b:=by
  intro n hn b hb
  obtain ⟨_,oc,_,_,k,_⟩:=l9 hout hn
  exact ⟨n,oc,k,hb⟩
 have hblk:∀m oc,look st.aK m=some oc->m∉ν->∀b∈(loc m).bs,¬ (aB O' st0 loc0 w).pr b:=by
  intro m oc h1 h2 b hb' ho
  obtain ⟨n,hn,hbn⟩:=hown0 b ho
  obtain ⟨oc',k⟩:=hν n hn
  have:=g.apart n m oc' oc b k h1 hbn hb'
  exact h2 (by rw [<-this];exact hn)
 have hA1:al.cv=false->∀b o,(aB O st1 loc1 w').A b o->(aB O' st2 locE w').A b o:=by
  rintro hcv0 b off (h | ⟨m,oc,h1,h2,h3⟩)
  ·exact .inl (.inl h)
  ·rcases hf1 m oc h1 with ⟨i,n,o,y,oc0,k1,k2,k3,k4,k5,k6,k7⟩ | ⟨k1,k2,k3,k4⟩
   ·refine .inr ⟨n,oc0,k4,by simp only [aB] at h2;rw [k7] at h2;exact h2,?_⟩
    rcases CP (f:=iA al.cG (al.out a x) ν1) k5 with e | e
    ·rw [<-e,<-k6];exact h3
    ·rw [hcv0] at e;cases e
   ·exact .inl (.inr ⟨m,oc,k3,k2,by simp only [aB] at h2;rw [k4] at h2;exact h2,h3⟩)
 have hkeep:∀(m i:Nat),ν1[i]?=some m->m < st.next->∃o o',aU[i]?=some o/\al.cG[i]?=some o'/\sg o o'=true/\ν[i]?=some m:=by
  intro m i h1 h2
  rw [<-hν1] at h1
  rcases sh h1 with h3 | h3
  ·exact h3
  ·omega
 have hT:Tr (aB O st loc w) (aB O st1 loc1 w'):={
  O:=rfl
  next:=by simp only [aB];omega
  os:=trE.os
  output:=trE.output
  size:=trE.size
  own:=by
   rintro b ⟨m,oc,h1,h2⟩
   rcases hf1 m oc h1 with ⟨i,n,o,y,oc0,k1,k2,k3,k4,k5,k6,k7⟩ | ⟨k1,k2,k3,k4⟩
   ·simp only [aB] at h2;rw [k7] at h2
    rcases trE.own b (hownE n (List.mem_of_getElem? k1) b h2) with h3 | h3
    ·obtain ⟨n',hn',hb'⟩:=hown0 b h3
     obtain ⟨oc',k⟩:=hν n' hn'
     exact .inl ⟨n',oc',k,hb'⟩
    ·exact .inr h3
   ·simp only [aB] at h2;rw [k4] at h2;exact .inl ⟨m,oc,k3,h2⟩
  cell:=by
   intro b off v hna hcell
   obtain ⟨h1,h2⟩:=trE.cell b off v (fun h=>hna (hA0 b off h)) hcell
   refine ⟨h1,fun h3 => ?_⟩
   rcases hcv with hcv | ⟨hnt,_,_⟩
   ·exact h2 (hA1 hcv b off h3)
   ·rcases h3 with h3 | ⟨m,oc,h3,h4,h5⟩
    ·exact hna (.inl h3)
    ·rcases hf1 m oc h3 with ⟨i,n,o,y,oc0,k1,k2,k3,k4,k5,k6,k7⟩ | ⟨k1,k2,k3,k4⟩
     ·simp only [aB] at h4;rw [k7] at h4
      rcases trE.own b (hownE n (List.mem_of_getElem? k1) b h4) with h6 | h6
      ·obtain ⟨n',hn',hb'⟩:=hown0 b h6
       obtain ⟨oc',k⟩:=hν n' hn'
       exact hna (.inr ⟨n',oc',k,hb',by rw [hlo n' hn' oc' k hnt];exact Nat.zero_le _⟩)
      ·have:=World.block_lt_of_cell? _ _ hcell
       simp only [aB] at this h6
       omega
     ·simp only [aB] at h4;rw [k4] at h4;exact hna (.inr ⟨m,oc,k3,h4,h5⟩)
  block:=fun b hb' ho=>trE.block b hb' fun h=>ho (by
   obtain ⟨n,hn,hbn⟩:=hown0 b h
   obtain ⟨oc,k⟩:=hν n hn
   exact ⟨n,oc,k,hbn⟩)
  loc:=by
   intro m hm hfix
   by_cases hin:m∈ν1
   ·obtain ⟨i,hi⟩:=List.getElem?_of_mem hin
    obtain ⟨o,o',e1,e2,e3,e4⟩:=hkeep m i hi hm
    have hiE:i < ν'.length:=by rw [hl1];exact bI hi
    have hn':ν'[i]?=some ν'[i]:=List.getElem?_eq_getElem hiE
    have hni:=Bl hkept e1 e2 e3 hn'
    rw [Nat.zero_add] at hni
    have e5:loc1 m=locE i:=by
     have:=lB (d:=loc) hnd1 hi (ls:=ν'.map locE) (l:=locE i) (by simp [hn',hni])
     exact this
    have hui:us[i]?=some i:=by have:=Ae aU.length 0 i (bI e1);simpa using this
    have e6:loc0 i=loc m:=lB (kJ _ _) hui (by simp [e4])
    have e7:=trE.loc i (show i < st0.next by simp [st0,qY];exact bI e1) (fun t ys hy=>by
     obtain ⟨j,n,o2,y,oc0,k1,k2,k3,k4,k5,k6,k7⟩:=hf0 i _ hy
     have hj:j=i:=qg (kJ _ _) k2 hui
     subst hj
     rw [e1] at k3;cases k3
     cases o <;> simp [rn] at k6
     cases o' <;> simp [sg] at e3)
    show (loc1 m).v=(loc m).v/\(_->loc1 m=loc m)
    rw [e5,<-e6]
    refine ⟨e7.1,fun hr=>e7.2 fun t z hy => ?_⟩
    obtain ⟨j,n,o2,y,oc0,k1,k2,k3,k4,k5,k6,k7⟩:=hf0 i _ hy
    have hj:j=i:=qg (kJ _ _) k2 hui
    subst hj
    rw [e4] at k1;cases k1
    cases o2 <;> simp [rn] at k6
    obtain ⟨rfl,rfl,_⟩:=k6
    obtain ⟨z',rfl⟩:=(qe k5 (fun _ => .any)).2.1 _ _ rfl
    exact hr _ _ k4
   ·exact nW (oF hin)
  kind:=by
   intro m oc' hm hob
   rcases hf1 m oc' hob with ⟨i,n,o,y,oc0,k1,k2,k3,k4,k5,k6,k7⟩ | ⟨k1,k2,k3,k4⟩
   ·obtain ⟨o0,o',e1,e2,e3,e4⟩:=hkeep m i k2 hm
    rw [k3] at e2;cases e2
    have hui:us[i]?=some i:=by have:=Ae aU.length 0 i (bI e1);simpa using this
    obtain ⟨oc2,h2⟩:=qf (f:=iA aU x us) (x:=x) (ms:=us) (by rw [uB]) (List.mem_of_getElem? hui)
    obtain ⟨j,n2,o2,y2,oc3,j1,j2,j3,j4,j5,j6,j7⟩:=hf0 i oc2 (by simpa [st0,qY] using h2)
    have hj:j=i:=qg (kJ _ _) j2 hui
    subst hj
    rw [e1] at j3;cases j3
    rw [e4] at j1;cases j1
    refine ⟨oc3,j4,?_⟩
    cases o0 <;> cases o <;> simp [sg] at e3
    ·subst e3
     obtain ⟨cs,rfl⟩:=(qe j5 (fun _ => .any)).1 _ _ rfl
     rw [k6]
     rfl
    ·rename_i kp t kp' t'
     cases kp <;> cases kp' <;> simp at e3
     have e3:=Ty.eq_of_beq e3
     subst e3
     obtain ⟨xs,rfl⟩:=(qe j5 (fun _ => .any)).2.2.1 _ _ rfl rfl
     rw [k6]
     rfl
    ·obtain ⟨e3,e4⟩:=e3
     have e4:=Ty.eq_of_beq e4
     subst e3;subst e4
     obtain ⟨z,rfl⟩:=(qe j5 (fun _ => .any)).2.1 _ _ rfl
     rw [k6]
     exact ⟨rfl,rfl⟩
   ·refine ⟨oc',k3,?_⟩
    cases oc' <;> simp [bB,aB,k4]}
 obtain ⟨g1,laid1⟩:=L6 (X:=X) gE hout hc2 hnd' (O2:=O) (ν2:=ν1) (rest:=qj st.aK ν) (locR:=loc) (st2:=st1) hnd1 hl1 h1objs
  (fun n hn=>by rw [h1next];exact vK hbel hn)
  (fun n hn b hb' off h=>by
   obtain ⟨_,oc,_,_,k,_⟩:=l9 hout hn
   exact gE.out n oc b off k hb' (.inl h))
  (fun n hn b hb' m oc h1 h2 h3=>by
   rw [mb] at h1
   split at h1
   ·cases h1
   ·rename_i hmn
    rcases trE.own b (hownE n hn b hb') with h4 | h4
    ·exact hblk m oc h1 hmn b h3 h4
    ·have:=(g.obj m oc h1).2.inside b h3
     simp only [aB] at this h4
     omega)
  (fun m oc h1 h2=>by
   rw [mb] at h1
   split at h1
   ·cases h1
   ·rename_i hmn
    obtain ⟨k1,k2⟩:=g.obj m oc h1
    refine ⟨by rw [h1next];simp only [aB] at k1;omega,k2.tr hT fun b hb' => ?_⟩
    exact trE.block b (k2.inside b hb') (hblk m oc h1 hmn b hb'))
  (fun m m' oc oc' b h1 h2 _ _ h3 h4=>by
   rw [mb] at h1 h2
   split at h1
   ·cases h1
   ·split at h2
    ·cases h2
    ·exact g.apart m m' oc oc' b h1 h2 h3 h4)
  (fun m oc b off h1 _ h2=>by
   rw [mb] at h1
   split at h1
   ·cases h1
   ·exact g.out m oc b off h1 h2)
  (by
   rcases hcv with hcv | ⟨_,hcv,_⟩
   ·exact .inr (hA1 hcv)
   ·exact .inl hcv)
  (g.oh.tr hT).2
 have hres:=Dt gE hout hret hrE hc1
 refine ⟨_,_,st1,loc1,he,hKal,h1env,g1,hT,wL (GC (S:=aB O' st2 locE w') (S':=aB O st1 loc1 w') rfl (fun k v hk=>A7 laid1 hk) ?_ hres)⟩
 rcases hcv with hcv | ⟨_,_,hcv⟩
 ·exact .inr (hA1 hcv)
 ·exact .inl hcv
theorem cH {B:Cx} {Γ:List (FuncId × (Bool × bQ))} (hok:bT P B X Γ) {f:FuncId} {fn:Func} (hf:P.funcs[f]?=some fn) (hg:tE fn args.length=true) (anns:CD args->PD aU->cN)
  {pre:CD args->PD aU->Prop} {alts:List (Alt aU args)} (h:∀a x,kn args a->pre a x->(fD B Γ fn (anns a x) aU args alts a x).holds) :
  dK P B.eT X f false (bF aU args pre alts):=by
 simp only [tE,Bool.and_eq_true,Bool.not_eq_true'] at hg
 obtain ⟨⟨h1,h2⟩,h3⟩:=hg
 obtain ⟨c,hc⟩:=Option.isSome_iff_exists.1 h1
 refine ⟨⟨fn,hf,by rw [hc];rfl,h2⟩,fun O st loc w Vy vs K hK g hO ha => ?_⟩
 unfold bF at hK
 obtain ⟨t1,g1,e1,k1⟩:=Bm args Vy g
 simp only at hK
 split at hK
 case h_2=>exact hK.elim
 rename_i ν hν
 split at hK
 case h_2=>exact hK.elim
 rename_i a x hnd hga hx
 obtain ⟨hp,hpre,hK⟩:=GA hK
 obtain ⟨hp1,hp2⟩:=kW.1 hp
 refine (Ra hok hf hc (Nat.le_of_ble_eq_true h3) h g1 hO (k1 vs ha) hnd hga hx hp1 hp2 hpre hK).mono ?_
 rintro e w' ⟨v,sv,st',loc',q1,q2,q3,q4,q5,q6⟩
 exact ⟨v,sv,st',loc',q1,q2,q3.trans e1,(fun hq=>by cases hq),q4,t1.trans q5,q6⟩
end
end Go.Vg

namespace Go.Vg
@[reducible] def aN:Ty:=.prod .str (.prod (.int .i64) (.prod .bool .unit))
@[reducible] def aW:Ty:=.prod (.int .i64) (.prod (.int .i64) .unit)
@[reducible] def aO:Ty:=.prod (.int .i64) (.prod (.int .i64) (.prod (.int .i64) (.prod .str (.prod .bool .unit))))
@[reducible] def aH:Ty:=.prod (.int .i64) (.prod (.int .i64) (.prod (.int .i64) .unit))
@[reducible] def aF:Ty:=.prod .str (.prod (.int .i64) (.prod (.int .i64) .unit))
@[reducible] def aA:Ty:=.prod (.slice .str) (.prod (.slice (.int .i64)) (.prod (.slice aN) (.prod (.slice aO) .unit)))
@[reducible] def aI:Ty:=.prod .str (.prod (.slice aF) (.prod (.slice aH) .unit))
@[reducible] def bV:Ty:=.prod .str (.prod .str (.prod .str (.prod (.int .i64) (.prod (.int .u64) (.prod aI .unit)))))
@[reducible] def bR:Ty:=.prod .str (.prod (.int .i64) (.prod (.slice (.int .i64)) .unit))
@[reducible] def FT:Ty:=.prod (.int .i64) (.prod .str .unit)
@[reducible] def SX:Ty:=.prod (.slice .str) (.prod (.slice .str) (.prod (.slice FT) (.prod (.int .i64) (.prod .bool .unit))))
@[reducible] def cW:Ty:=.prod .str (.prod .str (.prod (.int .i64) .unit))
@[reducible] def KZ:Ty:=.prod (.slice cW) (.prod (.int .i64) .unit)
theorem bl :
  (∀(p:Prop) [Decidable p],(decide p=true)=p)/\(∀(p:Prop) [Decidable p],(decide p=false)=¬ p)/\
  (∀(α:Type) [BEq α] [LawfulBEq α] (a b:α),((a == b)=true)=(a=b))/\(∀(α:Type) [BEq α] [LawfulBEq α] (a b:α),((a == b)=false)=¬ a=b)/\
  (∀(α:Type) [BEq α] [LawfulBEq α] (a b:α),((a != b)=true)=¬ a=b)/\(∀(α:Type) [BEq α] [LawfulBEq α] (a b:α),((a != b)=false)=(a=b))/\
  (∀b:Bool,((!b)=true)=(b=false))/\(∀b:Bool,((!b)=false)=(b=true))/\(∀b:Bool,(¬ b=true)=(b=false))/\(∀b:Bool,(¬ b=false)=(b=true))/\
  (∀a b:Bool,((a && b)=true)=(a=true/\b=true))/\(∀a b:Bool,((a || b)=true)=(a=true\/b=true))/\
  (∀a b:Bool,((a && b)=false)=(a=false\/b=false))/\(∀a b:Bool,((a || b)=false)=(a=false/\b=false))/\
  (∀a b:Int,(¬ a < b)=(b<=a))/\(∀a b:Int,(¬ a<=b)=(b < a)):=by
 refine ⟨?_,?_,?_,?_,?_,?_,?_,?_,?_,?_,?_,?_,?_,?_,?_,?_⟩ <;> intros <;> first | (simp;done) | (rename_i a b;cases a <;> cases b <;> simp)
end Go.Vg

namespace Go.Vg
open Go.RowKit
theorem Up {w:World} {b i:Nat} {c:Array Value} {T:TypeId} {v:Value} (hb:w.heap[b]?=some (.cells c T (0,0))):(w.setCell ⟨b,i,none⟩ v).heap[b]?=some (.cells (c.setIfInBounds i v) T (0,0)):=by
 simp [World.setCell,Array.getElem?_modify,hb]
theorem Ts {P:Program} {w:World} {t u ty e:TypeId} {i:TypeInfo} (ht:P.underlying t=some (.slice e)) (hu:P.underlying u=some .string) (hi:P.info? e=some i) (hz:i.zero=some (.int .u8 0))
  (hsize:i.size=1) (hby:i.bytes=1) {v:Value} {xs:List Value} (hown:w.ownsRow 0 e 1 v xs.length xs) (hcap:∀a n c,v = .slice (some a) n c->0 < c) (s:ByteArray) (hlen:xs.length + s.size<=140737488355328) :
  ∃v' w',(Builtin.append_ #[t,u] ty #[v, .string s]).run P w = .ok v' w'/\w'.ownsRow 0 e 1 v' (xs.length + s.size) (xs++Lib.strCells s)/\w.grownBy w' v.ownBlock/\(∀a n c,v' = .slice (some a) n c->0 < c)/\
   (∀g,v'.ownBlock=some g->v.ownBlock=some g\/w.heap.size<=g):=by
 rcases hown.2 with ⟨rfl,h0⟩ | ⟨g,cap,cur,rfl,hbg,hg,hnc,hcm,hcs,htake⟩
 ·have hown':w.ownsRow w.heap.size e 1 (.slice none 0 0) xs.length xs:=⟨hown.1, .inl ⟨rfl,h0⟩⟩
  obtain ⟨v',w',h1,h2,h3,h4⟩:=Lib.run_append_own_string (P:=P) w w.heap.size t u ty e i ht hu hi hz hsize hby _ _ _ hown' s (by unfold maxLen;omega) hlen (Nat.le_refl _)
  rcases h2.2 with ⟨rfl,h6⟩ | ⟨g,cap,cur,rfl,k1,k2,k3,k4⟩
  ·exact ⟨_,w',h1,⟨h2.1, .inl ⟨rfl,h6⟩⟩,h3,(fun a n c hh=>by cases hh),(fun g hh=>by cases hh)⟩
  ·refine ⟨_,w',h1,⟨h2.1, .inr ⟨g,cap,cur,rfl,Nat.zero_le _,k2,k3,k4⟩⟩,h3,fun a n c hh => ?_,fun g' hh=>by cases hh;exact .inr k1⟩
   cases hh
   by_cases hs:s.size=0
   ·have:=h4.2 ⟨rfl,hs⟩;cases this
   ·omega
 ·have hc0:=hcap _ _ _ rfl
  by_cases hroom:xs.length + s.size<=cap
  ·obtain ⟨w',h1,h2,h3⟩:=Lib.run_append_fits_string (P:=P) w 0 t u ty e i ht hu hi hsize _ _ _ _ hown s hc0 hroom
   exact ⟨_,w',h1,h2,h3,(fun a n c hh=>by cases hh;exact hc0),(fun g' hh => .inl hh)⟩
  ·have holds:∀j u,xs[j]?=some u->w.cell? ((⟨g,0,none⟩:Addr).add j)=some u:=hown.cells (g:=g) rfl
   have hr:=Lib.run_append_grow_string (P:=P) w t u ty e i (.int .u8 0) ht hu hi hz ⟨g,0,none⟩ xs.length cap xs (by rw [hsize];simp) holds s (by omega) (by omega) (by rw [hby];exact growslice_fits (by omega) (by omega))
   have hge:=grownCap_ge w (xs.length + s.size) cap e
   have hcm':grownCap w (xs.length + s.size) cap e<=maxLen:=grownCap_le_maxLen w (xs.length + s.size) cap e (by unfold maxLen;omega)
   refine ⟨_,_,hr,⟨by simp [Lib.strCells_length], .inr ⟨w.heap.size,_,_,rfl,Nat.zero_le _,heap_alloc_new w.drew _,hge,hcm',?_,?_⟩⟩,⟨rfl,rfl,rfl,by simp,fun k hk _=>Go.Deep.blk_alloc_lt w.drew _ k hk⟩,(fun a n c hh=>by cases hh;omega),(fun g' hh=>by cases hh;exact .inr (Nat.le_refl _))⟩
   ·have hz1:(Value.int IntKind.u8 0).cells.size=1:=rfl
    simp only [Array.size_append,List.size_toArray,size_zeroCells,hz1,Lib.strCells_length]
    omega
   ·simp only [Array.toList_append,List.append_assoc]
    rw [<-List.append_assoc]
    have:(xs++Lib.strCells s).length=(xs.length + s.size) * 1:=by simp [Lib.strCells_length]
    rw [<-this]
    exact List.take_left
theorem yr {P:Program} {w w':World} {ops:Array Oper} {rest:List Oper} {o:Oper} {a:Act} {Q:Exit->Act->World->Prop} (hgd:o.guard=none) (sl x:Operand) (t u:TypeId)
  (ho:o.op = .call {callee:=.builtin .append,args:=#[sl,x],argTypes:=#[t,u]}) {v v' y:Value} (hs:a.eval sl=v) (hx:a.eval x=y)
  (hr:(Builtin.append_ #[t,u] o.type #[v,y]).run P w = .ok v' w') (h:wpList P ops Q rest (a.put o.dst v') w'):wpList P ops Q (o :: rest) a w:=by
 refine wpList_plain hgd fun K hK => ?_
 unfold Oper.wp execOp
 simp only [ho,resolve,invoke,builtin,Sem.run_bind,Sem.run_pure,Result.andThen_ok,List.map_toArray,List.map_cons,List.map_nil,hs,hx,hr]
 exact hK _ _ h
structure Kept (b:Nat) (v:Value) (w w':World):Prop where
 os:w'.os=w.os
 output:w'.output=w.output
 size:w.heap.size<=w'.heap.size
 block:∀k,k < w.heap.size->k≠b->v.ownBlock≠some k->w'.heap[k]?=w.heap[k]?
structure Mi (v:Value) (w w':World):Prop where
 os:w'.os=w.os
 output:w'.output=w.output
 size:w'.heap.size=w.heap.size
 block:∀k,v.ownBlock≠some k->w'.heap[k]?=w.heap[k]?
theorem Jk {w:World} {g n c:Nat} {m:Nat}:Mi (.slice (some ⟨g,0,none⟩) n c) w (w.drew.freeze ⟨g,0,none⟩ m):=by
 unfold World.freeze
 split
 ·exact ⟨rfl,rfl,rfl,fun _ _=>rfl⟩
 ·refine ⟨rfl,rfl,by simp,fun k hk => ?_⟩
  have:k≠g:=fun e=>hk (by rw [e];rfl)
  simp only [Array.getElem?_modify]
  rw [if_neg (fun e=>this e.symm)]
  rfl
def uL (T e:Nat):bQ:=fun args st K=>
 match args with
 | [.one (.eZ n), .one (.d .str s)]=>match look st.aK n with
  | some (.ext 2 t x)=>match h:Ty.beq t kV with
   | true => .and ((cR h x).2.1=(T:Int)/\(cR h x).2.2.1=(e:Int)/\(cR h x).1.length + s.length<=140737488355328)
     (K (.nx [.one (.d (.int .i64) (s.length:Int)), .one (.d .err .nil)]) (setObj st n (.ext 2 kV ((cR h x).1++dH s,(T:Int),(e:Int),()))))
   | false => .ff
  | _ => .ff
 | _ => .ff
def si (T e:Nat):bQ:=fun args st K=>
 match args with
 | [.one (.eZ n)]=>match look st.aK n with
  | some (.ext 2 t x)=>match h:Ty.beq t kV with
   | true => .and ((cR h x).2.1=(T:Int)/\(cR h x).2.2.1=(e:Int)) (K (.s (.one (.d .str (bytesOf (cR h x).1)))) (bL st n))
   | false => .ff
  | _ => .ff
 | _ => .ff
def Bo (T e:Nat):bQ:=fun args st K=>
 match args with
 | [.one (.eZ n)]=>match look st.aK n with
  | some (.ext 2 t x)=>match h:Ty.beq t kV with
   | true => .and ((cR h x).2.1=(T:Int)/\(cR h x).2.2.1=(e:Int)) (K (.s (.one (.d (.int .i64) ((cR h x).1.length:Int)))) st)
   | false => .ff
  | _ => .ff
 | _ => .ff
section
variable {P:Program} {eT:TypeId} {X:Ext} {f:FuncId}
theorem GM {O:aM} {st:St} {loc:Nat->Loc} {w:World} (g:Good eT X (aB O st loc w)) {n:Nat} {x:D kV} (hob:look st.aK n=some (.ext 2 kV x)) {v:Value} (hv:CR eT (aB O st loc w) (.eZ n) v) :
  ∃b p u,v = .pointer (some ⟨b,0,none⟩)/\TY x (loc n) w b p u:=by
 obtain ⟨h0,b,p,u,hD⟩:=X.SL.1 (g.obj n _ hob).2
 exact ⟨b,p,u,(hv.2 _ hob rfl).trans hD.lv,hD⟩
theorem Mj (s:List UInt8):bytesOf (dH s)=s:=by
 induction s with
 | nil=>rfl
 | cons c r ih=>
  simp only [bytesOf,dH,List.map_cons,List.map_map] at ih ⊢
  rw [ih]
  simp
theorem Mk {xs:List Int} (h:∀y∈xs,0<=(y:Int)/\(y:Int)<=255):dH (bytesOf xs)=xs:=by
 induction xs with
 | nil=>rfl
 | cons y r ih=>
  have h1:=h y (by simp)
  have h2:=ih fun z hz=>h z (by simp [hz])
  simp only [dH,bytesOf,List.map_map,List.map_cons] at h2 ⊢
  rw [h2]
  congr 1
  simp only [UInt8.toNat_ofNat']
  omega
theorem Ml (s:List UInt8):∀y∈dH s,0<=(y:Int)/\(y:Int)<=255:=by
 intro y hy
 simp only [dH,List.mem_map] at hy
 obtain ⟨c,_,rfl⟩:=hy
 have:=c.toNat_lt
 omega
theorem Rb {xs:List Int} (h:∀y∈xs,0<=(y:Int)/\(y:Int)<=255):xs.map (Value.int .u8)=(bytesOf xs).map fun c=>Value.int .u8 c.toNat:=by
 conv=>lhs;rw [<-Mk h]
 simp [dH]
theorem Bp {T e:Nat} (hfn:∃fn,P.funcs[f]?=some fn/\fn.body.isNone=false/\(fn.name == "runtime.NumGoroutine")=false)
  (H:∀(b:Nat) (p v:Value) (xs:List Value) (s:ByteArray) (w:World),w.heap[b]?=some (.cells #[p,v] T (0,0))->(p = .pointer none\/p = .pointer (some ⟨b,0,none⟩))->w.ownsRow 0 e 1 v xs.length xs->v.ownBlock≠some b->
   (∀a n c,v = .slice (some a) n c->0 < c)->xs.length + s.size<=140737488355328->
   Calls P f #[.pointer (some ⟨b,0,none⟩), .string s] w fun r w'=>r = .returned (.tuple #[.int .i64 s.size, .nilIface])/\
    ∃v',w'.heap[b]?=some (.cells #[.pointer (some ⟨b,0,none⟩),v'] T (0,0))/\w'.ownsRow 0 e 1 v' (xs.length + s.size) (xs++Lib.strCells s)/\v'.ownBlock≠some b/\Kept b v w w'/\
     (∀a n c,v' = .slice (some a) n c->0 < c)/\(∀g,v'.ownBlock=some g->v.ownBlock=some g\/w.heap.size<=g)) :
  dK P eT X f false (uL T e):=by
 refine ⟨hfn,fun O st loc w args vs K hs g hO ha => ?_⟩
 unfold uL at hs
 split at hs
 case h_2=>exact hs.elim
 rename_i n s
 split at hs
 case h_2=>exact hs.elim
 rename_i t x hob
 split at hs
 case h_2=>exact hs.elim
 rename_i ht
 have ht':=Ty.eq_of_beq ht
 subst ht'
 rw [jS] at hs
 obtain ⟨⟨hT,he,hlen⟩,hs⟩:=hs
 match vs,ha with
 | [v0,v1], .cons h0 (.cons h1 .nil)=>
 obtain ⟨b,p,u,rfl,hD⟩:=GM g hob h0
 obtain ⟨rfl,hsl⟩:=kd.1 (show CR eT _ (.d .str s) v1 from h1)
 have hsz:(⟨s.toArray⟩:ByteArray).size=s.length:=by simp [ByteArray.size]
 have hT':x.2.1.toNat=T:=by rw [hT];rfl
 have he':x.2.2.1.toNat=e:=by rw [he];rfl
 have hheap:=hD.heap
 have hrow:=hD.row
 rw [hT'] at hheap
 rw [he'] at hrow
 refine (H b p u (x.1.map (Value.int .u8)) ⟨s.toArray⟩ w hheap hD.ptr (by simpa using hrow) hD.ne hD.cap (by simpa [hsz] using hlen)).mono ?_
 rintro r w' ⟨rfl,v',k1,k2,k3,k4,k5,k6⟩
 have hlt:b < w.heap.size:=(Array.getElem?_eq_some_iff.1 hheap).1
 obtain ⟨tr1,g1⟩:=pw (S:=aB O st loc w) (S':=aB O (setObj st n (.ext 2 kV (x.1++dH s,(T:Int),(e:Int),()))) (cI loc n ⟨.pointer (some ⟨b,0,none⟩),b :: v'.ownBlock.toList⟩) w') (n:=n)
  (oc:=.ext 2 kV x) (oc':=.ext 2 kV (x.1++dH s,(T:Int),(e:Int),())) (l':=⟨.pointer (some ⟨b,0,none⟩),b :: v'.ownBlock.toList⟩) g rfl hO hob
  (fun m=>ot st n m _) (fun _=>rfl) rfl (fun _=>⟨hD.lv.symm,fun h=>(h _ _ rfl).elim⟩) ⟨rfl,rfl⟩ k4.os k4.output k4.size
  (fun b' h1 h2=>k4.block b' h1 (fun e=>h2 (by simp only [aB];rw [hD.bs,e];simp)) (fun e=>h2 (by simp only [aB];rw [hD.bs,e];simp)))
  (fun b' o v _ ho=>by simp [OC.lo] at ho)
  (fun b' hb'=>by
   rcases List.mem_cons.1 hb' with rfl | hb'
   ·exact .inl ⟨by simp only [aB];rw [hD.bs];simp,Nat.le_refl _⟩
   ·have hb':v'.ownBlock=some b':=by simpa using hb'
    rcases k6 b' hb' with h | h
    ·exact .inl ⟨by simp only [aB];rw [hD.bs,h];simp,Nat.le_refl _⟩
    ·exact .inr h)
 have g1:=g1 (X.SL.2 ⟨rfl,b, .pointer (some ⟨b,0,none⟩),v',rfl, .inr rfl,k1,by
  have e1:x.1.map (Value.int .u8)++Lib.strCells ⟨s.toArray⟩=(x.1++dH s).map (Value.int .u8):=by rw [yz,List.map_append]
  have e2:(x.1.map (Value.int .u8)).length + (⟨s.toArray⟩:ByteArray).size=(x.1++dH s).length:=by simp [hsz,dH]
  rw [e1,e2] at k2
  exact k2,rfl,k3,(fun y hy=>by
   rcases List.mem_append.1 hy with h | h
   ·exact hD.u8 y h
   ·exact Ml s y h),k5⟩)
 refine ⟨_,_,_,_,rfl,hs,rfl,(fun hh=>by cases hh),g1,tr1,⟨[.int .i64 (⟨s.toArray⟩:ByteArray).size, .nilIface],rfl, .cons ?_ (.cons ?_ .nil)⟩⟩
 ·refine dG.2 ⟨by rw [hsz],?_⟩
  simp only [IntKind.min,IntKind.max,IntKind.signed,IntKind.bits]
  unfold aJ at hsl
  constructor <;> simp <;> omega
 ·exact mZ.2 rfl
theorem Mm {O:aM} {st:St} {loc:Nat->Loc} {w w':World} (g:Good eT X (aB O st loc w)) {n:Nat} {oc0:OC} (hn:look st.aK n=some oc0) (h0:oc0.lo=0)
  (hos:w'.os=w.os) (hout:w'.output=w.output) (hsz:w.heap.size<=w'.heap.size) (hb:∀b,b < w.heap.size->b∉(loc n).bs->w'.heap[b]?=w.heap[b]?) :
  Tr (aB O st loc w) (aB O (bL st n) loc w')/\Good eT X (aB O (bL st n) loc w'):=by
 have hob:∀m oc,look (bL st n).aK m=some oc->m≠n/\look st.aK m=some oc:=by
  intro m oc h
  simp only [bL] at h
  rw [mz] at h
  split at h
  ·cases h
  ·rename_i hne;exact ⟨fun e=>hne e.symm,h⟩
 have hA:∀b o,(aB O (bL st n) loc w').A b o->(aB O st loc w).A b o:=by
  rintro b o (h | ⟨m,oc,h1,h2⟩)
  ·exact .inl h
  ·exact .inr ⟨m,oc,(hob _ _ h1).2,h2⟩
 have ht:Tr (aB O st loc w) (aB O (bL st n) loc w'):={
  O:=rfl
  next:=Nat.le_refl _
  os:=hos
  output:=hout
  size:=hsz
  own:=fun b h=>by obtain ⟨m,oc,h1,h2⟩:=h;exact .inl ⟨m,oc,(hob _ _ h1).2,h2⟩
  cell:=fun b o v h1 h2=>by
   have hlt:=World.block_lt_of_cell? w _ h2
   refine ⟨?_,fun h=>h1 (hA b o h)⟩
   show w'.cell? _=_
   rw [World.cell?_of_block (w:=w) (w':=w') (a:=⟨b,o,none⟩) (hb b hlt fun hm=>h1 (.inr ⟨n,oc0,hn,hm,by rw [h0];exact Nat.zero_le _⟩))]
   exact h2
  block:=fun b h1 h2=>hb b h1 fun hm=>h2 ⟨n,oc0,hn,hm⟩
  loc:=fun _ _ _=>nW rfl
  kind:=fun m oc _ h=>⟨oc,(hob _ _ h).2,by cases oc <;> simp [bB,aB]⟩}
 refine ⟨ht,⟨fun m oc h => ?_,fun m1 m2 oc1 oc2 b h1 h2 h3 h4 => ?_,fun m oc b off h1 h2 => ?_,g.oh.tr ht⟩⟩
 ·obtain ⟨hne,h⟩:=hob _ _ h
  obtain ⟨h1,h2⟩:=g.obj m oc h
  exact ⟨h1,h2.tr ht fun b hbm=>hb b (h2.inside b hbm) fun hbn=>hne (g.apart m n oc oc0 b h hn hbm hbn)⟩
 ·exact g.apart m1 m2 oc1 oc2 b (hob _ _ h1).2 (hob _ _ h2).2 h3 h4
 ·exact g.out m oc b off (hob _ _ h1).2 h2
theorem Ag {T e:Nat} (hfn:∃fn,P.funcs[f]?=some fn/\fn.body.isNone=false/\(fn.name == "runtime.NumGoroutine")=false)
  (H:∀(b:Nat) (p v:Value) (l:List UInt8) (w:World),w.heap[b]?=some (.cells #[p,v] T (0,0))->w.ownsRow 0 e 1 v l.length (l.map fun c=>Value.int .u8 c.toNat)->(∀a n c,v = .slice (some a) n c->0 < c)->
   Calls P f #[.pointer (some ⟨b,0,none⟩)] w fun r w'=>r = .returned (.string ⟨l.toArray⟩)/\Mi v w w') :
  dK P eT X f false (si T e):=by
 refine ⟨hfn,fun O st loc w args vs K hs g hO ha => ?_⟩
 unfold si at hs
 split at hs
 case h_2=>exact hs.elim
 rename_i n
 split at hs
 case h_2=>exact hs.elim
 rename_i t x hob
 split at hs
 case h_2=>exact hs.elim
 rename_i ht
 have ht':=Ty.eq_of_beq ht
 subst ht'
 rw [jS] at hs
 obtain ⟨⟨hT,he⟩,hs⟩:=hs
 match vs,ha with
 | [v0], .cons h0 .nil=>
 obtain ⟨b,p,u,rfl,hD⟩:=GM g hob h0
 have hT':x.2.1.toNat=T:=by rw [hT];rfl
 have he':x.2.2.1.toNat=e:=by rw [he];rfl
 have hheap:=hD.heap
 have hrow:=hD.row
 rw [hT'] at hheap
 rw [he',Rb hD.u8,show x.1.length=(bytesOf x.1).length by simp [bytesOf]] at hrow
 refine (H b p u (bytesOf x.1) w hheap hrow hD.cap).mono ?_
 rintro r w' ⟨rfl,k⟩
 obtain ⟨tr1,g1⟩:=Mm (w':=w') g hob rfl k.os k.output (by rw [k.size];exact Nat.le_refl _) (fun b' _ h2=>k.block b' fun e=>h2 (by rw [hD.bs,e];simp))
 refine ⟨_,_,_,_,rfl,hs,rfl,(fun hh=>by cases hh),g1,tr1,?_⟩
 refine (kd (eT:=eT) (S:=aB O (bL st n) loc w')).2 ⟨rfl,?_⟩
 rcases hrow.2 with ⟨_,h⟩ | ⟨_,cap,_,_,_,_,h1,h2,_⟩
 ·rw [h];exact Nat.zero_le _
 ·unfold maxLen at h2;unfold aJ;omega
theorem Fv {T e:Nat} (hfn:∃fn,P.funcs[f]?=some fn/\fn.body.isNone=false/\(fn.name == "runtime.NumGoroutine")=false)
  (H:∀(b:Nat) (p q:Value) (a:Option Addr) (n c:Nat) (w:World),w.heap[b]?=some (.cells #[p, .slice a n c] T (0,0))->
   Calls P f #[.pointer (some ⟨b,0,none⟩)] w fun r w'=>r = .returned (.int .i64 n)/\w'=w) :
  dK P eT X f true (Bo T e):=by
 refine ⟨hfn,fun O st loc w args vs K hs g hO ha => ?_⟩
 unfold Bo at hs
 split at hs
 case h_2=>exact hs.elim
 rename_i n
 split at hs
 case h_2=>exact hs.elim
 rename_i t x hob
 split at hs
 case h_2=>exact hs.elim
 rename_i ht
 have ht':=Ty.eq_of_beq ht
 subst ht'
 rw [jS] at hs
 obtain ⟨⟨hT,he⟩,hs⟩:=hs
 match vs,ha with
 | [v0], .cons h0 .nil=>
 obtain ⟨b,p,u,rfl,hD⟩:=GM g hob h0
 have hT':x.2.1.toNat=T:=by rw [hT];rfl
 have hheap:=hD.heap
 rw [hT'] at hheap
 obtain ⟨a,c,rfl,hl⟩:∃a c,u = .slice a x.1.length c/\x.1.length<=aJ:=by
  rcases hD.row.2 with ⟨rfl,h⟩ | ⟨g',cap,cur,h,_,_,h1,h2,_⟩
  ·exact ⟨none,0,by rw [h],by rw [h];exact Nat.zero_le _⟩
  ·exact ⟨_,_,h,by unfold maxLen at h2;unfold aJ;omega⟩
 refine (H b p p a x.1.length c w hheap).mono ?_
 rintro r w' ⟨rfl,rfl⟩
 refine ⟨_,_,_,loc,rfl,hs,rfl,fun _=>Below.refl _ _,g,Tr.refl _,?_⟩
 refine (dG (eT:=eT) (S:=aB O st loc w')).2 ⟨rfl,?_⟩
 unfold aJ at hl
 simp only [IntKind.min,IntKind.max,IntKind.signed,IntKind.bits]
 constructor <;> simp <;> omega
end
end Go.Vg

namespace Go.Mrl
open Go.Vg
def small (c:UInt8):Bool:=decide ((97:Int)<=c.toNat) && decide ((c.toNat:Int)<=122)
def other (c:UInt8):Bool:=(decide ((48:Int)<=c.toNat) && decide ((c.toNat:Int)<=57)) || ((c.toNat:Int) == 95)
def jc (i:Nat) (c:UInt8):Bool:=!small c && ((i:Int) == 0 || !other c)
def tG (s:List UInt8):Bool:=(List.range s.length).any fun i=>jc i (cF s i)
def aG (s:List UInt8):Int:=if s.length < 1\/8 < s.length then 1 else if tG s=true then 3 else 0
def aT (n:Int):bC:=if n=0 then .nil else .no n
def cT:bC->Int->Bool
 | .nil,n=>n == 0
 | .no m,n=>decide (n > 0) && m == n
 | .other,_=>false
def hM:bC->Int
 | .nil=>0
 | .no m=>m
 | .other => -1
theorem kX {n:Int} (h:0<=n):cT (aT n) n=true:=by
 unfold aT
 split
 ·rename_i e;subst e;rfl
 ·simp [cT];omega
theorem cK (s:List UInt8):0<=aG s:=by
 unfold aG;split
 ·decide
 ·split <;> decide
theorem Jl {s:List UInt8} {i:Nat} (h:i < s.length) (hb:jc i (cF s i)=true):tG s=true:=by
 simp only [tG,List.any_eq_true,List.mem_range]
 exact ⟨i,h,hb⟩
theorem GN {s:List UInt8} (h:∀i,i < s.length->jc i (cF s i)=false):tG s=false:=by
 simp only [tG,List.any_eq_false,List.mem_range]
 intro i hi;rw [h i hi];simp
theorem wM {s:List UInt8} {i:Nat} (h:i < s.length):s[i]?=some (cF s i):=by
 rw [tl (List.getElem?_eq_getElem h),List.getElem?_eq_getElem h]
theorem vL {s:List UInt8} (h:s.length < 1\/8 < s.length):aG s=1:=by unfold aG;rw [if_pos h]
theorem iF {s:List UInt8} {i:Nat} (h:¬ (s.length < 1\/8 < s.length)) (hi:i < s.length) (hb:jc i (cF s i)=true):aG s=3:=by
 unfold aG
 rw [if_neg h,if_pos (Jl hi hb)]
theorem tH {s:List UInt8} (h:¬ (s.length < 1\/8 < s.length)) (hb:∀i,i < s.length->jc i (cF s i)=false):aG s=0:=by
 unfold aG
 rw [if_neg h,if_neg (by rw [GN hb];decide)]
theorem lC {i:Nat} {c:UInt8}:jc i c=true ↔ ¬ (97<=c.toNat/\c.toNat<=122)/\(i=0\/¬ ((48<=c.toNat/\c.toNat<=57)\/c.toNat=95)):=by
 simp only [jc,small,other,Bool.and_eq_true,Bool.not_eq_true',Bool.and_eq_false_iff,Bool.or_eq_true,Bool.or_eq_false_iff,decide_eq_false_iff_not,beq_iff_eq,beq_eq_false_iff_ne]
 omega
theorem kY {i:Nat} {c:UInt8}:jc i c=false ↔ ¬ (¬ (97<=c.toNat/\c.toNat<=122)/\(i=0\/¬ ((48<=c.toNat/\c.toNat<=57)\/c.toNat=95))):=by
 rw [<-lC];simp
theorem ox {s:List UInt8} {i:Nat} (h:∀j,j < i->jc j (cF s j)=false) (hb:jc i (cF s i)=false):∀j,j < i + 1->jc j (cF s j)=false:=by
 intro j hj
 rcases Nat.lt_or_ge j i with hlt | hge
 ·exact h j hlt
 ·obtain rfl:j=i:=by omega
  exact hb
def mI (h:Nat) (c:UInt8):Nat:=((16 * h + c.toNat) % 4294967296 % 268435456) ^^^ (16 * ((16 * h + c.toNat) % 4294967296 / 268435456))
def dD (s:List UInt8):Nat:=s.foldl mI 0
theorem Jm (h:Nat) (c:UInt8):mI h c < 268435456:=by
 unfold mI
 have h1:(16 * h + c.toNat) % 4294967296 % 268435456 < 2 ^ 28:=Nat.mod_lt _ (by decide)
 have h2:16 * ((16 * h + c.toNat) % 4294967296 / 268435456) < 2 ^ 28:=by
  have:(16 * h + c.toNat) % 4294967296 < 4294967296:=Nat.mod_lt _ (by decide)
  omega
 exact Nat.xor_lt_two_pow h1 h2
theorem Ah (s:List UInt8):dD s < 268435456:=by
 rcases List.eq_nil_or_concat s with rfl | ⟨l,a,rfl⟩
 ·decide
 ·simp only [dD,List.concat_eq_append,List.foldl_append,List.foldl_cons,List.foldl_nil];exact Jm _ _
theorem Bq {s:List UInt8} {i:Nat} (h:i < s.length):dD (s.take (i + 1))=mI (dD (s.take i)) (cF s i):=by
 rw [List.take_add_one,wM h]
 simp [dD]
theorem bv_and {n a b:Nat} (ha:a < 2 ^ n):(BitVec.ofInt n (a:Int) &&& BitVec.ofInt n (b:Int)).toNat=a &&& b % 2 ^ n:=by
 simp [BitVec.ofInt_natCast,Nat.mod_eq_of_lt ha]
theorem OA {n a b:Nat} (ha:a < 2 ^ n) (hb:b < 2 ^ n):(BitVec.ofInt n (a:Int) ^^^ BitVec.ofInt n (b:Int)).toNat=a ^^^ b:=by
 simp [BitVec.ofInt_natCast,Nat.mod_eq_of_lt ha,Nat.mod_eq_of_lt hb]
theorem Br {a:Nat} (h:a < 4294967296):IntKind.u32.wrap (a:Int)=a:=py (by simp [IntKind.min,IntKind.max,IntKind.signed,IntKind.bits];omega)
theorem Uq {a:Nat} (h:a < 9223372036854775808):IntKind.i64.wrap (a:Int)=a:=py (by simp [IntKind.min,IntKind.max,IntKind.signed,IntKind.bits];omega)
theorem Tt (a:Nat):IntKind.u32.wrap (a:Int)=((a % 4294967296:Nat):Int):=by
 simp [IntKind.wrap,IntKind.signed,IntKind.bits]
 try omega
theorem OB {x:Nat} (hx:x < 4294967296):x &&& 4026531840=268435456 * (x / 268435456):=by
 apply Nat.eq_of_testBit_eq
 intro i
 rw [Nat.testBit_and,show (4026531840:Nat)=2 ^ 28 * (2 ^ 4 - 1) from by decide,show (268435456:Nat)=2 ^ 28 from by decide,Nat.testBit_two_pow_mul,Nat.testBit_two_pow_mul,Nat.testBit_two_pow_sub_one,Nat.testBit_div_two_pow]
 by_cases h:28<=i
 ·rw [show i - 28 + 28=i from by omega]
  by_cases h2:i - 28 < 4
  ·simp [h,h2]
  ·rw [Nat.testBit_lt_two_pow (x:=x) (i:=i) (Nat.lt_of_lt_of_le hx (Nat.pow_le_pow_right (n:=2) (i:=32) (j:=i) (by decide) (by omega)))];simp
 ·simp [h]
theorem OE {x:Nat} (hx:x < 4294967296):(BitVec.ofInt 32 ((x ^^^ 16 * (x / 268435456):Nat):Int) &&& ~~~ BitVec.ofInt 32 ((268435456 * (x / 268435456):Nat):Int)).toNat=(x % 268435456) ^^^ (16 * (x / 268435456)):=by
 have hq:x / 268435456 < 16:=by omega
 have h1:x ^^^ 16 * (x / 268435456) < 2 ^ 32:=Nat.xor_lt_two_pow hx (by omega)
 rw [BitVec.toNat_and,BitVec.toNat_not,BitVec.ofInt_natCast,BitVec.ofInt_natCast,BitVec.toNat_ofNat,BitVec.toNat_ofNat,Nat.mod_eq_of_lt h1,Nat.mod_eq_of_lt (by omega)]
 apply Nat.eq_of_testBit_eq
 intro i
 rw [show 2 ^ 32 - 1 - 268435456 * (x / 268435456)=2 ^ 32 - (268435456 * (x / 268435456) + 1) from by omega,Nat.testBit_and,Nat.testBit_two_pow_sub_succ (by omega),Nat.testBit_xor,Nat.testBit_xor,
  show (268435456:Nat)=2 ^ 28 from by decide,Nat.testBit_mod_two_pow,Nat.testBit_two_pow_mul,Nat.testBit_div_two_pow]
 by_cases h:i < 28
 ·simp [h,show ¬ 28<=i from by omega,show i < 32 from by omega]
 ·have h16:(16 * (x / 2 ^ 28)).testBit i=false:=by
   apply Nat.testBit_lt_two_pow
   exact Nat.lt_of_lt_of_le (show _ < 2 ^ 28 by omega) (Nat.pow_le_pow_right (by decide) (by omega))
  rw [h16]
  by_cases h2:i < 32
  ·simp [h,h2,show 28<=i from by omega]
  ·simp [h,h2]
theorem OF {h:Nat} {c:UInt8} (hh:h < 268435456) {x1 x3 x4 x5 x6 x7:Int}
  (e1:x1=IntKind.wrap IntKind.u32 ((h:Int) * (2:Int) ^ min (Int.toNat (4:Int)) 32)) (e3:x3=IntKind.wrap IntKind.u32 (x1 + (c.toNat:Int)))
  (e4:x4=IntKind.wrap IntKind.u32 (((BitVec.ofInt 32 x3 &&& BitVec.ofInt 32 (4026531840:Int)).toNat:Nat):Int))
  (e5:x5=Int.fdiv x4 ((2:Int) ^ min (Int.toNat (24:Int)) 32))
  (e6:x6=IntKind.wrap IntKind.u32 (((BitVec.ofInt 32 x3 ^^^ BitVec.ofInt 32 x5).toNat:Nat):Int))
  (e7:x7=IntKind.wrap IntKind.u32 (((BitVec.ofInt 32 x6 &&& ~~~BitVec.ofInt 32 x4).toNat:Nat):Int)) :
  x7=(mI h c:Int):=by
 have hc:=c.toNat_lt
 have h1:x1=((16 * h:Nat):Int):=by
  rw [e1,show (h:Int) * (2:Int) ^ min (Int.toNat (4:Int)) 32=((16 * h:Nat):Int) from by rw [show min (Int.toNat (4:Int)) 32=4 from by decide];omega,Br (by omega)]
 have h3:x3=(((16 * h + c.toNat) % 4294967296:Nat):Int):=by
  rw [e3,h1,show ((16 * h:Nat):Int) + (c.toNat:Int)=((16 * h + c.toNat:Nat):Int) from by omega,Tt]
 generalize hx:(16 * h + c.toNat) % 4294967296=x at h3
 have hxl:x < 4294967296:=by omega
 have h4:x4=((268435456 * (x / 268435456):Nat):Int):=by
  rw [e4,h3,show (4026531840:Int)=((4026531840:Nat):Int) from rfl,bv_and (by omega),show (4026531840:Nat) % 2 ^ 32=4026531840 from by decide,OB hxl,Br (by omega)]
 have h5:x5=((16 * (x / 268435456):Nat):Int):=by
  rw [e5,h4,show min (Int.toNat (24:Int)) 32=24 from by decide,Int.fdiv_eq_ediv_of_nonneg _ (by decide)]
  omega
 have hxor:x ^^^ 16 * (x / 268435456) < 2 ^ 32:=Nat.xor_lt_two_pow hxl (by omega)
 have h6:x6=((x ^^^ 16 * (x / 268435456):Nat):Int):=by
  rw [e6,h3,h5,OA (by omega) (by omega),Br hxor]
 have hlow:(x % 268435456) ^^^ (16 * (x / 268435456)) < 2 ^ 28:=Nat.xor_lt_two_pow (Nat.mod_lt _ (by decide)) (by omega)
 rw [e7,h6,h4,OE hxl,Br (by omega)]
 unfold mI
 rw [hx]
theorem Vi {h:Nat} {c:UInt8} {x1 x3:Int} (e1:x1=16 * (h:Int)) (e3:x3=(x1 + (c.toNat:Int)).tmod 4294967296):x3=(((16 * h + c.toNat) % 4294967296:Nat):Int):=by
 rw [e3,e1,Int.tmod_eq_emod_of_nonneg (by omega)];omega
theorem Vj {x:Nat} {x3 x4:Int} (h3:x3=(x:Int)) (e4:x4=x3.tdiv 268435456):x4=((x / 268435456:Nat):Int):=by
 rw [e4,h3,Int.tdiv_eq_ediv_of_nonneg (by omega)];omega
theorem Mn {h:Nat} {c:UInt8} {x1 x3 x4 x5 x6 x7:Int} (e1:x1=16 * (h:Int)) (e3:x3=(x1 + (c.toNat:Int)).tmod 4294967296) (e4:x4=x3.tdiv 268435456) (e5:x5=x3.tmod 268435456)
  (e6:x6=16 * x4) (e7:x7=IntKind.wrap IntKind.i64 (((BitVec.ofInt 64 x5 ^^^ BitVec.ofInt 64 x6).toNat:Nat):Int)):x7=(mI h c:Int):=by
 have hc:=c.toNat_lt
 have h3:=Vi e1 e3
 generalize hx:(16 * h + c.toNat) % 4294967296=x at h3
 have hxl:x < 4294967296:=by omega
 have h4:=Vj h3 e4
 have h5:x5=((x % 268435456:Nat):Int):=by rw [e5,h3,Int.tmod_eq_emod_of_nonneg (by omega)];omega
 have h6:x6=((16 * (x / 268435456):Nat):Int):=by rw [e6,h4];omega
 have hlow:(x % 268435456) ^^^ (16 * (x / 268435456)) < 2 ^ 28:=Nat.xor_lt_two_pow (Nat.mod_lt _ (by decide)) (by omega)
 rw [e7,h5,h6,OA (by omega) (by omega),Uq (by omega)]
 unfold mI
 rw [hx]
end Go.Mrl

namespace Go.Mrl
open Go.Vg
def gP (p:D aN->Prop) (l:List (D aA)) (i k:Nat):Prop:=
 i < l.length/\k < (nth aA l i).2.2.1.length/\p (nth aN (nth aA l i).2.2.1 k)
def vM (s:List UInt8) (x:D aN):Prop:=x.1=s
def lq (s:List UInt8) (x:D aN):Prop:=x.1=s/\x.2.2.1=false
def ahead (i k i' k':Nat):Prop:=i < i'\/(i=i'/\k < k')
def tI (p:D aN->Prop) (l:List (D aA)) (i k:Nat):Prop:=∀i' k',ahead i' k' i k->¬ gP p l i' k'
def lX (p:D aN->Prop) (l:List (D aA)) (i k:Nat):Prop:=gP p l i k/\tI p l i k
theorem wN {p:D aN->Prop} {l:List (D aA)} {i k i' k':Nat} (h:lX p l i k) (h':lX p l i' k'):i=i'/\k=k':=by
 have h1:¬ ahead i k i' k':=fun a=>h'.2 i k a h.1
 have h2:¬ ahead i' k' i k:=fun a=>h.2 i' k' a h'.1
 unfold ahead at h1 h2
 omega
theorem wO {p:D aN->Prop} {l:List (D aA)} {i k:Nat} (h:gP p l i k):∃i k,lX p l i k:=by
 have hi:∀n,∀i,i<=n->∀k,gP p l i k->∃i,(∃k,gP p l i k)/\∀j,j < i->∀k,¬ gP p l j k:=by
  intro n
  induction n with
  | zero=>intro i hi k h;exact ⟨i,⟨k,h⟩,fun j hj=>by omega⟩
  | succ n ih=>
   intro i hi k h
   by_cases c:∃j,j < i/\∃k,gP p l j k
   ·obtain ⟨j,hj,k,hk⟩:=c
    exact ih j (by omega) k hk
   ·exact ⟨i,⟨k,h⟩,fun j hj k hk=>c ⟨j,hj,k,hk⟩⟩
 obtain ⟨i0,⟨k0,h0⟩,hmin⟩:=hi i i (Nat.le_refl _) k h
 have hk:∀n,∀k,k<=n->gP p l i0 k->∃k,gP p l i0 k/\∀j,j < k->¬ gP p l i0 j:=by
  intro n
  induction n with
  | zero=>intro k hk h;exact ⟨k,h,fun j hj=>by omega⟩
  | succ n ih=>
   intro k hk h
   by_cases c:∃j,j < k/\gP p l i0 j
   ·obtain ⟨j,hj,h2⟩:=c
    exact ih j (by omega) h2
   ·exact ⟨k,h,fun j hj h2=>c ⟨j,hj,h2⟩⟩
 obtain ⟨k1,h1,h2⟩:=hk k0 k0 (Nat.le_refl _) h0
 refine ⟨i0,k1,h1,fun i' k' ha hp => ?_⟩
 rcases ha with ha | ⟨rfl,ha⟩
 ·exact hmin i' ha k' hp
 ·exact h2 k' ha hp
open Classical in
noncomputable def dF (x:List (D aA) × List UInt8):Int × Int:=
 if h:∃p:Nat × Nat,lX (lq x.2) x.1 p.1 p.2 then (((Classical.choose h).1:Nat),((Classical.choose h).2:Nat))
 else if h:∃p:Nat × Nat,lX (vM x.2) x.1 p.1 p.2 then (((Classical.choose h).1:Nat),((Classical.choose h).2:Nat))
 else (-1,-1)
theorem ry {l:List (D aA)} {s:List UInt8} {i k:Nat} (h:lX (lq s) l i k):dF (l,s)=((i:Int),(k:Int)):=by
 have hx:∃p:Nat × Nat,lX (lq s) l p.1 p.2:=⟨(i,k),h⟩
 unfold dF
 rw [dif_pos hx]
 have:=wN h (Classical.choose_spec hx)
 rw [<-this.1,<-this.2]
theorem uM {l:List (D aA)} {s:List UInt8} {i k:Nat} (hn:∀i k,¬ gP (lq s) l i k) (h:lX (vM s) l i k):dF (l,s)=((i:Int),(k:Int)):=by
 have hx:∃p:Nat × Nat,lX (vM s) l p.1 p.2:=⟨(i,k),h⟩
 unfold dF
 rw [dif_neg (fun ⟨p,h⟩=>hn p.1 p.2 h.1),dif_pos hx]
 have:=wN h (Classical.choose_spec hx)
 rw [<-this.1,<-this.2]
theorem uN {l:List (D aA)} {s:List UInt8} (hn:∀i k,¬ gP (vM s) l i k):dF (l,s)=(-1,-1):=by
 unfold dF
 rw [dif_neg (fun ⟨p,h⟩=>hn p.1 p.2 ⟨h.1.1,h.1.2.1,h.1.2.2.1⟩),dif_neg (fun ⟨p,h⟩=>hn p.1 p.2 h.1)]
theorem Jn (l:List (D aA)) (s:List UInt8):(∃i k:Nat,dF (l,s)=((i:Int),(k:Int))/\lX (lq s) l i k)\/
  (∃i k:Nat,dF (l,s)=((i:Int),(k:Int))/\lX (vM s) l i k/\∀i k,¬ gP (lq s) l i k)\/
  (dF (l,s)=(-1,-1)/\∀i k,¬ gP (vM s) l i k):=by
 by_cases h1:∃i k,gP (lq s) l i k
 ·obtain ⟨i,k,h⟩:=h1
  obtain ⟨i,k,h⟩:=wO h
  exact .inl ⟨i,k,ry h,h⟩
 ·have h1':∀i k,¬ gP (lq s) l i k:=fun i k h=>h1 ⟨i,k,h⟩
  by_cases h2:∃i k,gP (vM s) l i k
  ·obtain ⟨i,k,h⟩:=h2
   obtain ⟨i,k,h⟩:=wO h
   exact .inr (.inl ⟨i,k,uM h1' h,h,h1'⟩)
  ·have h2':∀i k,¬ gP (vM s) l i k:=fun i k h=>h2 ⟨i,k,h⟩
   exact .inr (.inr ⟨uN h2',h2'⟩)
def iX (l:List (D aA)) (s:List UInt8) (i k:Nat) (a b:Int):Prop:=
 tI (lq s) l i k/\((a = -1/\b = -1/\tI (vM s) l i k)\/∃i0 k0:Nat,a=i0/\b=k0/\lX (vM s) l i0 k0)
theorem iX.start (l:List (D aA)) (s:List UInt8):iX l s 0 0 (-1) (-1):=
 ⟨fun i' k' h=>by unfold ahead at h;omega, .inl ⟨rfl,rfl,fun i' k' h=>by unfold ahead at h;omega⟩⟩
theorem tI.next {p:D aN->Prop} {l:List (D aA)} {i k:Nat} (h:tI p l i k) (hn:¬ gP p l i k):tI p l i (k + 1):=by
 intro i' k' ha hp
 by_cases e:i'=i/\k'=k
 ·rw [e.1,e.2] at hp;exact hn hp
 ·exact h i' k' (by unfold ahead at *;omega) hp
theorem iX.skip {l:List (D aA)} {s:List UInt8} {i k:Nat} {a b:Int} (h:iX l s i k a b) (hn:¬ (nth aN (nth aA l i).2.2.1 k).1=s):iX l s i (k + 1) a b:=by
 refine ⟨h.1.next fun hp=>hn hp.2.2.1,?_⟩
 rcases h.2 with ⟨h1,h2,h3⟩ | h3
 ·exact .inl ⟨h1,h2,h3.next fun hp=>hn hp.2.2⟩
 ·exact .inr h3
theorem iX.Ur {l:List (D aA)} {s:List UInt8} {i k:Nat} {a b:Int} (h:iX l s i k a b) (hi:i < l.length) (hk:k < (nth aA l i).2.2.1.length)
  (hs:(nth aN (nth aA l i).2.2.1 k).1=s) (hw:(nth aN (nth aA l i).2.2.1 k).2.2.1=false):dF (l,s)=((i:Int),(k:Int)):=
 ry ⟨⟨hi,hk,hs,hw⟩,h.1⟩
theorem iX.CM {l:List (D aA)} {s:List UInt8} {i k:Nat} {a b:Int} (h:iX l s i k a b) (hi:i < l.length) (hk:k < (nth aA l i).2.2.1.length)
  (hs:(nth aN (nth aA l i).2.2.1 k).1=s) (hw:¬ (nth aN (nth aA l i).2.2.1 k).2.2.1=false) (ha:a < 0):iX l s i (k + 1) (i:Int) (k:Int):=by
 refine ⟨h.1.next fun hp=>hw hp.2.2.2, .inr ⟨i,k,rfl,rfl,⟨hi,hk,hs⟩,?_⟩⟩
 rcases h.2 with ⟨_,_,h3⟩ | ⟨i0,k0,h1,_⟩
 ·exact h3
 ·omega
theorem iX.more {l:List (D aA)} {s:List UInt8} {i k:Nat} {a b:Int} (h:iX l s i k a b)
  (hw:¬ (nth aN (nth aA l i).2.2.1 k).2.2.1=false) (ha:¬ a < 0):iX l s i (k + 1) a b:=by
 refine ⟨h.1.next fun hp=>hw hp.2.2.2,?_⟩
 rcases h.2 with ⟨h1,_,_⟩ | h3
 ·omega
 ·exact .inr h3
theorem tI.row {p:D aN->Prop} {l:List (D aA)} {i k:Nat} (h:tI p l i k) (hk:(nth aA l i).2.2.1.length<=k):tI p l (i + 1) 0:=by
 intro i' k' ha hp
 refine h i' k' ?_ hp
 unfold ahead at *
 by_cases e:i'=i
 ·subst e;have:=hp.2.1;omega
 ·omega
theorem iX.row {l:List (D aA)} {s:List UInt8} {i k:Nat} {a b:Int} (h:iX l s i k a b) (hk:(nth aA l i).2.2.1.length<=k):iX l s (i + 1) 0 a b:=by
 refine ⟨h.1.row hk,?_⟩
 rcases h.2 with ⟨h1,h2,h3⟩ | h3
 ·exact .inl ⟨h1,h2,h3.row hk⟩
 ·exact .inr h3
theorem tI.all {p:D aN->Prop} {l:List (D aA)} {i k:Nat} (h:tI p l i k) (hi:l.length<=i):∀i k,¬ gP p l i k:=
 fun i' k' hp=>h i' k' (by have:=hp.1;unfold ahead;omega) hp
theorem iX.done {l:List (D aA)} {s:List UInt8} {i k:Nat} {a b:Int} (h:iX l s i k a b) (hi:l.length<=i):dF (l,s)=(a,b):=by
 rcases h.2 with ⟨rfl,rfl,h3⟩ | ⟨i0,k0,rfl,rfl,h3⟩
 ·exact uN (h3.all hi)
 ·exact uM (h.1.all hi) h3
theorem jA {p:Nat->Prop} {n:Nat} (h:∀j,j < n->p j) (hn:p n):∀j,j < n + 1->p j:=by
 intro j hj
 by_cases e:j=n
 ·rw [e];exact hn
 ·exact h j (by omega)
theorem qZ {l:List (D aA)} {s:List UInt8} (h:0<=(dF (l,s)).1):(dF (l,s)).1 < l.length/\0<=(dF (l,s)).2/\(dF (l,s)).2 < (nth aA l (dF (l,s)).1.toNat).2.2.1.length/\
  (nth aN (nth aA l (dF (l,s)).1.toNat).2.2.1 (dF (l,s)).2.toNat).1=s:=by
 rcases Jn l s with ⟨i0,k0,e,f⟩ | ⟨i0,k0,e,f,n⟩ | ⟨e,n⟩
 ·rw [e];obtain ⟨h1,h2,h3⟩:=f.1;exact ⟨by simp only;omega,by simp only;omega,by simp only [Int.toNat_natCast];omega,h3.1⟩
 ·rw [e];obtain ⟨h1,h2,h3⟩:=f.1;exact ⟨by simp only;omega,by simp only;omega,by simp only [Int.toNat_natCast];omega,h3⟩
 ·rw [e] at h;simp at h
end Go.Mrl

namespace Go.Mrl
open Go.Vg
end Go.Mrl
namespace Go.Mrl
open Go.Vg
end Go.Mrl
namespace Go.Mrl
open Go.Vg
end Go.Mrl

namespace Go.Mrl
open Go.Vg
end Go.Mrl
namespace Go.Mrl
open Go.Vg
end Go.Mrl
namespace Go.Mrl
open Go.Vg
end Go.Mrl
namespace Go.Mrl
open Go.Vg
def qu (n:Nat) (f:Nat->Bool):List Bool:=(List.range n).map f
theorem nO (n:Nat) (f:Nat->Bool):(qu n f).length=n:=by simp [qu]
theorem uO {n i:Nat} {f:Nat->Bool} (h:i < n):(qu n f)[i]?=some (f i):=by simp [qu,List.getElem?_range h]
theorem Ai {n i:Nat} {f:Nat->Bool} (h:i < n):nth .bool (qu n f) i=f i:=fO (t:=.bool) (uO h)
theorem Rc {n i:Nat} {f:Nat->Bool} (v:Bool):(qu n f).set i v=qu n (fun j=>if j=i then v else f j):=by
 apply List.ext_getElem?
 intro j
 rw [List.getElem?_set]
 by_cases hj:j < n
 ·rw [uO hj]
  by_cases e:i=j
  ·subst e;rw [if_pos rfl,if_pos (by rw [nO];exact hj),uO hj,if_pos rfl]
  ·rw [if_neg e,uO hj,if_neg (fun h=>e h.symm)]
 ·have h1:∀g:Nat->Bool,(qu n g)[j]?=none:=fun g=>List.getElem?_eq_none (by rw [nO];omega)
  rw [h1,h1]
  split
  ·rw [nO,if_neg (by omega)]
  ·rfl
theorem GO {n:Nat} {f g:Nat->Bool} (h:∀i,i < n->f i=g i):qu n f=qu n g:=
 List.map_congr_left fun i hi=>h i (List.mem_range.1 hi)
end Go.Mrl
namespace Go.Mrl
open Go.Vg
end Go.Mrl
namespace Go.Mrl
open Go.Vg
end Go.Mrl

namespace Go.Mrl
open Go.Vg
def hU (a b:Int × Int × Unit):Bool:=decide (a.2.1<=0) || (decide (b.2.1<=0) || (decide (a.1 + a.2.1<=b.1) || decide (b.1 + b.2.1<=a.1)))
theorem yH {a b:Int × Int × Unit}:hU a b=true ↔ a.2.1<=0\/b.2.1<=0\/a.1 + a.2.1<=b.1\/b.1 + b.2.1<=a.1:=by simp [hU]
theorem GP {a b:Int × Int × Unit}:hU a b=false ↔ 0 < a.2.1/\0 < b.2.1/\b.1 < a.1 + a.2.1/\a.1 < b.1 + b.2.1:=by simp [hU]
def dU (n:Int):Int:=(n + 15) / 16 * 16
def nz (r:Int × Int × Unit):Prop:=-1000000<=r.1/\r.1<=1000000/\-1000000<=r.2.1/\r.2.1<=1000000
def ir (r:D aW) (l:List (D aW)):Bool:=l.all (hU r)
theorem o4 {t:Ty} {xs:List (D t)} {i:Nat} (h:i < xs.length):xs[i]?=some (nth t xs i):=by
 rw [List.getElem?_eq_getElem h,<-fO (List.getElem?_eq_getElem h)]
theorem ie {t:Ty} {xs:List (D t)} {i:Nat} (h:i < xs.length):nth t xs i∈xs:=by
 have:=o4 (t:=t) h
 exact List.mem_of_getElem? this
theorem kf {t:Ty} {xs:List (D t)} {x:D t} (h:x∈xs):∃i,i < xs.length/\nth t xs i=x:=by
 obtain ⟨i,hi,e⟩:=List.getElem_of_mem h
 exact ⟨i,hi,by rw [<-e];exact fO (List.getElem?_eq_getElem hi)⟩
theorem Mo {r:D aW} {l:List (D aW)} (h:∀j,j < l.length->hU r (nth aW l j)=true):ir r l=true:=by
 unfold ir;rw [List.all_eq_true]
 intro x hx
 obtain ⟨i,hi,e⟩:=kf hx
 rw [<-e];exact h i hi
theorem Jo {r:D aW} {l:List (D aW)} {j:Nat} (h:j < l.length) (hf:hU r (nth aW l j)=false):ir r l=false:=by
 unfold ir;rw [List.all_eq_false]
 exact ⟨_,ie h,by rw [hf];decide⟩
theorem OG {r:D aW} {l:List (D aW)} (h:ir r l=false):∃x∈l,hU r x=false:=by
 unfold ir at h;rw [List.all_eq_false] at h
 obtain ⟨x,hx,e⟩:=h
 exact ⟨x,hx,by simpa using e⟩
def ig (l:List (D aW)) (many:Int):Nat->Int->Int
 | 0,at_=>at_
 | n + 1,at_=>if ir (at_,many,()) l=true then at_ else ig l many n (at_ + 16)
def hH:List (D aW)->List Int->List Int->Option (List Int)
 | _,[],out=>some out
 | l,n :: r,out=>if 256 < ig l (dU n) 40 0 + dU n then none else hH (l++[(ig l (dU n) 40 0,dU n,())]) r (out++[ig l (dU n) 40 0])
def GQ (s:List Int):Bool:=s.any fun (n:Int)=>decide (n < 1) || decide (40 < n)
def GR (l:List (D aW)):Bool:=l.any fun (r:Int × Int × Unit)=>decide (r.1 < 0) || (decide (256 < r.1) || (decide (r.2.1 < 0) || decide (256 < r.2.1)))
def cL (x:List Int × List (D aW)):List Int × bC:=
 if 6 < x.1.length\/20 < x.2.length then ([], .no 2) else if GQ x.1=true\/GR x.2=true then ([], .no 1) else
  match hH x.2 x.1 [] with
  | some o=>(o, .nil)
  | none=>([], .no 8)
theorem K0 {t:Ty} {xs:List (D t)} {p:D t->Bool} {i:Nat} (h:i < xs.length) (hp:p (nth t xs i)=true):xs.any p=true:=by
 rw [List.any_eq_true];exact ⟨_,ie h,hp⟩
theorem K2 {t:Ty} {xs:List (D t)} {p:D t->Bool} (h:∀i,i < xs.length->p (nth t xs i)=false):xs.any p=false:=by
 rw [List.any_eq_false];intro x hx
 obtain ⟨i,hi,e⟩:=kf hx
 rw [<-e,h i hi];decide
theorem o5 {l:List (D aW)} {s out:List Int} {k:Nat} (h:k < s.length):hH l (s.drop k) out =
  if 256 < ig l (dU (nth (.int .i64) s k)) 40 0 + dU (nth (.int .i64) s k) then none
  else hH (l++[(ig l (dU (nth (.int .i64) s k)) 40 0,dU (nth (.int .i64) s k),())]) (s.drop (k + 1)) (out++[ig l (dU (nth (.int .i64) s k)) 40 0]):=by
 have e:s.drop k=nth (.int .i64) s k :: s.drop (k + 1):=by
  rw [List.drop_eq_getElem_cons h]
  congr 1
  exact (fO (t:=.int .i64) (List.getElem?_eq_getElem h)).symm
 rw [e];rfl
theorem yI {l:List (D aW)} {s out:List Int} {k:Nat} (h:s.length<=k):hH l (s.drop k) out=some out:=by
 rw [List.drop_eq_nil_of_le h];rfl
def jn (r:Int × Int × Unit):Prop:=0<=r.1/\r.1<=256/\0<=r.2.1/\r.2.1<=256
theorem jn.nz {r:Int × Int × Unit} (h:jn r):Mrl.nz r:=by
 obtain ⟨h1,h2,h3,h4⟩:=h
 refine ⟨?_,?_,?_,?_⟩ <;> omega
theorem DG {l:List (D aW)} {at_ many:Int} (hl:∀x∈l,jn x) (h:ir (at_,many,()) l=false):at_ < 512:=by
 obtain ⟨x,hx,e⟩:=OG h
 obtain ⟨h1,h2,h3,h4⟩:=hl x hx
 obtain ⟨h5,h6,h7,h8⟩:=GP.1 e
 have h8:at_ < x.1 + x.2.1:=h8
 omega
theorem sX {l:List (D aW)} {many at_:Int} {n:Nat} (h:ir (at_,many,()) l=true):ig l many n at_=at_:=by
 cases n with
 | zero=>rfl
 | succ n=>rw [ig,if_pos h]
theorem OH {l:List (D aW)} {many at_:Int} {n:Nat} (h:ir (at_,many,()) l=false):ig l many (n + 1) at_=ig l many n (at_ + 16):=by
 rw [ig,if_neg (by rw [h];decide)]
theorem eI {n:Int} (h1:1<=n) (h2:n<=40):16<=dU n/\dU n<=48:=by unfold dU;omega
end Go.Mrl
namespace Go.Mrl
open Go.Vg
theorem yJ {s:List Int} {l:List (D aW)} (h:6 < s.length\/20 < l.length):cL (s,l)=([], .no 2):=by
 unfold cL;rw [if_pos h]
theorem yK {s:List Int} {l:List (D aW)} (h:¬ (6 < s.length\/20 < l.length)) {i:Nat} (hi:i < s.length) (hb:¬ (1<=(nth (.int .i64) s i:Int)/\(nth (.int .i64) s i:Int)<=40)):cL (s,l)=([], .no 1):=by
 unfold cL;rw [if_neg h,if_pos]
 refine .inl (K0 (t:=.int .i64) hi ?_)
 simp only [Bool.or_eq_true,decide_eq_true_eq]
 generalize nth (.int .i64) s i=x at hb
 have hb:¬ (1<=(x:Int)/\(x:Int)<=40):=hb
 dsimp only [D] at *;omega
theorem wP {s:List Int} {l:List (D aW)} (h:¬ (6 < s.length\/20 < l.length)) {i:Nat} (hi:i < l.length) (hb:¬ jn (nth aW l i)):cL (s,l)=([], .no 1):=by
 unfold cL;rw [if_neg h,if_pos]
 refine .inr (K0 (t:=aW) hi ?_)
 simp only [Bool.or_eq_true,decide_eq_true_eq]
 unfold jn at hb
 dsimp only [D] at *;omega
theorem sj {s:List Int} {l:List (D aW)} (h:¬ (6 < s.length\/20 < l.length)) (hs:∀j,j < s.length->1<=(nth (.int .i64) s j:Int)/\(nth (.int .i64) s j:Int)<=40) (ht:∀j,j < l.length->jn (nth aW l j)) :
  cL (s,l)=match hH l s [] with | some o=>(o, .nil) | none=>([], .no 8):=by
 unfold cL;rw [if_neg h,if_neg]
 rintro (e | e)
 ·have:GQ s=false:=K2 (t:=.int .i64) fun i hi=>by
   have:=hs i hi
   simp only [Bool.or_eq_false_iff,decide_eq_false_iff_not]
   dsimp only [D] at *;omega
  rw [this] at e;cases e
 ·have:GR l=false:=K2 (t:=aW) fun i hi=>by
   have:=ht i hi
   unfold jn at this
   simp only [Bool.or_eq_false_iff,decide_eq_false_iff_not]
   dsimp only [D] at *;omega
  rw [this] at e;cases e
end Go.Mrl
namespace Go.Mrl
open Go.Vg
theorem GS {l:List (Int × Int × Unit)} {r:Int × Int × Unit} (h:∀y∈l,jn y) (hr:jn r):∀y∈l++[r],jn y:=by
 intro y hy
 rcases List.mem_append.1 hy with hy | hy
 ·exact h y hy
 ·simp at hy;rw [hy];exact hr
end Go.Mrl
namespace Go.Mrl
open Go.Vg
def qI (l:List (Int × Int × Unit)) (p:Int):Bool:=l.any fun r=>decide (r.1<=p) && decide (p < r.1 + r.2.1)
def kr (l:List (Int × Int × Unit)):List Bool:=qu 600 fun p=>qI l p
def K3 (U:List Bool) (p:Int):Bool:=decide (600<=p) || !(nth .bool U p.toNat)
def iG (U:List Bool) (at_:Int) (k:Nat):Bool:=(List.range k).all fun q=>K3 U (at_ + q)
def mn (U:List Bool) (many:Int):Nat->Int->Int
 | 0,at_=>at_
 | n + 1,at_=>if iG U at_ many.toNat=true then at_ else mn U many n (at_ + 16)
def iH (U:List Bool) (at_:Int) (k:Nat):List Bool:=qu 600 fun p=>nth .bool U p || (decide (at_<=p) && decide ((p:Int) < at_ + k))
theorem rA (l:List (Int × Int × Unit)):(kr l).length=600:=nO _ _
theorem o6 (U:List Bool) (at_:Int) (k:Nat):(iH U at_ k).length=600:=nO _ _
theorem DH {l:List (Int × Int × Unit)} {p:Nat} (h:p < 600):nth .bool (kr l) p=qI l p:=Ai h
theorem Fw {a b:List Bool} (hl:a.length=b.length) (h:∀i,i < a.length->nth .bool a i=nth .bool b i):a=b:=by
 apply List.ext_getElem hl
 intro i h1 h2
 have:=h i h1
 rw [show nth .bool a i=a[i] from fO (t:=.bool) (List.getElem?_eq_getElem h1),show nth .bool b i=b[i] from fO (t:=.bool) (List.getElem?_eq_getElem h2)] at this
 exact this
theorem Bs {U:List Bool} {at_:Int} (h:U.length=600):iH U at_ 0=U:=by
 apply Fw (by rw [o6,h])
 intro i hi
 rw [o6] at hi
 unfold iH;rw [Ai hi]
 have:(decide (at_<=(i:Int)) && decide ((i:Int) < at_ + ((0:Nat):Int)))=false:=by simp <;> omega
 rw [this,Bool.or_false]
theorem DI {U:List Bool} {at_:Int} {k:Nat} (h0:0<=at_) (_:at_ + k < 600):(iH U at_ k).set (at_ + k).toNat true=iH U at_ (k + 1):=by
 unfold iH;rw [Rc]
 refine GO fun i hi => ?_
 by_cases e:i=(at_ + k).toNat
 ·rw [if_pos e]
  have:(decide (at_<=(i:Int)) && decide ((i:Int) < at_ + ((k + 1:Nat):Int)))=true:=by simp;omega
  rw [this,Bool.or_true]
 ·rw [if_neg e]
  congr 1
  by_cases h1:at_<=(i:Int)
  ·by_cases h2:(i:Int) < at_ + k
   ·simp [h1,h2];omega
   ·simp [h1,h2];omega
  ·simp [h1]
theorem Mp (l:List (Int × Int × Unit)) (r:Int × Int × Unit) (p:Int):qI (l++[r]) p=(qI l p || (decide (r.1<=p) && decide (p < r.1 + r.2.1))):=by
 simp [qI]
theorem Bt {l:List (Int × Int × Unit)} {at_ many:Int} {k:Nat} (hk:(k:Int)=many):iH (kr l) at_ k=kr (l++[(at_,many,())]):=by
 unfold iH kr
 refine GO fun i hi => ?_
 rw [Ai hi,Mp]
 simp only [hk]
theorem Mq {l:List (D aW)} {i k:Nat} (hi:i < l.length) (hk:(k:Int)=(nth aW l i).2.1):iH (kr (l.take i)) (nth aW l i).1 k=kr (l.take (i + 1)):=by
 have e:l.take (i + 1)=l.take i++[nth aW l i]:=by
  rw [List.take_add_one,o4 (t:=aW) hi];rfl
 rw [e]
 exact Bt (l:=l.take i) hk
theorem uP {U:List Bool} {at_:Int} {k:Nat}:iG U at_ (k + 1)=(iG U at_ k && K3 U (at_ + k)):=by
 unfold iG;rw [List.range_succ,List.all_append];simp
theorem Mr {U:List Bool} {at_:Int} {k n:Nat} (h:k<=n) (hf:iG U at_ k=false):iG U at_ n=false:=by
 induction n with
 | zero=>
  obtain rfl:k=0:=by omega
  exact hf
 | succ n ih=>
  by_cases e:k=n + 1
  ·rw [<-e];exact hf
  ·rw [uP,ih (by omega)];rfl
theorem Bu {U:List Bool} {many at_:Int} {n:Nat} (h:iG U at_ many.toNat=true):mn U many n at_=at_:=by
 cases n with
 | zero=>rfl
 | succ n=>rw [mn,if_pos h]
theorem Re {U:List Bool} {many at_:Int} {n:Nat} (h:iG U at_ many.toNat=false):mn U many (n + 1) at_=mn U many n (at_ + 16):=by
 rw [mn,if_neg (by rw [h];decide)]
theorem Bv {l:List (Int × Int × Unit)} {at_ many:Int} (hl:∀y∈l,jn y) (h0:0<=at_) (hm:0 < many):iG (kr l) at_ many.toNat=ir (at_,many,()) l:=by
 rw [Bool.eq_iff_iff]
 constructor
 ·intro h
  unfold ir;rw [List.all_eq_true]
  intro (x:Int × Int × Unit) hx
  obtain ⟨g1,g2,g3,g4⟩:=hl x hx
  rw [yH]
  show many<=0\/x.2.1<=0\/at_ + many<=x.1\/x.1 + x.2.1<=at_
  apply Classical.byContradiction
  intro hn
  have hc:0 < x.2.1/\x.1 < at_ + many/\at_ < x.1 + x.2.1:=by omega
  have key:∀p:Int,at_<=p->p < at_ + many->x.1<=p->p < x.1 + x.2.1->False:=by
   intro p p1 p2 p3 p4
   have:=List.all_eq_true.1 h (p - at_).toNat (List.mem_range.2 (by omega))
   rw [show at_ + ((p - at_).toNat:Int)=p by omega] at this
   unfold K3 at this
   rw [DH (by omega),show ((p.toNat:Nat):Int)=p by omega] at this
   have hin:qI l p=true:=by
    unfold qI;rw [List.any_eq_true]
    exact ⟨x,hx,by simp [p3,p4]⟩
   rw [hin] at this
   simp at this;omega
  by_cases q:at_<=x.1
  ·exact key x.1 q (by omega) (by omega) (by omega)
  ·exact key at_ (by omega) (by omega) (by omega) (by omega)
 ·intro h
  unfold iG;rw [List.all_eq_true]
  intro q hq
  have hq:=List.mem_range.1 hq
  unfold K3
  by_cases h6:600<=at_ + (q:Int)
  ·simp [h6]
  ·rw [DH (by omega),show (((at_ + (q:Int)).toNat:Nat):Int)=at_ + q by omega]
   have:qI l (at_ + q)=false:=by
    unfold qI;rw [List.any_eq_false]
    intro (x:Int × Int × Unit) hx
    unfold ir at h
    have:=yH.1 (List.all_eq_true.1 h x hx)
    simp only [Bool.and_eq_true,decide_eq_true_eq,not_and]
    have:many<=0\/x.2.1<=0\/at_ + many<=x.1\/x.1 + x.2.1<=at_:=this
    omega
   rw [this];simp
theorem Bw {l:List (Int × Int × Unit)} {many:Int} (hl:∀y∈l,jn y) (hm:0 < many):∀(n:Nat) (at_:Int),0<=at_->mn (kr l) many n at_=ig l many n at_:=by
 intro n
 induction n with
 | zero=>intro at_ _;rfl
 | succ n ih=>
  intro at_ h0
  unfold mn ig
  rw [Bv hl h0 hm,ih _ (by omega)]
end Go.Mrl
namespace Go.Mrl
open Go.Vg
theorem Jp {U:List Bool} {at_:Int} {k:Nat} (h:iG U at_ k=true) (h6:600<=at_ + k):true=iG U at_ (k + 1):=by
 rw [uP,h];simp [K3,h6]
theorem Jq {U:List Bool} {at_:Int} {k:Nat} (h:iG U at_ k=true) (h6:at_ + k < 600):(!(nth .bool U (at_ + k).toNat))=iG U at_ (k + 1):=by
 rw [uP,h]
 have:decide (600<=at_ + (k:Int))=false:=by simp;omega
 simp [K3,this]
def nj (x:List Int × List (D aW)):List Int × Int:=((cL x).1,hM (cL x).2)
end Go.Mrl

namespace Go.Mrl
open Go.Vg
theorem pX {t:Ty} {a b:List (D t)} (hl:a.length=b.length) (h:∀i,i < a.length->nth t a i=nth t b i):a=b:=by
 apply List.ext_getElem hl
 intro i h1 h2
 have:=h i h1
 rwa [show nth t a i=a[i] from fO (List.getElem?_eq_getElem h1),show nth t b i=b[i] from fO (List.getElem?_eq_getElem h2)] at this
def lP (a b:List Int):Bool:=decide (a=b)
def kN (a b:List (List UInt8)):Bool:=decide (a=b)
def oa (a b:List (D aH)):Bool:=decide (a=b)
theorem Ms {a b:List Int} (hl:(a.length:Int)=b.length) (h:∀i,i < a.length->nth (.int .i64) a i=nth (.int .i64) b i):true=lP a b:=by
 rw [pX (t:=.int .i64) (by omega) h];simp [lP]
theorem OI {a b:List Int} (hl:¬ (a.length:Int)=b.length):false=lP a b:=by
 symm;simp only [lP,decide_eq_false_iff_not];intro e;exact hl (by rw [e])
theorem Rf {a b:List Int} {i:Nat} (h:¬ nth (.int .i64) a i=nth (.int .i64) b i):false=lP a b:=by
 symm;simp only [lP,decide_eq_false_iff_not];intro e;exact h (by rw [e])
theorem Mt {a b:List (List UInt8)} (hl:(a.length:Int)=b.length) (h:∀i,i < a.length->nth .str a i=nth .str b i):true=kN a b:=by
 rw [pX (t:=.str) (by omega) h];simp [kN]
theorem OJ {a b:List (List UInt8)} (hl:¬ (a.length:Int)=b.length):false=kN a b:=by
 symm;simp only [kN,decide_eq_false_iff_not];intro e;exact hl (by rw [e])
theorem Rg {a b:List (List UInt8)} {i:Nat} (h:¬ nth .str a i=nth .str b i):false=kN a b:=by
 symm;simp only [kN,decide_eq_false_iff_not];intro e;exact h (by rw [e])
theorem Vn {α:Type} {p:Nat->α->Prop} {f:Nat->α} {k:Nat} (h:∀j,j < k->p j (f j)) (hk:p k (f k)):∀j,j < k + 1->p j (f j):=by
 intro j hj
 by_cases e:j=k
 ·subst e;exact hk
 ·exact h j (by omega)
theorem sk {p:Nat->Prop} {k:Nat} (h:∀j,j < k->p j) (hk:p k):∀j,j < k + 1->p j:=by
 intro j hj
 by_cases e:j=k
 ·subst e;exact hk
 ·exact h j (by omega)
end Go.Mrl

namespace Go.Mrl
open Go.Vg
theorem o7 {t:Ty} {a b:List (D t)} {i:Nat}:nth t (a++b) i=if i < a.length then nth t a i else nth t b (i - a.length):=by
 unfold nth
 simp only [List.getD_eq_getElem?_getD,List.getElem?_append]
 split <;> rfl
theorem GU {t:Ty} {a:List (D t)} {n i:Nat} (h:i < n):nth t (a.take n) i=nth t a i:=by
 unfold nth
 simp only [List.getD_eq_getElem?_getD,List.getElem?_take,if_pos h]
end Go.Mrl

namespace Go.Mrl
open Go.Vg
@[reducible] def fV:Ty:=.slice (.int .i64)
@[reducible] def lY:Ty:=.slice fV
abbrev Pt:=Int × Int × Int × Unit
abbrev Ws:=List (List Int)
def oH (w:Ws) (p:Pt):Prop:=0<=p.1/\p.1 < w.length/\0<=p.2.1/\p.2.1 < (nth fV w p.1.toNat).length
def rB (w:Ws) (p:Pt):Ws:=w.set p.1.toNat ((nth fV w p.1.toNat).set p.2.1.toNat p.2.2.1)
def gy (w:Ws) (l:List Pt):Ws:=l.foldl rB w
open Classical in
noncomputable def iY (x:Ws × List Pt):Ws × bC:=if ∀i,i < x.2.length->oH x.1 (nth aH x.2 i) then (gy x.1 x.2, .nil) else ([], .no 1)
theorem qJ {t:Ty} {l:List (D t)} {i j:Nat} {x:D t} (h:¬ i=j):nth t (l.set i x) j=nth t l j:=by
 unfold nth;simp only [List.getD_eq_getElem?_getD];rw [List.getElem?_set_ne h]
theorem qK {t:Ty} {l:List (D t)} {i:Nat} {x:D t} (h:i < l.length):nth t (l.set i x) i=x:=by
 unfold nth;simp only [List.getD_eq_getElem?_getD];rw [List.getElem?_set_self h];rfl
theorem yL (w:Ws) (p:Pt):(rB w p).length=w.length:=by simp [rB]
theorem Aj (w:Ws) (p:Pt) (i:Nat):nth fV (rB w p) i=if i < w.length/\p.1.toNat=i then (nth fV w i).set p.2.1.toNat p.2.2.1 else nth fV w i:=by
 unfold rB
 by_cases c:p.1.toNat=i
 ·subst c
  by_cases c2:p.1.toNat < w.length
  ·rw [if_pos ⟨c2,rfl⟩,qK (t:=fV) c2]
  ·rw [if_neg (fun h=>c2 h.1),List.set_eq_of_length_le (by omega)]
 ·rw [if_neg (fun h=>c h.2),qJ (t:=fV) c]
theorem OK (w:Ws) (p:Pt) (i:Nat):(nth fV (rB w p) i).length=(nth fV w i).length:=by
 rw [Aj];split <;> simp
theorem nP (l:List Pt):∀w:Ws,(gy w l).length=w.length:=by
 induction l with
 | nil=>intro w;rfl
 | cons p l ih=>intro w;show (gy (rB w p) l).length=_;rw [ih,yL]
theorem sq (l:List Pt):∀(w:Ws) (i:Nat),(nth fV (gy w l) i).length=(nth fV w i).length:=by
 induction l with
 | nil=>intro w i;rfl
 | cons p l ih=>intro w i;show (nth fV (gy (rB w p) l) i).length=_;rw [ih,OK]
theorem OL (w:Ws) (l:List Pt) (p:Pt):gy w (l++[p])=rB (gy w l) p:=by simp [gy]
theorem iV {t:Ty} {l:List (D t)} {k:Nat} (h:k < l.length):l.take (k + 1)=l.take k++[nth t l k]:=by
 rw [List.take_add_one,o4 h];rfl
theorem DJ {w:Ws} {l:List Pt} {k:Nat} (h:k < l.length):rB (gy w (l.take k)) (nth aH l k)=gy w (l.take (k + 1)):=by
 rw [iV (t:=aH) h,OL]
theorem tJ {w:Ws} {l:List Pt} (h:∀i,i < l.length->oH w (nth aH l i)):iY (w,l)=(gy w l, .nil):=by unfold iY;rw [if_pos h]
theorem GV {w:Ws} {l:List Pt} {i:Nat} (hi:i < l.length) (h:¬ oH w (nth aH l i)):iY (w,l)=([], .no 1):=by
 unfold iY;rw [if_neg (fun hh=>h (hh i hi))]
def kZ (r:List Int) (i:Nat):List Pt->List Int
 | []=>r
 | p :: l=>kZ (if p.1=(i:Int) then r.set p.2.1.toNat p.2.2.1 else r) i l
theorem wQ (i:Nat) (p:Pt):∀(l:List Pt) (r:List Int),kZ r i (l++[p])=if p.1=(i:Int) then (kZ r i l).set p.2.1.toNat p.2.2.1 else kZ r i l
 | [],_=>rfl
 | _ :: l,_=>wQ i p l _
theorem yM (i:Nat):∀(l:List Pt) (r:List Int),(kZ r i l).length=r.length
 | [],_=>rfl
 | _ :: l,_=>by rw [kZ,yM i l];split <;> simp
theorem OM {w:Ws} {i:Nat} (hi:i < w.length):∀{l:List Pt} (_:∀p∈l,0<=p.1),nth fV (gy w l) i=kZ (nth fV w i) i l:=by
 intro l
 induction l generalizing w with
 | nil=>intro _;rfl
 | cons p l ih=>
  intro h
  show nth fV (gy (rB w p) l) i=_
  rw [ih (by rw [yL];exact hi) (fun q hq=>h q (by simp [hq])),Aj,kZ]
  have hp:=h p (by simp)
  by_cases c:p.1=(i:Int)
  ·rw [if_pos ⟨hi,by omega⟩,if_pos c]
  ·rw [if_neg (fun h=>by omega),if_neg c]
theorem Rh {r:List Int} {i k:Nat} {p:List Pt} (h:k < p.length) (e:(nth aH p k).1=(i:Int)):(kZ r i (p.take k)).set (nth aH p k).2.1.toNat (nth aH p k).2.2.1=kZ r i (p.take (k + 1)):=by
 rw [iV (t:=aH) h,wQ,if_pos e]
theorem ON {r:List Int} {i k:Nat} {p:List Pt} (h:k < p.length) (e:¬ (nth aH p k).1=(i:Int)):kZ r i (p.take k)=kZ r i (p.take (k + 1)):=by
 rw [iV (t:=aH) h,wQ,if_neg e]
theorem Ri {w:Ws} {l:List Pt} {i:Nat} (hi:i < w.length) (h:∀j,j < l.length->oH w (nth aH l j)):nth fV (iY (w,l)).1 i=kZ (nth fV w i) i l:=by
 rw [tJ h]
 refine OM hi fun p hp => ?_
 obtain ⟨j,hj,rfl⟩:=kf (t:=aH) hp
 exact (h j hj).1
theorem Rj {w:Ws} {l:List Pt} (h:(iY (w,l)).2.isNil=true):∀i,i < l.length->oH w (nth aH l i):=by
 unfold iY at h
 split at h
 ·assumption
 ·cases h
theorem Rl {w:Ws} {l:List Pt} (h:(iY (w,l)).2.isNil=true):(iY (w,l)).1.length=w.length:=by rw [tJ (Rj h)];exact nP l w
end Go.Mrl

namespace Go.Mrl
open Go.Vg
def Small (x:Int):Prop:=-1000000<=x/\x<=1000000
def Word (x:Int):Prop:=-2147483648<=x/\x<=2147483647
def SY (o:D aA):Prop:=o.2.2.2.1.length<=10/\(∀i,i < o.2.2.1.length->Small (nth aN o.2.2.1 i).2.1)/\
 ∀i,i < o.2.2.2.1.length->Small (nth aO o.2.2.2.1 i).1/\Word (nth aO o.2.2.2.1 i).2.2.1
def ij (l:List (D aA)):Prop:=l.length<=8/\∀i,i < l.length->SY (nth aA l i)
def jL (b:List Int):Prop:=∀i,i < b.length->0<=(nth (.int .i64) b i:Int)/\(nth (.int .i64) b i:Int)<=256
def qk (b:List Int) (i:Nat):Int:=nth (.int .i64) b i
noncomputable def fP (l:List (D aA)) (b:List Int) (t:D aO):Int × bC:=
 if 0<=(dF (l,t.2.2.2.1)).1 then (qk b (dF (l,t.2.2.2.1)).1.toNat + (nth aN (nth aA l (dF (l,t.2.2.2.1)).1.toNat).2.2.1 (dF (l,t.2.2.2.1)).2.toNat).2.1, .nil)
 else if t.2.2.2.2.1=true then (0, .nil) else (0, .no 6)
def mo (b:List Int) (i:Int) (t:D aO) (n:Int):Int × bC:=
 if t.2.1=(3:Int) then
  if n - (qk b i.toNat + t.1) < -500\/500 < n - (qk b i.toNat + t.1) then (0, .no 7)
  else (n - (qk b i.toNat + t.1), .nil)
 else if n < -2147483648\/2147483647 < n then (0, .no 7) else (n, .nil)
noncomputable def fN (l:List (D aA)) (b:List Int) (i:Int) (t:D aO):Int × bC:=
 if t.2.1=(1:Int) then mo b i t (qk b i.toNat + t.2.2.1)
 else if (fP l b t).2.isNil=true then mo b i t ((fP l b t).1 + t.2.2.1) else (0,(fP l b t).2)
noncomputable def kO (l:List (D aA)) (b:List Int) (i:Nat):List (D aO)->List Pt->List Pt × bC
 | [],out=>(out, .nil)
 | t :: r,out=>if (fN l b i t).2.isNil=true then kO l b i r (out++[((i:Int),t.1,(fN l b i t).1,())]) else ([],(fN l b i t).2)
noncomputable def jB (f:List Pt->List Pt × bC) (x:List Pt × bC):List Pt × bC:=if x.2.isNil=true then f x.1 else ([],x.2)
noncomputable def kx (l:List (D aA)) (b:List Int):List (D aA)->Nat->List Pt->List Pt × bC
 | [],_,out=>(out, .nil)
 | o :: r,i,out=>jB (kx l b r (i + 1)) (kO l b i o.2.2.2.1 out)
open Classical in
noncomputable def dW (x:List (D aA) × List Int):List Pt × bC:=
 if ¬ x.2.length=x.1.length then ([], .no 3) else if jL x.2 then kx x.1 x.2 x.1 0 [] else ([], .no 1)
theorem gY {t:Ty} {l:List (D t)} {i:Nat} (h:i < l.length):l.drop i=nth t l i :: l.drop (i + 1):=by
 rw [List.drop_eq_getElem_cons h]
 congr 1
 have:=o4 h
 rw [List.getElem?_eq_getElem h] at this
 exact Option.some.inj this
theorem DK {l:List (D aA)} {b:List Int} {i:Nat} {out:List Pt} (h:i < l.length) :
  kx l b (l.drop i) i out=jB (kx l b (l.drop (i + 1)) (i + 1)) (kO l b i ((nth aA l i).2.2.2.1.drop 0) out):=by
 rw [gY (t:=aA) h];rfl
theorem K4 {l:List (D aA)} {b:List Int} {i:Nat} {out:List Pt} (h:l.length<=i):kx l b (l.drop i) i out=(out, .nil):=by
 rw [List.drop_eq_nil_of_le h];rfl
theorem tK {l:List (D aA)} {b:List Int} {i k:Nat} {ts:List (D aO)} {out:List Pt} (h:k < ts.length) (hn:(fN l b i (nth aO ts k)).2.isNil=true) :
  kO l b i (ts.drop k) out=kO l b i (ts.drop (k + 1)) (out++[((i:Int),(nth aO ts k).1,(fN l b i (nth aO ts k)).1,())]):=by
 rw [gY (t:=aO) h,kO,if_pos hn]
theorem pH {l:List (D aA)} {b:List Int} {i k:Nat} {ts:List (D aO)} {out:List Pt} {f:List Pt->List Pt × bC} (h:k < ts.length) (hn:(fN l b i (nth aO ts k)).2.isNil=false) :
  jB f (kO l b i (ts.drop k) out)=([],(fN l b i (nth aO ts k)).2):=by
 rw [gY (t:=aO) h,kO,if_neg (by simp [hn])]
 unfold jB
 rw [if_neg (by simp [hn])]
theorem K5 {l:List (D aA)} {b:List Int} {i k:Nat} {ts:List (D aO)} {out:List Pt} {f:List Pt->List Pt × bC} (h:ts.length<=k):jB f (kO l b i (ts.drop k) out)=f out:=by
 rw [List.drop_eq_nil_of_le h];rfl
theorem nk {l:List (D aA)} {b:List Int} (h:b.length=l.length) (hb:jL b):dW (l,b)=kx l b l 0 []:=by unfold dW;rw [if_neg (by simpa using h),if_pos hb]
theorem GW {l:List (D aA)} {b:List Int} (h:¬ b.length=l.length):dW (l,b)=([], .no 3):=by unfold dW;rw [if_pos h]
theorem DL {l:List (D aA)} {b:List Int} {i:Nat} (h:b.length=l.length) (hi:i < b.length) (hn:¬ (0<=(nth (.int .i64) b i:Int)/\(nth (.int .i64) b i:Int)<=256)):dW (l,b)=([], .no 1):=by
 unfold dW;rw [if_neg (by simpa using h),if_neg (fun hh=>hn (hh i hi))]
theorem lr {b:List Int} {n:Nat} {i:Int} (hb:jL b) (hl:b.length=n) (h0:0<=i) (h1:i < n):0<=(nth (.int .i64) b i.toNat:Int)/\(nth (.int .i64) b i.toNat:Int)<=256:=hb _ (by omega)
theorem Bx {l:List (D aA)} {s:List UInt8} (hm:ij l) (h:0<=(dF (l,s)).1):Small (nth aN (nth aA l (dF (l,s)).1.toNat).2.2.1 (dF (l,s)).2.toNat).2.1:=by
 have hf:=qZ h
 exact (hm.2 _ (by omega)).2.1 _ (by omega)
theorem nn {l:List (D aA)} {b:List Int} {t:D aO} (h:0<=(dF (l,t.2.2.2.1)).1) :
  fP l b t=(nth (.int .i64) b (dF (l,t.2.2.2.1)).1.toNat + (nth aN (nth aA l (dF (l,t.2.2.2.1)).1.toNat).2.2.1 (dF (l,t.2.2.2.1)).2.toNat).2.1, .nil):=by unfold fP qk;rw [if_pos h]
theorem mc {l:List (D aA)} {b:List Int} {t:D aO} (h:(dF (l,t.2.2.2.1)).1 < 0) (hw:t.2.2.2.2.1=true):fP l b t=(0, .nil):=by unfold fP;rw [if_neg (by omega),if_pos hw]
theorem rC {l:List (D aA)} {b:List Int} {t:D aO} (h:(dF (l,t.2.2.2.1)).1 < 0) (hw:t.2.2.2.2.1=false):fP l b t=(0, .no 6):=by unfold fP;rw [if_neg (by omega),if_neg (by simp [hw])]
theorem wR {l:List (D aA)} {b:List Int} (t:D aO) (hm:ij l) (hl:b.length=l.length) (hb:jL b) : -2000000<=(fP l b t).1/\(fP l b t).1<=2000000:=by
 by_cases h:0<=(dF (l,t.2.2.2.1)).1
 ·have h1:=lr hb hl h (qZ h).1
  have h2:=Bx hm h
  rw [nn h];unfold Small at h2;dsimp only [D] at *;omega
 ·cases hw:t.2.2.2.2.1 with
  | true=>rw [mc (by omega) hw];simp
  | false=>rw [rC (by omega) hw];simp
theorem uQ {l:List (D aA)} {b:List Int} {i:Int} {t:D aO} (h:t.2.1=(1:Int)):fN l b i t=mo b i t (nth (.int .i64) b i.toNat + t.2.2.1):=by unfold fN;rw [if_pos h];rfl
theorem kD {l:List (D aA)} {b:List Int} {i:Int} {t:D aO} (h:¬ t.2.1=(1:Int)) (hn:(fP l b t).2.isNil=true):fN l b i t=mo b i t ((fP l b t).1 + t.2.2.1):=by unfold fN;rw [if_neg h,if_pos hn]
theorem K6 {l:List (D aA)} {b:List Int} {i:Int} {t:D aO} (h:¬ t.2.1=(1:Int)) (hn:(fP l b t).2.isNil=false):fN l b i t=(0,(fP l b t).2):=by unfold fN;rw [if_neg h,if_neg (by simp [hn])]
theorem Ak {b:List Int} {i n:Int} {t:D aO} (h:t.2.1=(3:Int)) (hr:n - (nth (.int .i64) b i.toNat + t.1) < -500\/500 < n - (nth (.int .i64) b i.toNat + t.1)):mo b i t n=(0, .no 7):=by
 unfold mo qk;rw [if_pos h,if_pos hr]
theorem CT {b:List Int} {i n m:Int} {t:D aO} (h:t.2.1=(3:Int)) (e:m=n - (nth (.int .i64) b i.toNat + t.1)) (hr : -500<=m/\m<=500):mo b i t n=(m, .nil):=by
 unfold mo qk;rw [if_pos h,if_neg (by omega),e]
theorem rD {b:List Int} {i n:Int} {t:D aO} (h:¬ t.2.1=(3:Int)) (hr:n < -2147483648\/2147483647 < n):mo b i t n=(0, .no 7):=by
 unfold mo;rw [if_neg h,if_pos hr]
theorem tL {b:List Int} {i n m:Int} {t:D aO} (h:¬ t.2.1=(3:Int)) (e:m=n) (hr : -2147483648<=n/\n<=2147483647):mo b i t n=(m, .nil):=by
 unfold mo;rw [if_neg h,if_neg (by omega),e]
theorem me {out:List Pt} {i a m m':Int} (h:m=m'):out++[(i,a,m,())]=out++[(i,a,m',())]:=by rw [h]
def iZ (l:List (D aA)) (s:List UInt8) (pass i k:Nat):Prop:=
 (pass=0->tI (lq s) l i k)/\(pass=1->(∀i k,¬ gP (lq s) l i k)/\tI (vM s) l i k)/\(2<=pass->∀i k,¬ gP (vM s) l i k)
theorem iZ.start (l:List (D aA)) (s:List UInt8):iZ l s 0 0 0:=
 ⟨fun _ i' k' h=>by unfold ahead at h;omega,fun h=>by omega,fun h=>by omega⟩
theorem iZ.row {l:List (D aA)} {s:List UInt8} {pass i k:Nat} (h:iZ l s pass i k) (hk:(nth aA l i).2.2.1.length<=k):iZ l s pass (i + 1) 0:=
 ⟨fun e=>(h.1 e).row hk,fun e=>⟨(h.2.1 e).1,(h.2.1 e).2.row hk⟩,h.2.2⟩
theorem iZ.pass {l:List (D aA)} {s:List UInt8} {pass i k:Nat} (h:iZ l s pass i k) (hi:l.length<=i):iZ l s (pass + 1) 0 0:=by
 refine ⟨fun e=>by omega,fun e => ?_,fun e => ?_⟩
 ·obtain rfl:pass=0:=by omega
  exact ⟨(h.1 rfl).all hi,fun i' k' h=>by unfold ahead at h;omega⟩
 ·by_cases c:pass=1
  ·exact (h.2.1 c).2.all hi
  ·exact h.2.2 (by omega)
theorem iZ.next {l:List (D aA)} {s:List UInt8} {pass i k:Nat} (h:iZ l s pass i k) (hn:¬ ((nth aN (nth aA l i).2.2.1 k).1=s/\((nth aN (nth aA l i).2.2.1 k).2.2.1=true ↔ (pass:Int)=1))):iZ l s pass i (k + 1):=by
 refine ⟨fun e=>(h.1 e).next fun hp=>hn ⟨hp.2.2.1,?_⟩,fun e=>⟨(h.2.1 e).1,(h.2.1 e).2.next fun hp=>hn ⟨hp.2.2,?_⟩⟩,h.2.2⟩
 ·rw [hp.2.2.2];simp;omega
 ·subst e
  have:=(h.2.1 rfl).1 i k
  cases c:(nth aN (nth aA l i).2.2.1 k).2.2.1 with
  | true=>simp
  | false=>exact absurd ⟨hp.1,hp.2.1,hp.2.2,c⟩ this
theorem iZ.found {l:List (D aA)} {s:List UInt8} {pass i k:Nat} (h:iZ l s pass i k) (hp:pass < 2) (hi:i < l.length) (hk:k < (nth aA l i).2.2.1.length) (hs:(nth aN (nth aA l i).2.2.1 k).1=s)
  (hw:(nth aN (nth aA l i).2.2.1 k).2.2.1=true ↔ (pass:Int)=1):dF (l,s)=((i:Int),(k:Int)):=by
 by_cases c:pass=0
 ·subst c
  refine ry ⟨⟨hi,hk,hs,?_⟩,h.1 rfl⟩
  cases c:(nth aN (nth aA l i).2.2.1 k).2.2.1 with
  | true=>have:=hw.1 c;simp at this
  | false=>rfl
 ·have h1:=h.2.1 (by omega)
  exact uM h1.1 ⟨⟨hi,hk,hs⟩,h1.2⟩
theorem iZ.done {l:List (D aA)} {s:List UInt8} {pass i k:Nat} (h:iZ l s pass i k) (hp:¬ pass < 2):dF (l,s)=(-1,-1):=uN (h.2.2 (by omega))
theorem Mu {a b:List Pt} (hl:(a.length:Int)=b.length) (h:∀i,i < a.length->nth aH a i=nth aH b i):true=oa a b:=by
 have:a=b:=pX (t:=aH) (by omega) h
 simp [oa,this]
theorem Rm {a b:List Pt} {i:Nat} (h:¬ nth aH a i=nth aH b i):false=oa a b:=by
 have:¬ a=b:=fun e=>h (by rw [e])
 simp [oa,this]
theorem OO {a b:List Pt} (h:¬ (a.length:Int)=b.length):false=oa a b:=by
 have:¬ a=b:=fun e=>h (by rw [e])
 simp [oa,this]
def Told (e:bC):Prop:=cT e (hM e)=true
theorem DM (b:List Int) (i n:Int) (t:D aO):Told (mo b i t n).2:=by
 unfold mo;split <;> split <;> rfl
theorem Jr (l:List (D aA)) (b:List Int) (t:D aO):Told (fP l b t).2:=by
 unfold fP;split
 ·rfl
 ·split <;> rfl
theorem Rn (l:List (D aA)) (b:List Int) (i:Int) (t:D aO):Told (fN l b i t).2:=by
 unfold fN;split
 ·exact DM _ _ _ _
 ·split
  ·exact DM _ _ _ _
  ·exact Jr _ _ _
theorem GX (l:List (D aA)) (b:List Int) (i:Nat):∀(ts:List (D aO)) (out:List Pt),Told (kO l b i ts out).2
 | [],_=>rfl
 | t :: r,out=>by
  rw [kO];split
  ·exact GX l b i r _
  ·exact Rn _ _ _ _
theorem GY (l:List (D aA)) (b:List Int):∀(os:List (D aA)) (i:Nat) (out:List Pt),Told (kx l b os i out).2
 | [],_,_=>rfl
 | o :: r,i,out=>by
  rw [kx];unfold jB;split
  ·exact GY l b r _ _
  ·exact GX _ _ _ _ _
theorem Al (x:List (D aA) × List Int):cT (dW x).2 (hM (dW x).2)=true:=by
 unfold dW;split
 ·rfl
 ·split
  ·exact GY _ _ _ _ _
  ·rfl
end Go.Mrl

namespace Go.Mrl
open Go.Vg
abbrev aD:=List UInt8
def nA (a b:aD):Prop:=Op.bytesLess a b=true
theorem GZ (a:UInt8):¬ a < a:=fun h=>by have:=UInt8.lt_iff_toNat_lt.1 h;omega
theorem o8:∀a:aD,¬ nA a a
 | []=>fun h=>by cases h
 | a :: x=>fun h=>by
  unfold nA at h
  simp only [Op.bytesLess,Bool.or_eq_true,decide_eq_true_eq,Bool.and_eq_true] at h
  rcases h with h | ⟨_,h⟩
  ·exact GZ a h
  ·exact o8 x h
theorem wS:∀{a b c:aD},nA a b->nA b c->nA a c
 | a,[],_,h,_=>by unfold nA at h;cases a <;> simp [Op.bytesLess] at h
 | _,_ :: _,[],_,h=>by unfold nA at h;simp [Op.bytesLess] at h
 | [],_ :: _,_ :: _,_,_=>rfl
 | a :: x,b :: y,c :: z,h1,h2=>by
  unfold nA at h1 h2 ⊢
  simp only [Op.bytesLess,Bool.or_eq_true,decide_eq_true_eq,Bool.and_eq_true,beq_iff_eq] at h1 h2 ⊢
  rcases h1 with h1 | ⟨rfl,h1⟩
  ·rcases h2 with h2 | ⟨rfl,h2⟩
   ·left;rw [UInt8.lt_iff_toNat_lt] at *;omega
   ·exact .inl h1
  ·rcases h2 with h2 | ⟨rfl,h2⟩
   ·exact .inl h2
   ·exact .inr ⟨rfl,wS h1 h2⟩
theorem sr:∀{a b:aD},¬ nA a b->¬ nA b a->a=b
 | [],[],_,_=>rfl
 | [],_ :: _,h,_=>(h rfl).elim
 | _ :: _,[],_,h=>(h rfl).elim
 | a :: x,b :: y,h1,h2=>by
  unfold nA at h1 h2
  simp only [Op.bytesLess,Bool.or_eq_true,decide_eq_true_eq,Bool.and_eq_true,beq_iff_eq,not_or,not_and] at h1 h2
  have hab:a=b:=by
   apply UInt8.toNat_inj.1
   have h3:=h1.1;have h4:=h2.1
   rw [UInt8.lt_iff_toNat_lt] at h3 h4
   omega
  subst hab
  rw [sr (h1.2 rfl) (h2.2 rfl)]
def nQ (a b:aD):Prop:=¬ nA b a
theorem G0 (a:aD):nQ a a:=o8 a
theorem ql {a b:aD} (h:nA a b):nQ a b:=fun h'=>o8 a (wS h h')
theorem wT {a b c:aD} (h1:nQ a b) (h2:nQ b c):nQ a c:=by
 intro h
 by_cases hab:nA a b
 ·exact h2 (wS h hab)
 ·have:=sr hab h1;subst this;exact h2 h
theorem G1 {a b:aD} (h1:nQ a b) (h2:nQ b a):a=b:=sr h2 h1
theorem wU {a b:aD} (h1:nQ a b) (h2:a≠b):nA a b:=Classical.byContradiction fun h=>h2 (sr h h1)
theorem qv:∀{a b:List aD},a.Perm b->a.Pairwise nQ->b.Pairwise nQ->a=b
 | [],b,hp,_,_=>hp.nil_eq
 | x :: a,[],hp,_,_=>by have:=hp.length_eq;simp at this
 | x :: a,y :: b,hp,ha,hb=>by
  have ha':=List.pairwise_cons.1 ha
  have hb':=List.pairwise_cons.1 hb
  have hxy:x=y:=by
   have h1:x∈y :: b:=hp.mem_iff.1 (by simp)
   have h2:y∈x :: a:=hp.mem_iff.2 (by simp)
   rcases List.mem_cons.1 h1 with h1 | h1
   ·exact h1
   ·rcases List.mem_cons.1 h2 with h2 | h2
    ·exact h2.symm
    ·exact G1 (ha'.1 y h2) (hb'.1 x h1)
  subst hxy
  rw [qv (List.perm_cons x |>.1 hp) ha'.2 hb'.2]
def Am (x:aD):List aD->List aD
 | []=>[x]
 | y :: r=>if Op.bytesLess y x=true then y :: Am x r else x :: y :: r
def lk (l:List aD):List aD:=l.foldr Am []
theorem wV (x:aD):∀l:List aD,(Am x l).Perm (x :: l)
 | [] => .refl _
 | y :: r=>by
  unfold Am
  split
  ·exact ((wV x r).cons y).trans (List.Perm.swap x y r)
  ·exact .refl _
theorem yN (x:aD):∀{l:List aD},l.Pairwise nQ->(Am x l).Pairwise nQ
 | [],_=>by simp [Am]
 | y :: r,h=>by
  have h':=List.pairwise_cons.1 h
  unfold Am
  split
  ·rename_i c
   refine List.pairwise_cons.2 ⟨fun z hz => ?_,yN x h'.2⟩
   rcases List.mem_cons.1 ((wV x r).mem_iff.1 hz) with rfl | hz
   ·exact ql c
   ·exact h'.1 z hz
  ·rename_i c
   have hxy:nQ x y:=c
   refine List.pairwise_cons.2 ⟨fun z hz => ?_,h⟩
   rcases List.mem_cons.1 hz with rfl | hz
   ·exact hxy
   ·exact wT hxy (h'.1 z hz)
theorem qL:∀l:List aD,(lk l).Perm l
 | [] => .refl _
 | x :: l=>(wV x _).trans ((qL l).cons x)
theorem o9:∀l:List aD,(lk l).Pairwise nQ
 | [] => .nil
 | x :: l=>yN x (o9 l)
theorem G2 {a b:List aD} (hp:a.Perm b) (hs:a.Pairwise nQ):lk b=a:=qv ((qL b).trans hp.symm) (o9 b) hs
theorem Fx {a b:List aD} (hp:a.Perm b):lk a=lk b:=qv ((qL a).trans (hp.trans (qL b).symm)) (o9 a) (o9 b)
def ss (l:List aD) (j:Nat):List aD:=(l.set j (nth .str l (j - 1))).set (j - 1) (nth .str l j)
theorem G3 (l:List aD) (j:Nat):(ss l j).length=l.length:=by simp [ss]
theorem Mv {l:List aD} {j:Nat} (h0:0 < j) (h:j < l.length):(ss l j).Perm l:=by
 have e1:nth .str l (j - 1)=l[j - 1]:=fO (t:=.str) (List.getElem?_eq_getElem (by omega))
 have e2:nth .str l j=l[j]:=fO (t:=.str) (List.getElem?_eq_getElem h)
 unfold ss
 rw [e1,e2]
 exact List.set_set_perm h (by omega)
theorem DN {l:List aD} {j k:Nat} (h0:0 < j) (h:j < l.length):nth .str (ss l j) k=if k=j then nth .str l (j - 1) else if k=j - 1 then nth .str l j else nth .str l k:=by
 unfold ss
 by_cases c:k=j - 1
 ·subst c
  rw [qK (t:=.str) (by simp;omega),if_neg (by omega),if_pos rfl]
 ·rw [qJ (t:=.str) (fun e=>c e.symm)]
  by_cases c2:k=j
  ·subst c2;rw [qK (t:=.str) h,if_pos rfl]
  ·rw [qJ (t:=.str) (fun e=>c2 e.symm),if_neg c2,if_neg c]
def wW (l:List aD) (i:Nat):Prop:=∀a b,a < b->b < i->nQ (nth .str l a) (nth .str l b)
def vN (l:List aD) (i j:Nat):Prop:=∀a b,a < b->b<=i->b≠j->nQ (nth .str l a) (nth .str l b)
theorem vN.start {l:List aD} {i:Nat} (h:wW l i):vN l i i:=fun a b h1 h2 h3=>h a b h1 (by omega)
theorem vN.swap {l:List aD} {i j:Nat} (h:vN l i j) (h0:0 < j) (hj:j < l.length) (hi:j<=i) (hlt:nA (nth .str l j) (nth .str l (j - 1))):vN (ss l j) i (j - 1):=by
 intro a b h1 h2 h3
 rw [DN h0 hj,DN h0 hj]
 by_cases cb:b=j
 ·subst cb
  rw [if_pos rfl,if_neg (by omega)]
  by_cases ca:a=b - 1
  ·rw [if_pos ca];exact ql hlt
  ·rw [if_neg ca];exact h a (b - 1) (by omega) (by omega) (by omega)
 ·rw [if_neg cb,if_neg h3]
  by_cases ca:a=j
  ·subst ca;rw [if_pos rfl];exact h (a - 1) b (by omega) h2 cb
  ·rw [if_neg ca]
   by_cases ca2:a=j - 1
   ·rw [if_pos ca2];exact h j b (by omega) h2 cb
   ·rw [if_neg ca2];exact h a b h1 h2 cb
theorem vN.done {l:List aD} {i j:Nat} (h:vN l i j) (hj:j=0\/¬ nA (nth .str l j) (nth .str l (j - 1))) (hi:j<=i):wW l (i + 1):=by
 intro a b h1 h2
 by_cases c:b=j
 ·subst c
  rcases hj with hj | hj
  ·omega
  ·by_cases ca:a=b - 1
   ·rw [ca];exact hj
   ·exact wT (h a (b - 1) (by omega) (by omega) (by omega)) hj
 ·exact h a b h1 (by omega) c
theorem Js {l:List aD} (h:wW l l.length):l.Pairwise nQ:=by
 rw [List.pairwise_iff_getElem]
 intro i j hi hj hij
 have:=h i j hij hj
 rwa [show nth .str l i=l[i] from fO (t:=.str) (List.getElem?_eq_getElem hi),show nth .str l j=l[j] from fO (t:=.str) (List.getElem?_eq_getElem hj)] at this
theorem OP {l xs:List aD} (hp:l.Perm xs) (h:wW l l.length):l=lk xs:=(G2 hp (Js h)).symm
end Go.Mrl

namespace Go.Mrl
open Go.Vg
end Go.Mrl

namespace Go.Mrl
open Go.Vg
theorem CU {a:Int} (h0:0<=a) (h:a < 18446744073709551616):IntKind.u64.wrap a=a:=
 py (by simp [IntKind.min,IntKind.max,IntKind.signed,IntKind.bits];omega)
theorem bJ {n:Int}:(aT n).isNil=true ↔ n=0:=by
 unfold aT;split
 ·rename_i h;simp [h,bC.isNil]
 ·rename_i h;simp [h,bC.isNil]
theorem tM {a:Int} (h0 : -9223372036854775808<=a) (h:a < 9223372036854775808):IntKind.i64.wrap a=a:=
 py (by rw [qV];unfold aE;omega)
end Go.Mrl
namespace Go.Mrl
open Go.Vg
def nR (e:D aI):Prop:=e.1.length<=20/\e.2.1.length<=8/\e.2.2.1.length<=40/\∀i,i < e.2.1.length->(nth aF e.2.1 i).1.length<=20
def wX (a:D bV):Prop:=a.2.1.length<=100/\a.2.2.1.length<=1300/\nR a.2.2.2.2.2.1
def oI (l:List (D bV)) (m:Int):Prop:=(l.length:Int)<=m/\∀i,i < l.length->wX (nth bV l i)
end Go.Mrl

