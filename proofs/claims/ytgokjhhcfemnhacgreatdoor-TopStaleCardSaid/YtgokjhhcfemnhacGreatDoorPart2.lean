/- A part of the proof that the law TopStaleCard holds of the given program: facts that are used there. -/
import Derived.Test.YtgokjhhcfemnhacGreatDoorPart1
import Derived.Deep.LoopGhost
import Derived.ProofKit
import Derived.KernelRfl
import Derived.Deep.Heap
import Derived.Room.AppendFits
import Derived.Lib.UnsafeStr
set_option linter.unusedSimpArgs false
set_option linter.unusedVariables false
namespace Go.Vg
open Go.RowKit
def gO:List Cl->Bool
 | []=>true
 | .d t :: r=>t.flat && gO r
 | _ :: r=>gO r
def eG:List Ob->Bool
 | []=>true
 | .box _ cls :: r=>gO cls && eG r
 | .row _ t :: r=>t.flat && eG r
 | .tok t :: r=>t.flat && eG r
 | .ext _ _ :: r=>eG r
def oX:List Ob->Bool
 | []=>true
 | .tok _ :: _=>false
 | _ :: r=>oX r
section
variable {eT:TypeId} {X:Ext}
theorem VR.to {t:Ty} {x:D t} {S S':bD} {v:Value} (hw:S'.w=S.w) (hA:t.flat=true\/∀b o,S'.A b o->S.A b o) (h:VR eT t x S.A S.w v):VR eT t x S'.A S'.w v:=by
 rcases hA with hA | hA
 ·exact VR.of_flat hA h
 ·rw [hw];exact VR.wP h fun b o k h'=>k (hA b o h')
def Laid (eT:TypeId) (S:bD):(os:List Ob)->PD os->List Nat->List Loc->Prop
 | [],_,ns,ls=>ns = []/\ls = []
 | o :: r,x,n :: ns,l :: ls=>(S.loc n=l/\n < S.next/\(match o,x.1 with
  | .box _ _,_=>∃b,l.v = .pointer (some ⟨b,0,none⟩)
  | .tok t,y=>VR eT (.slice t) y S.A S.w l.v/\∀ys,S.ob n=some (.tok t ys)->ys=y
  | .row _ _,_=>∃a k c,l.v = .slice a k c
  | .ext 0 _,_=>∃v,∃hs:List Value,l.v = .tuple (v :: hs).toArray
  | .ext (_ + 1) _,_=>rN l.v=l.v))/\Laid eT S r x.2 ns ls
 | _,_,_,_=>False
theorem vC {S:bD}:∀{os:List Ob} {x:PD os} {ns:List Nat} {ls:List Loc} {k:Nat} {v:Value},Laid eT S os x ns ls->wQ ls k v->CR eT S (fL os x ns k) v:=by
 intro os
 induction os with
 | nil=>intro x ns ls k v h hr;exact trivial
 | cons o r ih=>
  intro x ns ls k v h hr
  match ns,ls,h with
  | n :: ns,l :: ls,⟨⟨h1,h2,h3⟩,h4⟩=>
   obtain ⟨l0,hl,hv⟩:=hr
   cases k with
   | succ k=>exact ih h4 ⟨l0,by simpa using hl,hv⟩
   | zero=>
    simp at hl
    subst hl
    subst hv
    show CR eT S (Kb o x.1 n) _
    cases o with
    | box T cls=>
     obtain ⟨b,hb⟩:=h3
     rw [hb]
     exact ⟨h2,fun T cs _=>⟨b,by rw [h1];exact hb,rfl⟩⟩
    | row kp t=>
     obtain ⟨a,k,c,hb⟩:=h3
     rw [hb]
     exact ⟨h2,fun t xs _=>by rw [h1,hb];rfl⟩
    | tok t=>
     obtain ⟨a,c,hb,_⟩:=pN h3.1
     rw [show rN l.v=l.v by rw [hb];rfl]
     exact ⟨h3.1,h2,fun ys hy=>by rw [h3.2 ys hy];exact ⟨Nat.le_refl _,fun _=>by rw [h1]⟩⟩
    | ext k t=>
     cases k with
     | zero=>
      obtain ⟨v,hs,hb⟩:=h3
      rw [hb]
      exact ⟨h2,fun t x _=>⟨hs,by rw [h1,hb];rfl⟩⟩
     | succ k=>
      rw [show rN l.v=l.v from h3]
      exact ⟨h2,fun oc _ _=>by rw [h1]⟩
theorem HH {S S':bD} {F:Nat->Value->Prop} {f:Nat->C} (hw:S'.w=S.w) (hF:∀k v,F k v->CR eT S' (f k) v):∀{cls:List Cl} {x:CD cls} {vs:List Value},
  (gO cls=true\/∀b o,S'.A b o->S.A b o)->px eT S F cls x vs->(∀v∈vs,v.oneCell'=true)->cY eT S' (Ad f cls x) vs:=by
 intro cls
 induction cls with
 | nil=>intro x vs _ h _;rw [show vs = [] from h];exact .nil
 | cons cl r ih=>
  intro x vs hA h h1
  cases vs with
  | nil=>cases cl <;> exact h.elim
  | cons v vs=>
   have hr:gO r=true\/∀b o,S'.A b o->S.A b o:=by
    rcases hA with hA | hA
    ·left;cases cl <;> simp [gO] at hA <;> first | exact hA.2 | exact hA
    ·exact .inr hA
   cases cl with
   | d t=>
    refine .cons (VR.to hw ?_ h.1) (h1 v (by simp)) (ih hr h.2 fun u hu=>h1 u (by simp [hu]))
    rcases hA with hA | hA
    ·left;simp [gO] at hA;exact hA.1
    ·exact .inr hA
   | obj k=>exact .cons (hF k v h.1) (h1 v (by simp)) (ih hr h.2 fun u hu=>h1 u (by simp [hu]))
   | fF=>exact .cons h.1 (h1 v (by simp)) (ih hr h.2 fun u hu=>h1 u (by simp [hu]))
theorem Ag {S S':bD} {F:Nat->Value->Prop} {f:Nat->C} (hw:S'.w=S.w) (hF:∀k v,F k v->CR eT S' (f k) v):∀{cls:List Cl} {x:CD cls} {vs:List Value},
  (gO cls=true\/∀b o,S'.A b o->S.A b o)->px eT S F cls x vs->cN eT S' (uy f cls x) vs:=by
 intro cls
 induction cls with
 | nil=>intro x vs _ h;rw [show vs = [] from h];exact .nil
 | cons cl r ih=>
  intro x vs hA h
  cases vs with
  | nil=>cases cl <;> exact h.elim
  | cons v vs=>
   have hr:gO r=true\/∀b o,S'.A b o->S.A b o:=by
    rcases hA with hA | hA
    ·left;cases cl <;> simp [gO] at hA <;> first | exact hA.2 | exact hA
    ·exact .inr hA
   cases cl with
   | d t=>
    refine .cons (show VR eT t x.1 S'.A S'.w v from VR.to hw ?_ h.1) (ih hr h.2)
    rcases hA with hA | hA
    ·left;simp [gO] at hA;exact hA.1
    ·exact .inr hA
   | obj k=>exact .cons (hF k v h.1) (ih hr h.2)
   | fF=>exact .cons h.1 (ih hr h.2)
theorem jt.to {S S':bD} {t:Ty} {xs:List (D t)} {vs:Array Value} (hw:S'.w=S.w) (hA:t.flat=true\/∀b o,S'.A b o->S.A b o) (h:jt eT S t xs vs):jt eT S' t xs vs:=by
 intro i y hy
 obtain ⟨us,h1,h2⟩:=h i y hy
 refine ⟨us,?_,h2⟩
 rcases hA with hA | hA
 ·exact h1.of_flat hA
 ·rw [hw];exact h1.frame fun b o v k h'=>⟨h',fun h''=>k (hA b o h'')⟩
theorem Ah.to {S S':bD} {t:Ty} {xs:List (D t)} {l:Loc} (hw:S'.w=S.w) (hA:t.flat=true\/∀b o,S'.A b o->S.A b o) (h:OR eT X S l (.aX t xs)):OR eT X S' l (.aX t xs):=by
 rcases h with h | ⟨b,vs,T,cap,h1,h2,h3,h4,h5,h6,h7⟩
 ·exact .inl h
 ·exact .inr ⟨b,vs,T,cap,h1,h2,by rw [hw];exact h3,h4,h5,h6,h7.to hw hA⟩
def ov (o:Ob):Bool:=eG [o]
theorem Kd {S S':bD} {F:Nat->Value->Prop} {f:Nat->C} (hw:S'.w=S.w) (hF:∀k v,F k v->CR eT S' (f k) v) {o:Ob} {x:OD o} {l:Loc}
  (hA:ov o=true\/∀b o,S'.A b o->S.A b o) (h:FO eT X S F o x l):OR eT X S' l (ou f o x):=by
 cases o with
 | box T cls=>
  obtain ⟨b,vs,h1,h2,h3,h4,h5⟩:=h
  refine ⟨b,vs,h1,h2,by rw [hw];exact h3,HH hw hF ?_ h4 h5⟩
  rcases hA with hA | hA
  ·left;simpa [ov,eG] using hA
  ·exact .inr hA
 | row kp t=>
  refine Ah.to hw ?_ h
  rcases hA with hA | hA
  ·left;simpa [ov,eG] using hA
  ·exact .inr hA
 | tok t=>
  refine Ah.to (X:=X) (l:=l) hw ?_ h
  rcases hA with hA | hA
  ·left;simpa [ov,eG] using hA
  ·exact .inr hA
 | ext k t=>show X.rel _ _ _ _ _;rw [hw];exact h
theorem HI {S:bD} {t:Ty} {xs:List (D t)} {l:Loc} (h:OR eT X S l (.tok t xs)) (hA:∀b∈l.bs,∀off,off < xs.length * t.size->¬ S.A b off):VR eT (.slice t) xs S.A S.w l.v:=by
 rcases h with ⟨rfl,⟨a,ha⟩,_⟩ | ⟨b,vs,T,cap,h1,h2,h3,h4,h5,h6,he⟩
 ·exact VR.bY rfl ⟨_,rfl,by simp, .inl ⟨rfl,a,0,ha⟩⟩
 ·refine VR.bY rfl ⟨_,rfl,h6, .inr ⟨b,0,cap,h1,h5,fun i y hy => ?_⟩⟩
  obtain ⟨us,r1,r2⟩:=he i y hy
  refine ⟨us,r1,fun j u hj=>⟨?_,?_⟩⟩
  ·rw [Nat.zero_add,cell_of_row S.w b _ vs T (0,0) h3];exact r2 j u hj
  ·rw [Nat.zero_add]
   refine hA b (by rw [h2];simp) _ ?_
   have hi:=aY hy
   have hjl:=aY hj
   rw [r1.length] at hjl
   have:(i + 1) * t.size<=xs.length * t.size:=Nat.mul_le_mul_right _ hi
   rw [Nat.add_mul] at this
   omega
def dQ:List Nat->List Loc->(Nat->Loc)->Nat->Loc
 | n :: ns,l :: ls,d,m=>if n=m then l else dQ ns ls d m
 | _,_,d,m=>d m
theorem lR:∀{ns:List Nat} {ls:List Loc} {d:Nat->Loc} {m:Nat},m∉ns->dQ ns ls d m=d m
 | [],_,_,_,_=>by cases ‹List Loc› <;> rfl
 | n :: ns,[],_,_,_=>rfl
 | n :: ns,l :: ls,d,m,h=>by
  simp only [List.mem_cons,not_or] at h
  simp only [dQ]
  rw [if_neg (fun e=>h.1 e.symm)]
  exact lR h.2
theorem uA {n:Nat} {l:List Nat}:lI n l=true ↔ n∈l:=by
 refine ⟨qC,fun h => ?_⟩
 induction l with
 | nil=>simp at h
 | cons m r ih=>
  simp only [lI]
  split
  ·rfl
  ·rename_i hb
   rcases List.mem_cons.1 h with h | h
   ·subst h;rw [Nat.beq_refl] at hb;cases hb
   ·exact ih h
theorem kX {n:Nat} {r:List Nat} (h:nodupB (n :: r)=true):n∉r/\nodupB r=true:=by
 simp only [nodupB,Bool.and_eq_true,Bool.not_eq_true'] at h
 exact ⟨fun hm=>by rw [uA.2 hm] at h;exact absurd h.1 (by decide),h.2⟩
theorem jm:∀{ns:List Nat} {ls:List Loc} {d:Nat->Loc} {i n:Nat} {l:Loc},nodupB ns=true->ns[i]?=some n->ls[i]?=some l->dQ ns ls d n=l
 | [],_,_,_,_,_,_,h,_=>by simp at h
 | n :: ns,[],_,_,_,_,_,_,h=>by simp at h
 | n :: ns,l :: ls,d,0,m,k,_,h1,h2=>by simp at h1 h2;subst h1;subst h2;simp [dQ]
 | n :: ns,l :: ls,d,i + 1,m,k,hn,h1,h2=>by
  obtain ⟨hm,hn⟩:=kX hn
  simp at h1 h2
  simp only [dQ]
  rw [if_neg (fun e=>hm (by rw [e];exact List.mem_of_getElem? h1))]
  exact jm hn h1 h2
theorem nQ {cv:Bool} {aC:List (Nat × OC)} {aN:List Ob} {ν:List Nat} {f:Nat->C} {S:bD} {F:Nat->Value->Prop} {loc:Nat->Loc}:∀{os:List Ob} {x:PD os} {ns ms:List Nat} {m:Nat} {oc:OC},dB cv aC aN ν os ns=some x->DX eT X S F os x (ns.map loc)->ns.length=ms.length->
  look (jz f os x ms) m=some oc->∃(i n:Nat) (o:Ob) (y:OD o) (oc0:OC),ns[i]?=some n/\ms[i]?=some m/\os[i]?=some o/\look aC n=some oc0/\ij cv aC aN ν o oc0=some y/\oc=ou f o y/\FO eT X S F o y (loc n):=by
 intro os
 induction os with
 | nil=>intro x ns ms m oc _ _ _ h;simp [jz,look] at h
 | cons o r ih=>
  intro x ns ms m oc hg hR hl h
  cases ns with
  | nil=>simp [dB] at hg
  | cons n ns=>
   cases ms with
   | nil=>simp at hl
   | cons k ms=>
    simp only [dB] at hg
    split at hg
    case h_2=>cases hg
    rename_i oc0 hob
    split at hg
    case h_2=>cases hg
    rename_i x0 y0 h1 h2
    cases hg
    simp only [jz,bS] at h
    split at h
    ·rename_i e
     cases h
     exact ⟨0,n,o,x0,oc0,rfl,by simp [e],rfl,hob,h1,rfl,hR.1⟩
    ·obtain ⟨i,n',o',y',oc',k1,k2,k3,k4⟩:=ih h2 hR.2 (by simpa using hl) h
     exact ⟨i + 1,n',o',y',oc',by simpa using k1,by simpa using k2,by simpa using k3,k4⟩
theorem wS {cv:Bool} {aC:List (Nat × OC)} {aN:List Ob} {ν:List Nat} {f:Nat->C} {o:Ob} {y:OD o} {oc:OC} (h:ij cv aC aN ν o oc=some y):(ou f o y).lo=oc.lo\/cv=true:=by
 cases o <;> cases oc <;> simp only [ij,reduceCtorEq] at h
 ·exact .inl rfl
 ·exact .inl rfl
 ·split at h
  ·exact .inr rfl
  ·cases h
 ·obtain ⟨e,h3⟩:=lM h
  subst e;simp only at h3;subst h3;exact .inl rfl
 ·exact .inl rfl
theorem nx {cv:Bool} {aC:List (Nat × OC)} {aN:List Ob} {ν:List Nat} {o:Ob} {y:OD o} {oc:OC} (h:ij cv aC aN ν o oc=some y) (f:Nat->C):(∀T cls,o = .box T cls->∃cs,oc = .cells T cs)/\
  (∀k t,o = .ext k t->∃x,oc = .ext k t x)/\(∀k t,o = .row k t->cv=false->∃xs,oc = .aX t xs)/\((∀t,o≠.tok t)->cv=false->∀t xs,oc≠.tok t xs):=by
 refine ⟨fun T cls e => ?_,fun k t e => ?_,fun k t e e2 => ?_,fun h1 h2 t xs e => ?_⟩
 ·subst e
  cases oc <;> simp only [ij,reduceCtorEq] at h
  split at h
  ·rename_i hT;rw [Nat.eq_of_beq_eq_true hT];exact ⟨_,rfl⟩
  ·cases h
 ·subst e
  cases oc <;> simp only [ij,reduceCtorEq] at h
  split at h
  ·rename_i hT
   obtain ⟨e,_⟩:=Af h
   subst e
   rw [Nat.eq_of_beq_eq_true hT];exact ⟨_,rfl⟩
  ·cases h
 ·subst e;subst e2
  cases oc <;> simp only [ij,reduceCtorEq] at h
  ·obtain ⟨e,_⟩:=lM h
   subst e
   exact ⟨_,rfl⟩
 ·subst e;subst h2
  cases o <;> simp only [ij,reduceCtorEq] at h
  exact h1 _ rfl
theorem nR {cv:Bool} {aC:List (Nat × OC)} {aN:List Ob} {ν:List Nat}:∀{os:List Ob} {ns:List Nat} {x:PD os},dB cv aC aN ν os ns=some x->os.length=ns.length:=by
 intro os
 induction os with
 | nil=>intro ns x h;cases ns with | nil=>rfl | cons=>simp [dB] at h
 | cons o r ih=>
  intro ns x h
  cases ns with
  | nil=>simp [dB] at h
  | cons n ns=>
   simp only [dB] at h
   split at h
   case h_2=>cases h
   split at h
   case h_2=>cases h
   rename_i h2
   simp [ih h2]
theorem nz {f:Nat->C}:∀{os:List Ob} {x:PD os} {ms:List Nat} {m:Nat},os.length=ms.length->m∈ms->∃oc,look (jz f os x ms) m=some oc:=by
 intro os
 induction os with
 | nil=>intro x ms m h hm;cases ms with | nil=>simp at hm | cons=>simp at h
 | cons o r ih=>
  intro x ms m h hm
  cases ms with
  | nil=>simp at h
  | cons k ms=>
   simp only [jz,bS]
   by_cases e:k=m
   ·exact ⟨_,by rw [if_pos e]⟩
   ·rw [if_neg e]
    rcases List.mem_cons.1 hm with hm | hm
    ·exact (e hm.symm).elim
    ·exact ih (by simpa using h) hm
theorem nA:∀{l:List Nat} {i j n:Nat},nodupB l=true->l[i]?=some n->l[j]?=some n->i=j
 | [],_,_,_,_,h,_=>by simp at h
 | m :: r,0,0,_,_,_,_=>rfl
 | m :: r,0,j + 1,n,hn,h1,h2=>by
  simp at h1 h2;subst h1
  exact ((kX hn).1 (List.mem_of_getElem? h2)).elim
 | m :: r,i + 1,0,n,hn,h1,h2=>by
  simp at h1 h2;subst h2
  exact ((kX hn).1 (List.mem_of_getElem? h1)).elim
 | m :: r,i + 1,j + 1,n,hn,h1,h2=>by
  simp at h1 h2
  rw [nA (kX hn).2 h1 h2]
theorem rO {a:Ob} {r:List Ob} (h:eG (a :: r)=true):ov a=true/\eG r=true:=by
 cases a <;> simp [eG,ov] at h ⊢ <;> exact h
theorem tC:∀{l:List Ob} {i:Nat} {o:Ob},eG l=true->l[i]?=some o->ov o=true
 | [],_,_,_,h=>by simp at h
 | a :: r,0,o,hfl,h=>by simp at h;subst h;exact (rO hfl).1
 | a :: r,i + 1,o,hfl,h=>tC (rO hfl).2 (by simpa using h)
theorem Ji {S S2:bD} {F:Nat->Value->Prop} {f:Nat->C} {loc:Nat->Loc} (hNA:∀m t ys,S2.ob m=some (.tok t ys)->∀b∈(S2.loc m).bs,∀off,off < ys.length * t.size->¬ S2.A b off) (hw:S2.w=S.w) :
  ∀{os:List Ob} {x:PD os} {ns ms:List Nat},(eG os=true\/∀b o,S2.A b o->S.A b o)->DX eT X S F os x (ns.map loc)->nodupB ms=true->ns.length=ms.length->(∀n∈ms,S2.ob n=look (jz f os x ms) n)->
   (∀(i n m:Nat),ns[i]?=some n->ms[i]?=some m->S2.loc m=loc n/\m < S2.next)->Laid eT S2 os x ms (ns.map loc):=by
 intro os
 induction os with
 | nil=>
  intro x ns ms _ h _ hl _ _
  have h:ns.map loc = []:=h
  cases ns with
  | nil=>cases ms with
   | nil=>exact ⟨rfl,rfl⟩
   | cons=>simp at hl
  | cons=>simp at h
 | cons o r ih=>
  intro x ns ms hA h hnd hl hob hloc
  cases ns with
  | nil=>exact h.elim
  | cons n ns=>
   cases ms with
   | nil=>simp at hl
   | cons m ms=>
    obtain ⟨hm,hnd'⟩:=kX hnd
    obtain ⟨h1,h2⟩:=hloc 0 n m rfl rfl
    have hA':eG r=true\/∀b o,S2.A b o->S.A b o:=by
     rcases hA with hA | hA
     ·left;cases o <;> simp [eG] at hA <;> first | exact hA.2 | exact hA
     ·exact .inr hA
    refine ⟨⟨h1,h2,?_⟩,ih hA' h.2 hnd' (by simpa using hl) (fun k hk => ?_) (fun i a b ha hb=>hloc (i + 1) a b (by simpa using ha) (by simpa using hb))⟩
    ·cases o with
     | box T cls=>obtain ⟨b,vs,k1,_⟩:=h.1;exact ⟨b,k1⟩
     | row kp t=>rcases h.1 with ⟨_,⟨a,ha⟩,_⟩ | ⟨b,vs,T,cap,ha,_⟩ <;> exact ⟨_,_,_,ha⟩
     | tok t=>
      have hobm:S2.ob m=some (.tok t x.1):=by rw [hob m (by simp)];simp [jz,bS,ou]
      refine ⟨?_,fun ys hy=>by rw [hobm] at hy;cases hy;rfl⟩
      refine HI (X:=X) (Ah.to (X:=X) (l:=loc n) hw ?_ h.1) fun b hb off ho=>hNA m t x.1 hobm b (by rw [h1];exact hb) off ho
      rcases hA with hA | hA
      ·left;simp [eG] at hA;exact hA.1
      ·exact .inr hA
     | ext k t=>
      cases k with
      | zero=>
       have hd:=X.deep.1 h.1
       obtain ⟨e,s,rfl,_⟩:=oN hd
       obtain ⟨_,_,v,hs,hv,_⟩:=hd
       exact ⟨v,hs,hv⟩
      | succ k=>
       show rN (loc n).v=(loc n).v
       cases k with
       | zero=>obtain ⟨e,_,b,es,dJ,hm⟩:=X.map.1 h.1;rw [hm.lv];rfl
       | succ k=>obtain ⟨a,ha⟩:=X.ptr (by omega) h.1;rw [ha];rfl
    ·rw [hob k (by simp [hk])]
     simp only [jz,bS]
     rw [if_neg (fun e=>hm (by rw [e];exact hk))]
theorem DZ {cv:Bool} {aN:List Ob} {ν:List Nat} {x:PD aN} {O:aD} {st:St} {loc:Nat->Loc} {w:World} (g:Good eT X (aB O st loc w)) (hx:dB cv st.aC aN ν aN ν=some x)
  (hp:∀p∈gM aN x st.aC aN ν,p) (hnd:nodupB ν=true)
  {O2:aD} {ν2:List Nat} {rest:List (Nat × OC)} {locR:Nat->Loc} {st2:St} (hnd2:nodupB ν2=true) (hlen:ν.length=ν2.length)
  (hobjs:st2.aC=jz (fL aN x ν2) aN x ν2++rest) (hlt:∀n∈ν2,n < st2.next)
  (hO2:∀n∈ν,∀b∈(loc n).bs,∀off,¬ O2 b off)
  (hD:∀n∈ν,∀b∈(loc n).bs,∀m oc,look rest m=some oc->m∉ν2->b∉(locR m).bs)
  (hR:∀m oc,look rest m=some oc->m∉ν2->m < st2.next/\OR eT X (aB O2 st2 (dQ ν2 (ν.map loc) locR) w) (locR m) oc)
  (hR2:∀m m' oc oc' b,look rest m=some oc->look rest m'=some oc'->m∉ν2->m'∉ν2->b∈(locR m).bs->b∈(locR m').bs->m=m')
  (hR3:∀m oc b off,look rest m=some oc->m∉ν2->b∈(locR m).bs->¬ O2 b off)
  (hA:eG aN=true\/∀b o,(aB O2 st2 (dQ ν2 (ν.map loc) locR) w).A b o->(aB O st loc w).A b o)
  (hGl:∀b∈X.CL,¬ (aB O2 st2 (dQ ν2 (ν.map loc) locR) w).mE b) :
  Good eT X (aB O2 st2 (dQ ν2 (ν.map loc) locR) w)/\Laid eT (aB O2 st2 (dQ ν2 (ν.map loc) locR) w) aN x ν2 (ν.map loc):=by
 have hobs:=nP (X:=X) g hx hx hp
 have hol:=nR hx
 generalize hf:fL aN x ν2=f at hobjs
 have hob:∀m oc,(aB O2 st2 (dQ ν2 (ν.map loc) locR) w).ob m=some oc->
   (∃(i n:Nat) (o:Ob) (y:OD o) (oc0:OC),ν[i]?=some n/\ν2[i]?=some m/\look st.aC n=some oc0/\ij cv st.aC aN ν o oc0=some y/\oc=ou f o y/\FO eT X (aB O st loc w) (wQ (ν.map loc)) o y (loc n)/\
    dQ ν2 (ν.map loc) locR m=loc n/\aN[i]?=some o)\/
   (look rest m=some oc/\m∉ν2/\dQ ν2 (ν.map loc) locR m=locR m):=by
  intro m oc h
  simp only [aB,hobjs] at h
  rw [dD] at h
  split at h
  ·rename_i oc' h'
   cases h
   obtain ⟨i,n,o,y,oc0,k1,k2,k3,k4,k5,k6,k7⟩:=nQ hx hobs hlen h'
   exact .inl ⟨i,n,o,y,oc0,k1,k2,k4,k5,k6,k7,jm hnd2 k2 (by simp [k1]),k3⟩
  ·rename_i h'
   have:m∉ν2:=fun hm=>by
    obtain ⟨oc1,h1⟩:=nz (f:=f) (x:=x) (by omega) hm
    rw [h1] at h';cases h'
   exact .inr ⟨h,this,lR this⟩
 have hap:∀m m' oc oc' b,(aB O2 st2 (dQ ν2 (ν.map loc) locR) w).ob m=some oc->(aB O2 st2 (dQ ν2 (ν.map loc) locR) w).ob m'=some oc'->
   b∈(dQ ν2 (ν.map loc) locR m).bs->b∈(dQ ν2 (ν.map loc) locR m').bs->m=m':=by
  intro m m' oc oc' b h1 h2 h3 h4
  rcases hob m oc h1 with ⟨i,n,o,y,oc0,k1,k2,k4,_,_,_,k8,_⟩ | ⟨k1,k2,k3⟩ <;> rcases hob m' oc' h2 with ⟨i',n',o',y',oc0',j1,j2,j4,_,_,_,j8,_⟩ | ⟨j1,j2,j3⟩
  ·rw [k8] at h3;rw [j8] at h4
   have e:=g.apart n n' oc0 oc0' b k4 j4 h3 h4
   subst e
   have:=nA hnd k1 j1
   subst this
   rw [k2] at j2;cases j2;rfl
  ·rw [k8] at h3;rw [j3] at h4
   exact (hD n (List.mem_of_getElem? k1) b h3 m' oc' j1 j2 h4).elim
  ·rw [k3] at h3;rw [j8] at h4
   exact (hD n' (List.mem_of_getElem? j1) b h4 m oc k1 k2 h3).elim
  ·rw [k3] at h3;rw [j3] at h4
   exact hR2 m m' oc oc' b k1 j1 k2 j2 h3 h4
 have hout:∀m oc b off,(aB O2 st2 (dQ ν2 (ν.map loc) locR) w).ob m=some oc->b∈(dQ ν2 (ν.map loc) locR m).bs->¬ O2 b off:=by
  intro m oc b off h1 h2
  rcases hob m oc h1 with ⟨i,n,o,y,oc0,k1,k2,k4,_,_,_,k8,_⟩ | ⟨k1,k2,k3⟩
  ·rw [k8] at h2;exact hO2 n (List.mem_of_getElem? k1) b h2 off
  ·rw [k3] at h2;exact hR3 m oc b off k1 k2 h2
 have hNA:∀m t ys,(aB O2 st2 (dQ ν2 (ν.map loc) locR) w).ob m=some (.tok t ys)->∀b∈((aB O2 st2 (dQ ν2 (ν.map loc) locR) w).loc m).bs,∀off,off < ys.length * t.size->¬ (aB O2 st2 (dQ ν2 (ν.map loc) locR) w).A b off:=by
  rintro m t ys h1 b hb off ho (h2 | ⟨m',oc',h2,h3,h4⟩)
  ·exact hout m _ b off h1 hb h2
  ·have:=hap m m' _ oc' b h1 h2 hb h3
   subst this
   rw [h1] at h2;cases h2
   simp only [OC.lo] at h4
   omega
 have hlaid:Laid eT (aB O2 st2 (dQ ν2 (ν.map loc) locR) w) aN x ν2 (ν.map loc):=by
  refine Ji (X:=X) (S:=aB O st loc w) (f:=f) hNA rfl hA hobs hnd2 hlen (fun n hn => ?_) (fun i n m h1 h2=>⟨jm hnd2 h2 (by simp [h1]),hlt m (List.mem_of_getElem? h2)⟩)
  show look st2.aC n=_
  rw [hobjs,dD]
  obtain ⟨oc1,h1⟩:=nz (f:=f) (x:=x) (by omega) hn
  rw [h1]
 refine ⟨⟨fun m oc h => ?_,fun m m' oc oc' b h1 h2 h3 h4=>hap m m' oc oc' b h1 h2 h3 h4,fun m oc b off h1 h2=>hout m oc b off h1 h2,g.lG.1,hGl⟩,hlaid⟩
 rcases hob m oc h with ⟨i,n,o,y,oc0,k1,k2,k4,k5,k6,k7,k8,k9⟩ | ⟨k1,k2,k3⟩
 ·refine ⟨hlt m (List.mem_of_getElem? k2),?_⟩
  show OR _ _ _ (dQ ν2 (ν.map loc) locR m) oc
  rw [k8,k6]
  refine Kd (S:=aB O st loc w) (S':=aB O2 st2 (dQ ν2 (ν.map loc) locR) w) rfl (fun k v hk=>by rw [<-hf];exact vC hlaid hk) ?_ k7
  rcases hA with hA | hA
  ·left
   exact tC hA k9
  ·exact .inr hA
 ·obtain ⟨h1,h2⟩:=hR m oc k1 k2
  refine ⟨h1,?_⟩
  show OR _ _ _ (dQ ν2 (ν.map loc) locR m) oc
  rw [k3];exact h2
def upto:Nat->Nat->List Nat
 | _,0=>[]
 | k,m + 1=>k :: upto (k + 1) m
def IS (aN:List Ob) (cls:List Cl) (vs:List cC) (aC:List (Nat × OC)) (as:List (Nat × Nat)):Option (List Nat):=
 match FM cls vs as with
 | some as1=>match s0 aC 0 aN as1 with
  | some as2=>rL as2 0 aN.length
  | none=>none
 | none=>none
theorem uB:∀(m k i:Nat),i < m->(upto k m)[i]?=some (k + i)
 | m + 1,k,0,_=>by simp [upto]
 | m + 1,k,i + 1,h=>by
  simp only [upto,List.getElem?_cons_succ]
  rw [uB m (k + 1) i (by omega)]
  congr 1;omega
theorem qD:∀{m k n:Nat},n∈upto k m->k<=n/\n < k + m
 | 0,k,n,h=>by simp [upto] at h
 | m + 1,k,n,h=>by
  simp only [upto,List.mem_cons] at h
  rcases h with h | h
  ·omega
  ·have:=qD h;omega
theorem qE:∀(m k:Nat),(upto k m).length=m
 | 0,_=>rfl
 | m + 1,k=>by simp [upto,qE m]
theorem iI:∀(m k:Nat),nodupB (upto k m)=true
 | 0,_=>rfl
 | m + 1,k=>by
  simp only [upto,nodupB,iI m,Bool.and_true,Bool.not_eq_true']
  rw [Bool.eq_false_iff]
  intro h
  have:=qD (uA.1 h)
  omega
theorem jM {cv:Bool} {aC:List (Nat × OC)} {aN:List Ob} {ν:List Nat}:∀{os:List Ob} {ns:List Nat} {x:PD os} {n:Nat},dB cv aC aN ν os ns=some x->n∈ns->
  ∃o oc y,o∈os/\look aC n=some oc/\ij cv aC aN ν o oc=some y:=by
 intro os
 induction os with
 | nil=>intro ns x n h hn;cases ns with | nil=>simp at hn | cons=>simp [dB] at h
 | cons o r ih=>
  intro ns x n h hn
  cases ns with
  | nil=>simp at hn
  | cons k ns=>
   simp only [dB] at h
   split at h
   case h_2=>cases h
   rename_i oc hob
   split at h
   case h_2=>cases h
   rename_i x0 y0 h1 h2
   rcases List.mem_cons.1 hn with e | hn
   ·subst e;exact ⟨o,oc,x0,by simp,hob,h1⟩
   ·obtain ⟨o',oc',y',k1,k2⟩:=ih h2 hn
    exact ⟨o',oc',y',by simp [k1],k2⟩
end
end Go.Vg

namespace Go.Vg
open Go.RowKit
inductive Ex where
 | normal
 | exit (n:Nat)
 | ret
def yR:(cls:List Cl)->CD cls
 | []=>()
 | .d t :: r=>(cB t,yR r)
 | .obj _ :: r=>yR r
 | .fF :: r=>yR r
def KJ:(o:Ob)->OD o
 | .box _ cls=>yR cls
 | .row _ _=>[]
 | .tok _=>[]
 | .ext _ t=>cB t
def IT:(os:List Ob)->PD os
 | []=>()
 | o :: r=>(KJ o,IT r)
structure jE:Type 1 where
 X:Type
 inv:X->Prop
 bW:X->Nat
 bJ:X->List (Nat × SV)
 aC:X->List (Nat × OC):=fun _=>[]
 bL:List Nat
 ic:List Nat:=[]
 hM:List Nat:=[]
 aN:List Ob:=[]
 refs:List (Nat × Nat):=[]
 pd:X->PD aN:=fun _=>IT aN
@[reducible] def sI (x:Int):SV:=.s (.one (.d (.int .i64) x))
@[reducible] def sB (x:Bool):SV:=.s (.one (.d .bool x))
@[reducible] def sD (t:Ty) (x:D t):SV:=.s (.one (.d t x))
abbrev dE:=List (Nat × (St->jE))
def qF:C->C->Prop
 | .lit b, .d .bool c=>b=c
 | .d t x, .d t' y=>match h:Ty.beq t t' with
  | true=>bT h x=y
  | false=>False
 | .app t xs n, .app t' ys m=>match h:Ty.beq (.slice t) (.slice t'),Nat.beq n m with
  | true,true=>bT h (a:=.slice t) (b:=.slice t') xs=ys
  | _,_=>False
 | a,b=>a=b
def nB:SV->SV->Prop
 | .s (.one a), .s (.one b)=>qF a b
 | a,b=>a=b
def rP:List C->List C->Prop
 | [],[]=>True
 | a :: as,b :: bs=>qF a b/\rP as bs
 | _,_=>False
def kb:OC->OC->Prop
 | .cells T cs, .cells T' cs'=>match Nat.beq T T' with
  | true=>rP cs cs'
  | false=>False
 | .aX t xs, .aX t' ys=>match h:Ty.beq (.slice t) (.slice t') with
  | true=>bT h (a:=.slice t) (b:=.slice t') xs=ys
  | false=>False
 | .arr t xs, .arr t' ys=>match h:Ty.beq (.slice t) (.slice t') with
  | true=>bT h (a:=.slice t) (b:=.slice t') xs=ys
  | false=>False
 | .tok t xs, .tok t' ys=>match h:Ty.beq (.slice t) (.slice t') with
  | true=>bT h (a:=.slice t) (b:=.slice t') xs=ys
  | false=>False
 | .ext k t x, .ext k' t' y=>match Nat.beq k k',h:Ty.beq t t' with
  | true,true=>bT h x=y
  | _,_=>False
 | .iter cs seen cl, .iter cs' seen' cl'=>rP cs cs'/\seen=seen'/\cl=cl'
 | _,_=>False
def kY (st:St):List (Nat × SV)->Prop
 | []=>True
 | (n,v) :: r=>match look st.env n with
  | some u=>nB u v/\kY st r
  | none=>False
def kZ (st:St):List (Nat × OC)->Prop
 | []=>True
 | (n,v) :: r=>match look st.aC n with
  | some u=>kb u v/\kZ st r
  | none=>False
def mM (st:St):List Nat->List (Nat × SV)
 | []=>[]
 | t :: r=>match look st.env t with
  | some v=>(t,v) :: mM st r
  | none=>mM st r
def gS (st:St):List Nat->List (Nat × OC)
 | []=>[]
 | t :: r=>match look st.aC t with
  | some v=>(t,v) :: gS st r
  | none=>gS st r
def bH (an:jE) (st:St) (x:an.X):St:=
 {env:=an.bJ x++mM st an.bL,aC:=an.aC x++gS st an.ic,next:=st.next}
def fB (l:List Oper):List Nat:=l.filterMap (·.dst)
def writes (anns:dE):Nat->Code->List Nat
 | _, .region _ ops _=>fB ops.toList
 | k, .seq a b=>writes anns k a++writes anns k b
 | k, .cond _ a b=>writes anns k a++writes anns k b
 | _, .block id b=>writes anns id b
 | k, .loop b=>match look anns (k + 200000) with
  | some _=>allM :: writes anns k b
  | none=>writes anns k b
 | _,_=>[]
def qG (n:Nat):List Nat->Bool
 | []=>false
 | m :: r=>match Nat.beq m n with
  | true=>true
  | false=>qG n r
def oY (l:List Nat) (W:List Nat):Bool:=match l with
 | []=>true
 | _ => !(qG allM W) && l.all fun n => !(qG n W)
def iJ (k:Nat):List Nat->Bool
 | []=>true
 | n :: r=>Nat.blt n k && iJ k r
def nC (k:Nat):C->Bool
 | .app _ _ n | .aX n | .lF n | .cX n | .xd n _ | .ref n _ | .n7 n | .js n _ _ _ | .lX n _ _ _=>Nat.blt n k
 | .fn _ caps=>iJ k caps
 | _=>true
def lS (k:Nat):List C->Bool
 | []=>true
 | c :: r=>nC k c && lS k r
def Ai (k:Nat):cC->Bool
 | .one c=>nC k c
 | .agg cs=>lS k cs
def gT (k:Nat):List (Nat × SV)->Bool
 | []=>true
 | (_, .s v) :: r=>Ai k v && gT k r
 | (_, .kM _) :: _=>false
def C5 (k:Nat):OC->Bool
 | .cells _ cs=>lS k cs
 | .iter cs _ _=>lS k cs
 | _=>true
def gH (k:Nat):List (Nat × OC)->Bool
 | []=>true
 | (n,oc) :: r=>Nat.blt n k && C5 k oc && gH k r
def kd (env:List (Nat × SV)):List Nat->Bool
 | []=>true
 | t :: r=>match look env t with
  | some _=>kd env r
  | none=>false
def ke (W:List Nat):List (Nat × SV)->Bool
 | []=>true
 | (n,_) :: r=>qG n W && ke W r
def yS (env:List (Nat × SV)):List Nat->List Nat
 | []=>[]
 | t :: r=>match look env t with
  | some (.s _)=>t :: yS env r
  | _=>yS env r
def oZ (hM:List Nat):List (Nat × OC)->List Nat
 | []=>[]
 | (n,_) :: r=>match qG n hM with
  | true=>oZ hM r
  | false=>n :: oZ hM r
def s3 (st:St) (an:jE):jE:=
 {an with bL:=yS st.env an.bL,ic:=match an.ic with
  | []=>oZ an.hM st.aC
  | l=>l}
def dF (ty:Ty) (st:St) (t:Nat):D ty:=
 match look st.env t with
 | some (.s c)=>match nG ty c with
  | some x=>x
  | none=>cB ty
 | _=>cB ty
def bG (st:St) (t:Nat):Nat:=
 match look st.env t with
 | some (.s (.one (.aX n)))=>n
 | some (.s (.one (.lF n)))=>n
 | some (.s (.one (.cX n)))=>n
 | some (.s (.one (.xd n _)))=>n
 | some (.s (.one (.ref n _)))=>n
 | some (.s (.one (.app _ _ n)))=>n
 | _=>0
def D0 (st:St) (n k:Nat):Nat:=
 match look st.aC n with
 | some (.cells _ cs)=>match cs[k]? with
  | some (.aX m)=>m
  | some (.ref m _)=>m
  | some (.app _ _ m)=>m
  | some (.cX m)=>m
  | some (.xd m _)=>m
  | _=>0
 | _=>0
def D1 (ty:Ty) (st:St) (n k:Nat):D ty:=
 match look st.aC n with
 | some (.cells _ cs)=>match cs[k]? with
  | some c=>match ra ty c with
   | some x=>x
   | none=>cB ty
  | none=>cB ty
 | _=>cB ty
def Jj (_:Nat) (_:St):Prop:=False
def jh (an:jE) (st st':St):VC:=
 match kd st'.env an.bL with
 | true => .leaf (∃x',an.inv x'/\kY st' (an.bJ x')/\kZ st' (an.aC x'++gS st an.ic))
 | false => .ff
def IU (st:St):List (Nat × Nat)->Option (List (Nat × Nat))
 | []=>some []
 | (t,k) :: r=>match look st.env t,IU st r with
  | some (.s (.one c)),some as=>match IQ c with
   | some n=>match look as k with
    | some _=>some as
    | none=>some ((k,n) :: as)
   | none=>none
  | _,_=>none
def FP (st:St) (an:jE):Option (List Nat):=
 match IU st an.refs with
 | some as1=>match s0 st.aC 0 an.aN as1 with
  | some as2=>rL as2 0 an.aN.length
  | none=>none
 | none=>none
def rQ (st:St) (an:jE) (ν:List Nat):List (Nat × Nat)->Bool
 | []=>true
 | (t,k) :: r=>(match look st.env t with
  | some (.s (.one c))=>ib false st.aC an.aN ν k c
  | _=>false) && rQ st an ν r
def vD (st:St) (an:jE) (y:PD an.aN):List (Nat × Nat)->List Prop
 | []=>[]
 | (t,k) :: r=>(match look st.env t with
  | some (.s (.one c))=>pw an.aN y k c
  | _=>[])++vD st an y r
def rR (an:jE) (y:PD an.aN) (us:List Nat):List (Nat × Nat)->List (Nat × SV)
 | []=>[]
 | (t,k) :: r=>(t, .s (.one (fL an.aN y us k))) :: rR an y us r
def vE (an:jE) (st:St) (x:an.X):List (Nat × SV):=an.bJ x++mM st an.bL
def nS (an:jE) (st:St) (x:an.X):List (Nat × OC):=an.aC x++gS st an.ic
def cO (an:jE) (st:St) (x:an.X):St:=
 {env:=rR an (an.pd x) (upto st.next an.aN.length) an.refs++vE an st x,
  aC:=jz (fL an.aN (an.pd x) (upto st.next an.aN.length)) an.aN (an.pd x) (upto st.next an.aN.length)++nS an st x,next:=st.next + an.aN.length}
def nZ (ν:List Nat):List (Nat × OC)->Bool
 | []=>true
 | (n,_) :: r => !(lI n ν) && nZ ν r
def rS (bL:List Nat):List (Nat × Nat)->Bool
 | []=>true
 | (t,_) :: r => !(qG t bL) && rS bL r
def pW (an:jE) (st:St) (W:List Nat) (x:an.X):Bool:=gT st.next (vE an st x) && (gH st.next (nS an st x) && (ke W (an.bJ x) && rS an.bL an.refs))
def Aj (st:St) (an:jE):jE:=
 {an with bL:=(yS st.env an.bL).filter (fun t=>rS [t] an.refs),ic:=match an.ic with
  | []=>oZ (an.hM++(match FP st an with | some l=>l | none=>[])) st.aC
  | l=>l}
def vF (an:jE) (st st':St) (more:an.X->Prop):VC:=
 match FP st' an with
 | some ν=>match nodupB ν && (rQ st' an ν an.refs),dB false st'.aC an.aN ν an.aN ν with
  | true,some y => .leaf (DW (vD st' an y an.refs++gM an.aN y st'.aC an.aN ν++[∃x',an.inv x'/\more x'/\kY st' (an.bJ x')/\kZ st' (an.aC x'++gS st an.ic)/\(nZ ν (nS an st x')=true/\y=an.pd x')]))
  | _,_ => .ff
 | none => .ff
def yT (cx:Cx) (ops:Array Oper) (draw:Bool) (st:St) (K:St->VC):VC:=
 match draw with
 | false=>yN cx ops.toList ops.toList st K
 | true=>match qy ops with
  | true=>J4 cx ops st fun st'=>K (canon st.next (fB ops.toList) st')
  | false => .ff
def kf:Code->Nat->Nat
 | .region id _ _,_=>id
 | .seq a b,d=>kf a (kf b d)
 | .cond _ a b,d=>kf a (kf b d)
 | .block _ b,d=>kf b d
 | .loop b,d=>kf b d
 | _,d=>d
def vc (cx:Cx) (anns:dE):Code->Nat->St->(Ex->St->VC)->VC
 | .skip,_,st,K=>K .normal st
 | .region id ops draw,_,st,K=>match (look anns (id + 300000)).map (fun f=>s3 st (f st)) with
  | none=>yT cx ops draw st (K .normal)
  | some an=>match oY an.bL (fB ops.toList) with
   | true => .both (yT cx ops draw st (jh an st))
    (.all an.X fun x => .imp (an.inv x) (match gT st.next (bH an st x).env && (gH st.next (bH an st x).aC && ke (fB ops.toList) (an.bJ x)) with
     | true=>K .normal (bH an st x)
     | false => .ff))
   | false => .ff
 | .seq a b,cur,st,K=>vc cx anns a cur st fun e st'=>match e with
  | .normal=>vc cx anns b cur st' K
  | e=>K e st'
 | .cond c a b,cur,st,K=>match (look anns (kf a (kf b 0) + 400000)).map (fun f=>s3 st (f st)) with
  | none=>match cW st.env c with
   | .lit true=>vc cx anns a cur st K
   | .lit false=>vc cx anns b cur st K
   | .d .bool g => .ite g (vc cx anns a cur st K) (vc cx anns b cur st K)
   | _ => .ff
  | some an=>match oY an.bL (writes anns cur (.cond c a b)) with
   | true => .both (match cW st.env c with
    | .lit true=>vc cx anns a cur st fun e st'=>match e with
     | .normal=>jh an st st'
     | e=>K e st'
    | .lit false=>vc cx anns b cur st fun e st'=>match e with
     | .normal=>jh an st st'
     | e=>K e st'
    | .d .bool g => .ite g (vc cx anns a cur st fun e st'=>match e with
     | .normal=>jh an st st'
     | e=>K e st') (vc cx anns b cur st fun e st'=>match e with
     | .normal=>jh an st st'
     | e=>K e st')
    | _ => .ff)
    (.all an.X fun x => .imp (an.inv x) (match gT st.next (bH an st x).env && (gH st.next (bH an st x).aC && ke (writes anns cur (.cond c a b)) (an.bJ x)) with
     | true=>K .normal (bH an st x)
     | false => .ff))
   | false => .ff
 | .block id b,_,st,K=>match (look anns (id + 100000)).map (fun f=>s3 st (f st)) with
  | none=>vc cx anns b id st fun e st'=>match e with
   | .exit i=>match Nat.beq i id with
    | true=>K .normal st'
    | false=>K (.exit i) st'
   | e=>K e st'
  | some an=>match oY an.bL (writes anns id b) with
   | true => .both (vc cx anns b id st fun e st'=>match e with
    | .exit i=>match Nat.beq i id with
     | true=>jh an st st'
     | false=>K (.exit i) st'
    | .normal=>jh an st st'
    | .ret=>K .ret st')
    (.all an.X fun x => .imp (an.inv x) (match gT st.next (bH an st x).env && (gH st.next (bH an st x).aC && ke (writes anns id b) (an.bJ x)) with
     | true=>K .normal (bH an st x)
     | false => .ff))
   | false => .ff
 | .loop b,cur,st,K=>match look anns (cur + 200000) with
  | none=>match (look anns cur).map (fun f=>s3 st (f st)) with
   | some an=>match oY an.bL (writes anns cur b) with
    | true => .and (∃x,an.inv x/\kY st (an.bJ x)/\kZ st (an.aC x))
      (.all an.X fun x => .imp (an.inv x) (match gT st.next (bH an st x).env && (gH st.next (bH an st x).aC && ke (writes anns cur b) (an.bJ x)) with
       | true=>vc cx anns b cur (bH an st x) fun e st'=>match e with
        | .normal=>match kd st'.env an.bL with
         | true => .leaf (∃x',an.inv x'/\an.bW x' < an.bW x/\kY st' (an.bJ x')/\kZ st' (an.aC x'++gS st an.ic))
         | false => .ff
        | e=>K e st'
       | false => .ff))
    | false => .ff
   | none => .leaf (Jj cur st)
  | some f=>match Aj st (f st) with
   | an=>match oY an.bL (writes anns cur b) with
    | true => .both (vF an st st fun _=>True)
      (.all an.X fun x => .imp (an.inv x) (match pW an st (writes anns cur b) x with
       | true=>vc cx anns b cur (cO an st x) fun e st'=>match e with
        | .normal=>match kd st'.env an.bL with
         | true=>vF an st st' fun x'=>an.bW x' < an.bW x
         | false => .ff
        | e=>K e st'
       | false => .ff))
    | false => .ff
 | .exit id,_,st,K=>K (.exit id) st
 | .ret,_,st,K=>K .ret st
 | _,_,_,_ => .ff
section
variable {X:Ext} {P:Program} {cx:Cx}
theorem xv {S:bD} {a b:C} {v:Value} (h:qF a b) (hv:CR cx.eT S a v):CR cx.eT S b v:=by
 unfold qF at h
 split at h
 ·subst h;exact dC.2 hv
 ·split at h
  ·rename_i hb
   subst h
   exact jv hb _ hv
  ·exact h.elim
 ·split at h
  ·rename_i t xs n t' ys m _ hb hn
   have hn:=Nat.eq_of_beq_eq_true hn
   subst hn
   have:t=t':=by have:=Ty.eq_of_beq hb;cases this;rfl
   subst this
   rw [eD] at h
   subst h
   exact hv
  ·exact h.elim
 ·subst h;exact hv
theorem vG {S:bD} {a b:SV} {v:Value} (h:nB a b) (hv:cV cx.eT S a v):cV cx.eT S b v:=by
 unfold nB at h
 split at h
 ·exact xv h hv
 ·subst h;exact hv
theorem vH {S:bD}:∀{as bs:List C} {vs:List Value},rP as bs->cY cx.eT S as vs->cY cx.eT S bs vs:=by
 intro as
 induction as with
 | nil=>
  intro bs vs h hv
  cases bs with
  | nil=>exact hv
  | cons=>exact h.elim
 | cons a as ih=>
  intro bs vs h hv
  cases bs with
  | nil=>exact h.elim
  | cons b bs=>
   cases hv with
   | cons h1 h2 h3=>exact .cons (xv h.1 h1) h2 (ih h.2 h3)
theorem vI {S:bD} {l:Loc} {a b:OC} (h:kb a b) (hv:OR cx.eT X S l a):OR cx.eT X S l b/\aQ l l a b/\a.lo=b.lo:=by
 unfold kb at h
 split at h
 ·split at h
  ·rename_i hT
   have:=Nat.eq_of_beq_eq_true hT
   subst this
   obtain ⟨b,vs,h1,h2,h3,h4⟩:=hv
   exact ⟨⟨b,vs,h1,h2,h3,vH h h4⟩,rfl,rfl⟩
  ·exact h.elim
 ·split at h
  ·rename_i t xs t' ys hb
   have:t=t':=by have:=Ty.eq_of_beq hb;cases this;rfl
   subst this;rw [eD] at h;subst h
   exact ⟨hv,rfl,rfl⟩
  ·exact h.elim
 ·split at h
  ·rename_i t xs t' ys hb
   have:t=t':=by have:=Ty.eq_of_beq hb;cases this;rfl
   subst this;rw [eD] at h;subst h
   exact ⟨hv,rfl,rfl⟩
  ·exact h.elim
 ·split at h
  ·rename_i t xs t' ys hb
   have:t=t':=by have:=Ty.eq_of_beq hb;cases this;rfl
   subst this;rw [eD] at h;subst h
   exact ⟨hv,⟨rfl,Nat.le_refl _,fun _=>rfl⟩,rfl⟩
  ·exact h.elim
 ·split at h
  ·rename_i k t x k' t' y hk hb
   have:=Nat.eq_of_beq_eq_true hk
   subst this
   have:=Ty.eq_of_beq hb
   subst this;rw [hH] at h;subst h
   exact ⟨hv,⟨rfl,rfl⟩,rfl⟩
  ·exact h.elim
 ·obtain ⟨h1,rfl,rfl⟩:=h
  obtain ⟨b,m,c,sn,k1,k2,k3,k4,k5,k6⟩:=hv
  exact ⟨⟨b,m,c,sn,k1,k2,k3,vH h1 k4,k5,k6⟩,trivial,rfl⟩
 ·exact h.elim
theorem qH {n:Nat} {l:List Nat}:qG n l=true ↔ n∈l:=by
 induction l with
 | nil=>simp [qG]
 | cons m r ih=>
  simp only [qG,List.mem_cons]
  by_cases h:m=n
  ·subst h;simp [Nat.beq_refl]
  ·rw [kR h];simp only [ih]
   constructor
   ·exact .inr
   ·rintro (h' | h')
    ·exact absurd h'.symm h
    ·exact h'
theorem o1 {l W:List Nat} (h:oY l W=true):∀n∈l,allM∉W/\n∉W:=by
 intro n hn
 unfold oY at h
 split at h
 ·simp at hn
 ·simp only [Bool.and_eq_true,List.all_eq_true,Bool.not_eq_true'] at h
  exact ⟨fun hW=>by rw [qH.2 hW] at h;exact absurd h.1 (by decide),fun hW=>by have:=h.2 n hn;rw [qH.2 hW] at this;cases this⟩
def o3 (cx:Cx) (X:Ext) (O:aD) (K:Ex->St->VC) (W:List Nat) (st:St) (S:bD):Exit->Act->World->Prop
 | .normal,a,w=>eH cx X O (K .normal) W st S a w
 | .exit n,a,w=>eH cx X O (K (.exit n)) W st S a w
 | .ret,a,w=>eH cx X O (K .ret) W st S a w
 | _,_,_=>False
theorem o3.mono {O:aD} {K:Ex->St->VC} {W W':List Nat} {st st1:St} {S S1:bD} {e:Exit} {a:Act} {w:World} (h:o3 cx X O K W st1 S1 e a w) (ht:Tr S S1) (ha:lr W' st st1) (hW:∀n∈W,n∈W'):o3 cx X O K W' st S e a w:=by
 have key:∀K:St->VC,eH cx X O K W st1 S1 a w->eH cx X O K W' st S a w:=by
  rintro K ⟨st',loc',k1,k2,k3,k4,k5⟩
  exact ⟨st',loc',k1,k2,ht.trans k3,k4,ha.trans fun hm t ht=>k5 (fun h=>hm (hW _ h)) t fun h=>ht (hW t h)⟩
 cases e with
 | normal=>exact key _ h
 | exit n=>exact key _ h
 | ret=>exact key _ h
 | goto l=>exact h
 | panic c=>exact h
 | outgrown=>exact h
theorem fM {st:St} {l:List Nat} {n:Nat} {v:SV} (h:look (mM st l) n=some v):n∈l/\look st.env n=some v:=by
 induction l with
 | nil=>simp [mM,look] at h
 | cons t r ih=>
  simp only [mM] at h
  split at h
  ·rename_i u hu
   rw [bS] at h
   by_cases e:t=n
   ·rw [if_pos e] at h;cases h;subst e;exact ⟨by simp,hu⟩
   ·rw [if_neg e] at h;have:=ih h;exact ⟨by simp [this.1],this.2⟩
  ·have:=ih h;exact ⟨by simp [this.1],this.2⟩
theorem yH {st:St} {l:List Nat} {n:Nat} {v:OC} (h:look (gS st l) n=some v):look st.aC n=some v:=by
 induction l with
 | nil=>simp [gS,look] at h
 | cons t r ih=>
  simp only [gS] at h
  split at h
  ·rename_i u hu
   rw [bS] at h
   by_cases e:t=n
   ·rw [if_pos e] at h;cases h;subst e;exact hu
   ·rw [if_neg e] at h;exact ih h
  ·exact ih h
theorem la {st:St} {l:List (Nat × SV)} (h:kY st l):∀{n v},look l n=some v->∃u,look st.env n=some u/\nB u v:=by
 induction l with
 | nil=>intro n v hl;simp [look] at hl
 | cons p r ih=>
  obtain ⟨m,x⟩:=p
  intro n v hl
  simp only [kY] at h
  split at h
  ·rename_i u hu
   rw [bS] at hl
   by_cases e:m=n
   ·rw [if_pos e] at hl;cases hl;subst e;exact ⟨u,hu,h.1⟩
   ·rw [if_neg e] at hl;exact ih h.2 hl
  ·exact h.elim
theorem ld {st:St} {l:List (Nat × OC)} (h:kZ st l):∀{n v},look l n=some v->∃u,look st.aC n=some u/\kb u v:=by
 induction l with
 | nil=>intro n v hl;simp [look] at hl
 | cons p r ih=>
  obtain ⟨m,x⟩:=p
  intro n v hl
  simp only [kZ] at h
  split at h
  ·rename_i u hu
   rw [bS] at hl
   by_cases e:m=n
   ·rw [if_pos e] at hl;cases hl;subst e;exact ⟨u,hu,h.1⟩
   ·rw [if_neg e] at hl;exact ih h.2 hl
  ·exact h.elim
theorem cA {a b:Nat} (h:Nat.blt a b=true):a < b:=kS h
theorem D2 {S S':bD} (hO:∀b o v,¬ S.A b o->S.w.cell? ⟨b,o,none⟩=some v->S'.w.cell? ⟨b,o,none⟩=some v/\¬ S'.A b o) (hloc:S'.loc=S.loc)
  (hob:∀n oc,S'.ob n=some oc->∃oc0,S.ob n=some oc0/\aQ (S.loc n) (S.loc n) oc0 oc) {c:C} {v:Value} (hb:nC S'.next c=true) (hv:CR cx.eT S c v):CR cx.eT S' c v:=by
 cases c with
 | lit b=>exact hv
 | d t x=>exact VR.frame hv hO
 | app t xs n=>
  obtain ⟨h1,h2,h3⟩:=hv
  refine ⟨VR.frame h1 hO,cA hb,fun ys hy => ?_⟩
  obtain ⟨oc0,k1,k2⟩:=hob n _ hy
  cases oc0 <;> simp [aQ] at k2
  obtain ⟨rfl,k3⟩:=k2
  obtain ⟨m1,m2⟩:=h3 _ k1
  rw [hloc]
  exact ⟨by omega,fun e=>m2 (by omega)⟩
 | gZ=>exact hv
 | fF=>exact hv
 | emp=>exact hv
 | aX n=>
  refine ⟨cA hb,fun t xs e => ?_⟩
  obtain ⟨oc0,k1,k2⟩:=hob n _ e
  cases oc0 <;> simp [aQ] at k2
  rw [hloc];exact hv.2 _ _ k1
 | lX n t lo len=>
  refine ⟨cA hb,fun xs e => ?_⟩
  obtain ⟨oc0,k1,k2⟩:=hob n _ e
  cases oc0 <;> simp [aQ] at k2
  subst k2
  rw [hloc];exact hv.2 _ k1
 | lF n=>
  refine ⟨cA hb,fun t xs e => ?_⟩
  obtain ⟨oc0,k1,k2⟩:=hob n _ e
  cases oc0 <;> simp [aQ] at k2
  rw [hloc];exact hv.2 _ _ k1
 | cX n=>
  refine ⟨cA hb,fun oc e hx => ?_⟩
  obtain ⟨oc0,k1,k2⟩:=hob n _ e
  rw [hloc];exact hv.2 _ k1 (by cases oc0 <;> cases oc <;> first | rfl | exact k2.elim | cases hx)
 | xd n p=>
  refine ⟨cA hb,fun t x e => ?_⟩
  obtain ⟨oc0,k1,k2⟩:=hob n _ e
  cases oc0 <;> simp [aQ] at k2
  obtain ⟨rfl,rfl⟩:=k2
  rw [hloc];exact hv.2 _ _ k1
 | ref n off=>
  refine ⟨cA hb,fun T cs e => ?_⟩
  obtain ⟨oc0,k1,k2⟩:=hob n _ e
  cases oc0 <;> simp [aQ] at k2
  rw [hloc];exact hv.2 _ _ k1
 | n7 n=>
  refine ⟨cA hb,?_⟩
  rcases hv.2 with hn | hn
  ·exact .inl hn
  ·refine .inr fun T cs e => ?_
   obtain ⟨oc0,k1,k2⟩:=hob n _ e
   cases oc0 <;> simp [aQ] at k2
   rw [hloc];exact hn _ _ k1
 | js n t i off=>
  refine ⟨cA hb,fun ⟨xs,e⟩ => ?_⟩
  rw [hloc]
  rcases e with e | e
  ·obtain ⟨oc0,k1,k2⟩:=hob n _ e
   cases oc0 <;> simp [aQ] at k2
   subst k2;exact hv.2 ⟨_, .inl k1⟩
  ·obtain ⟨oc0,k1,k2⟩:=hob n _ e
   cases oc0 <;> simp [aQ] at k2
   subst k2;exact hv.2 ⟨_, .inr k1⟩
 | lY t x=>
  obtain ⟨b,o,us,rfl,h1,h2⟩:=hv
  exact ⟨b,o,us,rfl,h1.frame hO,h2.frame hO⟩
 | fn f caps=>
  obtain ⟨rfl,h2⟩:=hv
  refine ⟨by rw [hloc],fun n hn=>⟨?_,fun t ys e => ?_⟩⟩
  ·have:∀l:List Nat,iJ S'.next l=true->n∈l->n < S'.next:=by
    intro l
    induction l with
    | nil=>intro _ h;simp at h
    | cons m r ih=>
     intro h hm
     simp only [iJ,Bool.and_eq_true] at h
     rcases List.mem_cons.1 hm with rfl | hm
     ·exact cA h.1
     ·exact ih h.2 hm
   exact this caps hb hn
  ·obtain ⟨oc0,k1,k2⟩:=hob n _ e
   cases oc0 <;> simp [aQ] at k2
   exact (h2 n hn).2 _ _ k1
 | any=>trivial
theorem pX {k:Nat}:∀{l:List Nat} {n:Nat},iJ k l=true->n∈l->n < k
 | [],_,_,h=>by simp at h
 | m :: r,n,h,hn=>by
  simp only [iJ,Bool.and_eq_true] at h
  rcases List.mem_cons.1 hn with e | hn
  ·rw [e];exact cA h.1
  ·exact pX h.2 hn
theorem ow {S S':bD} {k:Nat} (hrel:∀{c:C} {v:Value},nC k c=true->CR cx.eT S c v->CR cx.eT S' c v):∀{cs:List C} {vs:List Value},lS k cs=true->cY cx.eT S cs vs->cY cx.eT S' cs vs:=by
 intro cs
 induction cs with
 | nil=>intro vs _ h;cases h;exact .nil
 | cons c cs ih=>
  intro vs hb h
  simp only [lS,Bool.and_eq_true] at hb
  cases h with
  | cons h1 h2 h3=>exact .cons (hrel hb.1 h1) h2 (ih hb.2 h3)
theorem BX {S S':bD} (hO:∀b o v,¬ S.A b o->S.w.cell? ⟨b,o,none⟩=some v->S'.w.cell? ⟨b,o,none⟩=some v/\¬ S'.A b o) {k:Nat} (hk:k<=S'.next) (hloc:∀n,n < k->S'.loc n=S.loc n)
  (hob:∀n oc,n < k->S'.ob n=some oc->∃oc0,S.ob n=some oc0/\aQ (S.loc n) (S.loc n) oc0 oc) {c:C} {v:Value} (hb:nC k c=true) (hv:CR cx.eT S c v):CR cx.eT S' c v:=by
 cases c with
 | lit b=>exact hv
 | d t x=>exact VR.frame hv hO
 | app t xs n=>
  obtain ⟨h1,h2,h3⟩:=hv
  refine ⟨VR.frame h1 hO,Nat.lt_of_lt_of_le (cA hb) hk,fun ys hy => ?_⟩
  obtain ⟨oc0,k1,k2⟩:=hob n _ (cA hb) hy
  cases oc0 <;> simp [aQ] at k2
  obtain ⟨rfl,k3⟩:=k2
  obtain ⟨m1,m2⟩:=h3 _ k1
  rw [hloc n (cA hb)]
  exact ⟨by omega,fun e=>m2 (by omega)⟩
 | gZ=>exact hv
 | fF=>exact hv
 | emp=>exact hv
 | aX n=>
  refine ⟨Nat.lt_of_lt_of_le (cA hb) hk,fun t xs e => ?_⟩
  obtain ⟨oc0,k1,k2⟩:=hob n _ (cA hb) e
  cases oc0 <;> simp [aQ] at k2
  rw [hloc n (cA hb)];exact hv.2 _ _ k1
 | lX n t lo len=>
  refine ⟨Nat.lt_of_lt_of_le (cA hb) hk,fun xs e => ?_⟩
  obtain ⟨oc0,k1,k2⟩:=hob n _ (cA hb) e
  cases oc0 <;> simp [aQ] at k2
  subst k2
  rw [hloc n (cA hb)];exact hv.2 _ k1
 | lF n=>
  refine ⟨Nat.lt_of_lt_of_le (cA hb) hk,fun t xs e => ?_⟩
  obtain ⟨oc0,k1,k2⟩:=hob n _ (cA hb) e
  cases oc0 <;> simp [aQ] at k2
  rw [hloc n (cA hb)];exact hv.2 _ _ k1
 | cX n=>
  refine ⟨Nat.lt_of_lt_of_le (cA hb) hk,fun oc e hx => ?_⟩
  obtain ⟨oc0,k1,k2⟩:=hob n _ (cA hb) e
  rw [hloc n (cA hb)];exact hv.2 _ k1 (by cases oc0 <;> cases oc <;> first | rfl | exact k2.elim | cases hx)
 | xd n p=>
  refine ⟨Nat.lt_of_lt_of_le (cA hb) hk,fun t x e => ?_⟩
  obtain ⟨oc0,k1,k2⟩:=hob n _ (cA hb) e
  cases oc0 <;> simp [aQ] at k2
  obtain ⟨rfl,rfl⟩:=k2
  rw [hloc n (cA hb)];exact hv.2 _ _ k1
 | ref n off=>
  refine ⟨Nat.lt_of_lt_of_le (cA hb) hk,fun T cs e => ?_⟩
  obtain ⟨oc0,k1,k2⟩:=hob n _ (cA hb) e
  cases oc0 <;> simp [aQ] at k2
  rw [hloc n (cA hb)];exact hv.2 _ _ k1
 | n7 n=>
  refine ⟨Nat.lt_of_lt_of_le (cA hb) hk,?_⟩
  rcases hv.2 with hn | hn
  ·exact .inl hn
  ·refine .inr fun T cs e => ?_
   obtain ⟨oc0,k1,k2⟩:=hob n _ (cA hb) e
   cases oc0 <;> simp [aQ] at k2
   rw [hloc n (cA hb)];exact hn _ _ k1
 | js n t i off=>
  refine ⟨Nat.lt_of_lt_of_le (cA hb) hk,fun ⟨xs,e⟩ => ?_⟩
  rw [hloc n (cA hb)]
  rcases e with e | e
  ·obtain ⟨oc0,k1,k2⟩:=hob n _ (cA hb) e
   cases oc0 <;> simp [aQ] at k2
   subst k2;exact hv.2 ⟨_, .inl k1⟩
  ·obtain ⟨oc0,k1,k2⟩:=hob n _ (cA hb) e
   cases oc0 <;> simp [aQ] at k2
   subst k2;exact hv.2 ⟨_, .inr k1⟩
 | lY t x=>
  obtain ⟨b,o,us,rfl,h1,h2⟩:=hv
  exact ⟨b,o,us,rfl,h1.frame hO,h2.frame hO⟩
 | fn f caps=>
  obtain ⟨rfl,h2⟩:=hv
  have hlt:∀n∈caps,n < k:=fun n hn=>pX hb hn
  refine ⟨by rw [show (caps.map fun n=>(S.loc n).v)=(caps.map fun n=>(S'.loc n).v) from List.map_congr_left fun n hn=>by rw [hloc n (hlt n hn)]],fun n hn=>⟨Nat.lt_of_lt_of_le (hlt n hn) hk,fun t ys e => ?_⟩⟩
  obtain ⟨oc0,k1,k2⟩:=hob n _ (hlt n hn) e
  cases oc0 <;> simp [aQ] at k2
  exact (h2 n hn).2 _ _ k1
 | any=>trivial
theorem aQ.comp {l1 l2 l3:Loc} {a b c:OC} (h:aQ l1 l2 a b) (h':aQ l2 l3 b c):aQ l1 l3 a c:=by
 cases a <;> cases b <;> simp [aQ] at h <;> cases c <;> simp [aQ] at h' ⊢
 all_goals (try (simp_all;done))
 obtain ⟨rfl,a1,a2⟩:=h
 obtain ⟨rfl,b1,b2⟩:=h'
 refine ⟨rfl,by omega,fun e => ?_⟩
 rw [b2 (by omega),a2 (by omega)]
theorem py {S S':bD} (hrel:∀{c:C} {v:Value},nC S'.next c=true->CR cx.eT S c v->CR cx.eT S' c v):∀{cs:List C} {vs:List Value},lS S'.next cs=true->cY cx.eT S cs vs->cY cx.eT S' cs vs:=by
 intro cs
 induction cs with
 | nil=>intro vs _ h;cases h;exact .nil
 | cons c cs ih=>
  intro vs hb h
  simp only [lS,Bool.and_eq_true] at hb
  cases h with
  | cons h1 h2 h3=>exact .cons (hrel hb.1 h1) h2 (ih hb.2 h3)
theorem rf {k:Nat}:∀{l:List (Nat × SV)},gT k l=true->∀{n v},look l n=some v->∃v0,v = .s v0/\Ai k v0=true:=by
 intro l
 induction l with
 | nil=>intro _ n v h;simp [look] at h
 | cons p r ih=>
  obtain ⟨m,x⟩:=p
  intro hb n v h
  cases x with
  | kM vs=>simp [gT] at hb
  | s v0=>
   simp only [gT,Bool.and_eq_true] at hb
   rw [bS] at h
   by_cases e:m=n
   ·rw [if_pos e] at h;cases h;exact ⟨v0,rfl,hb.1⟩
   ·rw [if_neg e] at h;exact ih hb.2 h
theorem kE {k:Nat}:∀{l:List (Nat × OC)},gH k l=true->∀{n v},look l n=some v->n < k/\C5 k v=true:=by
 intro l
 induction l with
 | nil=>intro _ n v h;simp [look] at h
 | cons p r ih=>
  obtain ⟨m,x⟩:=p
  intro hb n v h
  simp only [gH,Bool.and_eq_true] at hb
  rw [bS] at h
  by_cases e:m=n
  ·rw [if_pos e] at h;cases h;subst e;exact ⟨cA hb.1.1,hb.1.2⟩
  ·rw [if_neg e] at h;exact ih hb.2 h
theorem qI {an:jE} {O:aD} {st st':St} {loc loc0:Nat->Loc} {w w0:World} {a:Act} (x:an.X) (g:Good cx.eT X (aB O st' loc w)) (hA:gG cx (aB O st' loc w) st' a) (ht:Tr (aB O st loc0 w0) (aB O st' loc w))
  (he:∀n v,look (bH an st x).env n=some v->∃u,look st'.env n=some u/\nB u v)
  (ho:∀n v,look (bH an st x).aC n=some v->∃u,look st'.aC n=some u/\kb u v)
  (hb1:gT st.next (bH an st x).env=true) (hb2:gH st.next (bH an st x).aC=true) :
  Good cx.eT X (aB O (bH an st x) loc w)/\gG cx (aB O (bH an st x) loc w) (bH an st x) a/\Tr (aB O st loc0 w0) (aB O (bH an st x) loc w):=by
 have hob:∀n oc,look (bH an st x).aC n=some oc->∃oc0,look st'.aC n=some oc0/\aQ (loc n) (loc n) oc0 oc/\oc0.lo=oc.lo/\OR cx.eT X (aB O st' loc w) (loc n) oc:=by
  intro n oc h
  obtain ⟨u,hu,hs⟩:=ho n oc h
  obtain ⟨h1,h2,h3⟩:=vI hs (g.obj n u hu).2
  exact ⟨u,hu,h2,h3,h1⟩
 have hAsub:∀b o,(aB O (bH an st x) loc w).A b o->(aB O st' loc w).A b o:=by
  rintro b o (h | ⟨n,oc,h1,h2,h3⟩)
  ·exact .inl h
  ·obtain ⟨oc0,k1,_,k3,_⟩:=hob n oc h1
   exact .inr ⟨n,oc0,k1,h2,by rw [k3];exact h3⟩
 have hcell:∀b o v,¬ (aB O st' loc w).A b o->w.cell? ⟨b,o,none⟩=some v->w.cell? ⟨b,o,none⟩=some v/\¬ (aB O (bH an st x) loc w).A b o:=fun b o v h1 h2=>⟨h2,fun h=>h1 (hAsub b o h)⟩
 have hrel:∀{c:C} {v:Value},nC st.next c=true->CR cx.eT (aB O st' loc w) c v->CR cx.eT (aB O (bH an st x) loc w) c v:=fun hb hv=>
  D2 (S:=aB O st' loc w) (S':=aB O (bH an st x) loc w) hcell rfl (fun n oc h=>let ⟨oc0,k1,k2,_⟩:=hob n oc h;⟨oc0,k1,k2⟩) hb hv
 have hor:∀n oc,look (bH an st x).aC n=some oc->OR cx.eT X (aB O (bH an st x) loc w) (loc n) oc:=by
  intro n oc h
  obtain ⟨_,_,_,_,k4⟩:=hob n oc h
  have hb:=(kE hb2 h).2
  cases oc with
  | cells T cs=>
   obtain ⟨b,vs,h1,h2,h3,h4⟩:=k4
   exact ⟨b,vs,h1,h2,h3,py hrel hb h4⟩
  | aX t xs=>
   rcases k4 with k4 | ⟨b,vs,T,cap,h1,h2,h3,h4,h5,h6,h7⟩
   ·exact .inl k4
   ·exact .inr ⟨b,vs,T,cap,h1,h2,h3,h4,h5,h6,fun i y hy=>let ⟨us,r1,r2⟩:=h7 i y hy;⟨us,r1.frame hcell,r2⟩⟩
  | arr t xs=>
   obtain ⟨b,vs,T,h1,h2,h3,h4,h5⟩:=k4
   exact ⟨b,vs,T,h1,h2,h3,h4,fun i y hy=>let ⟨us,r1,r2⟩:=h5 i y hy;⟨us,r1.frame hcell,r2⟩⟩
  | tok t xs=>
   rcases k4 with k4 | ⟨b,vs,T,cap,h1,h2,h3,h4,h5,h6,h7⟩
   ·exact .inl k4
   ·exact .inr ⟨b,vs,T,cap,h1,h2,h3,h4,h5,h6,fun i y hy=>let ⟨us,r1,r2⟩:=h7 i y hy;⟨us,r1.frame hcell,r2⟩⟩
  | ext k t x=>exact k4
  | iter cs seen cl=>obtain ⟨b,m,c,sn,k1,k2,k3,k4,k5⟩:=k4;exact ⟨b,m,c,sn,k1,k2,k3,py hrel hb k4,k5⟩
 refine ⟨⟨fun n oc h=>⟨(kE hb2 h).1,hor n oc h⟩,fun n m oc oc' b h1 h2 h3 h4 => ?_,fun n oc b off h1 h2 => ?_,g.lG.sub rfl fun b ⟨n,oc,h1,h2⟩=>by obtain ⟨oc0,k1,_⟩:=hob n oc h1;exact ⟨n,oc0,k1,h2⟩⟩,⟨hA.size,hA.defers,fun n v h => ?_⟩,?_⟩
 ·obtain ⟨oc0,k1,_⟩:=hob n oc h1
  obtain ⟨oc0',k1',_⟩:=hob m oc' h2
  exact g.apart n m oc0 oc0' b k1 k1' h3 h4
 ·obtain ⟨oc0,k1,_⟩:=hob n oc h1
  exact g.out n oc0 b off k1 h2
 ·obtain ⟨u,hu,hs⟩:=he n v h
  have hv:=vG hs (hA.env n u hu)
  obtain ⟨v0,rfl,hb⟩:=rf hb1 h
  cases v0 with
  | one c=>exact hrel hb hv
  | agg cs=>obtain ⟨vs,h1,h2⟩:=hv;exact ⟨vs,h1,py hrel hb h2⟩
 ·refine {O:=ht.O,next:=Nat.le_refl _,os:=ht.os,output:=ht.output,size:=ht.size,own:=fun b hb => ?_,cell:=fun b o v h1 h2 => ?_,block:=ht.block,loc:=ht.loc,kind:=fun n oc hn h => ?_}
  ·obtain ⟨n,oc,h1,h2⟩:=hb
   obtain ⟨oc0,k1,_⟩:=hob n oc h1
   exact ht.own b ⟨n,oc0,k1,h2⟩
  ·obtain ⟨k1,k2⟩:=ht.cell b o v h1 h2
   exact ⟨k1,fun h=>k2 (hAsub b o h)⟩
  ·obtain ⟨oc0,k1,k2,_⟩:=hob n oc h
   obtain ⟨oc1,m1,m2⟩:=ht.kind n oc0 hn k1
   exact ⟨oc1,m1,m2.comp k2⟩
theorem Ty.beq_refl:∀t:Ty,Ty.beq t t=true:=by
 intro t
 induction t with
 | prod a b iha ihb=>simp [Ty.beq,iha,ihb]
 | slice e ih=>simp [Ty.beq,ih]
 | int k=>simp [Ty.beq]
 | _=>rfl
theorem vJ (c:C):qF c c:=by
 cases c with
 | d t x=>
  simp only [qF]
  split
  ·rfl
  ·rename_i h;rw [Ty.beq_refl] at h;cases h
 | app t xs n=>
  simp only [qF]
  split
  ·rfl
  ·rename_i h;exact (h (Ty.beq_refl _) (Nat.beq_refl _)).elim
 | _=>rfl
theorem jN (v:SV):nB v v:=by
 cases v with
 | s v=>
  cases v with
  | one c=>exact vJ c
  | agg cs=>rfl
 | kM vs=>rfl
theorem pz:∀cs:List C,rP cs cs
 | []=>trivial
 | c :: cs=>⟨vJ c,pz cs⟩
theorem BY (v:OC):kb v v:=by
 cases v with
 | cells T cs=>
  simp only [kb,Nat.beq_refl]
  exact pz cs
 | aX t xs=>
  simp only [kb]
  split
  ·rfl
  ·rename_i h;rw [Ty.beq_refl] at h;cases h
 | arr t xs=>
  simp only [kb]
  split
  ·rfl
  ·rename_i h;rw [Ty.beq_refl] at h;cases h
 | tok t xs=>
  simp only [kb]
  split
  ·rfl
  ·rename_i h;rw [Ty.beq_refl] at h;cases h
 | ext k t x=>
  simp only [kb]
  split
  ·rfl
  ·rename_i h;exact (h (Nat.beq_refl _) (Ty.beq_refl _)).elim
 | iter cs seen cl=>exact ⟨pz cs,rfl,rfl⟩
theorem nj {W:List Nat}:∀{l:List (Nat × SV)},ke W l=true->∀{n v},look l n=some v->n∈W:=by
 intro l
 induction l with
 | nil=>intro _ n v h;simp [look] at h
 | cons p r ih=>
  obtain ⟨m,x⟩:=p
  intro hb n v h
  simp only [ke,Bool.and_eq_true] at hb
  rw [bS] at h
  by_cases e:m=n
  ·subst e;exact qH.1 hb.1
  ·rw [if_neg e] at h;exact ih hb.2 h
theorem lu {env:List (Nat × SV)}:∀{l:List Nat},kd env l=true->∀{n},n∈l->∃v,look env n=some v:=by
 intro l
 induction l with
 | nil=>intro _ n h;simp at h
 | cons t r ih=>
  intro hb n h
  simp only [kd] at hb
  split at hb
  ·rename_i u hu
   rcases List.mem_cons.1 h with rfl | h
   ·exact ⟨u,hu⟩
   ·exact ih hb h
  ·cases hb
theorem Jk {O:aD} {K:Ex->St->VC} {W:List Nat} {st:St} {S:bD} {next:Act->World->Prop} {Q:Exit->Act->World->Prop} {K':Ex->St->VC}
  (hn:∀a w,eH cx X O (K' .normal) W st S a w->next a w) (hK:∀e,e≠.normal->K' e=K e) (hQ:∀e a w,o3 cx X O K W st S e a w->e≠.normal->Q e a w) {e:Exit} {a:Act} {w:World}
  (h:o3 cx X O K' W st S e a w):Exit.then next Q e a w:=by
 cases e with
 | normal=>exact hn a w h
 | exit n=>exact hQ _ _ _ (by simpa [o3,hK (.exit n) (by simp)] using h) (by simp)
 | ret=>exact hQ _ _ _ (by simpa [o3,hK .ret (by simp)] using h) (by simp)
 | goto l=>exact h.elim
 | panic c=>exact h.elim
 | outgrown=>exact h.elim
structure Ke (an:jE) (st st':St) (x:an.X) (ν:List Nat):Prop where
 nodup:nodupB ν=true
 refs:rQ st' an ν an.refs=true
 get:dB false st'.aC an.aN ν an.aN ν=some (an.pd x)
 KS:∀p∈vD st' an (an.pd x) an.refs,p
 conds:∀p∈gM an.aN (an.pd x) st'.aC an.aN ν,p
 env:kY st' (an.bJ x)
 aC:kZ st' (nS an st x)
 out:nZ ν (nS an st x)=true
theorem xw {an:jE} {st st':St} {more:an.X->Prop} (h:(vF an st st' more).holds):∃x,an.inv x/\more x/\∃ν,Ke an st st' x ν:=by
 unfold vF at h
 split at h
 ·rename_i ν _
  split at h
  ·rename_i y hc hy
   simp only [Bool.and_eq_true] at hc
   have hall:=uz h
   obtain ⟨x,h1,h2,h3,h4,h5,h6⟩:=hall (∃x',an.inv x'/\more x'/\kY st' (an.bJ x')/\kZ st' (an.aC x'++gS st an.ic)/\(nZ ν (nS an st x')=true/\y=an.pd x')) (List.mem_append_right _ (List.mem_singleton.2 rfl))
   subst h6
   obtain ⟨k1,_⟩:=iW.1 hall
   obtain ⟨k1,k2⟩:=iW.1 k1
   exact ⟨x,h1,h2,ν,hc.1,hc.2,hy,k1,k2,h3,h4,h5⟩
  ·exact h.elim
 ·exact h.elim
theorem rT {ν:List Nat}:∀{l:List (Nat × OC)},nZ ν l=true->∀{n v},look l n=some v->n∉ν
 | [],_,n,v,h=>by simp [look] at h
 | (m,u) :: r,hk,n,v,h=>by
  simp only [nZ,Bool.and_eq_true,Bool.not_eq_true'] at hk
  rw [bS] at h
  split at h
  ·rename_i e;subst e
   intro hm;rw [uA.2 hm] at hk;exact absurd hk.1 (by decide)
  ·exact rT hk.2 h
theorem pA {an:jE} {y:PD an.aN} {us:List Nat}:∀{l:List (Nat × Nat)} {t:Nat} {v:SV},look (rR an y us l) t=some v->∃k,(t,k)∈l/\v = .s (.one (fL an.aN y us k))
 | [],t,v,h=>by simp [rR,look] at h
 | (m,k) :: r,t,v,h=>by
  simp only [rR,bS] at h
  split at h
  ·rename_i e;subst e;cases h;exact ⟨k,by simp,rfl⟩
  ·obtain ⟨k',h1,h2⟩:=pA h;exact ⟨k',by simp [h1],h2⟩
theorem vK {st:St} {an:jE} {ν:List Nat}:∀{l:List (Nat × Nat)} {t k:Nat},rQ st an ν l=true->(t,k)∈l->∃c,look st.env t=some (.s (.one c))/\ib false st.aC an.aN ν k c=true
 | [],_,_,_,h=>by simp at h
 | (m,i) :: r,t,k,h,hm=>by
  simp only [rQ,Bool.and_eq_true] at h
  rcases List.mem_cons.1 hm with e | hm
  ·cases e
   obtain ⟨h1,_⟩:=h
   split at h1
   ·rename_i c hc;exact ⟨c,hc,h1⟩
   ·cases h1
  ·exact vK h.2 hm
theorem xx {st:St} {an:jE} {y:PD an.aN}:∀{l:List (Nat × Nat)} {t k:Nat} {c:C},(∀p∈vD st an y l,p)->(t,k)∈l->look st.env t=some (.s (.one c))->∀p∈pw an.aN y k c,p
 | [],_,_,_,_,h,_=>by simp at h
 | (m,i) :: r,t,k,c,h,hm,hl=>by
  simp only [vD] at h
  obtain ⟨h1,h2⟩:=iW.1 h
  rcases List.mem_cons.1 hm with e | hm
  ·cases e
   rw [hl] at h1
   exact h1
  ·exact xx h2 hm hl
theorem vL {bL:List Nat}:∀{l:List (Nat × Nat)} {t k:Nat},rS bL l=true->(t,k)∈l->t∉bL
 | [],_,_,_,h=>by simp at h
 | (m,i) :: r,t,k,h,hm=>by
  simp only [rS,Bool.and_eq_true,Bool.not_eq_true'] at h
  rcases List.mem_cons.1 hm with e | hm
  ·cases e
   intro hk;rw [qH.2 hk] at h;exact absurd h.1 (by decide)
  ·exact vL h.2 hm
theorem xy {an:jE} {O:aD} {st st':St} {loc loc0:Nat->Loc} {w w0:World} {a:Act} {W:List Nat} (x:an.X) (g:Good cx.eT X (aB O st' loc w)) (hA:gG cx (aB O st' loc w) st' a) (ht:Tr (aB O st loc0 w0) (aB O st' loc w))
  (hok:pW an st W x=true) (hkeep:∀n∈an.bL,∀v,look st.env n=some v->∃u,look st'.env n=some u/\nB u v) (hf:∃ν,Ke an st st' x ν) :
  ∃loc',Good cx.eT X (aB O (cO an st x) loc' w)/\gG cx (aB O (cO an st x) loc' w) (cO an st x) a/\Tr (aB O st loc0 w0) (aB O (cO an st x) loc' w):=by
 obtain ⟨ν,hf⟩:=hf
 simp only [pW,Bool.and_eq_true] at hok
 obtain ⟨hb1,hb2,hkeys,hnr⟩:=hok
 generalize husd:upto st.next an.aN.length=us
 have husl:us.length=an.aN.length:=by rw [<-husd];exact qE _ _
 have hus:nodupB us=true:=by rw [<-husd];exact iI _ _
 have husm:∀n∈us,st.next<=n/\n < st.next + an.aN.length:=fun n hn=>by rw [<-husd] at hn;exact qD hn
 have hlen:ν.length=us.length:=by rw [husl];exact (nR hf.get).symm
 let loc':=dQ us (ν.map loc) loc
 have hlow:∀n,n < st.next->loc' n=loc n:=fun n hn=>lR fun hm=>by have:=(husm n hm).1;omega
 have hnu:∀n,n < st.next->n∉us:=fun n hn hm=>by have:=(husm n hm).1;omega
 have hrest:∀m oc,look (nS an st x) m=some oc->m < st.next/\m∉ν/\∃u,look st'.aC m=some u/\aQ (loc m) (loc m) u oc/\u.lo=oc.lo/\OR cx.eT X (aB O st' loc w) (loc m) oc:=by
  intro m oc hm
  obtain ⟨u,hu,hs⟩:=ld hf.aC hm
  obtain ⟨h1,h2,h3⟩:=vI hs (g.obj m u hu).2
  exact ⟨(kE hb2 hm).1,rT hf.out hm,u,hu,h2,h3,h1⟩
 have hob:∀m oc,look (cO an st x).aC m=some oc->(∃(i n:Nat) (o:Ob) (y:OD o) (oc0:OC),ν[i]?=some n/\us[i]?=some m/\look st'.aC n=some oc0/\ij false st'.aC an.aN ν o oc0=some y/\
   oc=ou (fL an.aN (an.pd x) us) o y/\loc' m=loc n)\/(m∉us/\look (nS an st x) m=some oc/\loc' m=loc m):=by
  intro m oc hm
  simp only [cO,husd,dD] at hm
  split at hm
  ·rename_i oc' hm'
   cases hm
   obtain ⟨i,n,o,y,oc0,k1,k2,k3,k4,k5,k6,_⟩:=nQ hf.get (nP (X:=X) g hf.get hf.get hf.conds) hlen hm'
   exact .inl ⟨i,n,o,y,oc0,k1,k2,k4,k5,k6,jm hus k2 (by simp [k1])⟩
  ·rename_i hm'
   have hnin:m∉us:=fun hmem=>by
    obtain ⟨oc1,h2⟩:=nz (f:=fL an.aN (an.pd x) us) (x:=an.pd x) husl.symm hmem
    rw [h2] at hm';cases hm'
   exact .inr ⟨hnin,hm,lR hnin⟩
 have hAsub:∀b o,(aB O (cO an st x) loc' w).A b o->(aB O st' loc w).A b o:=by
  rintro b off (h | ⟨m,oc,h1,h2,h3⟩)
  ·exact .inl h
  ·rcases hob m oc h1 with ⟨i,n,o,y,oc0,k1,k2,k4,k5,k6,k7⟩ | ⟨k1,k2,k3⟩
   ·refine .inr ⟨n,oc0,k4,by simp only [aB] at h2;rw [k7] at h2;exact h2,?_⟩
    rcases wS (f:=fL an.aN (an.pd x) us) k5 with e | e
    ·rw [<-e,<-k6];exact h3
    ·cases e
   ·obtain ⟨_,_,u,hu,_,hlo,_⟩:=hrest m oc k2
    exact .inr ⟨m,u,hu,by simp only [aB] at h2;rw [k3] at h2;exact h2,by rw [hlo];exact h3⟩
 have hcell:∀b o v,¬ (aB O st' loc w).A b o->w.cell? ⟨b,o,none⟩=some v->w.cell? ⟨b,o,none⟩=some v/\¬ (aB O (cO an st x) loc' w).A b o:=fun b o v h1 h2=>⟨h2,fun h=>h1 (hAsub b o h)⟩
 have hrel:∀{c:C} {v:Value},nC st.next c=true->CR cx.eT (aB O st' loc w) c v->CR cx.eT (aB O (cO an st x) loc' w) c v:=fun hb hv=>
  BX (S:=aB O st' loc w) (S':=aB O (cO an st x) loc' w) (k:=st.next) hcell (by simp [aB,cO]) (fun n hn=>hlow n hn) (fun n oc hn h=>by
   rcases hob n oc h with ⟨i,n',o,y,oc0,k1,k2,_⟩ | ⟨k1,k2,k3⟩
   ·exact absurd (List.mem_of_getElem? k2) (hnu n hn)
   ·obtain ⟨_,_,u,hu,hk,_,_⟩:=hrest n oc k2
    exact ⟨u,hu,hk⟩) hb hv
 obtain ⟨gN,laid⟩:=DZ (X:=X) g hf.get hf.conds hf.nodup (O2:=O) (ν2:=us) (rest:=nS an st x) (locR:=loc) (st2:=cO an st x) hus hlen (by simp only [cO,husd])
  (fun n hn=>by have:=(husm n hn).2;simp only [cO];exact this)
  (fun n hn b hb off h=>by
   obtain ⟨_,oc,_,_,k,_⟩:=jM hf.get hn
   exact g.out n oc b off k hb h)
  (fun n hn b hb m oc h1 h2 h3=>by
   obtain ⟨_,oc0,_,_,k,_⟩:=jM hf.get hn
   obtain ⟨_,hmν,u,hu,_⟩:=hrest m oc h1
   have:=g.apart n m oc0 u b k hu hb h3
   exact hmν (by rw [<-this];exact hn))
  (fun m oc h1 h2=>by
   obtain ⟨hm,_,u,hu,hk,hlo,hor⟩:=hrest m oc h1
   refine ⟨by simp only [cO];omega,?_⟩
   have hb:=(kE hb2 h1).2
   cases oc with
   | cells T cs=>
    obtain ⟨b,vs,h1,h2,h3,h4⟩:=hor
    exact ⟨b,vs,h1,h2,h3,ow (k:=st.next) hrel hb h4⟩
   | aX t xs=>exact Ah.to (S:=aB O st' loc w) (S':=aB O (cO an st x) loc' w) rfl (.inr hAsub) hor
   | tok t xs=>exact Ah.to (X:=X) (S:=aB O st' loc w) (S':=aB O (cO an st x) loc' w) (l:=loc m) rfl (.inr hAsub) hor
   | arr t xs=>
    obtain ⟨b,vs,T,h1,h2,h3,h4,h5⟩:=hor
    exact ⟨b,vs,T,h1,h2,h3,h4,fun i y hy=>let ⟨us,r1,r2⟩:=h5 i y hy;⟨us,r1.frame hcell,r2⟩⟩
   | ext k t x=>exact hor
   | iter cs seen cl=>obtain ⟨b,m,c,sn,k1,k2,k3,k4,k5⟩:=hor;exact ⟨b,m,c,sn,k1,k2,k3,ow (k:=st.next) hrel hb k4,k5⟩)
  (fun m m' oc oc' b h1 h2 _ _ h3 h4=>by
   obtain ⟨_,_,u,hu,_⟩:=hrest m oc h1
   obtain ⟨_,_,u',hu',_⟩:=hrest m' oc' h2
   exact g.apart m m' u u' b hu hu' h3 h4)
  (fun m oc b off h1 _ h2=>by
   obtain ⟨_,_,u,hu,_⟩:=hrest m oc h1
   exact g.out m u b off hu h2)
  (.inr hAsub)
  (fun b hb ⟨m,oc,h1,h2⟩=>by
   rcases hob m oc h1 with ⟨i,n,o,y,oc0,k1,k2,k4,k5,k6,k7⟩ | ⟨k1,k2,k3⟩
   ·refine g.lG.2 b hb ⟨n,oc0,k4,?_⟩
    have e:dQ us (ν.map loc) loc m=loc n:=k7
    simp only [aB] at h2;rw [e] at h2;exact h2
   ·obtain ⟨_,_,u,hu,_⟩:=hrest m oc k2
    have e:dQ us (ν.map loc) loc m=loc m:=k3
    refine g.lG.2 b hb ⟨m,u,hu,?_⟩
    simp only [aB] at h2;rw [e] at h2;exact h2)
 refine ⟨loc',gN,⟨hA.size,hA.defers,fun t sv hl => ?_⟩,?_⟩
 ·simp only [cO,husd,dD] at hl
  split at hl
  ·rename_i v hv
   cases hl
   obtain ⟨k,hk,rfl⟩:=pA hv
   obtain ⟨c,hc,hs⟩:=vK hf.refs hk
   have hcv:CR cx.eT (aB O st' loc w) c (a.tmps.getD t undef):=hA.env t _ hc
   exact vC laid (wR g hcv hf.get hs (xx hf.KS hk hc))
  ·have hl2:look (vE an st x) t=some sv:=hl
   have hst:∃u,look st'.env t=some u/\nB u sv:=by
    simp only [vE,dD] at hl2
    split at hl2
    ·rename_i v hv;cases hl2;exact la hf.env hv
    ·obtain ⟨h1,h2⟩:=fM hl2;exact hkeep t h1 sv h2
   obtain ⟨u,hu,hs⟩:=hst
   have hv:=vG hs (hA.env t u hu)
   obtain ⟨v0,rfl,hb⟩:=rf hb1 hl2
   cases v0 with
   | one c=>exact hrel hb hv
   | agg cs=>obtain ⟨vs,h1,h2⟩:=hv;exact ⟨vs,h1,ow (k:=st.next) hrel hb h2⟩
 ·refine {O:=ht.O,next:=by simp [aB,cO],os:=ht.os,output:=ht.output,size:=ht.size,own:=fun b hb => ?_,cell:=fun b o v h1 h2 => ?_,block:=ht.block,loc:=fun n hn hfx => ?_,kind:=fun n oc hn h => ?_}
  ·obtain ⟨m,oc,h1,h2⟩:=hb
   rcases hob m oc h1 with ⟨i,n,o,y,oc0,k1,k2,k4,k5,k6,k7⟩ | ⟨k1,k2,k3⟩
   ·exact ht.own b ⟨n,oc0,k4,by simp only [aB] at h2;rw [k7] at h2;exact h2⟩
   ·obtain ⟨_,_,u,hu,_⟩:=hrest m oc k2
    exact ht.own b ⟨m,u,hu,by simp only [aB] at h2;rw [k3] at h2;exact h2⟩
  ·obtain ⟨k1,k2⟩:=ht.cell b o v h1 h2
   exact ⟨k1,fun h=>k2 (hAsub b o h)⟩
  ·show (loc' n).v=_/\(_->loc' n=_)
   rw [hlow n hn];exact ht.loc n hn hfx
  ·rcases hob n oc h with ⟨i,n',o,y,oc0,k1,k2,_⟩ | ⟨k1,k2,k3⟩
   ·exact absurd (List.mem_of_getElem? k2) (hnu n hn)
   ·obtain ⟨_,_,u,hu,hk,_,_⟩:=hrest n oc k2
    obtain ⟨oc1,m1,m2⟩:=ht.kind n u hn hu
    refine ⟨oc1,m1,?_⟩
    show aQ _ (loc' n) _ _
    rw [hlow n hn]
    exact m2.comp hk
theorem D3 {an:jE} {st:St} {W:List Nat} {x:an.X} (hok:pW an st W x=true) {n:Nat} (hn:n∈an.bL) {v:SV} (h:look (cO an st x).env n=some v) (hW:n∉W):look st.env n=some v:=by
 simp only [pW,Bool.and_eq_true] at hok
 obtain ⟨_,_,hkeys,hnr⟩:=hok
 simp only [cO,vE,dD] at h
 split at h
 ·rename_i u hu
  obtain ⟨k,hk,_⟩:=pA hu
  exact absurd hn (vL hnr hk)
 ·split at h
  ·rename_i u hu;exact absurd (nj hkeys hu) hW
  ·exact (fM h).2
theorem xz {O:aD} {st:St} {loc:Nat->Loc} {w:World} {an:jE} {W:List Nat} {K:St->VC} (hdis:oY an.bL W=true)
  (hk:(VC.all an.X fun x => .imp (an.inv x) (match gT st.next (bH an st x).env && (gH st.next (bH an st x).aC && ke W (an.bJ x)) with
     | true=>K (bH an st x)
     | false => .ff)).holds) {a':Act} {w':World}:eH cx X O (jh an st) W st (aB O st loc w) a' w'->eH cx X O K W st (aB O st loc w) a' w':=by
 have hkeepW:=o1 hdis
 rintro ⟨st2,loc2,k1,k2,k3,k4,k5⟩
 simp only [jh] at k1
 split at k1
 case h_2=>exact k1.elim
 rename_i hpres
 obtain ⟨x',hx',hs',ho'⟩:=k1
 have hvx:=hk x' hx'
 split at hvx
 case h_2=>exact hvx.elim
 rename_i hbb
 simp only [Bool.and_eq_true] at hbb
 have hhead:∀t,t∉W->∀v,look (bH an st x').env t=some v->look st.env t=some v:=by
  intro t ht v hv
  simp only [bH,dD] at hv
  split at hv
  ·rename_i u hu;exact absurd (nj hbb.2.2 hu) ht
  ·exact (fM hv).2
 obtain ⟨m1,m2,m3⟩:=qI (an:=an) (st:=st) x' k2 k4 k3 (by
   intro n v hv
   simp only [bH,dD] at hv
   split at hv
   ·rename_i u hu;cases hv;exact la hs' hu
   ·obtain ⟨hmem,hl⟩:=fM hv
    refine ⟨v,?_,jN v⟩
    obtain ⟨v',hv'⟩:=lu hpres hmem
    have:=k5 (hkeepW n hmem).1 n (hkeepW n hmem).2 v' hv'
    rw [hl] at this
    cases this
    exact hv')
  (by
   intro n v hv
   simp only [bH] at hv
   exact ld ho' hv) hbb.1 hbb.2.1
 exact ⟨bH an st x',loc2,hvx,m1,m3,m2,fun _ t ht v hv=>hhead t ht v hv⟩
theorem xA (hok:lL P cx X) {O:aD} {id:Nat} {ops:Array Oper} {draw:Bool} {st:St} {loc:Nat->Loc} {w:World} {a:Act} {K:Ex->St->VC} (hA:gG cx (aB O st loc w) st a) (g:Good cx.eT X (aB O st loc w)) (hO:dY O w)
  (h:(yT cx ops draw st (K .normal)).holds):(Code.region id ops draw).wp P (o3 cx X O K (fB ops.toList) st (aB O st loc w)) a w:=by
 have hW:∀(j:Nat) (oj:Oper) (d:Nat),ops[j]?=some oj->oj.dst=some d->d∈fB ops.toList:=by
  intro j oj d hj hd
  exact List.mem_filterMap.2 ⟨oj,by rw [<-Array.getElem?_toList] at hj;exact List.mem_of_getElem? hj,hd⟩
 have hq:∀st' loc' a' w',(K .normal st').holds->Good cx.eT X (aB O st' loc' w')->Tr (aB O st loc w) (aB O st' loc' w')->gG cx (aB O st' loc' w') st' a'->lr (fB ops.toList) st st'->
   o3 cx X O K (fB ops.toList) st (aB O st loc w) .normal a' w':=fun st' loc' a' w' h1 h2 h3 h4 h5=>⟨st',loc',h1,h2,h3,h4,h5⟩
 unfold yT at h
 cases draw with
 | false=>
  refine wp_region_list ?_
  exact BV hok hW ops.toList (fun o ho d hd=>List.mem_filterMap.2 ⟨o,ho,hd⟩) hA g hO h hq
 | true=>
  split at h
  ·rename_i e;cases e
  ·rename_i e
   split at h
   ·rename_i hreg
    rw [Jf] at h
    refine wp_region_any hok.mixed (C0 (loud:=iG cx ops.toList) _ _ _ _ (aB O st loc {w with drawn:=w.drawn + 1}).A ?_)
    have hdrew:Below w.heap.size w {w with drawn:=w.drawn + 1}:=⟨rfl,rfl,Nat.le_refl _,fun _ _=>rfl⟩
    obtain ⟨tr,g'⟩:=qh (S:=aB O st loc w) (S':=aB O st loc {w with drawn:=w.drawn + 1}) g rfl rfl rfl rfl hdrew
    refine BW hok hW hreg (fun c a w h=>h) ops.size _ ?_ ⟨hA.size,hA.defers,hA.env.tr tr⟩ g' (hO.tr (Nat.le_refl _)) h ?_
    ·intro j o ho hj
     rw [Array.getD_eq_getD_getElem?,Array.getElem?_replicate] at hj
     split at hj <;> simp at hj
    ·intro st' loc' a' w' h1 h2 h3 h4 h5
     obtain ⟨st2,loc2,k1,k2,k3,k4,k5⟩:=eH.KY (K:=K .normal) (f:=canon st.next (fB ops.toList)) (W:=fB ops.toList) hA (fun st'=>by
      rcases DV st.next (fB ops.toList) st' with e | ⟨r,q,k1,k2⟩
      ·exact .inl e
      ·exact .inr ⟨r,q,k1,k2⟩) (⟨st',loc',h1,h2,tr.trans h3,h4,h5⟩:eH cx X O (fun st'=>K .normal (canon st.next (fB ops.toList) st')) (fB ops.toList) st (aB O st loc w) a' w')
     exact hq st2 loc2 a' w' k1 k2 k3 k4 k5
   ·exact h.elim
theorem HJ (hok:lL P cx X) (anns:dE) {O:aD}:∀(c:Code) (cur:Nat) {st:St} {loc:Nat->Loc} {w:World} {a:Act} {K:Ex->St->VC},
  gG cx (aB O st loc w) st a->Good cx.eT X (aB O st loc w)->dY O w->(vc cx anns c cur st K).holds->c.wp P (o3 cx X O K (writes anns cur c) st (aB O st loc w)) a w:=by
 intro c
 induction c with
 | skip=>intro cur st loc w a K hA g hO h;exact wp_skip ⟨st,loc,h,g,Tr.refl _,hA,fun _ _ _ _ h=>h⟩
 | region id ops draw=>
  intro cur st loc w a K hA g hO h
  simp only [vc] at h
  split at h
  ·exact xA hok hA g hO h
  ·rename_i an _
   split at h
   case h_2=>exact h.elim
   rename_i hdis
   obtain ⟨hb,hk⟩:=h
   refine wp_mono (xA (K:=fun e=>match e with | .normal=>jh an st | e=>K e) hok hA g hO hb) ?_
   intro e a' w' hq
   cases e with
   | normal=>exact xz hdis hk hq
   | exit i=>exact hq
   | ret=>exact hq
   | goto l=>exact hq.elim
   | panic c=>exact hq.elim
   | outgrown=>exact hq.elim
 | seq c1 c2 ih1 ih2=>
  intro cur st loc w a K hA g hO h
  refine wp_seq ?_
  refine wp_mono (ih1 cur hA g hO h) ?_
  intro e a' w' hq
  refine Jk (K:=K) (W:=writes anns cur c1) ?_ (fun e he=>by cases e <;> simp_all) ?_ hq
  ·rintro a1 w1 ⟨st',loc',k1,k2,k3,k4,k5⟩
   refine wp_mono (ih2 cur k4 k2 (hO.tr k3.size) k1) ?_
   intro e a2 w2 hq2
   exact hq2.mono k3 (W':=writes anns cur (.seq c1 c2)) (fun hm t ht=>k5 (fun h=>hm (List.mem_append.2 (.inl h))) t fun hm=>ht (List.mem_append.2 (.inl hm))) (fun n hn=>List.mem_append.2 (.inr hn))
  ·intro e a1 w1 hq1 _
   exact hq1.mono (Tr.refl _) (fun _ _ _ _ h=>h) (fun n hn=>List.mem_append.2 (.inl hn))
 | cond x c1 c2 ih1 ih2=>
  intro cur st loc w a K hA g hO h
  have hx:=bE hA.env x
  have h1:∀{K},(vc cx anns c1 cur st K).holds->c1.wp P (o3 cx X O K (writes anns cur (.cond x c1 c2)) st (aB O st loc w)) a w:=fun h=>
   wp_mono (ih1 cur hA g hO h) fun e a' w' hq=>hq.mono (Tr.refl _) (fun _ _ _ _ h=>h) (fun n hn=>List.mem_append.2 (.inl hn))
  have h2:∀{K},(vc cx anns c2 cur st K).holds->c2.wp P (o3 cx X O K (writes anns cur (.cond x c1 c2)) st (aB O st loc w)) a w:=fun h=>
   wp_mono (ih2 cur hA g hO h) fun e a' w' hq=>hq.mono (Tr.refl _) (fun _ _ _ _ h=>h) (fun n hn=>List.mem_append.2 (.inr hn))
  have base:∀{K:Ex->St->VC},(match cW st.env x with
    | .lit true=>vc cx anns c1 cur st K
    | .lit false=>vc cx anns c2 cur st K
    | .d .bool g => .ite g (vc cx anns c1 cur st K) (vc cx anns c2 cur st K)
    | _ => .ff).holds->(Code.cond x c1 c2).wp P (o3 cx X O K (writes anns cur (.cond x c1 c2)) st (aB O st loc w)) a w:=by
   intro K h
   split at h
   ·rename_i hl;rw [hl] at hx;exact wp_cond_true hx (h1 h)
   ·rename_i hl;rw [hl] at hx;exact wp_cond_false hx (h2 h)
   ·rename_i b hl
    rw [hl] at hx
    have hx:=(dC (eT:=cx.eT) (S:=aB O st loc w) (b:=b)).1 hx
    cases b
    ·exact wp_cond_false hx (h2 (h.2 rfl))
    ·exact wp_cond_true hx (h1 (h.1 rfl))
   ·exact h.elim
  simp only [vc] at h
  split at h
  ·exact base h
  ·rename_i an _
   split at h
   case h_2=>exact h.elim
   rename_i hdis
   obtain ⟨hb,hk⟩:=h
   refine wp_mono (base (K:=fun e st'=>match e with | .normal=>jh an st st' | e=>K e st') hb) ?_
   intro e a' w' hq
   cases e with
   | normal=>exact xz hdis hk hq
   | exit i=>exact hq
   | ret=>exact hq
   | goto l=>exact hq.elim
   | panic c=>exact hq.elim
   | outgrown=>exact hq.elim
 | block id b ih=>
  intro cur st loc w a K hA g hO h
  refine wp_block ?_
  simp only [vc] at h
  split at h
  case h_2=>
   rename_i an _
   split at h
   case h_2=>exact h.elim
   rename_i hdis
   have hkeepW:=o1 hdis
   obtain ⟨hb,hk⟩:=h
   refine wp_mono (ih id hA g hO hb) ?_
   intro e a' w' hq
   have join:eH cx X O (jh an st) (writes anns id b) st (aB O st loc w) a' w'->o3 cx X O K (writes anns cur (.block id b)) st (aB O st loc w) .normal a' w':=by
    rintro ⟨st2,loc2,k1,k2,k3,k4,k5⟩
    simp only [jh] at k1
    split at k1
    case h_2=>exact k1.elim
    rename_i hpres
    obtain ⟨x',hx',hs',ho'⟩:=k1
    have hvx:=hk x' hx'
    split at hvx
    case h_2=>exact hvx.elim
    rename_i hbb
    simp only [Bool.and_eq_true] at hbb
    have hhead:∀t,t∉writes anns id b->∀v,look (bH an st x').env t=some v->look st.env t=some v:=by
     intro t ht v hv
     simp only [bH,dD] at hv
     split at hv
     ·rename_i u hu;exact absurd (nj hbb.2.2 hu) ht
     ·exact (fM hv).2
    obtain ⟨m1,m2,m3⟩:=qI (an:=an) (st:=st) x' k2 k4 k3 (by
      intro n v hv
      simp only [bH,dD] at hv
      split at hv
      ·rename_i u hu;cases hv;exact la hs' hu
      ·obtain ⟨hmem,hl⟩:=fM hv
       refine ⟨v,?_,jN v⟩
       obtain ⟨v',hv'⟩:=lu hpres hmem
       have:=k5 (hkeepW n hmem).1 n (hkeepW n hmem).2 v' hv'
       rw [hl] at this
       cases this
       exact hv')
     (by
      intro n v hv
      simp only [bH] at hv
      exact ld ho' hv) hbb.1 hbb.2.1
    exact ⟨bH an st x',loc2,hvx,m1,m3,m2,fun _ t ht v hv=>hhead t ht v hv⟩
   cases e with
   | normal=>exact join hq
   | exit i=>
    show if i=id then _ else _
    by_cases hi:i=id
    ·rw [if_pos hi]
     subst hi
     obtain ⟨st',loc',k1,k2⟩:=hq
     simp only [Nat.beq_refl] at k1
     exact join ⟨st',loc',k1,k2⟩
    ·rw [if_neg hi]
     obtain ⟨st',loc',k1,k2⟩:=hq
     simp only [kR hi] at k1
     exact ⟨st',loc',k1,k2⟩
   | ret=>exact hq
   | goto l=>exact hq.elim
   | panic c=>exact hq.elim
   | outgrown=>exact hq.elim
  refine wp_mono (ih id hA g hO h) ?_
  intro e a' w' hq
  cases e with
  | normal=>exact hq
  | exit i=>
   obtain ⟨st',loc',k1,k2,k3,k4,k5⟩:=hq
   simp only at k1
   show if i=id then _ else _
   split at k1
   ·rename_i hi
    rw [if_pos (Nat.eq_of_beq_eq_true hi)]
    exact ⟨st',loc',k1,k2,k3,k4,k5⟩
   ·rename_i hi
    rw [if_neg (fun e=>by rw [e,Nat.beq_refl] at hi;cases hi)]
    exact ⟨st',loc',k1,k2,k3,k4,k5⟩
  | ret=>exact hq
  | goto l=>exact hq.elim
  | panic c=>exact hq.elim
  | outgrown=>exact hq.elim
 | loop b ih=>
  intro cur st loc w a K hA g hO h
  simp only [vc] at h
  split at h
  ·rename_i hnone
   have hwl:writes anns cur (.loop b)=writes anns cur b:=by simp only [writes,hnone]
   split at h
   case h_2=>exact h.elim
   rename_i an _
   split at h
   ·rename_i hdis
    have hkeepW:=o1 hdis
    obtain ⟨⟨x0,hx0,hs0,ho0⟩,h⟩:=h
    have hobk:∀x n v,look (bH an st x).aC n=some v->look (an.aC x) n=some v\/look st.aC n=some v:=by
     intro x n v hv
     simp only [bH,dD] at hv
     split at hv
     ·rename_i u hu;cases hv;exact .inl hu
     ·exact .inr (yH hv)
    have hhead:∀x,ke (writes anns cur b) (an.bJ x)=true->∀t,t∉writes anns cur b->∀v,look (bH an st x).env t=some v->look st.env t=some v:=by
     intro x hk t ht v hv
     simp only [bH,dD] at hv
     split at hv
     ·rename_i u hu;exact absurd (nj hk hu) ht
     ·exact (fM hv).2
    refine wp_loop_ghost (fun n a' w'=>∃x loc',an.inv x/\an.bW x=n/\gT st.next (bH an st x).env=true/\(gH st.next (bH an st x).aC=true/\ke (writes anns cur b) (an.bJ x)=true)/\
     (vc cx anns b cur (bH an st x) fun e st'=>match e with
       | .normal=>match kd st'.env an.bL with
        | true => .leaf (∃x',an.inv x'/\an.bW x' < an.bW x/\kY st' (an.bJ x')/\kZ st' (an.aC x'++gS st an.ic))
        | false => .ff
       | e=>K e st').holds/\
     Good cx.eT X (aB O (bH an st x) loc' w')/\gG cx (aB O (bH an st x) loc' w') (bH an st x) a'/\Tr (aB O st loc w) (aB O (bH an st x) loc' w')) (an.bW x0) ?_ ?_
    ·have hx:=h x0 hx0
     split at hx
     ·rename_i hb
      simp only [Bool.and_eq_true] at hb
      obtain ⟨m1,m2,m3⟩:=qI (an:=an) (st:=st) x0 g hA (Tr.refl _) (by
        intro n v hv
        simp only [bH,dD] at hv
        split at hv
        ·rename_i u hu;cases hv;exact la hs0 hu
        ·obtain ⟨_,hl⟩:=fM hv
         exact ⟨v,hl,jN v⟩)
       (by
        intro n v hv
        rcases hobk x0 n v hv with hv | hv
        ·exact ld ho0 hv
        ·exact ⟨v,hv,BY v⟩) hb.1 hb.2.1
      exact ⟨x0,loc,hx0,rfl,hb.1,hb.2,hx,m1,m2,m3⟩
     ·exact hx.elim
    ·rintro n a1 w1 ⟨x,loc1,hx,hn,hb1,hb2,hvc,g1,hA1,tr1⟩
     refine wp_mono (ih cur hA1 g1 (hO.tr tr1.size) hvc) ?_
     intro e a2 w2 hq
     have up:∀Kx:St->VC,eH cx X O Kx (writes anns cur b) (bH an st x) (aB O (bH an st x) loc1 w1) a2 w2->eH cx X O Kx (writes anns cur (.loop b)) st (aB O st loc w) a2 w2:=by
      rintro Kx ⟨st2,loc2,k1,k2,k3,k4,k5⟩
      exact ⟨st2,loc2,k1,k2,tr1.trans k3,k4,fun hm t ht v hv=>by rw [hwl] at hm ht;exact hhead x hb2.2 t ht v (k5 hm t ht v hv)⟩
     cases e with
     | normal=>
      obtain ⟨st2,loc2,k1,k2,k3,k4,k5⟩:=hq
      simp only at k1
      split at k1
      case h_2=>exact k1.elim
      rename_i hpres
      obtain ⟨x',hx',hlt,hs',ho'⟩:=k1
      have hvx:=h x' hx'
      refine ⟨an.bW x',by rw [<-hn];exact hlt,?_⟩
      split at hvx
      ·rename_i hb
       simp only [Bool.and_eq_true] at hb
       obtain ⟨m1,m2,m3⟩:=qI (an:=an) (st:=st) x' k2 k4 (tr1.trans k3) (by
         intro n v hv
         simp only [bH,dD] at hv
         split at hv
         ·rename_i u hu;cases hv;exact la hs' hu
         ·obtain ⟨hmem,hl⟩:=fM hv
          refine ⟨v,?_,jN v⟩
          obtain ⟨v',hv'⟩:=lu hpres hmem
          have:=hhead x hb2.2 n (hkeepW n hmem).2 v' (k5 (hkeepW n hmem).1 n (hkeepW n hmem).2 v' hv')
          rw [hl] at this
          cases this
          exact hv')
        (by
         intro n v hv
         simp only [bH] at hv
         exact ld ho' hv) hb.1 hb.2.1
       exact ⟨x',loc2,hx',rfl,hb.1,hb.2,hvx,m1,m2,m3⟩
      ·exact hvx.elim
     | exit i=>exact up _ hq
     | ret=>exact up _ hq
     | goto l=>exact hq.elim
     | panic c=>exact hq.elim
     | outgrown=>exact hq.elim
   ·exact h.elim
  ·rename_i f hsome
   have hwl:writes anns cur (.loop b)=allM :: writes anns cur b:=by simp only [writes,hsome]
   generalize Aj st (f st)=an at h
   split at h
   case h_2=>exact h.elim
   rename_i hdis
   have hkeepW:=o1 hdis
   obtain ⟨hfit,h⟩:=h
   obtain ⟨x0,hx0,_,hf0⟩:=xw hfit
   refine wp_loop_ghost (fun n a' w'=>∃x loc',an.inv x/\an.bW x=n/\pW an st (writes anns cur b) x=true/\
    (vc cx anns b cur (cO an st x) fun e st'=>match e with
      | .normal=>match kd st'.env an.bL with
       | true=>vF an st st' fun x'=>an.bW x' < an.bW x
       | false => .ff
      | e=>K e st').holds/\
    Good cx.eT X (aB O (cO an st x) loc' w')/\gG cx (aB O (cO an st x) loc' w') (cO an st x) a'/\Tr (aB O st loc w) (aB O (cO an st x) loc' w')) (an.bW x0) ?_ ?_
   ·have hx:=h x0 hx0
    split at hx
    case h_2=>exact hx.elim
    rename_i hok2
    obtain ⟨loc',m1,m2,m3⟩:=xy (an:=an) (st:=st) x0 g hA (Tr.refl _) hok2 (fun n hn v hv=>⟨v,hv,jN v⟩) hf0
    exact ⟨x0,loc',hx0,rfl,hok2,hx,m1,m2,m3⟩
   ·rintro n a1 w1 ⟨x,loc1,hx,hn,hokx,hvc,g1,hA1,tr1⟩
    refine wp_mono (ih cur hA1 g1 (hO.tr tr1.size) hvc) ?_
    intro e a2 w2 hq
    have up:∀Kx:St->VC,eH cx X O Kx (writes anns cur b) (cO an st x) (aB O (cO an st x) loc1 w1) a2 w2->eH cx X O Kx (writes anns cur (.loop b)) st (aB O st loc w) a2 w2:=by
     rintro Kx ⟨st2,loc2,k1,k2,k3,k4,k5⟩
     exact ⟨st2,loc2,k1,k2,tr1.trans k3,k4,fun hm=>by rw [hwl] at hm;exact absurd (List.mem_cons_self) hm⟩
    cases e with
    | normal=>
     obtain ⟨st2,loc2,k1,k2,k3,k4,k5⟩:=hq
     simp only at k1
     split at k1
     case h_2=>exact k1.elim
     rename_i hpres
     obtain ⟨x',hx',hlt,hf'⟩:=xw k1
     have hvx:=h x' hx'
     split at hvx
     case h_2=>exact hvx.elim
     rename_i hok2
     refine ⟨an.bW x',by rw [<-hn];exact hlt,?_⟩
     obtain ⟨loc',m1,m2,m3⟩:=xy (an:=an) (st:=st) x' k2 k4 (tr1.trans k3) hok2 (fun n hn v hv=>by
      obtain ⟨v',hv'⟩:=lu hpres hn
      have h1:=k5 (hkeepW n hn).1 n (hkeepW n hn).2 v' hv'
      refine ⟨v',hv',?_⟩
      have h2:=D3 hokx hn h1 (hkeepW n hn).2
      rw [hv] at h2;cases h2
      exact jN v) hf'
     exact ⟨x',loc',hx',rfl,hok2,hvx,m1,m2,m3⟩
    | exit i=>exact up _ hq
    | ret=>exact up _ hq
    | goto l=>exact hq.elim
    | panic c=>exact hq.elim
    | outgrown=>exact hq.elim
 | rangeFunc f ps as b _ _=>intro cur st loc w a K _ _ _ h;exact h.elim
 | exit id=>intro cur st loc w a K hA g hO h;exact wp_exit ⟨st,loc,h,g,Tr.refl _,hA,fun _ _ _ _ h=>h⟩
 | scope b _=>intro cur st loc w a K _ _ _ h;exact h.elim
 | label l=>intro cur st loc w a K _ _ _ h;exact h.elim
 | goto l=>intro cur st loc w a K _ _ _ h;exact h.elim
 | ret=>intro cur st loc w a K hA g hO h;exact wp_ret ⟨st,loc,h,g,Tr.refl _,hA,fun _ _ _ _ h=>h⟩
 | refuse why=>intro cur st loc w a K _ _ _ h;exact h.elim
end
end Go.Vg

namespace Go.Vg
open Go.RowKit
@[reducible] def HL:List Ty->Type
 | []=>Unit
 | [t]=>D t
 | t :: u :: r=>D t × HL (u :: r)
def iK:List Ty->Bool
 | []=>true
 | t :: r=>t.flat && iK r
def yU (st:St) (want:Ty) (n:Nat):Option (D want):=
 match look st.aC n with
 | some (.ext 0 t xs)=>match h:Ty.beq t want with
  | true=>some (bT h (a:=t) xs)
  | false=>none
 | _=>none
def D4 (lend:Bool) (st:St) (t:Ty) (a:cC):Option (D t):=
 match lend,t,a with
 | true, .slice e, .one (.aX n)=>rr st e (.aX n)
 | true,t, .one (.xd n .top)=>yU st t n
 | _,t,a=>nG t a
def ly (lend:Bool) (st:St):(ts:List Ty)->List cC->Option (HL ts)
 | [],[]=>some ()
 | [t],[a]=>D4 lend st t a
 | t :: u :: r,a :: as=>match D4 lend st t a,ly lend st (u :: r) as with
  | some x,some xs=>some (x,xs)
  | _,_=>none
 | _,_=>none
def mN:(ts:List Ty)->HL ts->List cC
 | [],_=>[]
 | [t],y=>[.one (.d t y)]
 | t :: u :: r,ys => .one (.d t ys.1) :: mN (u :: r) ys.2
def o4:List cC->SV
 | [v] => .s v
 | vs => .kM vs
def rU (st:St) (c:C):C × St:=
 match c with
 | .aX n=>match look st.aC n with
  | some (.aX t xs)=>(.d (.slice t) xs,bB st n)
  | _=>(c,st)
 | .xd n .top=>match look st.aC n with
  | some (.ext 0 t xs)=>(.d t xs,bB st n)
  | _=>(c,st)
 | c=>(c,st)
def qJ:St->List C->List C × St
 | st,[]=>([],st)
 | st,c :: cs=>match rU st c with
  | (c',st1)=>match qJ st1 cs with
   | (cs',st2)=>(c' :: cs',st2)
def uC (st:St) (v:cC):cC × St:=
 match v with
 | .one c=>match rU st c with
  | (c',st')=>(.one c',st')
 | .agg cs=>match qJ st cs with
  | (cs',st')=>(.agg cs',st')
def wT (lend:Bool) (st:St) (v:cC):cC × St:=
 match lend,v with
 | true, .one c=>(.one c,st)
 | _,v=>uC st v
def pB (lend:Bool):St->List cC->List cC × St
 | st,[]=>([],st)
 | st,v :: vs=>match wT lend st v with
  | (v',st1)=>match pB lend st1 vs with
   | (vs',st2)=>(v' :: vs',st2)
def iX (ts rts:List Ty) (pre:HL ts->Prop) (post:HL ts->HL rts->Prop):bR:=fun args st K=>
 match pB (iK rts) st args with
 | (args,st)=>match ly (iK rts) st ts args with
  | some xs => .and (pre xs) (.all (HL rts) fun ys => .imp (post xs ys) (K (o4 (mN rts ys)) st))
  | none => .ff
def aS (ts rts:List Ty) (pre:HL ts->Prop) (g:HL ts->HL rts):bR:=fun args st K=>
 match pB (iK rts) st args with
 | (args,st)=>match ly (iK rts) st ts args with
  | some xs => .and (pre xs) (K (o4 (mN rts (g xs))) st)
  | none => .ff
inductive Kf (α:Type) where
 | ret (a:α)
 | ite (c:Bool) (a b:Kf α)
def Kf.eval {α:Type}:Kf α->α
 | .ret a=>a
 | .ite c a b=>match c with
  | true=>a.eval
  | false=>b.eval
def FQ (st:St) (want:Ty) (c:C):Option (D want):=
 match c with
 | .aX n=>match look st.aC n with
  | some (.aX t xs)=>match h:Ty.beq (.slice t) want with
   | true=>some (bT h (a:=.slice t) xs)
   | false=>none
  | _=>none
 | .xd n .top=>yU st want n
 | c=>ra want c
def lz (st:St):(t:Ty)->List C->Option (D t × List C)
 | .prod a b,cs=>match lz st a cs with
  | some (x,cs1)=>match lz st b cs1 with
   | some (y,cs2)=>some ((x,y),cs2)
   | none=>none
  | none=>none
 | .unit,cs=>some ((),cs)
 | t,c :: cs=>match FQ st t c with
  | some x=>some (x,cs)
  | none=>none
 | _,[]=>none
def D5 (st:St) (want:Ty):cC->Option (D want)
 | .one c=>FQ st want c
 | .agg cs=>match want.one with
  | true=>none
  | false=>match lz st want cs with
   | some (x,[])=>some x
   | _=>none
def rV (st:St):(ts:List Ty)->List cC->Option (HL ts)
 | [],[]=>some ()
 | [t],[a]=>D5 st t a
 | t :: u :: r,a :: as=>match D5 st t a,rV st (u :: r) as with
  | some x,some xs=>some (x,xs)
  | _,_=>none
 | _,_=>none
def qK (cx:Cx) (st:St):List ResultVar->(List cC->VC)->VC
 | [],K=>K []
 | .tmp t :: r,K=>match ev st.env (.tmp t) with
  | .s v=>qK cx st r fun vs=>K (v :: vs)
  | _ => .ff
 | .cell a t :: r,K=>rp cx st t (cW st.env (.tmp a)) fun sv=>match sv with
  | .s v=>qK cx st r fun vs=>K (v :: vs)
  | _ => .ff
def D6 (cx:Cx) (anns:dE) (res:List ResultVar) (c:Code) (st:St) (K:List cC->St->VC):VC:=
 vc cx anns c 0 st fun e st'=>match e with
  | .exit _ => .ff
  | _=>qK cx st' res fun vs=>K vs st'
def ox (B:Cx) (Γ:List (FuncId × (Bool × bR))) (N:Nat):Cx:={B with Γ:=Γ,N:=N}
def pY:Nat->(ts:List Ty)->HL ts->List (Nat × SV)
 | _,[],_=>[]
 | k,[t],x=>[(k, .s (.one (.d t x)))]
 | k,t :: u :: r,xs=>(k, .s (.one (.d t xs.1))) :: pY (k + 1) (u :: r) xs.2
def nk (ts:List Ty) (xs:HL ts):St:={env:=pY 0 ts xs,aC:=[],next:=0}
def C6 (B:Cx) (Γ:List (FuncId × (Bool × bR))) (N:Nat) (anns:dE) (res:List ResultVar) (c:Code) (ts rts:List Ty) (post:HL ts->HL rts->Prop) (xs:HL ts):VC:=
 D6 (ox B Γ N) anns res c (nk ts xs) fun vs st=>match rV st rts vs with
  | some ys => .leaf (post xs ys)
  | none => .ff
section
variable {eT:TypeId} {X:Ext} {P:Program} {cx:Cx}
def jA (eT:TypeId) (A:aD) (w:World):(ts:List Ty)->HL ts->List Value->Prop
 | [],_,vs=>vs = []
 | [t],x,vs=>∃v,vs = [v]/\VR eT t x A w v
 | t :: u :: r,xs,vs=>∃v vs',vs=v :: vs'/\VR eT t xs.1 A w v/\jA eT A w (u :: r) xs.2 vs'
def Ak:List Value->Value
 | [v]=>v
 | vs => .tuple vs.toArray
structure bV (P:Program) (eT:TypeId) (X:Ext) (f:FuncId) (ts rts:List Ty) (pre:HL ts->Prop) (post:HL ts->HL rts->Prop):Prop where
 fn:∃fn,P.funcs[f]?=some fn/\fn.body.isNone=false/\(fn.name == "runtime.NumGoroutine")=false
 ok:∀O w xs vs,X.rj w->dY O w->jA eT O w ts xs vs->pre xs->
  Calls P f vs.toArray w fun e w'=>∃us ys,e = .returned (Ak us)/\post xs ys/\jA eT O w' rts ys us/\Below w.heap.size w w'
def rW (tmps:Array Value):ResultVar->Sem Value
 | .tmp t=>pure (tmps.getD t undef)
 | .cell b t=>do loadVar t (<-asAddr (tmps.getD b undef))
theorem BZ (hok:TyOK P cx) {O:aD} {st:St} {loc:Nat->Loc} {w:World} {a:Act} (g:Good cx.eT X (aB O st loc w)) (he:fW cx.eT (aB O st loc w) st.env a) :
  ∀{rs:List ResultVar} {K:List cC->VC},(qK cx st rs K).holds->
  ∃vs us,(K vs).holds/\cN cx.eT (aB O st loc w) vs us/\(rs.mapM (rW a.tmps):Sem (List Value)).run P w = .ok us w:=by
 intro rs
 induction rs with
 | nil=>intro K h;exact ⟨[],[],h, .nil,rfl⟩
 | cons r rs ih=>
  intro K h
  cases r with
  | tmp t=>
   simp only [qK] at h
   split at h
   ·rename_i v hv
    obtain ⟨vs,us,h1,h2,h3⟩:=ih h
    have hr:=jY he (.tmp t)
    rw [hv] at hr
    refine ⟨v :: vs,a.tmps.getD t undef :: us,h1, .cons hr h2,?_⟩
    rw [List.mapM_cons]
    simp only [rW,Sem.run_bind,Sem.run_pure,Result.andThen_ok,h3]
   ·exact h.elim
  | cell b t=>
   simp only [qK] at h
   obtain ⟨sv,u,h1,h2,h3⟩:=ql (P:=P) hok g (bE he (.tmp b)) h
   split at h1
   ·rename_i v
    obtain ⟨vs,us,k1,k2,k3⟩:=ih h1
    have h3:=h3 w (Below.refl _ _)
    refine ⟨v :: vs,u :: us,k1, .cons h2 k2,?_⟩
    rw [List.mapM_cons]
    have h4:(do loadVar t (<-asAddr (a.tmps.getD b undef)):Sem Value).run P w = .ok u w:=by
     have h3:(Instr.loadAt t (a.tmps.getD b undef)).run P w = .ok u w:=h3
     generalize a.tmps.getD b undef=p at h3
     cases p with
     | pointer q=>
      cases q with
      | none=>simp [Instr.loadAt,Instr.sureAddr] at h3
      | some q=>simpa [Instr.loadAt,Instr.sureAddr,asAddr] using h3
     | _=>simp [Instr.loadAt,Instr.sureAddr] at h3
    simp only [rW,Sem.run_bind] at h4 ⊢
    simp only [h4,Sem.run_pure,Result.andThen_ok,k3]
   ·exact h1.elim
theorem cN.len {S:bD} {xs:List cC} {us:List Value} (h:cN eT S xs us):xs.length=us.length:=by
 induction h with
 | nil=>rfl
 | cons _ _ ih=>simp [ih]
theorem rX {S:bD} {vs:List cC} {us:List Value} (h:cN eT S vs us):cV eT S (o4 vs) (Ak us):=by
 match vs,us,h with
 | [],[],h=>exact ⟨[],rfl,h⟩
 | [v],[u], .cons h1 .nil=>exact h1
 | _ :: _ :: _,_ :: _ :: _,h=>exact ⟨_,rfl,h⟩
theorem pC (hok:lL P cx X) {f:FuncId} {fn:Func} {c:Code} (hf:P.funcs[f]?=some fn) (hb:fn.body=some c) (hN:cx.N=fn.ntmps) (anns:dE) {O:aD} {st:St} {loc:Nat->Loc} {w:World}
  {args:Array Value} {K:List cC->St->VC} (hsz:args.size<=fn.ntmps) (g:Good cx.eT X (aB O st loc w)) (hO:dY O w)
  (henv:∀t sv,look st.env t=some sv->∃v,args[t]?=some v/\cV cx.eT (aB O st loc w) sv v)
  (h:(D6 cx anns fn.results.toList c st K).holds) :
  Calls P f args w fun e w'=>∃vs us st' loc',e = .returned (Ak us)/\(K vs st').holds/\cN cx.eT (aB O st' loc' w') vs us/\Good cx.eT X (aB O st' loc' w')/\Tr (aB O st loc w) (aB O st' loc' w'):=by
 refine calls_of_wp hf hb ?_
 have hA:gG cx (aB O st loc w) st {tmps:=args++Array.replicate (fn.ntmps - args.size) undef,defers:=[]}:=by
  refine ⟨by simp [hN];omega,rfl,fun t sv ht => ?_⟩
  obtain ⟨v,hv,hr⟩:=henv t sv ht
  have hlt:t < args.size:=by
   rcases Nat.lt_or_ge t args.size with hh | hh
   ·exact hh
   ·rw [Array.getElem?_eq_none hh] at hv;cases hv
  rw [Array.getD_eq_getD_getElem?,Array.getElem?_append,if_pos hlt,hv]
  exact hr
 refine wp_mono (HJ hok anns c 0 hA g hO h) ?_
 have fin:∀(a':Act) (w':World),eH cx X O (fun st'=>qK cx st' fn.results.toList fun vs=>K vs st') (writes anns 0 c) st (aB O st loc w) a' w'->a'.defers = []/\∃v,(results fn a'.tmps).run P w' = .ok v w'/\
   ∃vs us st' loc',Ending.returned v = .returned (Ak us)/\(K vs st').holds/\cN cx.eT (aB O st' loc' w') vs us/\Good cx.eT X (aB O st' loc' w')/\Tr (aB O st loc w) (aB O st' loc' w'):=by
  rintro a' w' ⟨st',loc',k1,k2,k3,k4,_⟩
  obtain ⟨vs,us,m1,m2,m3⟩:=BZ (P:=P) hok.toTyOK k2 k4.env k1
  refine ⟨k4.defers,Ak us,?_,vs,us,st',loc',rfl,m1,m2,k2,k3⟩
  have hm:(fn.results.mapM (rW a'.tmps):Sem (Array Value)).run P w' = .ok us.toArray w':=by
   rw [<-Array.toArray_toList (xs:=fn.results),List.mapM_toArray,Sem.run_map,m3]
   rfl
  have he:results fn a'.tmps=(do
    let xs <-fn.results.mapM (rW a'.tmps)
    return if h:xs.size=1 then xs[0] else .tuple xs):=by
   unfold results
   congr 1
  rw [he,Sem.run_bind,hm]
  simp only [Result.andThen_ok,Sem.run_pure]
  match us with
  | []=>rfl
  | [u]=>rfl
  | _ :: _ :: _=>rfl
 intro e a' w' hq
 cases e with
 | normal=>exact fin a' w' hq
 | ret=>exact fin a' w' hq
 | exit n=>obtain ⟨st',loc',k1,_⟩:=hq;exact k1.elim
 | goto l=>exact hq.elim
 | panic c=>exact hq.elim
 | outgrown=>exact hq.elim
end
end Go.Vg

namespace Go.Vg
open Go.RowKit
section
variable {X:Ext} {P:Program} {cx:Cx}
theorem FR {O:aD} {st:St} {loc:Nat->Loc} {w:World} {b o:Nat} (h:¬ (aB O st loc w).A b o):¬ O b o:=fun k=>h (.inl k)
theorem KT {O:aD} {st:St} {loc:Nat->Loc} {w:World} {t:Ty} {x:D t} {v:Value} {eT:TypeId} (h:VR eT t x (aB O st loc w).A w v):VR eT t x O w v:=
 VR.frame h fun _ _ _ ha hc=>⟨hc,FR ha⟩
theorem C7 {O:aD} {st:St} {loc:Nat->Loc} {w:World} (g:Good cx.eT X (aB O st loc w)) {n:Nat} {t:Ty} {xs:List (D t)} (hob:look st.aC n=some (.aX t xs))
  {v:Value} (hx:CR cx.eT (aB O st loc w) (.aX n) v):VR cx.eT (.slice t) xs O w v:=by
 rcases (g.obj _ _ hob).2 with ⟨rfl,⟨a,ha⟩,_⟩ | ⟨b,vs,T,cap,hl,fA,hheap,hvs,hcap,hbig,he⟩
 ·exact VR.bY rfl ⟨_,rfl,by simp, .inl ⟨rfl,a,0,(hx.2 _ _ hob).trans ha⟩⟩
 refine VR.bY rfl ⟨_,rfl,hbig, .inr ⟨b,0,cap,(hx.2 _ _ hob).trans hl,hcap,fun i y hy => ?_⟩⟩
 obtain ⟨us,h1,h2⟩:=he i y hy
 refine ⟨us,h1.frame fun _ _ _ ha hc=>⟨hc,FR ha⟩,fun j u hj=>⟨?_,?_⟩⟩
 ·rw [Nat.zero_add,cell_of_row w b _ vs T (0,0) hheap];exact h2 j u hj
 ·exact g.out n _ b _ hob (by rw [fA];simp)
theorem C8 {O:aD} {st:St} {loc:Nat->Loc} {w:World} (g:Good cx.eT X (aB O st loc w)) {n:Nat} {t:Ty} {xs:D t} (hob:look st.aC n=some (.ext 0 t xs))
  {v:Value} (hx:CR cx.eT (aB O st loc w) (.xd n .top) v) {A:aD} (hA:∀b∈(loc n).bs,∀o,¬ A b o):VR cx.eT t xs A w v:=by
 have hd:jd t xs (loc n) w:=X.deep.1 (g.obj _ _ hob).2
 obtain ⟨e,s,rfl,hs⟩:=oN hd
 exact hd.data (hx.2 _ _ hob) hA
theorem xB {O:aD} {st:St} {loc:Nat->Loc} {w:World} (g:Good cx.eT X (aB O st loc w)) {n:Nat} {t:Ty} {xs:D t} (h:yU st t n=some xs)
  {v:Value} (hx:CR cx.eT (aB O st loc w) (.xd n .top) v):VR cx.eT t xs O w v:=by
 unfold yU at h
 split at h
 ·rename_i t' ys hob
  split at h
  ·cases h;rename_i hb
   exact jv hb _ (C8 g hob hx fun b hb o=>g.out n _ b o hob hb)
  ·cases h
 ·cases h
theorem C9 {O:aD} {st:St} {loc:Nat->Loc} {w:World} (g:Good cx.eT X (aB O st loc w)) {want:Ty} {c:C} {x:D want} {v:Value} (h:FQ st want c=some x)
  (hc:CR cx.eT (aB O st loc w) c v):VR cx.eT want x O w v:=by
 unfold FQ at h
 split at h
 ·rename_i n
  split at h
  ·rename_i t xs hob
   split at h
   ·cases h;rename_i hb;exact jv hb _ (C7 g hob hc)
   ·cases h
  ·cases h
 ·exact xB g h hc
 ·exact KT (pK h hc)
theorem FT {O:aD} {st:St} {loc:Nat->Loc} {w:World} (g:Good cx.eT X (aB O st loc w)):∀{t:Ty} {cs cs':List C} {x:D t} {vs:List Value},lz st t cs=some (x,cs')->cY cx.eT (aB O st loc w) cs vs->
  ∃us vs',vs=us++vs'/\R cx.eT t x O w us/\cY cx.eT (aB O st loc w) cs' vs':=by
 have one:∀{t:Ty} {c:C} {cs cs':List C} {x:D t} {vs:List Value},(match FQ st t c with | some x=>some (x,cs) | none=>none)=some (x,cs')->cY cx.eT (aB O st loc w) (c :: cs) vs->
   ∃us vs',vs=us++vs'/\R cx.eT t x O w us/\cY cx.eT (aB O st loc w) cs' vs':=by
  intro t c cs cs' x vs h hc
  cases hc with
  | cons h1 h2 h3=>
   rename_i v vs0
   split at h
   ·rename_i y hy
    cases h
    exact ⟨[v],vs0,rfl,(tp h2 (C9 g hy h1)).2,h3⟩
   ·cases h
 intro t
 induction t with
 | prod a b iha ihb=>
  intro cs cs' x vs h hc
  simp only [lz] at h
  split at h
  ·rename_i y cs1 h1
   split at h
   ·rename_i z cs2 h2
    cases h
    obtain ⟨u1,v1,rfl,r1,k1⟩:=iha h1 hc
    obtain ⟨u2,v2,rfl,r2,k2⟩:=ihb h2 k1
    exact ⟨u1++u2,v2,by simp,⟨u1,u2,rfl,r1,r2⟩,k2⟩
   ·cases h
  ·cases h
 | unit=>
  intro cs cs' x vs h hc
  simp only [lz] at h
  cases h
  exact ⟨[],vs,rfl,rfl,hc⟩
 | bool=>intro cs cs' x vs h hc;cases cs with | nil=>simp [lz] at h | cons c cs=>exact one (t:=.bool) h hc
 | int k=>intro cs cs' x vs h hc;cases cs with | nil=>simp [lz] at h | cons c cs=>exact one (t:=.int k) h hc
 | str=>intro cs cs' x vs h hc;cases cs with | nil=>simp [lz] at h | cons c cs=>exact one (t:=.str) h hc
 | err=>intro cs cs' x vs h hc;cases cs with | nil=>simp [lz] at h | cons c cs=>exact one (t:=.err) h hc
 | eP=>intro cs cs' x vs h hc;cases cs with | nil=>simp [lz] at h | cons c cs=>exact one (t:=.eP) h hc
 | slice e _=>intro cs cs' x vs h hc;cases cs with | nil=>simp [lz] at h | cons c cs=>exact one (t:=.slice e) h hc
theorem Al {O:aD} {st:St} {loc:Nat->Loc} {w:World} (g:Good cx.eT X (aB O st loc w)) {want:Ty} {c:cC} {x:D want} {v:Value} (h:D5 st want c=some x)
  (hc:gD cx.eT (aB O st loc w) c v):VR cx.eT want x O w v:=by
 cases c with
 | one c=>exact C9 g h hc
 | agg cs=>
  simp only [D5] at h
  obtain ⟨vs,rfl,hcs⟩:=hc
  split at h
  ·cases h
  ·rename_i ho
   split at h
   ·rename_i y hy
    cases h
    obtain ⟨us,vs',rfl,r,k⟩:=FT g hy hcs
    cases k
    unfold VR
    rw [if_neg (by simp [ho])]
    exact ⟨_,rfl,by simpa using r⟩
   ·cases h
theorem Am {O:aD} {st:St} {loc:Nat->Loc} {w:World} (g:Good cx.eT X (aB O st loc w)):∀{ts:List Ty} {vs:List cC} {ys:HL ts} {us:List Value},rV st ts vs=some ys->
  cN cx.eT (aB O st loc w) vs us->jA cx.eT O w ts ys us
 | [],[],_,_,_, .nil=>rfl
 | [t],[a],ys,_,h, .cons h1 .nil=>⟨_,rfl,Al g h h1⟩
 | t :: u :: r,a :: as,ys,_,h, .cons h1 h2=>by
  simp only [rV] at h
  split at h
  ·rename_i x xs k1 k2
   cases h
   exact ⟨_,_,rfl,Al g k1 h1,Am g k2 h2⟩
  ·cases h
 | [],_ :: _,_,_,h,_=>by simp [rV] at h
 | [_],[],_,_,h,_=>by simp [rV] at h
 | [_],_ :: _ :: _,_,_,h,_=>by simp [rV] at h
 | _ :: _ :: _,[],_,_,h,_=>by simp [rV] at h
theorem vM {eT:TypeId} {O:aD} {w:World} {S:bD} (hS:S.w=w) (hA:∀b o,¬ O b o->¬ S.A b o):∀(ts:List Ty) (k:Nat) (xs:HL ts) (vs:List Value),jA eT O w ts xs vs->
  ∀t sv,look (pY k ts xs) t=some sv->k<=t/\∃v,vs[t - k]?=some v/\cV eT S sv v
 | [],k,xs,vs,_,t,sv,h=>by simp [pY,look] at h
 | [ty],k,x,_,⟨v,rfl,hv⟩,t,sv,h=>by
  simp only [pY,bS] at h
  split at h
  ·cases h
   rename_i e;subst e
   exact ⟨Nat.le_refl _,v,by simp,VR.frame hv fun b o _ ha hc=>⟨by rw [hS];exact hc,hA b o ha⟩⟩
  ·simp [look] at h
 | ty :: u :: r,k,xs,_,⟨v,vs',rfl,hv,hr⟩,t,sv,h=>by
  simp only [pY,bS] at h
  split at h
  ·cases h
   rename_i e;subst e
   exact ⟨Nat.le_refl _,v,by simp,VR.frame hv fun b o _ ha hc=>⟨by rw [hS];exact hc,hA b o ha⟩⟩
  ·obtain ⟨h1,v',h2,h3⟩:=vM hS hA (u :: r) (k + 1) xs.2 vs' hr t sv h
   refine ⟨by omega,v',?_,h3⟩
   rw [show t - k=(t - (k + 1)) + 1 from by omega,List.getElem?_cons_succ]
   exact h2
theorem jA.length {eT:TypeId} {O:aD} {w:World}:∀{ts:List Ty} {xs:HL ts} {vs:List Value},jA eT O w ts xs vs->vs.length=ts.length
 | [],_,_,h=>by rw [show _ = [] from h];rfl
 | [_],_,_,⟨_,rfl,_⟩=>rfl
 | _ :: u :: r,_,_,⟨_,_,rfl,_,h⟩=>by simp [jA.length h]
def wf:(t:Ty)->D t->Prop
 | .int k,x=>k.min<=x/\x<=k.max
 | .str,x=>x.length<=aL
 | .prod a b,x=>wf a x.1/\wf b x.2
 | .slice e,x=>x.length<=aL/\∀(i:Nat) y,x[i]?=some y->wf e y
 | _,_=>True
def gI:(ts:List Ty)->HL ts->Prop
 | [],_=>True
 | [t],x=>wf t x
 | t :: u :: r,xs=>wf t xs.1/\gI (u :: r) xs.2
theorem R.wf {eT:TypeId}:∀{t:Ty} {x:D t} {A:aD} {w:World} {vs:List Value},R eT t x A w vs->Vg.wf t x:=by
 intro t
 induction t with
 | int k=>intro x A w vs h;exact h.2
 | str=>intro x A w vs h;exact h.2
 | prod a b iha ihb=>intro x A w vs h;obtain ⟨_,_,_,h1,h2⟩:=h;exact ⟨iha h1,ihb h2⟩
 | slice e ih=>
  intro x A w vs h
  obtain ⟨v,_,hl,h⟩:=h
  refine ⟨hl,fun i y hy => ?_⟩
  rcases h with ⟨rfl,_⟩ | ⟨b,o,cap,_,_,h⟩
  ·simp at hy
  ·obtain ⟨us,h1,_⟩:=h i y hy;exact ih h1
 | _=>intro x A w vs h;trivial
theorem VR.wf {eT:TypeId} {t:Ty} {x:D t} {A:aD} {w:World} {v:Value} (h:VR eT t x A w v):Vg.wf t x:=(VR.cells h).wf
theorem jA.wf {eT:TypeId} {O:aD} {w:World}:∀{ts:List Ty} {xs:HL ts} {vs:List Value},jA eT O w ts xs vs->gI ts xs
 | [],_,_,_=>trivial
 | [_],_,_,⟨_,_,h⟩=>h.wf
 | _ :: _ :: _,_,_,⟨_,_,_,h,h'⟩=>⟨h.wf,jA.wf h'⟩
theorem D7 {B:Cx} {X:Ext} {Γ:List (FuncId × (Bool × bR))} {N:Nat} {f:FuncId} {fn:Func} {c:Code} (hok:lL P (ox B Γ N) X) (hf:P.funcs[f]?=some fn) (hb:fn.body=some c) (hn:(fn.name == "runtime.NumGoroutine")=false)
  (hN:fn.ntmps=N) {ts rts:List Ty} (anns:HL ts->dE) (hts:ts.length<=N) {pre:HL ts->Prop} {post:HL ts->HL rts->Prop}
  (h:∀xs,gI ts xs->pre xs->(C6 B Γ N (anns xs) fn.results.toList c ts rts post xs).holds) :
  bV P B.eT X f ts rts pre post:=by
 refine ⟨⟨fn,hf,by rw [hb];rfl,hn⟩,fun O w xs vs hG hO ha hp => ?_⟩
 have g0:Good (ox B Γ N).eT X (aB O (nk ts xs) (fun _=>default) w):=
  ⟨fun n oc h=>by simp [aB,nk,look] at h,fun n m oc oc' b h=>by simp [aB,nk,look] at h,fun n oc b off h=>by simp [aB,nk,look] at h,hG,fun b hb ⟨n,oc,h,_⟩=>by simp [aB,nk,look] at h⟩
 have hA0:∀b o,¬ O b o->¬ (aB O (nk ts xs) (fun _=>default) w).A b o:=by
  rintro b o h (k | ⟨n,oc,k,_⟩)
  ·exact h k
  ·simp [aB,nk,look] at k
 refine Calls.mono (pC hok hf hb hN.symm (anns xs) (by simpa [ha.length,hN] using hts) g0 hO ?_ (h xs ha.wf hp)) ?_
 ·intro t sv ht
  obtain ⟨_,v,h1,h2⟩:=vM (eT:=B.eT) (S:=aB O (nk ts xs) (fun _=>default) w) rfl hA0 ts 0 xs vs ha t sv ht
  exact ⟨v,by simpa using h1,h2⟩
 ·rintro e w' ⟨vs',us,st',loc',rfl,h1,h2,h3,h4⟩
  split at h1
  ·rename_i ys hys
   refine ⟨us,ys,rfl,h1,Am h3 hys h2,h4.os,h4.output,h4.size,fun k hk=>h4.block k hk ?_⟩
   rintro ⟨n,oc,k,_⟩
   simp [aB,nk,look] at k
  ·exact h1.elim
def jB:aD:=fun _ _=>False
def outer (lend:Bool) (A:aD):aD:=match lend with
 | true=>jB
 | false=>A
theorem An {O:aD} {st:St} {loc:Nat->Loc} {w:World} (g:Good cx.eT X (aB O st loc w)) {lend:Bool} {t:Ty} {a:cC} {x:D t} {v:Value} (h:D4 lend st t a=some x)
  (ha:gD cx.eT (aB O st loc w) a v):VR cx.eT t x (outer lend (aB O st loc w).A) w v:=by
 have base:nG t a=some x->VR cx.eT t x (outer lend (aB O st loc w).A) w v:=by
  intro h
  refine VR.wP (jw h ha) fun b o k => ?_
  cases lend with
  | true=>exact id
  | false=>exact k
 unfold D4 at h
 split at h
 ·rename_i e n x' heq
  unfold rr at h
  simp only [wC] at h
  split at h
  ·rename_i e' ys hob
   split at h
   ·cases h;rename_i hb
    exact jv hb _ (VR.wP (C7 g hob ha) fun _ _ _=>id)
   ·cases h
  ·cases h
 ·exact VR.wP (xB g h ha) fun _ _ _=>id
 ·exact base h
theorem xC {O:aD} {st:St} {loc:Nat->Loc} {w:World} (g:Good cx.eT X (aB O st loc w)) {lend:Bool}:∀{ts:List Ty} {as:List cC} {xs:HL ts} {vs:List Value},ly lend st ts as=some xs->
  cN cx.eT (aB O st loc w) as vs->jA cx.eT (outer lend (aB O st loc w).A) w ts xs vs
 | [],[],_,_,_, .nil=>rfl
 | [t],[a],xs,_,h, .cons h1 .nil=>⟨_,rfl,An g h h1⟩
 | t :: u :: r,a :: as,xs,_,h, .cons h1 h2=>by
  simp only [ly] at h
  split at h
  ·rename_i x xs k1 k2
   cases h
   exact ⟨_,_,rfl,An g k1 h1,xC g k2 h2⟩
  ·cases h
 | [],_ :: _,_,_,h,_=>by simp [ly] at h
 | [_],[],_,_,h,_=>by simp [ly] at h
 | [_],_ :: _ :: _,_,_,h,_=>by simp [ly] at h
 | _ :: _ :: _,[],_,_,h,_=>by simp [ly] at h
theorem tD {eT:TypeId} {S:bD} {O:aD} {w:World} (hS:S.w=w):∀{ts:List Ty} {ys:HL ts} {us:List Value},(iK ts=true\/O=S.A)->jA eT O w ts ys us->cN eT S (mN ts ys) us
 | [],_,_,_,h=>by rw [show _ = [] from h];exact .nil
 | [t],y,_,hl,⟨v,rfl,hv⟩=>by
  refine .cons ?_ .nil
  subst hS
  rcases hl with hl | hl
  ·simp only [iK,Bool.and_true] at hl
   exact VR.of_flat hl hv
  ·subst hl;exact hv
 | t :: u :: r,ys,_,hl,⟨v,vs',rfl,hv,hr⟩=>by
  refine .cons ?_ (tD hS ?_ hr)
  ·subst hS
   rcases hl with hl | hl
   ·simp only [iK,Bool.and_eq_true] at hl
    exact VR.of_flat hl.1 hv
   ·subst hl;exact hv
  ·rcases hl with hl | hl
   ·simp only [iK,Bool.and_eq_true] at hl ⊢;exact .inl hl.2
   ·exact .inr hl
theorem KK {O:aD} {st:St} {loc:Nat->Loc} {w:World} {eT:TypeId} (g:Good eT X (aB O st loc w)) (hO:dY O w):dY (aB O st loc w).A w:=by
 rintro b off (h | ⟨n,oc,h1,h2,_⟩)
 ·exact hO b off h
 ·exact (g.obj n oc h1).2.inside b h2
theorem xD {eT:TypeId} {f:FuncId} {ts rts:List Ty} {pre:HL ts->Prop} {post:HL ts->HL rts->Prop} (h:bV P eT X f ts rts pre post)
  {O:aD} {st:St} {loc:Nat->Loc} {w:World} {args:List cC} {vs:List Value} {xs:HL ts} (hx:ly (iK rts) st ts args=some xs) (hp:pre xs)
  {K:SV->St->VC} (hK:∀ys,post xs ys->(K (o4 (mN rts ys)) st).holds)
  (g:Good eT X (aB O st loc w)) (hO:dY O w) (ha:cN eT (aB O st loc w) args vs) :
  Calls P f vs.toArray w fun e w'=>∃v sv st' loc',e = .returned v/\(K sv st').holds/\st'.env=st.env/\(true=true->Below w.heap.size w w')/\Good eT X (aB O st' loc' w')/\
   Tr (aB O st loc w) (aB O st' loc' w')/\cV eT (aB O st' loc' w') sv v:=by
 have g':Good (Cx.mk eT [] [] [] 0 [] [] [] false [] []).eT X (aB O st loc w):=g
 have hOut:dY (outer (iK rts) (aB O st loc w).A) w:=by
  intro b off hb
  cases hf:iK rts with
  | true=>rw [hf] at hb;exact hb.elim
  | false=>rw [hf] at hb;exact KK g hO b off hb
 refine Calls.mono (h.ok _ w xs vs g.lG.1 hOut (xC g' hx ha) hp) ?_
 rintro e w' ⟨us,ys,rfl,h1,h2,h3⟩
 obtain ⟨t,g2⟩:=qh (S':=aB O st loc w') g rfl rfl rfl rfl h3
 refine ⟨_,_,st,loc,rfl,hK ys h1,rfl,fun _=>h3,g2,t,rX (tD rfl ?_ h2)⟩
 cases hf:iK rts with
 | true=>exact .inl rfl
 | false=>exact .inr (by simp only [outer];funext b off;simp [bD.A,aB])
theorem vN {O:aD} {st:St} {loc:Nat->Loc} {w:World} (g:Good cx.eT X (aB O st loc w)) (c:C) :
  Tr (aB O st loc w) (aB O (rU st c).2 loc w)/\Good cx.eT X (aB O (rU st c).2 loc w)/\(rU st c).2.env=st.env/\
   ∀v,CR cx.eT (aB O st loc w) c v->CR cx.eT (aB O (rU st c).2 loc w) (rU st c).1 v:=by
 unfold rU
 split
 ·rename_i n
  split
  ·rename_i t xs hob
   obtain ⟨h1,h2⟩:=oQ g n
   exact ⟨h1,h2,rfl,fun v hv=>BQ g hob hv⟩
  ·exact ⟨Tr.refl _,g,rfl,fun v hv=>hv⟩
 ·rename_i n
  split
  ·rename_i t xs hob
   obtain ⟨h1,h2⟩:=oQ g n
   refine ⟨h1,h2,rfl,fun v hv=>C8 g hob hv fun b hb o => ?_⟩
   rintro (hA' | ⟨m,oc,k1,k2,k3⟩)
   ·exact g.out n _ b o hob hb hA'
   ·simp only [aB,bB] at k1 k2
    rw [j0] at k1
    split at k1
    ·cases k1
    ·rename_i h8;exact h8 (g.apart n m _ _ b hob k1 hb k2)
  ·exact ⟨Tr.refl _,g,rfl,fun v hv=>hv⟩
 ·exact ⟨Tr.refl _,g,rfl,fun v hv=>hv⟩
theorem tE {O:aD} {loc:Nat->Loc} {w:World}:∀(cs:List C) {st:St},Good cx.eT X (aB O st loc w)->
  Tr (aB O st loc w) (aB O (qJ st cs).2 loc w)/\Good cx.eT X (aB O (qJ st cs).2 loc w)/\(qJ st cs).2.env=st.env/\
   ∀vs,cY cx.eT (aB O st loc w) cs vs->cY cx.eT (aB O (qJ st cs).2 loc w) (qJ st cs).1 vs
 | [],st,g=>⟨Tr.refl _,g,rfl,fun vs h=>h⟩
 | c :: cs,st,g=>by
  obtain ⟨t1,g1,e1,k1⟩:=vN g c
  obtain ⟨t2,g2,e2,k2⟩:=tE cs g1
  refine ⟨t1.trans t2,g2,e2.trans e1,fun vs h => ?_⟩
  cases h with
  | cons h1 h2 h3=>exact .cons ((k1 _ h1).tr t2) h2 (k2 _ (h3.tr t1))
theorem qL {O:aD} {st:St} {loc:Nat->Loc} {w:World} (g:Good cx.eT X (aB O st loc w)) (x:cC) :
  Tr (aB O st loc w) (aB O (uC st x).2 loc w)/\Good cx.eT X (aB O (uC st x).2 loc w)/\(uC st x).2.env=st.env/\
   ∀v,gD cx.eT (aB O st loc w) x v->gD cx.eT (aB O (uC st x).2 loc w) (uC st x).1 v:=by
 cases x with
 | one c=>exact vN g c
 | agg cs=>
  obtain ⟨t1,g1,e1,k1⟩:=tE cs g
  exact ⟨t1,g1,e1,fun v ⟨vs,h1,h2⟩=>⟨vs,h1,k1 _ h2⟩⟩
theorem D8 {O:aD} {st:St} {loc:Nat->Loc} {w:World} (g:Good cx.eT X (aB O st loc w)) (lend:Bool) (x:cC) :
  Tr (aB O st loc w) (aB O (wT lend st x).2 loc w)/\Good cx.eT X (aB O (wT lend st x).2 loc w)/\(wT lend st x).2.env=st.env/\
   ∀v,gD cx.eT (aB O st loc w) x v->gD cx.eT (aB O (wT lend st x).2 loc w) (wT lend st x).1 v:=by
 cases lend with
 | false=>cases x <;> exact qL g _
 | true=>
  cases x with
  | one c=>exact ⟨Tr.refl _,g,rfl,fun v hv=>hv⟩
  | agg cs=>exact qL g _
theorem vO {O:aD} {loc:Nat->Loc} {w:World} (lend:Bool):∀(xs:List cC) {st:St},Good cx.eT X (aB O st loc w)->
  Tr (aB O st loc w) (aB O (pB lend st xs).2 loc w)/\Good cx.eT X (aB O (pB lend st xs).2 loc w)/\(pB lend st xs).2.env=st.env/\
   ∀vs,cN cx.eT (aB O st loc w) xs vs->cN cx.eT (aB O (pB lend st xs).2 loc w) (pB lend st xs).1 vs
 | [],st,g=>⟨Tr.refl _,g,rfl,fun vs h=>h⟩
 | x :: xs,st,g=>by
  obtain ⟨t1,g1,e1,k1⟩:=D8 g lend x
  obtain ⟨t2,g2,e2,k2⟩:=vO lend xs g1
  refine ⟨t1.trans t2,g2,e2.trans e1,fun vs h => ?_⟩
  cases h with
  | cons h1 h3=>exact .cons ((k1 _ h1).tr t2) (k2 _ (h3.tr t1))
theorem xE {eT:TypeId} {f:FuncId} {q:Bool} {sp:bR} {lend:Bool}
  (h:∀O st loc w args vs K,(sp args st K).holds->Good eT X (aB O st loc w)->dY O w->cN eT (aB O st loc w) args vs->
   Calls P f vs.toArray w fun e w'=>∃v sv st' loc',e = .returned v/\(K sv st').holds/\st'.env=st.env/\(q=true->Below w.heap.size w w')/\Good eT X (aB O st' loc' w')/\
    Tr (aB O st loc w) (aB O st' loc' w')/\cV eT (aB O st' loc' w') sv v)
  (O:aD) (st:St) (loc:Nat->Loc) (w:World) (args:List cC) (vs:List Value) (K:SV->St->VC) (hs:(sp (pB lend st args).1 (pB lend st args).2 K).holds)
  (g:Good eT X (aB O st loc w)) (hO:dY O w) (ha:cN eT (aB O st loc w) args vs) :
  Calls P f vs.toArray w fun e w'=>∃v sv st' loc',e = .returned v/\(K sv st').holds/\st'.env=st.env/\(q=true->Below w.heap.size w w')/\Good eT X (aB O st' loc' w')/\
   Tr (aB O st loc w) (aB O st' loc' w')/\cV eT (aB O st' loc' w') sv v:=by
 have g':Good (Cx.mk eT [] [] [] 0 [] [] [] false [] []).eT X (aB O st loc w):=g
 obtain ⟨t1,g1,e1,k1⟩:=vO lend args g'
 refine Calls.mono (h O _ loc w _ vs K hs g1 hO (k1 _ ha)) ?_
 rintro e w' ⟨v,sv,st',loc',h1,h2,h3,h4,h5,h6,h7⟩
 exact ⟨v,sv,st',loc',h1,h2,h3.trans e1,h4,h5,t1.trans h6,h7⟩
theorem eN {eT:TypeId} {f:FuncId} {ts rts:List Ty} {pre:HL ts->Prop} {post:HL ts->HL rts->Prop} (h:bV P eT X f ts rts pre post) :
  dS P eT X f true (iX ts rts pre post):=by
 refine ⟨h.fn,xE (lend:=iK rts) (sp:=fun args st K=>match ly (iK rts) st ts args with
  | some xs => .and (pre xs) (.all (HL rts) fun ys => .imp (post xs ys) (K (o4 (mN rts ys)) st))
  | none => .ff) fun O st loc w args vs K hs g hO ha => ?_⟩
 split at hs
 ·rename_i xs hx
  exact xD h hx hs.1 (fun ys hy=>hs.2 ys hy) g hO ha
 ·exact hs.elim
theorem aE {eT:TypeId} {f:FuncId} {ts rts:List Ty} {pre:HL ts->Prop} {g:HL ts->HL rts} (h:bV P eT X f ts rts pre (fun xs ys=>ys=g xs)) :
  dS P eT X f true (aS ts rts pre g):=by
 refine ⟨h.fn,xE (lend:=iK rts) (sp:=fun args st K=>match ly (iK rts) st ts args with
  | some xs => .and (pre xs) (K (o4 (mN rts (g xs))) st)
  | none => .ff) fun O st loc w args vs K hs hg hO ha => ?_⟩
 split at hs
 ·rename_i xs hx
  exact xD h hx hs.1 (fun ys hy=>by rw [hy];exact hs.2) hg hO ha
 ·exact hs.elim
theorem Jl {B:Cx} {N:Nat} (h:TyOK P B):lL P (ox B [] N) X:=
 {fit:=h.fit,ln:=h.ln,iC:=h.iC,mixed:=h.mixed,arr:=h.arr,qj:=h.qj,eqs:=h.eqs,lH:=h.lH,nv:=h.nv,oO:=h.oO,calls:=fun f q sp hl=>by simp [ox,look] at hl}
theorem HK {B:Cx} {Γ:List (FuncId × (Bool × bR))} {N:Nat} {f:FuncId} {q:Bool} {sp:bR} (h:dS P B.eT X f q sp) (hΓ:lL P (ox B Γ N) X):lL P (ox B ((f,q,sp) :: Γ) N) X:=
 {fit:=hΓ.fit,ln:=hΓ.ln,iC:=hΓ.iC,mixed:=hΓ.mixed,arr:=hΓ.arr,qj:=hΓ.qj,eqs:=hΓ.eqs,lH:=hΓ.lH,nv:=hΓ.nv,oO:=hΓ.oO,calls:=fun f' q' sp' hl=>by
   simp only [ox,bS] at hl
   split at hl
   ·rename_i e;subst e;cases hl;exact h
   ·exact hΓ.calls f' q' sp' hl}
end
end Go.Vg

namespace Go.Vg
open Go.RowKit
def Ty.plain:Ty->Bool
 | .err | .eP=>false
 | .prod a b=>a.plain && b.plain
 | .slice e=>e.plain
 | _=>true
def Ty.low:Ty->Bool
 | .slice e=>Nat.blt 0 e.size && e.low
 | .prod a b=>a.low && b.low
 | _=>true
section
variable {H:Type} {enc:TypeId × Value->H} {P:Program} {w:World} {base:Nat} {sp:Nat->Bool} {held:Bool} {eT:TypeId}
theorem Fit.cellsOf {t:TypeId} {ty:Ty} {i:TypeInfo} {d:TypeDesc} (h:Fit P t ty i d):P.cellsOf t=ty.size:=by
 unfold Program.cellsOf;rw [h.info];exact h.size
theorem B0 {f:TypeId->Ty->Bool} {cs:List Value} {fuel:Nat}
  (ih:∀t ty,f t ty=true->P.cellsOf t=ty.size/\∀us d ps,ty.plain=true->ty.low=true->DataW.trod enc P w base sp held fuel t us=some (d,ps)->∃x,R eT ty x jB w us) :
  ∀(gs:List Field) (off:Nat) (ty:Ty) (xs:List (DataW H × List MemPlace)),cR f gs off ty=true->ty.plain=true->ty.low=true->
   gs.mapM (fun f=>DataW.trod enc P w base sp held fuel f.type ((cs.drop f.offset).take (P.cellsOf f.type)))=some xs->cs.length=off + ty.size->∃x,R eT ty x jB w (cs.drop off):=by
 intro gs
 induction gs with
 | nil=>
  intro off ty xs h hp hs hm hl
  cases ty <;> simp [cR] at h
  refine ⟨(),?_⟩
  show cs.drop off = []
  exact List.drop_eq_nil_of_le (by simp [Ty.size] at hl;omega)
 | cons g gs ihg=>
  intro off ty xs h hp hs hm hl
  cases ty <;> simp [cR] at h
  rename_i a b
  obtain ⟨⟨⟨h1,h2⟩,h3⟩,h4⟩:=h
  simp only [Ty.plain,Bool.and_eq_true] at hp
  simp only [Ty.size] at hl
  rw [List.mapM_cons] at hm
  obtain ⟨k1,k2⟩:=ih _ _ h2
  subst h1
  rw [k1] at hm
  cases hx:DataW.trod enc P w base sp held fuel g.type ((cs.drop g.offset).take a.size) with
  | none=>simp [hx] at hm
  | some y=>
   cases hxs:gs.mapM (fun f=>DataW.trod enc P w base sp held fuel f.type ((cs.drop f.offset).take (P.cellsOf f.type))) with
   | none=>simp [hx,hxs] at hm
   | some ys=>
    simp only [Ty.low,Bool.and_eq_true] at hs
    obtain ⟨x,rx⟩:=k2 _ y.1 y.2 hp.1 hs.1 hx
    obtain ⟨z,rz⟩:=ihg _ _ _ h4 hp.2 hs.2 hxs (by omega)
    refine ⟨(x,z),_,_,?_,rx,rz⟩
    rw [<-List.drop_drop,List.take_append_drop]
theorem D9:∀(n:Nat) (t:TypeId) (ty:Ty),fits P n t ty=true->P.cellsOf t=ty.size/\∀fuel us d ps,ty.plain=true->ty.low=true->
  DataW.trod enc P w base sp held fuel t us=some (d,ps)->∃x,R eT ty x jB w us:=by
 intro n
 induction n with
 | zero=>intro t ty h;simp [fits] at h
 | succ n ih=>
  intro t ty h
  obtain ⟨m,i,dsc,hm,fit,hsh⟩:=ju h
  cases hm
  refine ⟨fit.cellsOf,fun fuel us d ps hp hs hd => ?_⟩
  cases fuel with
  | zero=>simp [DataW.trod] at hd
  | succ fuel=>
   unfold DataW.trod at hd
   rw [fit.gz] at hd
   cases ty with
   | bool=>
    cases dsc <;> simp [bN] at hsh
    split at hd
    case h_1 _ _ b _=>exact ⟨b,rfl⟩
    all_goals simp_all
   | int k=>
    cases dsc <;> simp [bN] at hsh
    subst hsh
    split at hd
    case h_2 _ _ k1 k2 x h0=>
     cases h0
     split at hd
     ·rename_i h1
      obtain ⟨rfl,h1⟩:=h1
      simp only [Lit.wf,Bool.and_eq_true,decide_eq_true_eq] at h1
      exact ⟨x,rfl,h1⟩
     ·cases hd
    all_goals simp_all
   | str=>
    cases dsc <;> simp [bN] at hsh
    split at hd
    case h_4 _ _ s _=>
     split at hd
     ·rename_i h1
      refine ⟨s.data.toList,?_,?_⟩
      ·rw [Array.toArray_toList]
      ·unfold maxLen at h1
       unfold aL
       rw [Array.length_toList]
       exact h1
     ·cases hd
    all_goals simp_all
   | err=>simp [Ty.plain] at hp
   | eP=>simp [Ty.plain] at hp
   | unit=>
    cases dsc <;> simp [bN] at hsh
    rename_i fs
    simp only at hd
    split at hd
    ·rename_i hl
     rw [fit.cellsOf] at hl
     refine ⟨(),?_⟩
     exact List.length_eq_zero_iff.1 hl
    ·cases hd
   | prod a b=>
    cases dsc <;> simp [bN] at hsh
    rename_i fs
    simp only at hd
    split at hd
    ·rename_i hl
     rw [fit.cellsOf] at hl
     cases hxs:fs.toList.mapM (fun f=>DataW.trod enc P w base sp held fuel f.type ((us.drop f.offset).take (P.cellsOf f.type))) with
     | none=>rw [hxs] at hd;simp at hd
     | some xs=>
      obtain ⟨x,hx⟩:=B0 (fun t ty hf=>⟨(ih t ty hf).1,(ih t ty hf).2 fuel⟩) _ _ _ _ hsh hp hs hxs (by omega)
      exact ⟨x,by simpa using hx⟩
    ·cases hd
   | slice e=>
    cases dsc <;> simp [bN] at hsh
    rename_i te
    simp only [Ty.low,Bool.and_eq_true] at hs
    have hpos:=kS hs.1
    obtain ⟨hce,hel⟩:=ih te e hsh
    split at hd
    case h_7=>exact ⟨[],_,rfl,by simp [aL], .inl ⟨rfl,_,_,rfl⟩⟩
    case h_8 _ _ te' b l c h0=>
     cases h0
     simp only at hd
     split at hd
     case isFalse=>cases hd
     rename_i hcond
     obtain ⟨hb,hlc,hcm⟩:=hcond
     obtain ⟨es,hes,_⟩:=Option.bind_eq_some_iff.1 hd
     rw [hce] at hes
     have hlen:=mapM_some_length hes
     simp only [List.length_range] at hlen
     by_cases hl0:l=0
     ·subst hl0
      exact ⟨[],_,rfl,by simp [aL], .inl ⟨rfl,_,_,rfl⟩⟩
     have hspot:b.spot=none:=by
      have h1:=mapM_some_get hes 0 0 (by rw [List.getElem?_range (by omega)])
      rw [List.getElem?_eq_getElem (by omega)] at h1
      obtain ⟨us,hu,hd1⟩:=Option.bind_eq_some_iff.1 h1
      obtain ⟨_,q1,q2⟩:=World.cells?_some hu
      have q3:=q2 0 hpos
      rw [List.getElem?_eq_getElem (by omega)] at q3
      have e0:(b.add (0 * e.size)).add 0=b:=by simp [Addr.add]
      rw [e0] at q3
      unfold World.cell? at q3
      split at q3
      ·cases hb0:b.spot with
       | none=>rfl
       | some k=>rw [hb0] at q3;simp at q3
      ·cases q3
     obtain ⟨bb,oo,so⟩:=b
     simp only at hspot
     subst hspot
     have hget:∀i,i < l->∃x us,R eT e x jB w us/\Row jB w bb (oo + i * e.size) us:=by
      intro i hi
      have h1:=mapM_some_get hes i i (by simp [hi])
      rw [List.getElem?_eq_getElem (by omega)] at h1
      obtain ⟨us,hu,hd1⟩:=Option.bind_eq_some_iff.1 h1
      obtain ⟨_,q1,q2⟩:=World.cells?_some hu
      obtain ⟨x,hx⟩:=hel fuel us (es[i]'(by omega)).1 (es[i]'(by omega)).2 hp hs.2 hd1
      refine ⟨x,us,hx,fun j u hj=>⟨?_,id⟩⟩
      have hjl:j < us.length:=by
       rcases Nat.lt_or_ge j us.length with h | h
       ·exact h
       ·rw [List.getElem?_eq_none h] at hj;cases hj
      have:=q2 j (by omega)
      rw [Addr.add_lit,Addr.add_lit] at this
      rw [this,hj]
     let xs:List (D e):=(List.range l).map fun i=>if h:i < l then (hget i h).choose else cB e
     have hxl:xs.length=l:=by simp [xs]
     have hxi:∀i y,xs[i]?=some y->∃us,R eT e y jB w us/\Row jB w bb (oo + i * e.size) us:=by
      intro i y hy
      have hi:i < l:=by
       rcases Nat.lt_or_ge i l with h | h
       ·exact h
       ·rw [List.getElem?_eq_none (by omega)] at hy;cases hy
      have:xs[i]?=some (hget i hi).choose:=by simp [xs,hi]
      rw [this] at hy
      cases hy
      exact (hget i hi).choose_spec
     refine ⟨xs,_,rfl,?_, .inr ⟨bb,oo,c,?_,?_,hxi⟩⟩
     ·rw [hxl];unfold maxLen at hcm;unfold aL;omega
     ·rw [hxl]
     ·rw [hxl];exact hlc
    all_goals simp_all
theorem HM {n:Nat} {t:TypeId} {ty:Ty} (hf:fits P n t ty=true) (hp:ty.plain=true) (hlow:ty.low=true) {r:Reach} {b:Nat} {v:Value} (hval:Value.okWide P w r b t v) {d:DataW H} {ps:List MemPlace}
  (hd:DataW.Trod enc P w base sp held t v d ps):∃x,VR eT ty x jB w v:=by
 obtain ⟨m,i,dsc,hm,fit,hsh⟩:=ju hf
 obtain ⟨fuel,hd⟩:=hd
 have key:∃x,R eT ty x jB w v.cells.toList:=(D9 (eT:=eT) n t ty hf).2 fuel _ _ _ hp hlow hd
 unfold Value.okWide at hval
 rw [fit.gz] at hval
 have one:ty.one=true->Cell.okWide P w r b t v->(v.cells.toList = [v])->∃x,VR eT ty x jB w v:=by
  intro h1 h2 h3
  rw [h3] at key
  obtain ⟨x,hx⟩:=key
  exact ⟨x,VR.bY h1 hx⟩
 have agg:ty.one=false->(∃cs,v = .agg cs/\cs.size=P.cellsOf t/\Row.okWide P w r b t cs)->∃x,VR eT ty x jB w v:=by
  rintro h1 ⟨cs,rfl,_,ts,_,_,h2⟩
  obtain ⟨x,hx⟩:=key
  refine ⟨x,?_⟩
  unfold VR
  rw [if_neg (by simp [h1])]
  exact ⟨cs,rfl,hx⟩
 cases ty with
 | err=>simp [Ty.plain] at hp
 | eP=>simp [Ty.plain] at hp
 | prod a b=>cases dsc <;> simp [bN] at hsh;exact agg rfl hval
 | unit=>cases dsc <;> simp [bN] at hsh;exact agg rfl hval
 | bool=>
  cases dsc <;> simp [bN] at hsh
  refine one rfl hval ?_
  cases v <;> simp [Cell.okWide,Cell.ok,fit.gz,Value.cells] at hval ⊢
 | int k=>
  cases dsc <;> simp [bN] at hsh
  refine one rfl hval ?_
  cases v <;> simp [Cell.okWide,Cell.ok,fit.gz,Value.cells] at hval ⊢
 | str=>
  cases dsc <;> simp [bN] at hsh
  refine one rfl hval ?_
  cases v <;> simp [Cell.okWide,Cell.ok,fit.gz,Value.cells] at hval ⊢
 | slice e=>
  cases dsc <;> simp [bN] at hsh
  refine one rfl hval ?_
  cases v <;> simp [Cell.okWide,Cell.ok,fit.gz,Value.cells] at hval ⊢
def pZ (P:Program) (n:Nat):List TypeId->List Ty->Bool
 | [],[]=>true
 | t :: ts,ty :: tys=>fits P n t ty && ty.plain && ty.low && pZ P n ts tys
 | _,_=>false
theorem FU {n:Nat} {r:Reach} {b:Nat}:∀(ts:List TypeId) (tys:List Ty) (vs:List Value) (ds:List (DataW H)) (ps:List MemPlace),pZ P n ts tys=true->
  (∀(j:Nat) t v,ts[j]?=some t->vs[j]?=some v->Value.okWide P w r b t v)->DataW.TrodAll enc P w base sp held ts vs ds ps->∃xs,jA eT jB w tys xs vs:=by
 intro ts
 induction ts with
 | nil=>
  intro tys vs ds ps hf hv h
  cases tys <;> simp [pZ] at hf
  cases vs <;> cases ds <;> simp [DataW.TrodAll] at h
  exact ⟨(),rfl⟩
 | cons t ts ih=>
  intro tys vs ds ps hf hv h
  cases tys <;> simp [pZ] at hf
  rename_i ty tys
  obtain ⟨⟨⟨h1,h2⟩,h3⟩,h4⟩:=hf
  cases vs <;> cases ds <;> simp [DataW.TrodAll] at h
  rename_i v vs d ds
  obtain ⟨p,hp,q,hq,_⟩:=h
  obtain ⟨x,hx⟩:=HM (eT:=eT) h1 h2 h3 (hv 0 t v rfl rfl) hp
  obtain ⟨xs,hxs⟩:=ih tys vs ds q h4 (fun j t' v' h1 h2=>hv (j + 1) t' v' h1 h2) hq
  cases tys with
  | nil=>exact ⟨x,v,by rw [show vs = [] from hxs],hx⟩
  | cons ty' tys=>exact ⟨(x,xs),v,vs,rfl,hx,hxs⟩
theorem Ea (hl:laidOutB P=true) {W W':World} (hb:Below W.heap.size W W'):∀(ts:List TypeId) (vs:List Value) (ds:List (DataW H)) (ps:List MemPlace),(ts.all fun t=>P.readableRec t && Nat.blt t P.types.size)=true->
  DataW.TrodAll enc P W 0 (fun _=>true) true ts vs ds ps->(∀x∈ps,x.block < W.heap.size)->DataW.TrodAll enc P W' 0 (fun b=>decide (b < W.heap.size)) true ts vs ds ps:=by
 intro ts
 induction ts with
 | nil=>intro vs ds ps _ h _;cases vs <;> cases ds <;> simp [DataW.TrodAll] at h ⊢;exact h
 | cons t ts ih=>
  intro vs ds ps hr h hlt
  simp only [List.all_cons,Bool.and_eq_true] at hr
  cases vs <;> cases ds <;> simp only [DataW.TrodAll] at h ⊢
  rename_i v vs d ds
  obtain ⟨p,q,hp,hq,rfl⟩:=h
  exact ⟨p,q,WideElems.Trod_stays hl hr.1.1 (kS hr.1.2) hp (fun x hx=>hb.same (hlt x (by simp [hx]))) (fun x hx=>by simpa using hlt x (by simp [hx])),ih vs ds q hr.2 hq (fun x hx=>hlt x (by simp [hx])),rfl⟩
theorem Ao:∀{ts:List TypeId} {vs:List Value} {ds:List (DataW H)} {ps:List MemPlace},DataW.TrodAll enc P w base sp held ts vs ds ps->vs.length=ts.length/\ds.length=ts.length
 | [],[],[],_,_=>⟨rfl,rfl⟩
 | _ :: _,_ :: _,_ :: _,_,⟨_,_,_,h,_⟩=>by simp [Ao h]
theorem FV {X:Ext} {C:Checked} {f:FuncId} {fn:Func} {s:ChangeSpec} {tys:List Ty} {pre:HL tys->Prop} (hs:s.vars = []) (hl:laidOutB C.prog=true)
  (hsp:∀ds:List (DataW H),ds.length=tys.length->s.fn H ds = {results:=[.lit (.bool true)],args:=ds})
  {n:Nat} (hf:pZ C.prog n fn.params.toList tys=true) (hr:(fn.params.toList.all fun t=>C.prog.readableRec t && Nat.blt t C.prog.types.size)=true)
  {tb:TypeId} (hres:fn.resultTypes = #[tb]) (hb:C.prog.underlying tb=some .bool)
  (h:bV C.prog eT X f tys [.bool] pre (fun _ y=>y=true))
  {W:World} {base:Nat} {args:Array Value} {ds gs:List (DataW H)} {before:List MemPlace}
  (hval:∀(j:Nat) t v,fn.params[j]?=some t->args[j]?=some v->Value.okWide C.prog W .any base t v)
  (hW:DataW.Whole enc C.prog fn.params.toList s.vars false W args.toList ds gs before)
  (hG:X.rj W) (hpre:∀xs,jA eT jB W tys xs args.toList->pre xs) :
  Calls C.prog f args W fun e W'=>∃v,e = .returned v/\s.post enc C.prog fn false true false false W args v W':=by
 have hW0:=hW
 obtain ⟨p,q,hA,hV,rfl,_,_⟩:=hW
 rw [hs] at hV
 obtain ⟨rfl,rfl⟩:gs = []/\q = []:=by cases gs <;> simp [DataW.TrodVars] at hV;exact ⟨rfl,hV⟩
 obtain ⟨xs,hxs⟩:=FU (eT:=eT) _ _ _ _ _ hf (fun j t v h1 h2=>hval j t v (by rw [<-Array.getElem?_toList];exact h1) (by rw [<-Array.getElem?_toList];exact h2)) hA
 have:=h.ok jB W xs args.toList hG (fun _ _ h=>h.elim) hxs (hpre xs hxs)
 rw [Array.toArray_toList] at this
 refine this.mono ?_
 rintro e W' ⟨us,ys,rfl,rfl,hr',hbel⟩
 obtain ⟨u,rfl,hu⟩:=hr'
 have hu:u = .bool true:=by
  have:=VR.one rfl hu
  simpa [R] using this
 subst hu
 have hlen:ds.length=tys.length:=by
  have h1:=hxs.length
  have h2:=Ao hA
  omega
 simp only [List.append_nil] at hW0 ⊢
 have hlt:∀x∈p,x.block < W.heap.size:=hW0.lt
 refine ⟨_,rfl,ds,[],p,[],p,[],hW0,?_,?_,?_,hbel.frame _,fun hh=>by cases hh⟩
 ·rw [List.append_nil,hsp ds hlen,hres]
  exact ⟨[],[],shut_bool hb true,rfl,rfl⟩
 ·rw [List.append_nil,hsp ds hlen]
  exact Ea hl hbel _ _ _ _ hr hA hlt
 ·rw [List.append_nil,hsp ds hlen,hs]
  rfl
end
end Go.Vg

namespace Go.Vg
open Go.RowKit
theorem holds_of {v:VC} {p:Prop} (e:v.holds=p) (h:p):v.holds:=by rw [e];exact h
section
variable {A B:Prop}
theorem iD {p:Prop} [Decidable p] (f:p->A) (g:¬ p->B):(decide p=true->A)/\(decide p=false->B):=⟨fun h=>f (of_decide_eq_true h),fun h=>g (of_decide_eq_false h)⟩
theorem iL {a b:Int} (f:a < b->A) (g:b<=a->B):(decide (a < b)=true->A)/\(decide (a < b)=false->B):=iD f fun h=>g (Int.not_lt.1 h)
theorem iE {a b:Int} (f:a<=b->A) (g:b < a->B):(decide (a<=b)=true->A)/\(decide (a<=b)=false->B):=iD f fun h=>g (Int.not_le.1 h)
theorem iB {b:Bool} (f:b=false->A) (g:b=true->B):((!b)=true->A)/\((!b)=false->B):=⟨fun h=>f (Bool.not_eq_true' b▸h),fun h=>g (Bool.not_eq_false' b▸h)⟩
theorem iQ {α:Type} [BEq α] [LawfulBEq α] {a b:α} (f:a=b->A) (g:¬ a=b->B):((a == b)=true->A)/\((a == b)=false->B):=⟨fun h=>f (eq_of_beq h),fun h=>g fun e=>by rw [e,beq_self_eq_true] at h;cases h⟩
theorem iN {α:Type} [BEq α] [LawfulBEq α] {a b:α} (f:¬ a=b->A) (g:a=b->B):((a != b)=true->A)/\((a != b)=false->B):=
 ⟨fun h=>f fun e=>(by rw [e,bne_self_eq_false] at h;cases h),fun h=>g (by simpa using h)⟩
end
def KL:Ext where
 rel k t x l w:=match k with
  | 0=>jd t x l w
  | 1=>pk t x l w
  | 2=>qg t x l w
  | _=>False
 inside {k t x l w} h:=by
  match k,h with
  | 0,h=>exact jd.inside h
  | 1,h=>exact pk.inside h
  | 2,h=>exact qg.inside h
 ptr {k t x l w} hk h:=by
  match k,hk,h with
  | 0,hk,_=>omega
  | 1,hk,_=>omega
  | 2,_,h=>obtain ⟨rfl,b,p,v,h⟩:=h;exact ⟨_,h.lv⟩
 deep:=Iff.rfl
 map:=Iff.rfl
 IK:=Iff.rfl
 frame {k t x l w w'} h hb:=by
  match k,h with
  | 0,h=>exact jd.frame h hb
  | 1,h=>exact pk.frame h hb
  | 2,h=>exact qg.frame h hb
 rj _:=True
 CL:=[]
 IL _ _ hb:=by cases hb
 yZ _ _:=trivial
def codeOf (fn:Func):Code:=fn.body.getD .skip
def dR (B:Cx) (Γ:List (FuncId × (Bool × bR))) (fn:Func) (anns:dE) (ts rts:List Ty) (post:HL ts->HL rts->Prop) (xs:HL ts):VC:=
 C6 B Γ fn.ntmps anns fn.results.toList (codeOf fn) ts rts post xs
def p0 (fn:Func) (n:Nat):Bool:=fn.body.isSome && !(fn.name == "runtime.NumGoroutine") && Nat.ble n fn.ntmps
def bZ (P:Program) (B:Cx) (X:Ext) (Γ:List (FuncId × (Bool × bR))):Prop:=∀N,lL P (ox B Γ N) X
section
variable {P:Program} {B:Cx} {X:Ext} {Γ:List (FuncId × (Bool × bR))}
theorem cK {f:FuncId} {fn:Func} {ts rts:List Ty} {pre:HL ts->Prop} {post:HL ts->HL rts->Prop} (hok:bZ P B X Γ) (hf:P.funcs[f]?=some fn) (hc:p0 fn ts.length=true)
  (anns:HL ts->dE) (h:∀xs,gI ts xs->pre xs->(dR B Γ fn (anns xs) ts rts post xs).holds):bV P B.eT X f ts rts pre post:=by
 simp only [p0,Bool.and_eq_true,Bool.not_eq_true'] at hc
 obtain ⟨⟨h1,h2⟩,h3⟩:=hc
 refine D7 (hok fn.ntmps) hf (c:=codeOf fn) ?_ h2 rfl anns (Nat.le_of_ble_eq_true h3) h
 unfold codeOf
 cases hb:fn.body with
 | none=>rw [hb] at h1;cases h1
 | some c=>rfl
theorem cS (h:TyOK P B):bZ P B X []:=fun _=>Jl h
theorem aW {f:FuncId} {q:Bool} {sp:bR} (h:dS P B.eT X f q sp) (hΓ:bZ P B X Γ):bZ P B X ((f,q,sp) :: Γ):=fun N=>HK h (hΓ N)
def nT (B:Cx) (l:List Nat):Cx:={B with hint:=l}
theorem bZ.hint {l:List Nat} (h:bZ P B X Γ):bZ P (nT B l) X Γ:=fun N=>
 {fit:=(h N).fit,ln:=(h N).ln,iC:=(h N).iC,mixed:=(h N).mixed,arr:=(h N).arr,qj:=(h N).qj,eqs:=(h N).eqs,lH:=(h N).lH,nv:=(h N).nv,oO:=(h N).oO,calls:=(h N).calls}
def Eb (B:Cx):Cx:={B with wr:=true}
theorem bZ.wrap (h:bZ P B X Γ):bZ P (Eb B) X Γ:=fun N=>
 {fit:=(h N).fit,ln:=(h N).ln,iC:=(h N).iC,mixed:=(h N).mixed,arr:=(h N).arr,qj:=(h N).qj,eqs:=(h N).eqs,lH:=(h N).lH,nv:=(h N).nv,oO:=(h N).oO,calls:=(h N).calls}
theorem oy {α:Type} {l:List (Nat × α)} {n:Nat} {x:α} (h:look l n=some x):(n,x)∈l:=by
 induction l with
 | nil=>cases h
 | cons p r ih=>
  obtain ⟨m,y⟩:=p
  rw [bS] at h
  split at h
  ·rename_i e;subst e;cases h;simp
  ·exact List.mem_cons_of_mem _ (ih h)
def FW (P:Program) (B:Cx) (n:Nat):Bool:=
 (B.τ.all fun p=>fits P n p.1 p.2) &&
 (match P.underlying B.eT with | some (.int .i64)=>true | _=>false) &&
 (match P.info? B.eT with | some i=>(match i.zero with | some (.int .i64 0)=>true | _=>false) | none=>false) &&
 P.follows .mixedOrders &&
 (B.ua.all fun p=>match P.underlying p.1 with | some (.array m e)=>Nat.beq m p.2.1 && Nat.beq e p.2.2 | _=>false) &&
 (B.ua.all fun p=>match look B.τ p.2.2 with
  | some e=>(match P.info? p.1 with
   | some i=>(match i.zero with
    | some z=>mG e p.2.1 z.cells.toList
    | none=>false)
   | none=>false)
  | none=>true) &&
 B.eqs.all (DH P) && B.lH.all (zB P) &&
 (B.nv.all fun p=>match P.underlying p.1 with
  | some (.map k e)=>Nat.beq k p.2.1 && Nat.beq e p.2.2 && (match P.underlying p.2.1 with | some .string=>true | _=>false) &&
   (match P.info? p.2.2 with
    | some i=>(match i.zero with | some (.agg _)=>true | _=>false)
    | none=>false)
  | _=>false) &&
 (B.oO.all fun p=>match P.info? p.1 with
  | some i=>(match i.zero with
   | some (.agg cs)=>(match cs.toList with
    | [.pointer none, .slice none 0 0]=>true
    | _=>false)
   | _=>false)
  | none=>false)
theorem Jm {n:Nat} (h:FW P B n=true):TyOK P B:=by
 simp only [FW,Bool.and_eq_true,List.all_eq_true] at h
 obtain ⟨⟨⟨⟨⟨⟨⟨⟨⟨h1,h2⟩,h3⟩,h4⟩,h5⟩,h6⟩,h7⟩,h8⟩,h9⟩,h10⟩:=h
 refine ⟨fun t ty hl=>⟨n,h1 _ (oy hl)⟩,?_,?_,h4,fun t ht=>h7 t (qC ht),fun t ht=>h8 t (qC ht),fun t m e hl => ?_,fun t k e hl => ?_,fun t e hl => ?_,fun t m te e hl he => ?_⟩
 ·split at h2
  ·assumption
  ·cases h2
 ·split at h3
  ·rename_i i hi
   refine ⟨i,hi,?_⟩
   split at h3
   ·assumption
   ·cases h3
  ·cases h3
 ·have:=h5 _ (oy hl)
  simp only at this
  split at this
  ·rename_i m' e' hu
   simp only [Bool.and_eq_true] at this
   rw [hu,Nat.eq_of_beq_eq_true this.1,Nat.eq_of_beq_eq_true this.2]
  ·cases this
 ·have:=h9 _ (oy hl)
  simp only at this
  split at this
  ·rename_i k' e' hu
   simp only [Bool.and_eq_true] at this
   obtain ⟨⟨⟨e1,e2⟩,e3⟩,e4⟩:=this
   rw [hu,Nat.eq_of_beq_eq_true e1,Nat.eq_of_beq_eq_true e2]
   refine ⟨rfl,?_,?_⟩
   ·split at e3
    ·assumption
    ·cases e3
   ·split at e4
    ·rename_i i hi
     split at e4
     ·rename_i cs hz;exact ⟨i,cs,hi,hz⟩
     ·cases e4
    ·cases e4
  ·cases this
 ·have:=h10 _ (oy hl)
  simp only at this
  split at this
  ·rename_i i hi
   split at this
   ·rename_i cs hz
    split at this
    ·rename_i hr
     exact ⟨i,hi,by rw [hz];congr 2;exact Array.toList_inj.1 hr⟩
    ·cases this
   ·cases this
  ·cases this
 ·have:=h6 _ (oy hl)
  simp only [he] at this
  split at this
  ·rename_i i hi
   split at this
   ·rename_i z hz
    exact ⟨i,z,hi,hz,this⟩
   ·cases this
  ·cases this
end
end Go.Vg

namespace Go.Vg
open Go.RowKit
def mO:Nat->List cC->List (Nat × SV)
 | _,[]=>[]
 | k,a :: r=>(k, .s a) :: mO (k + 1) r
def iM (B:Cx) (Γ:List (FuncId × (Bool × bR))) (fn:Func) (anns:dE):bR:=fun args st K=>
 match Nat.ble args.length fn.ntmps with
 | true=>D6 (ox B Γ fn.ntmps) anns fn.results.toList (codeOf fn) {env:=mO 0 args,aC:=st.aC,next:=st.next} fun vs st'=>K (o4 vs) {st' with env:=st.env}
 | false => .ff
theorem tG {eT:TypeId} {S:bD}:∀{args:List cC} {vs:List Value} (k:Nat),cN eT S args vs->∀t sv,look (mO k args) t=some sv->k<=t/\∃v,vs[t - k]?=some v/\cV eT S sv v:=by
 intro args
 induction args with
 | nil=>intro vs k _ t sv h;simp [mO,look] at h
 | cons a r ih=>
  intro vs k hr t sv h
  cases hr with
  | cons h1 h2=>
   simp only [mO,bS] at h
   split at h
   ·rename_i e
    cases h
    subst e
    exact ⟨Nat.le_refl _,_,by simp,h1⟩
   ·rename_i e
    obtain ⟨k1,v,k2,k3⟩:=ih (k + 1) h2 t sv h
    refine ⟨by omega,v,?_,k3⟩
    rw [show t - k=(t - (k + 1)) + 1 by omega]
    simpa using k2
theorem iz {P:Program} {B:Cx} {X:Ext} {Γ:List (FuncId × (Bool × bR))} (hok:bZ P B X Γ) {f:FuncId} {fn:Func} (hf:P.funcs[f]?=some fn) (hg:p0 fn 0=true) (anns:dE) :
  dS P B.eT X f false (iM B Γ fn anns):=by
 simp only [p0,Bool.and_eq_true,Bool.not_eq_true'] at hg
 obtain ⟨⟨h1,h2⟩,_⟩:=hg
 obtain ⟨c,hc⟩:=Option.isSome_iff_exists.1 h1
 refine ⟨⟨fn,hf,by rw [hc];rfl,h2⟩,fun O st loc w args vs K hK g hO ha => ?_⟩
 unfold iM at hK
 split at hK
 case h_2=>exact hK.elim
 rename_i hlen
 have hlen:=Nat.le_of_ble_eq_true hlen
 have hcode:codeOf fn=c:=by unfold codeOf;rw [hc];rfl
 rw [hcode] at hK
 have:=pC (X:=X) (hok fn.ntmps) hf hc (by rfl) anns (O:=O) (loc:=loc) (w:=w) (args:=vs.toArray)
  (st:={env:=mO 0 args,aC:=st.aC,next:=st.next}) (by rw [List.size_toArray,<-ha.len];exact hlen) g hO
  (fun t sv h=>by
   obtain ⟨_,v,k1,k2⟩:=tG 0 ha t sv h
   exact ⟨v,by simpa using k1,k2⟩) hK
 refine this.mono ?_
 rintro e w' ⟨rs,us,st',loc',he,hk,hr,g',tr⟩
 exact ⟨_,_,_,loc',he,hk,rfl,(fun h=>by cases h),g',tr,rX hr⟩
def IV (st:St) (t k:Nat):Nat:=
 match look st.env t with
 | some (.s (.one (.fn _ caps)))=>caps.getD k 0
 | _=>0
def Kg (ty:Ty) (st:St) (n:Nat):D ty:=
 match look st.aC n with
 | some (.cells _ cs)=>match jQ ty cs with
  | some (x,_)=>x
  | none=>cB ty
 | _=>cB ty
end Go.Vg

namespace Go.Vg
open Go.RowKit
def iy:List Cl->St->List cC->List cC × St
 | .d _ :: r,st,v :: vs=>match uC st v with
  | (v',st1)=>match iy r st1 vs with
   | (vs',st2)=>(v' :: vs',st2)
 | .obj _ :: r,st,v :: vs=>match iy r st vs with
  | (vs',st2)=>(v :: vs',st2)
 | .fF :: r,st,v :: vs=>match iy r st vs with
  | (vs',st2)=>(v :: vs',st2)
 | _,st,vs=>(vs,st)
def nD:List (Nat × OC)->List Nat->List (Nat × OC)
 | l,[]=>l
 | l,n :: r=>nD (og l n) r
def o5:Ob->Ob->Bool
 | .box T _, .box T' _=>Nat.beq T T'
 | .ext k t, .ext k' t'=>Nat.beq k k' && Ty.beq t t'
 | .row true t, .row true t'=>Ty.beq t t'
 | _,_=>false
def kg:List Ob->List Ob->List Nat->Nat->List Nat
 | o :: os,o' :: os',n :: ns,b=>(match o5 o o' with | true=>n | false=>b) :: kg os os' ns (b + 1)
 | _,_ :: os',_,b=>b :: kg [] os' [] (b + 1)
 | _,[],_,_=>[]
def wU:Nat->List Ob->List Ob->List (Nat × Nat)
 | k,o :: os,o' :: os'=>match o5 o o' with
  | true=>(k,k) :: wU (k + 1) os os'
  | false=>wU (k + 1) os os'
 | _,_,_=>[]
def qM:Nat->List Ob->List Ob->List Nat->Bool
 | k,o :: os,o' :: os',n :: ns=>(match o5 o o' with | true=>Nat.beq n k | false=>true) && qM (k + 1) os os' ns
 | _,_,_,_=>true
structure Alt (aN:List Ob) (args:List Cl):Type 1 where
 cv:Bool:=false
 bP:List Ob
 res:List Cl
 ok:CD args->PD aN->Prop:=fun _ _=>True
 out:CD args->PD aN->PD bP
 ret:CD args->PD aN->CD res
section
variable {aN:List Ob} {args:List Cl}
def yV (al:Alt aN args) (a:CD args) (x:PD aN) (ν:List Nat) (st:St) (K:SV->St->VC):VC:=
 match nodupB (kg aN al.bP ν st.next) && iJ (st.next + al.bP.length) (kg aN al.bP ν st.next) with
 | true => .imp (al.ok a x) (K (o4 (uy (fL al.bP (al.out a x) (kg aN al.bP ν st.next)) al.res (al.ret a x)))
   {env:=st.env,aC:=jz (fL al.bP (al.out a x) (kg aN al.bP ν st.next)) al.bP (al.out a x) (kg aN al.bP ν st.next)++nD st.aC ν,next:=st.next + al.bP.length})
 | false => .ff
def vP (a:CD args) (x:PD aN) (ν:List Nat) (st:St) (K:SV->St->VC):List (Alt aN args)->VC
 | [] => .leaf True
 | [al]=>yV al a x ν st K
 | al :: al2 :: r => .both (yV al a x ν st K) (vP a x ν st K (al2 :: r))
def bQ (aN:List Ob) (args:List Cl) (pre:CD args->PD aN->Prop) (alts:List (Alt aN args)):bR:=fun as st K=>
 match iy args st as with
 | (as,st)=>match IS aN args as st.aC [] with
  | some ν=>match nodupB ν,jU false st.aC aN ν args as,dB false st.aC aN ν aN ν with
   | true,some a,some x=>HG (ka aN x args as++gM aN x st.aC aN ν) (.and (pre a x) (vP a x ν st K alts))
   | _,_,_ => .ff
  | none => .ff
def n5 (aN:List Ob) (args:List Cl) (a:CD args) (x:PD aN):St:=
 {env:=mO 0 (uy (fL aN x (upto 0 aN.length)) args a),aC:=jz (fL aN x (upto 0 aN.length)) aN x (upto 0 aN.length),next:=aN.length}
def s4 (a:CD args) (x:PD aN) (vs:List cC) (st:St):List (Alt aN args)->VC
 | [] => .ff
 | al :: r=>match iy al.res st vs with
  | (vs',st')=>match IS al.bP al.res vs' st'.aC (wU 0 aN al.bP) with
   | some ν=>match nodupB ν && (qM 0 aN al.bP ν && (!al.cv || (oX aN && (eG al.bP && gO al.res)))),jU al.cv st'.aC al.bP ν al.res vs',dB al.cv st'.aC al.bP ν al.bP ν with
    | true,some b,some y => .leaf (DW (ka al.bP y al.res vs'++gM al.bP y st'.aC al.bP ν++[al.ok a x/\y=al.out a x/\b=al.ret a x]))
    | _,_,_=>s4 a x vs st r
   | none=>s4 a x vs st r
def gW (B:Cx) (Γ:List (FuncId × (Bool × bR))) (fn:Func) (anns:dE) (aN:List Ob) (args:List Cl) (alts:List (Alt aN args)) (a:CD args) (x:PD aN):VC:=
 D6 (ox B Γ fn.ntmps) anns fn.results.toList (codeOf fn) (n5 aN args a x) fun vs st'=>s4 a x vs st' alts
def mg:(cls:List Cl)->CD cls->Prop
 | [],_=>True
 | .d t :: r,x=>wf t x.1/\mg r x.2
 | .obj _ :: r,x=>mg r x
 | .fF :: r,x=>mg r x
end
section
variable {eT:TypeId} {X:Ext}
theorem rh {k:Nat}:∀{l:List Nat} {n:Nat},iJ k l=true->n∈l->n < k
 | [],_,_,h=>by simp at h
 | m :: r,n,h,hn=>by
  simp only [iJ,Bool.and_eq_true] at h
  rcases List.mem_cons.1 hn with e | hn
  ·rw [e];exact kS h.1
  ·exact rh h.2 hn
theorem jO (m:Nat):∀(ns:List Nat) (l:List (Nat × OC)),look (nD l ns) m=if m∈ns then none else look l m
 | [],l=>by simp [nD]
 | n :: r,l=>by
  simp only [nD]
  rw [jO m r,j0]
  by_cases h1:m∈r
  ·simp [h1]
  ·by_cases h2:n=m
   ·subst h2;simp
   ·have:¬ m=n:=fun e=>h2 e.symm
    simp [h1,h2,this]
theorem o6:∀{aN bP:List Ob} {ν:List Nat} {b i n:Nat},(kg aN bP ν b)[i]?=some n->
  (∃o o',aN[i]?=some o/\bP[i]?=some o'/\o5 o o'=true/\ν[i]?=some n)\/b<=n
 | aN,[],ν,b,i,n,h=>by
  cases aN <;> cases ν <;> simp [kg] at h
 | [],o' :: os',ν,b,i,n,h=>by
  simp only [kg] at h
  cases i with
  | zero=>simp at h;exact .inr (by omega)
  | succ i=>
   rcases o6 (aN:=[]) (ν:=[]) (by simpa using h) with ⟨o,_,h1,_⟩ | h1
   ·simp at h1
   ·exact .inr (by omega)
 | o :: os,o' :: os',[],b,i,n,h=>by
  simp only [kg] at h
  cases i with
  | zero=>simp at h;exact .inr (by omega)
  | succ i=>
   rcases o6 (aN:=[]) (ν:=[]) (by simpa using h) with ⟨o,_,h1,_⟩ | h1
   ·simp at h1
   ·exact .inr (by omega)
 | o :: os,o' :: os',n0 :: ns,b,i,n,h=>by
  simp only [kg] at h
  cases i with
  | zero=>
   simp only [List.getElem?_cons_zero,Option.some.injEq] at h
   split at h
   ·rename_i hk;exact .inl ⟨o,o',rfl,rfl,hk,by simp [h]⟩
   ·exact .inr (by omega)
  | succ i=>
   rcases o6 (by simpa using h) with ⟨a,a',h1,h2,h3⟩ | h1
   ·exact .inl ⟨a,a',by simpa using h1,by simpa using h2,by simpa using h3⟩
   ·exact .inr (by omega)
theorem oz:∀{aN bP:List Ob} {ν:List Nat} {b:Nat},(kg aN bP ν b).length=bP.length
 | aN,[],ν,b=>by cases aN <;> cases ν <;> rfl
 | [],o' :: os',ν,b=>by simp [kg,oz]
 | o :: os,o' :: os',[],b=>by simp [kg,oz]
 | o :: os,o' :: os',n0 :: ns,b=>by simp [kg,oz]
theorem vQ:∀{aN bP:List Ob} {ν:List Nat} {k i n:Nat} {o o':Ob},qM k aN bP ν=true->aN[i]?=some o->bP[i]?=some o'->o5 o o'=true->ν[i]?=some n->n=k + i
 | [],_,_,_,_,_,_,_,_,h,_,_,_=>by simp at h
 | _ :: _,[],_,_,_,_,_,_,_,_,h,_,_=>by simp at h
 | _ :: _,_ :: _,[],_,_,_,_,_,_,_,_,_,h=>by simp at h
 | a :: os,a' :: os',m :: ns,k,0,n,o,o',h,h1,h2,h3,h4=>by
  simp at h1 h2 h4
  subst h1;subst h2;subst h4
  simp only [qM,h3,Bool.and_eq_true] at h
  have:=Nat.eq_of_beq_eq_true h.1
  omega
 | a :: os,a' :: os',m :: ns,k,i + 1,n,o,o',h,h1,h2,h3,h4=>by
  simp only [qM,Bool.and_eq_true] at h
  have:=vQ h.2 (by simpa using h1) (by simpa using h2) h3 (by simpa using h4)
  omega
theorem xF:∀{l:List Ob} {o:Ob} {t:Ty},oX l=true->o∈l->o≠.tok t
 | [],_,_,_,h=>by simp at h
 | a :: r,o,t,h,ho=>by
  rcases List.mem_cons.1 ho with e | ho
  ·subst e;intro e;subst e;simp [oX] at h
  ·exact xF (by cases a <;> simp_all [oX]) ho
theorem s5 {S:bD} {F:Nat->Value->Prop}:∀{cls:List Cl} {x:CD cls} {vs:List Value},px eT S F cls x vs->mg cls x
 | [],_,_,_=>trivial
 | .d t :: r,x,v :: vs,h=>⟨h.1.wf,s5 h.2⟩
 | .obj k :: r,x,v :: vs,h=>s5 (cls:=r) h.2
 | .fF :: r,x,v :: vs,h=>s5 (cls:=r) h.2
theorem qN {S:bD} {F:Nat->Value->Prop}:∀{cls:List Cl} {x:CD cls} {vs:List Value},px eT S F cls x vs->vs.length=cls.length
 | [],_,_,h=>by rw [show _ = [] from h];rfl
 | .d t :: r,x,v :: vs,h=>by simp [qN h.2]
 | .obj k :: r,x,v :: vs,h=>by simp [qN (cls:=r) h.2]
 | .fF :: r,x,v :: vs,h=>by simp [qN (cls:=r) h.2]
theorem vR {O:aD} {loc:Nat->Loc} {w:World}:∀(cls:List Cl) (xs:List cC) {st:St},Good eT X (aB O st loc w)->
  Tr (aB O st loc w) (aB O (iy cls st xs).2 loc w)/\Good eT X (aB O (iy cls st xs).2 loc w)/\(iy cls st xs).2.env=st.env/\
   ∀vs,cN eT (aB O st loc w) xs vs->cN eT (aB O (iy cls st xs).2 loc w) (iy cls st xs).1 vs:=by
 intro cls
 induction cls with
 | nil=>intro xs st g;exact ⟨Tr.refl _,g,rfl,fun vs h=>h⟩
 | cons cl r ih=>
  intro xs st g
  cases xs with
  | nil=>cases cl <;> exact ⟨Tr.refl _,g,rfl,fun vs h=>h⟩
  | cons x xs=>
   cases cl with
   | d t=>
    have g':Good (Cx.mk eT [] [] [] 0 [] [] [] false [] []).eT X (aB O st loc w):=g
    obtain ⟨t1,g1,e1,k1⟩:=qL g' x
    obtain ⟨t2,g2,e2,k2⟩:=ih xs g1
    refine ⟨t1.trans t2,g2,e2.trans e1,fun vs h => ?_⟩
    cases h with
    | cons h1 h3=>exact .cons ((k1 _ h1).tr t2) (k2 _ (h3.tr t1))
   | obj k=>
    obtain ⟨t2,g2,e2,k2⟩:=ih xs g
    refine ⟨t2,g2,e2,fun vs h => ?_⟩
    cases h with
    | cons h1 h3=>exact .cons (h1.tr t2) (k2 _ h3)
   | fF=>
    obtain ⟨t2,g2,e2,k2⟩:=ih xs g
    refine ⟨t2,g2,e2,fun vs h => ?_⟩
    cases h with
    | cons h1 h3=>exact .cons (h1.tr t2) (k2 _ h3)
end
end Go.Vg

namespace Go.Vg
open Go.RowKit
section
variable {X:Ext} {P:Program} {aN:List Ob} {args:List Cl}
theorem vS {a:CD args} {x:PD aN} {ν:List Nat} {st:St} {K:SV->St->VC}:∀{alts:List (Alt aN args)},(vP a x ν st K alts).holds->∀al∈alts,(yV al a x ν st K).holds
 | [],_,al,h=>by simp at h
 | [al0],h,al,ha=>by simp at ha;subst ha;exact h
 | al0 :: al1 :: r,h,al,ha=>by
  rcases List.mem_cons.1 ha with e | ha
  ·subst e;exact h.1
  ·exact vS h.2 al ha
theorem xG {a:CD args} {x:PD aN} {vs:List cC} {st:St}:∀{alts:List (Alt aN args)},(s4 a x vs st alts).holds->∃al∈alts,∃ν,
  nodupB ν=true/\qM 0 aN al.bP ν=true/\(al.cv=false\/(oX aN=true/\eG al.bP=true/\gO al.res=true))/\al.ok a x/\
  jU al.cv (iy al.res st vs).2.aC al.bP ν al.res (iy al.res st vs).1=some (al.ret a x)/\dB al.cv (iy al.res st vs).2.aC al.bP ν al.bP ν=some (al.out a x)/\
  (∀p∈ka al.bP (al.out a x) al.res (iy al.res st vs).1,p)/\(∀p∈gM al.bP (al.out a x) (iy al.res st vs).2.aC al.bP ν,p)
 | [],h=>h.elim
 | al :: r,h=>by
  have rest:(s4 a x vs st r).holds->∃al'∈al :: r,∃ν,
    nodupB ν=true/\qM 0 aN al'.bP ν=true/\(al'.cv=false\/(oX aN=true/\eG al'.bP=true/\gO al'.res=true))/\al'.ok a x/\
    jU al'.cv (iy al'.res st vs).2.aC al'.bP ν al'.res (iy al'.res st vs).1=some (al'.ret a x)/\dB al'.cv (iy al'.res st vs).2.aC al'.bP ν al'.bP ν=some (al'.out a x)/\
    (∀p∈ka al'.bP (al'.out a x) al'.res (iy al'.res st vs).1,p)/\(∀p∈gM al'.bP (al'.out a x) (iy al'.res st vs).2.aC al'.bP ν,p):=fun h=>by
   obtain ⟨al',h1,h2⟩:=xG h
   exact ⟨al',by simp [h1],h2⟩
  simp only [s4] at h
  split at h
  ·rename_i ν hν
   split at h
   ·rename_i b y hc hb hy
    simp only [Bool.and_eq_true,Bool.or_eq_true,Bool.not_eq_true'] at hc
    obtain ⟨h1,h2,h3⟩:=hc
    have hall:=uz h
    have k3:al.ok a x/\y=al.out a x/\b=al.ret a x:=hall _ (List.mem_append_right _ (by simp))
    obtain ⟨k4,k5,k6⟩:=k3
    subst k5;subst k6
    obtain ⟨k1,_⟩:=iW.1 hall
    obtain ⟨k1,k2⟩:=iW.1 k1
    exact ⟨al,by simp,ν,h1,h2,h3,k4,hb,hy,k1,k2⟩
   ·exact rest h
  ·exact rest h
theorem HN {B:Cx} {Γ:List (FuncId × (Bool × bR))} (hok:bZ P B X Γ) {f:FuncId} {fn:Func} {c:Code} (hf:P.funcs[f]?=some fn) (hb:fn.body=some c) (hN:args.length<=fn.ntmps) {anns:CD args->PD aN->dE}
  {pre:CD args->PD aN->Prop} {alts:List (Alt aN args)} (h:∀a x,mg args a->pre a x->(gW B Γ fn (anns a x) aN args alts a x).holds)
  {O:aD} {st:St} {loc:Nat->Loc} {w:World} {as:List cC} {vs:List Value} {K:SV->St->VC} (g:Good B.eT X (aB O st loc w)) (hO:dY O w) (ha:cN B.eT (aB O st loc w) as vs)
  {ν:List Nat} {a:CD args} {x:PD aN} (hnd:nodupB ν=true) (hga:jU false st.aC aN ν args as=some a) (hx:dB false st.aC aN ν aN ν=some x)
  (hp1:∀p∈ka aN x args as,p) (hp2:∀p∈gM aN x st.aC aN ν,p) (hpre:pre a x) (hK:(vP a x ν st K alts).holds) :
  Calls P f vs.toArray w fun e w'=>∃v sv st' loc',e = .returned v/\(K sv st').holds/\st'.env=st.env/\Good B.eT X (aB O st' loc' w')/\
   Tr (aB O st loc w) (aB O st' loc' w')/\cV B.eT (aB O st' loc' w') sv v:=by
 have hvals:=xu g hx hga ha hp1
 have hobsl:=nR hx
 let us:=upto 0 aN.length
 have hul:ν.length=us.length:=by rw [qE];exact hobsl.symm
 let O':aD:=fun b off=>O b off\/∃n oc,look st.aC n=some oc/\n∉ν/\b∈(loc n).bs/\oc.lo<=off
 let st0:=n5 aN args a x
 have hOin':dY O' w:=by
  rintro b off (h | ⟨n,oc,h1,_,h2,_⟩)
  ·exact hO b off h
  ·exact (g.obj n oc h1).2.inside b h2
 have hlo:∀n∈ν,∀oc,look st.aC n=some oc->oX aN=true->oc.lo=0:=by
  intro n hn oc h1 h2
  obtain ⟨o,oc',y,k1,k2,k3⟩:=jM hx hn
  rw [h1] at k2;cases k2
  have:=(nx k3 (fun _ => .any)).2.2.2 (fun t=>xF h2 k1) rfl
  cases oc <;> first | rfl | exact (this _ _ rfl).elim
 have hν:∀n∈ν,∃oc,look st.aC n=some oc:=fun n hn=>let ⟨_,oc,_,_,k,_⟩:=jM hx hn;⟨oc,k⟩
 let loc0:=dQ us (ν.map loc) loc
 have hf0:∀k oc,look st0.aC k=some oc->∃(i n:Nat) (o:Ob) (y:OD o) (oc0:OC),ν[i]?=some n/\us[i]?=some k/\aN[i]?=some o/\look st.aC n=some oc0/\ij false st.aC aN ν o oc0=some y/\oc=ou (fL aN x us) o y/\loc0 k=loc n:=by
  intro k oc hk
  obtain ⟨i,n,o,y,oc0,k1,k2,k3,k4,k5,k6,_⟩:=nQ hx (nP (X:=X) g hx hx hp2) hul hk
  exact ⟨i,n,o,y,oc0,k1,k2,k3,k4,k5,k6,jm (iI _ _) k2 (by simp [k1])⟩
 have hA0:∀b o,(aB O' st0 loc0 w).A b o->(aB O st loc w).A b o:=by
  rintro b off ((h | ⟨n,oc,h1,_,h2,h3⟩) | ⟨k,oc,h1,h2,h3⟩)
  ·exact .inl h
  ·exact .inr ⟨n,oc,h1,h2,h3⟩
  ·obtain ⟨i,n,o,y,oc0,_,_,_,k4,k5,k6,k7⟩:=hf0 k oc h1
   refine .inr ⟨n,oc0,k4,by simp only [aB] at h2;rw [k7] at h2;exact h2,?_⟩
   rcases wS (f:=fL aN x us) k5 with e | e
   ·rw [<-e,<-k6];exact h3
   ·cases e
 have hown0:∀b,(aB O' st0 loc0 w).mE b->∃n∈ν,b∈(loc n).bs:=by
  rintro b ⟨k,oc,h1,h2⟩
  obtain ⟨i,n,o,y,oc0,k1,_,_,_,_,_,k7⟩:=hf0 k oc h1
  exact ⟨n,List.mem_of_getElem? k1,by simp only [aB] at h2;rw [k7] at h2;exact h2⟩
 obtain ⟨g0,laid0⟩:=DZ (X:=X) g hx hp2 hnd (O2:=O') (ν2:=us) (rest:=[]) (locR:=loc) (st2:=st0) (iI _ _) hul
  (by simp [st0,n5,us]) (fun n hn=>by have:=qD hn;simp [st0,n5];omega)
  (fun n hn b hb off=>by
   obtain ⟨oc,k⟩:=hν n hn
   rintro (h | ⟨m,oc',h1,h2,h3,_⟩)
   ·exact g.out n oc b off k hb h
   ·exact h2 (by rw [<-g.apart n m oc oc' b k h1 hb h3];exact hn))
  (fun n hn b hb m oc h=>by simp [look] at h) (fun m oc h=>by simp [look] at h) (fun m m' oc oc' b h=>by simp [look] at h) (fun m oc b off h=>by simp [look] at h) (.inr hA0)
  (fun b hb h=>by
   obtain ⟨n,hn,hbn⟩:=hown0 b h
   obtain ⟨oc,k⟩:=hν n hn
   exact g.lG.2 b hb ⟨n,oc,k,hbn⟩)
 have hargs:cN B.eT (aB O' st0 loc0 w) (uy (fL aN x us) args a) vs:=Ag (S:=aB O st loc w) (S':=aB O' st0 loc0 w) rfl (fun k v hk=>vC laid0 hk) (.inr hA0) hvals
 have hcode:codeOf fn=c:=by unfold codeOf;rw [hb];rfl
 have hvc:=h a x (s5 hvals) hpre
 unfold gW at hvc
 rw [hcode] at hvc
 have hcalls:=pC (X:=X) (hok fn.ntmps) hf hb (by rfl) (anns a x) (O:=O') (loc:=loc0) (w:=w) (args:=vs.toArray) (st:=st0)
  (by rw [List.size_toArray,qN hvals];exact hN) g0 hOin'
  (fun t sv ht=>by
   obtain ⟨_,v,k1,k2⟩:=tG 0 hargs t sv ht
   exact ⟨v,by simpa using k1,k2⟩) hvc
 refine hcalls.mono ?_
 rintro e w' ⟨rs,us',st',locE,he,hk,hr,gE',trE'⟩
 obtain ⟨al,hal,ν',hnd',hkept,hcv,hokal,hret,hout,hc1,hc2⟩:=xG hk
 obtain ⟨tF,gE,_,kF⟩:=vR al.res rs gE'
 generalize hst2:(iy al.res st' rs).2=st2 at *
 generalize hrs2:(iy al.res st' rs).1=rs2 at *
 have trE:=trE'.trans tF
 have hrE:=kF us' hr
 have hKal:=vS hK al hal
 unfold yV at hKal
 split at hKal
 case h_2=>exact hKal.elim
 rename_i hn1
 simp only [Bool.and_eq_true] at hn1
 obtain ⟨hnd1,hbel⟩:=hn1
 have hKal:=hKal hokal
 generalize hν1:kg aN al.bP ν st.next=ν1 at *
 have hl1:ν'.length=ν1.length:=by rw [<-hν1,oz];exact (nR hout).symm
 generalize hst1:({env:=st.env,aC:=jz (fL al.bP (al.out a x) ν1) al.bP (al.out a x) ν1++nD st.aC ν,next:=st.next + al.bP.length}:St)=st1 at hKal
 have h1env:st1.env=st.env:=by rw [<-hst1]
 have h1objs:st1.aC=jz (fL al.bP (al.out a x) ν1) al.bP (al.out a x) ν1++nD st.aC ν:=by rw [<-hst1]
 have h1next:st1.next=st.next + al.bP.length:=by rw [<-hst1]
 let loc1:=dQ ν1 (ν'.map locE) loc
 have hf1:∀m oc,look st1.aC m=some oc->(∃(i n:Nat) (o:Ob) (y:OD o) (oc0:OC),ν'[i]?=some n/\ν1[i]?=some m/\al.bP[i]?=some o/\look st2.aC n=some oc0/\ij al.cv st2.aC al.bP ν' o oc0=some y/\
   oc=ou (fL al.bP (al.out a x) ν1) o y/\loc1 m=locE n)\/(m∉ν1/\m∉ν/\look st.aC m=some oc/\loc1 m=loc m):=by
  intro m oc hm
  rw [h1objs,dD] at hm
  split at hm
  ·rename_i oc' hm'
   cases hm
   obtain ⟨i,n,o,y,oc0,k1,k2,k3,k4,k5,k6,_⟩:=nQ hout (nP (X:=X) gE hout hout hc2) hl1 hm'
   exact .inl ⟨i,n,o,y,oc0,k1,k2,k3,k4,k5,k6,jm hnd1 k2 (by simp [k1])⟩
  ·rename_i hm'
   have hnin:m∉ν1:=fun hmem=>by
    obtain ⟨oc1,h2⟩:=nz (f:=fL al.bP (al.out a x) ν1) (x:=al.out a x) (by rw [<-hν1,oz]) hmem
    rw [h2] at hm';cases hm'
   rw [jO] at hm
   split at hm
   ·cases hm
   ·rename_i hmn
    exact .inr ⟨hnin,hmn,hm,lR hnin⟩
 have hownE:∀n∈ν',∀b∈(locE n).bs,(aB O' st2 locE w').mE b:=by
  intro n hn b hb
  obtain ⟨_,oc,_,_,k,_⟩:=jM hout hn
  exact ⟨n,oc,k,hb⟩
 have hblk:∀m oc,look st.aC m=some oc->m∉ν->∀b∈(loc m).bs,¬ (aB O' st0 loc0 w).mE b:=by
  intro m oc h1 h2 b hb' ho
  obtain ⟨n,hn,hbn⟩:=hown0 b ho
  obtain ⟨oc',k⟩:=hν n hn
  have:=g.apart n m oc' oc b k h1 hbn hb'
  exact h2 (by rw [<-this];exact hn)
 have hA1:al.cv=false->∀b o,(aB O st1 loc1 w').A b o->(aB O' st2 locE w').A b o:=by
  rintro hcv0 b off (h | ⟨m,oc,h1,h2,h3⟩)
  ·exact .inl (.inl h)
  ·rcases hf1 m oc h1 with ⟨i,n,o,y,oc0,k1,k2,k3,k4,k5,k6,k7⟩ | ⟨k1,k2,k3,k4⟩
   ·refine .inr ⟨n,oc0,k4,by simp only [aB] at h2;rw [k7] at h2;exact h2,?_⟩
    rcases wS (f:=fL al.bP (al.out a x) ν1) k5 with e | e
    ·rw [<-e,<-k6];exact h3
    ·rw [hcv0] at e;cases e
   ·exact .inl (.inr ⟨m,oc,k3,k2,by simp only [aB] at h2;rw [k4] at h2;exact h2,h3⟩)
 have hkeep:∀(m i:Nat),ν1[i]?=some m->m < st.next->∃o o',aN[i]?=some o/\al.bP[i]?=some o'/\o5 o o'=true/\ν[i]?=some m:=by
  intro m i h1 h2
  rw [<-hν1] at h1
  rcases o6 h1 with h3 | h3
  ·exact h3
  ·omega
 have hT:Tr (aB O st loc w) (aB O st1 loc1 w'):={
  O:=rfl
  next:=by simp only [aB];omega
  os:=trE.os
  output:=trE.output
  size:=trE.size
  own:=by
   rintro b ⟨m,oc,h1,h2⟩
   rcases hf1 m oc h1 with ⟨i,n,o,y,oc0,k1,k2,k3,k4,k5,k6,k7⟩ | ⟨k1,k2,k3,k4⟩
   ·simp only [aB] at h2;rw [k7] at h2
    rcases trE.own b (hownE n (List.mem_of_getElem? k1) b h2) with h3 | h3
    ·obtain ⟨n',hn',hb'⟩:=hown0 b h3
     obtain ⟨oc',k⟩:=hν n' hn'
     exact .inl ⟨n',oc',k,hb'⟩
    ·exact .inr h3
   ·simp only [aB] at h2;rw [k4] at h2;exact .inl ⟨m,oc,k3,h2⟩
  cell:=by
   intro b off v hna hcell
   obtain ⟨h1,h2⟩:=trE.cell b off v (fun h=>hna (hA0 b off h)) hcell
   refine ⟨h1,fun h3 => ?_⟩
   rcases hcv with hcv | ⟨hnt,_,_⟩
   ·exact h2 (hA1 hcv b off h3)
   ·rcases h3 with h3 | ⟨m,oc,h3,h4,h5⟩
    ·exact hna (.inl h3)
    ·rcases hf1 m oc h3 with ⟨i,n,o,y,oc0,k1,k2,k3,k4,k5,k6,k7⟩ | ⟨k1,k2,k3,k4⟩
     ·simp only [aB] at h4;rw [k7] at h4
      rcases trE.own b (hownE n (List.mem_of_getElem? k1) b h4) with h6 | h6
      ·obtain ⟨n',hn',hb'⟩:=hown0 b h6
       obtain ⟨oc',k⟩:=hν n' hn'
       exact hna (.inr ⟨n',oc',k,hb',by rw [hlo n' hn' oc' k hnt];exact Nat.zero_le _⟩)
      ·have:=World.block_lt_of_cell? _ _ hcell
       simp only [aB] at this h6
       omega
     ·simp only [aB] at h4;rw [k4] at h4;exact hna (.inr ⟨m,oc,k3,h4,h5⟩)
  block:=fun b hb' ho=>trE.block b hb' fun h=>ho (by
   obtain ⟨n,hn,hbn⟩:=hown0 b h
   obtain ⟨oc,k⟩:=hν n hn
   exact ⟨n,oc,k,hbn⟩)
  loc:=by
   intro m hm hfix
   by_cases hin:m∈ν1
   ·obtain ⟨i,hi⟩:=List.getElem?_of_mem hin
    obtain ⟨o,o',e1,e2,e3,e4⟩:=hkeep m i hi hm
    have hiE:i < ν'.length:=by rw [hl1];exact aY hi
    have hn':ν'[i]?=some ν'[i]:=List.getElem?_eq_getElem hiE
    have hni:=vQ hkept e1 e2 e3 hn'
    rw [Nat.zero_add] at hni
    have e5:loc1 m=locE i:=by
     have:=jm (d:=loc) hnd1 hi (ls:=ν'.map locE) (l:=locE i) (by simp [hn',hni])
     exact this
    have hui:us[i]?=some i:=by have:=uB aN.length 0 i (aY e1);simpa using this
    have e6:loc0 i=loc m:=jm (iI _ _) hui (by simp [e4])
    have e7:=trE.loc i (show i < st0.next by simp [st0,n5];exact aY e1) (fun t ys hy=>by
     obtain ⟨j,n,o2,y,oc0,k1,k2,k3,k4,k5,k6,k7⟩:=hf0 i _ hy
     have hj:j=i:=nA (iI _ _) k2 hui
     subst hj
     rw [e1] at k3;cases k3
     cases o <;> simp [ou] at k6
     cases o' <;> simp [o5] at e3)
    show (loc1 m).v=(loc m).v/\(_->loc1 m=loc m)
    rw [e5,<-e6]
    refine ⟨e7.1,fun hr=>e7.2 fun t z hy => ?_⟩
    obtain ⟨j,n,o2,y,oc0,k1,k2,k3,k4,k5,k6,k7⟩:=hf0 i _ hy
    have hj:j=i:=nA (iI _ _) k2 hui
    subst hj
    rw [e4] at k1;cases k1
    cases o2 <;> simp [ou] at k6
    obtain ⟨rfl,rfl,_⟩:=k6
    obtain ⟨z',rfl⟩:=(nx k5 (fun _ => .any)).2.1 _ _ rfl
    exact hr _ _ k4
   ·exact lk (lR hin)
  kind:=by
   intro m oc' hm hob
   rcases hf1 m oc' hob with ⟨i,n,o,y,oc0,k1,k2,k3,k4,k5,k6,k7⟩ | ⟨k1,k2,k3,k4⟩
   ·obtain ⟨o0,o',e1,e2,e3,e4⟩:=hkeep m i k2 hm
    rw [k3] at e2;cases e2
    have hui:us[i]?=some i:=by have:=uB aN.length 0 i (aY e1);simpa using this
    obtain ⟨oc2,h2⟩:=nz (f:=fL aN x us) (x:=x) (ms:=us) (by rw [qE]) (List.mem_of_getElem? hui)
    obtain ⟨j,n2,o2,y2,oc3,j1,j2,j3,j4,j5,j6,j7⟩:=hf0 i oc2 (by simpa [st0,n5] using h2)
    have hj:j=i:=nA (iI _ _) j2 hui
    subst hj
    rw [e1] at j3;cases j3
    rw [e4] at j1;cases j1
    refine ⟨oc3,j4,?_⟩
    cases o0 <;> cases o <;> simp [o5] at e3
    ·subst e3
     obtain ⟨cs,rfl⟩:=(nx j5 (fun _ => .any)).1 _ _ rfl
     rw [k6]
     rfl
    ·rename_i kp t kp' t'
     cases kp <;> cases kp' <;> simp at e3
     have e3:=Ty.eq_of_beq e3
     subst e3
     obtain ⟨xs,rfl⟩:=(nx j5 (fun _ => .any)).2.2.1 _ _ rfl rfl
     rw [k6]
     rfl
    ·obtain ⟨e3,e4⟩:=e3
     have e4:=Ty.eq_of_beq e4
     subst e3;subst e4
     obtain ⟨z,rfl⟩:=(nx j5 (fun _ => .any)).2.1 _ _ rfl
     rw [k6]
     exact ⟨rfl,rfl⟩
   ·refine ⟨oc',k3,?_⟩
    cases oc' <;> simp [aQ,aB,k4]}
 obtain ⟨g1,laid1⟩:=DZ (X:=X) gE hout hc2 hnd' (O2:=O) (ν2:=ν1) (rest:=nD st.aC ν) (locR:=loc) (st2:=st1) hnd1 hl1 h1objs
  (fun n hn=>by rw [h1next];exact rh hbel hn)
  (fun n hn b hb' off h=>by
   obtain ⟨_,oc,_,_,k,_⟩:=jM hout hn
   exact gE.out n oc b off k hb' (.inl h))
  (fun n hn b hb' m oc h1 h2 h3=>by
   rw [jO] at h1
   split at h1
   ·cases h1
   ·rename_i hmn
    rcases trE.own b (hownE n hn b hb') with h4 | h4
    ·exact hblk m oc h1 hmn b h3 h4
    ·have:=(g.obj m oc h1).2.inside b h3
     simp only [aB] at this h4
     omega)
  (fun m oc h1 h2=>by
   rw [jO] at h1
   split at h1
   ·cases h1
   ·rename_i hmn
    obtain ⟨k1,k2⟩:=g.obj m oc h1
    refine ⟨by rw [h1next];simp only [aB] at k1;omega,k2.tr hT fun b hb' => ?_⟩
    exact trE.block b (k2.inside b hb') (hblk m oc h1 hmn b hb'))
  (fun m m' oc oc' b h1 h2 _ _ h3 h4=>by
   rw [jO] at h1 h2
   split at h1
   ·cases h1
   ·split at h2
    ·cases h2
    ·exact g.apart m m' oc oc' b h1 h2 h3 h4)
  (fun m oc b off h1 _ h2=>by
   rw [jO] at h1
   split at h1
   ·cases h1
   ·exact g.out m oc b off h1 h2)
  (by
   rcases hcv with hcv | ⟨_,hcv,_⟩
   ·exact .inr (hA1 hcv)
   ·exact .inl hcv)
  (g.lG.tr hT).2
 have hres:=xu gE hout hret hrE hc1
 refine ⟨_,_,st1,loc1,he,hKal,h1env,g1,hT,rX (Ag (S:=aB O' st2 locE w') (S':=aB O st1 loc1 w') rfl (fun k v hk=>vC laid1 hk) ?_ hres)⟩
 rcases hcv with hcv | ⟨_,_,hcv⟩
 ·exact .inr (hA1 hcv)
 ·exact .inl hcv
theorem cZ {B:Cx} {Γ:List (FuncId × (Bool × bR))} (hok:bZ P B X Γ) {f:FuncId} {fn:Func} (hf:P.funcs[f]?=some fn) (hg:p0 fn args.length=true) (anns:CD args->PD aN->dE)
  {pre:CD args->PD aN->Prop} {alts:List (Alt aN args)} (h:∀a x,mg args a->pre a x->(gW B Γ fn (anns a x) aN args alts a x).holds) :
  dS P B.eT X f false (bQ aN args pre alts):=by
 simp only [p0,Bool.and_eq_true,Bool.not_eq_true'] at hg
 obtain ⟨⟨h1,h2⟩,h3⟩:=hg
 obtain ⟨c,hc⟩:=Option.isSome_iff_exists.1 h1
 refine ⟨⟨fn,hf,by rw [hc];rfl,h2⟩,fun O st loc w as vs K hK g hO ha => ?_⟩
 unfold bQ at hK
 obtain ⟨t1,g1,e1,k1⟩:=vR args as g
 simp only at hK
 split at hK
 case h_2=>exact hK.elim
 rename_i ν hν
 split at hK
 case h_2=>exact hK.elim
 rename_i a x hnd hga hx
 obtain ⟨hp,hpre,hK⟩:=Ae hK
 obtain ⟨hp1,hp2⟩:=iW.1 hp
 refine (HN hok hf hc (Nat.le_of_ble_eq_true h3) h g1 hO (k1 vs ha) hnd hga hx hp1 hp2 hpre hK).mono ?_
 rintro e w' ⟨v,sv,st',loc',q1,q2,q3,q4,q5,q6⟩
 exact ⟨v,sv,st',loc',q1,q2,q3.trans e1,(fun hq=>by cases hq),q4,t1.trans q5,q6⟩
end
end Go.Vg

namespace Go.Vg
@[reducible] def aI:Ty:=.prod .str (.prod (.int .i64) (.prod .bool .unit))
@[reducible] def aU:Ty:=.prod (.int .i64) (.prod (.int .i64) .unit)
@[reducible] def aR:Ty:=.prod (.int .i64) (.prod (.int .i64) (.prod (.int .i64) (.prod .str (.prod .bool .unit))))
@[reducible] def bO:Ty:=.prod (.int .i64) (.prod (.int .i64) (.prod (.int .i64) .unit))
@[reducible] def aJ:Ty:=.prod .str (.prod (.int .i64) (.prod (.int .i64) .unit))
@[reducible] def aA:Ty:=.prod (.slice .str) (.prod (.slice (.int .i64)) (.prod (.slice aI) (.prod (.slice aR) .unit)))
@[reducible] def bK:Ty:=.prod .str (.prod (.slice aJ) (.prod (.slice bO) .unit))
@[reducible] def cJ:Ty:=.prod .str (.prod .str (.prod .str (.prod (.int .i64) (.prod (.int .u64) (.prod bK .unit)))))
@[reducible] def hP:Ty:=.prod .str (.prod (.int .i64) (.prod (.slice (.int .i64)) .unit))
@[reducible] def yW:Ty:=.prod (.int .i64) (.prod .str .unit)
@[reducible] def IW:Ty:=.prod (.slice .str) (.prod (.slice .str) (.prod (.slice yW) (.prod (.int .i64) (.prod .bool .unit))))
theorem bl :
  (∀(p:Prop) [Decidable p],(decide p=true)=p)/\(∀(p:Prop) [Decidable p],(decide p=false)=¬ p)/\
  (∀(α:Type) [BEq α] [LawfulBEq α] (a b:α),((a == b)=true)=(a=b))/\(∀(α:Type) [BEq α] [LawfulBEq α] (a b:α),((a == b)=false)=¬ a=b)/\
  (∀(α:Type) [BEq α] [LawfulBEq α] (a b:α),((a != b)=true)=¬ a=b)/\(∀(α:Type) [BEq α] [LawfulBEq α] (a b:α),((a != b)=false)=(a=b))/\
  (∀b:Bool,((!b)=true)=(b=false))/\(∀b:Bool,((!b)=false)=(b=true))/\(∀b:Bool,(¬ b=true)=(b=false))/\(∀b:Bool,(¬ b=false)=(b=true))/\
  (∀a b:Bool,((a && b)=true)=(a=true/\b=true))/\(∀a b:Bool,((a || b)=true)=(a=true\/b=true))/\
  (∀a b:Bool,((a && b)=false)=(a=false\/b=false))/\(∀a b:Bool,((a || b)=false)=(a=false/\b=false))/\
  (∀a b:Int,(¬ a < b)=(b<=a))/\(∀a b:Int,(¬ a<=b)=(b < a)):=by
 refine ⟨?_,?_,?_,?_,?_,?_,?_,?_,?_,?_,?_,?_,?_,?_,?_,?_⟩ <;> intros <;> first | (simp;done) | (rename_i a b;cases a <;> cases b <;> simp)
end Go.Vg

namespace Go.Vg
open Go.RowKit
theorem Kh {w:World} {b i:Nat} {c:Array Value} {T:TypeId} {v:Value} (hb:w.heap[b]?=some (.cells c T (0,0))):(w.setCell ⟨b,i,none⟩ v).heap[b]?=some (.cells (c.setIfInBounds i v) T (0,0)):=by
 simp [World.setCell,Array.getElem?_modify,hb]
theorem Jn {P:Program} {w:World} {t u ty e:TypeId} {i:TypeInfo} (ht:P.underlying t=some (.slice e)) (hu:P.underlying u=some .string) (hi:P.info? e=some i) (hz:i.zero=some (.int .u8 0))
  (hsize:i.size=1) (hby:i.bytes=1) {v:Value} {xs:List Value} (hown:w.ownsRow 0 e 1 v xs.length xs) (hcap:∀a n c,v = .slice (some a) n c->0 < c) (s:ByteArray) (hlen:xs.length + s.size<=140737488355328) :
  ∃v' w',(Builtin.append_ #[t,u] ty #[v, .string s]).run P w = .ok v' w'/\w'.ownsRow 0 e 1 v' (xs.length + s.size) (xs++Lib.strCells s)/\w.grownBy w' v.ownBlock/\(∀a n c,v' = .slice (some a) n c->0 < c)/\
   (∀g,v'.ownBlock=some g->v.ownBlock=some g\/w.heap.size<=g):=by
 rcases hown.2 with ⟨rfl,h0⟩ | ⟨g,cap,cur,rfl,hbg,hg,hnc,hcm,hcs,htake⟩
 ·have hown':w.ownsRow w.heap.size e 1 (.slice none 0 0) xs.length xs:=⟨hown.1, .inl ⟨rfl,h0⟩⟩
  obtain ⟨v',w',h1,h2,h3,h4⟩:=Lib.run_append_own_string (P:=P) w w.heap.size t u ty e i ht hu hi hz hsize hby _ _ _ hown' s (by unfold maxLen;omega) hlen (Nat.le_refl _)
  rcases h2.2 with ⟨rfl,h6⟩ | ⟨g,cap,cur,rfl,k1,k2,k3,k4⟩
  ·exact ⟨_,w',h1,⟨h2.1, .inl ⟨rfl,h6⟩⟩,h3,(fun a n c hh=>by cases hh),(fun g hh=>by cases hh)⟩
  ·refine ⟨_,w',h1,⟨h2.1, .inr ⟨g,cap,cur,rfl,Nat.zero_le _,k2,k3,k4⟩⟩,h3,fun a n c hh => ?_,fun g' hh=>by cases hh;exact .inr k1⟩
   cases hh
   by_cases hs:s.size=0
   ·have:=h4.2 ⟨rfl,hs⟩;cases this
   ·omega
 ·have hc0:=hcap _ _ _ rfl
  by_cases hroom:xs.length + s.size<=cap
  ·obtain ⟨w',h1,h2,h3⟩:=Lib.run_append_fits_string (P:=P) w 0 t u ty e i ht hu hi hsize _ _ _ _ hown s hc0 hroom
   exact ⟨_,w',h1,h2,h3,(fun a n c hh=>by cases hh;exact hc0),(fun g' hh => .inl hh)⟩
  ·have holds:∀j u,xs[j]?=some u->w.cell? ((⟨g,0,none⟩:Addr).add j)=some u:=hown.cells (g:=g) rfl
   have hr:=Lib.run_append_grow_string (P:=P) w t u ty e i (.int .u8 0) ht hu hi hz ⟨g,0,none⟩ xs.length cap xs (by rw [hsize];simp) holds s (by omega) (by omega) (by rw [hby];exact growslice_fits (by omega) (by omega))
   have hge:=grownCap_ge w (xs.length + s.size) cap e
   have hcm':grownCap w (xs.length + s.size) cap e<=maxLen:=grownCap_le_maxLen w (xs.length + s.size) cap e (by unfold maxLen;omega)
   refine ⟨_,_,hr,⟨by simp [Lib.strCells_length], .inr ⟨w.heap.size,_,_,rfl,Nat.zero_le _,heap_alloc_new w.drew _,hge,hcm',?_,?_⟩⟩,⟨rfl,rfl,rfl,by simp,fun k hk _=>Go.Deep.blk_alloc_lt w.drew _ k hk⟩,(fun a n c hh=>by cases hh;omega),(fun g' hh=>by cases hh;exact .inr (Nat.le_refl _))⟩
   ·have hz1:(Value.int IntKind.u8 0).cells.size=1:=rfl
    simp only [Array.size_append,List.size_toArray,size_zeroCells,hz1,Lib.strCells_length]
    omega
   ·simp only [Array.toList_append,List.append_assoc]
    rw [<-List.append_assoc]
    have:(xs++Lib.strCells s).length=(xs.length + s.size) * 1:=by simp [Lib.strCells_length]
    rw [<-this]
    exact List.take_left
theorem tn {P:Program} {w w':World} {ops:Array Oper} {rest:List Oper} {o:Oper} {a:Act} {Q:Exit->Act->World->Prop} (hgd:o.guard=none) (sl x:Operand) (t u:TypeId)
  (ho:o.op = .call {callee:=.builtin .append,args:=#[sl,x],argTypes:=#[t,u]}) {v v' y:Value} (hs:a.eval sl=v) (hx:a.eval x=y)
  (hr:(Builtin.append_ #[t,u] o.type #[v,y]).run P w = .ok v' w') (h:wpList P ops Q rest (a.put o.dst v') w'):wpList P ops Q (o :: rest) a w:=by
 refine wpList_plain hgd fun K hK => ?_
 unfold Oper.wp execOp
 simp only [ho,resolve,invoke,builtin,Sem.run_bind,Sem.run_pure,Result.andThen_ok,List.map_toArray,List.map_cons,List.map_nil,hs,hx,hr]
 exact hK _ _ h
structure Kept (b:Nat) (v:Value) (w w':World):Prop where
 os:w'.os=w.os
 output:w'.output=w.output
 size:w.heap.size<=w'.heap.size
 block:∀k,k < w.heap.size->k≠b->v.ownBlock≠some k->w'.heap[k]?=w.heap[k]?
structure Ec (v:Value) (w w':World):Prop where
 os:w'.os=w.os
 output:w'.output=w.output
 size:w'.heap.size=w.heap.size
 block:∀k,v.ownBlock≠some k->w'.heap[k]?=w.heap[k]?
theorem B1 {w:World} {g n c:Nat} {m:Nat}:Ec (.slice (some ⟨g,0,none⟩) n c) w (w.drew.freeze ⟨g,0,none⟩ m):=by
 unfold World.freeze
 split
 ·exact ⟨rfl,rfl,rfl,fun _ _=>rfl⟩
 ·refine ⟨rfl,rfl,by simp,fun k hk => ?_⟩
  have:k≠g:=fun e=>hk (by rw [e];rfl)
  simp only [Array.getElem?_modify]
  rw [if_neg (fun e=>this e.symm)]
  rfl
def qO (T e:Nat):bR:=fun args st K=>
 match args with
 | [.one (.cX n), .one (.d .str s)]=>match look st.aC n with
  | some (.ext 2 t x)=>match h:Ty.beq t iV with
   | true => .and ((bT h x).2.1=(T:Int)/\(bT h x).2.2.1=(e:Int)/\(bT h x).1.length + s.length<=140737488355328)
     (K (.kM [.one (.d (.int .i64) (s.length:Int)), .one (.d .err .nil)]) (setObj st n (.ext 2 iV ((bT h x).1++cG s,(T:Int),(e:Int),()))))
   | false => .ff
  | _ => .ff
 | _ => .ff
def o7 (T e:Nat):bR:=fun args st K=>
 match args with
 | [.one (.cX n)]=>match look st.aC n with
  | some (.ext 2 t x)=>match h:Ty.beq t iV with
   | true => .and ((bT h x).2.1=(T:Int)/\(bT h x).2.2.1=(e:Int)) (K (.s (.one (.d .str (bytesOf (bT h x).1)))) (bB st n))
   | false => .ff
  | _ => .ff
 | _ => .ff
def vT (T e:Nat):bR:=fun args st K=>
 match args with
 | [.one (.cX n)]=>match look st.aC n with
  | some (.ext 2 t x)=>match h:Ty.beq t iV with
   | true => .and ((bT h x).2.1=(T:Int)/\(bT h x).2.2.1=(e:Int)) (K (.s (.one (.d (.int .i64) ((bT h x).1.length:Int)))) st)
   | false => .ff
  | _ => .ff
 | _ => .ff
section
variable {P:Program} {eT:TypeId} {X:Ext} {f:FuncId}
theorem Ap {O:aD} {st:St} {loc:Nat->Loc} {w:World} (g:Good eT X (aB O st loc w)) {n:Nat} {x:D iV} (hob:look st.aC n=some (.ext 2 iV x)) {v:Value} (hv:CR eT (aB O st loc w) (.cX n) v) :
  ∃b p u,v = .pointer (some ⟨b,0,none⟩)/\JS x (loc n) w b p u:=by
 obtain ⟨h0,b,p,u,hD⟩:=X.IK.1 (g.obj n _ hob).2
 exact ⟨b,p,u,(hv.2 _ hob rfl).trans hD.lv,hD⟩
theorem Ed (s:List UInt8):bytesOf (cG s)=s:=by
 induction s with
 | nil=>rfl
 | cons c r ih=>
  simp only [bytesOf,cG,List.map_cons,List.map_map] at ih ⊢
  rw [ih]
  simp
theorem Ee {xs:List Int} (h:∀y∈xs,0<=(y:Int)/\(y:Int)<=255):cG (bytesOf xs)=xs:=by
 induction xs with
 | nil=>rfl
 | cons y r ih=>
  have h1:=h y (by simp)
  have h2:=ih fun z hz=>h z (by simp [hz])
  simp only [cG,bytesOf,List.map_map,List.map_cons] at h2 ⊢
  rw [h2]
  congr 1
  simp only [UInt8.toNat_ofNat']
  omega
theorem Ef (s:List UInt8):∀y∈cG s,0<=(y:Int)/\(y:Int)<=255:=by
 intro y hy
 simp only [cG,List.mem_map] at hy
 obtain ⟨c,_,rfl⟩:=hy
 have:=c.toNat_lt
 omega
theorem HO {xs:List Int} (h:∀y∈xs,0<=(y:Int)/\(y:Int)<=255):xs.map (Value.int .u8)=(bytesOf xs).map fun c=>Value.int .u8 c.toNat:=by
 conv=>lhs;rw [<-Ee h]
 simp [cG]
theorem vU {T e:Nat} (hfn:∃fn,P.funcs[f]?=some fn/\fn.body.isNone=false/\(fn.name == "runtime.NumGoroutine")=false)
  (H:∀(b:Nat) (p v:Value) (xs:List Value) (s:ByteArray) (w:World),w.heap[b]?=some (.cells #[p,v] T (0,0))->(p = .pointer none\/p = .pointer (some ⟨b,0,none⟩))->w.ownsRow 0 e 1 v xs.length xs->v.ownBlock≠some b->
   (∀a n c,v = .slice (some a) n c->0 < c)->xs.length + s.size<=140737488355328->
   Calls P f #[.pointer (some ⟨b,0,none⟩), .string s] w fun r w'=>r = .returned (.tuple #[.int .i64 s.size, .nilIface])/\
    ∃v',w'.heap[b]?=some (.cells #[.pointer (some ⟨b,0,none⟩),v'] T (0,0))/\w'.ownsRow 0 e 1 v' (xs.length + s.size) (xs++Lib.strCells s)/\v'.ownBlock≠some b/\Kept b v w w'/\
     (∀a n c,v' = .slice (some a) n c->0 < c)/\(∀g,v'.ownBlock=some g->v.ownBlock=some g\/w.heap.size<=g)) :
  dS P eT X f false (qO T e):=by
 refine ⟨hfn,fun O st loc w args vs K hs g hO ha => ?_⟩
 unfold qO at hs
 split at hs
 case h_2=>exact hs.elim
 rename_i n s
 split at hs
 case h_2=>exact hs.elim
 rename_i t x hob
 split at hs
 case h_2=>exact hs.elim
 rename_i ht
 have ht':=Ty.eq_of_beq ht
 subst ht'
 rw [hH] at hs
 obtain ⟨⟨hT,he,hlen⟩,hs⟩:=hs
 match vs,ha with
 | [v0,v1], .cons h0 (.cons h1 .nil)=>
 obtain ⟨b,p,u,rfl,hD⟩:=Ap g hob h0
 obtain ⟨rfl,hsl⟩:=ia.1 (show CR eT _ (.d .str s) v1 from h1)
 have hsz:(⟨s.toArray⟩:ByteArray).size=s.length:=by simp [ByteArray.size]
 have hT':x.2.1.toNat=T:=by rw [hT];rfl
 have he':x.2.2.1.toNat=e:=by rw [he];rfl
 have hheap:=hD.heap
 have hrow:=hD.row
 rw [hT'] at hheap
 rw [he'] at hrow
 refine (H b p u (x.1.map (Value.int .u8)) ⟨s.toArray⟩ w hheap hD.ptr (by simpa using hrow) hD.ne hD.cap (by simpa [hsz] using hlen)).mono ?_
 rintro r w' ⟨rfl,v',k1,k2,k3,k4,k5,k6⟩
 have hlt:b < w.heap.size:=(Array.getElem?_eq_some_iff.1 hheap).1
 obtain ⟨tr1,g1⟩:=mF (S:=aB O st loc w) (S':=aB O (setObj st n (.ext 2 iV (x.1++cG s,(T:Int),(e:Int),()))) (bI loc n ⟨.pointer (some ⟨b,0,none⟩),b :: v'.ownBlock.toList⟩) w') (n:=n)
  (oc:=.ext 2 iV x) (oc':=.ext 2 iV (x.1++cG s,(T:Int),(e:Int),())) (l':=⟨.pointer (some ⟨b,0,none⟩),b :: v'.ownBlock.toList⟩) g rfl hO hob
  (fun m=>lJ st n m _) (fun _=>rfl) rfl (fun _=>⟨hD.lv.symm,fun h=>(h _ _ rfl).elim⟩) ⟨rfl,rfl⟩ k4.os k4.output k4.size
  (fun b' h1 h2=>k4.block b' h1 (fun e=>h2 (by simp only [aB];rw [hD.bs,e];simp)) (fun e=>h2 (by simp only [aB];rw [hD.bs,e];simp)))
  (fun b' o v _ ho=>by simp [OC.lo] at ho)
  (fun b' hb'=>by
   rcases List.mem_cons.1 hb' with rfl | hb'
   ·exact .inl ⟨by simp only [aB];rw [hD.bs];simp,Nat.le_refl _⟩
   ·have hb':v'.ownBlock=some b':=by simpa using hb'
    rcases k6 b' hb' with h | h
    ·exact .inl ⟨by simp only [aB];rw [hD.bs,h];simp,Nat.le_refl _⟩
    ·exact .inr h)
 have g1:=g1 (X.IK.2 ⟨rfl,b, .pointer (some ⟨b,0,none⟩),v',rfl, .inr rfl,k1,by
  have e1:x.1.map (Value.int .u8)++Lib.strCells ⟨s.toArray⟩=(x.1++cG s).map (Value.int .u8):=by rw [tx,List.map_append]
  have e2:(x.1.map (Value.int .u8)).length + (⟨s.toArray⟩:ByteArray).size=(x.1++cG s).length:=by simp [hsz,cG]
  rw [e1,e2] at k2
  exact k2,rfl,k3,(fun y hy=>by
   rcases List.mem_append.1 hy with h | h
   ·exact hD.u8 y h
   ·exact Ef s y h),k5⟩)
 refine ⟨_,_,_,_,rfl,hs,rfl,(fun hh=>by cases hh),g1,tr1,⟨[.int .i64 (⟨s.toArray⟩:ByteArray).size, .nilIface],rfl, .cons ?_ (.cons ?_ .nil)⟩⟩
 ·refine cF.2 ⟨by rw [hsz],?_⟩
  simp only [IntKind.min,IntKind.max,IntKind.signed,IntKind.bits]
  unfold aL at hsl
  constructor <;> simp <;> omega
 ·exact kz.2 rfl
theorem Eg {O:aD} {st:St} {loc:Nat->Loc} {w w':World} (g:Good eT X (aB O st loc w)) {n:Nat} {oc0:OC} (hn:look st.aC n=some oc0) (h0:oc0.lo=0)
  (hos:w'.os=w.os) (hout:w'.output=w.output) (hsz:w.heap.size<=w'.heap.size) (hb:∀b,b < w.heap.size->b∉(loc n).bs->w'.heap[b]?=w.heap[b]?) :
  Tr (aB O st loc w) (aB O (bB st n) loc w')/\Good eT X (aB O (bB st n) loc w'):=by
 have hob:∀m oc,look (bB st n).aC m=some oc->m≠n/\look st.aC m=some oc:=by
  intro m oc h
  simp only [bB] at h
  rw [j0] at h
  split at h
  ·cases h
  ·rename_i hne;exact ⟨fun e=>hne e.symm,h⟩
 have hA:∀b o,(aB O (bB st n) loc w').A b o->(aB O st loc w).A b o:=by
  rintro b o (h | ⟨m,oc,h1,h2⟩)
  ·exact .inl h
  ·exact .inr ⟨m,oc,(hob _ _ h1).2,h2⟩
 have ht:Tr (aB O st loc w) (aB O (bB st n) loc w'):={
  O:=rfl
  next:=Nat.le_refl _
  os:=hos
  output:=hout
  size:=hsz
  own:=fun b h=>by obtain ⟨m,oc,h1,h2⟩:=h;exact .inl ⟨m,oc,(hob _ _ h1).2,h2⟩
  cell:=fun b o v h1 h2=>by
   have hlt:=World.block_lt_of_cell? w _ h2
   refine ⟨?_,fun h=>h1 (hA b o h)⟩
   show w'.cell? _=_
   rw [World.cell?_of_block (w:=w) (w':=w') (a:=⟨b,o,none⟩) (hb b hlt fun hm=>h1 (.inr ⟨n,oc0,hn,hm,by rw [h0];exact Nat.zero_le _⟩))]
   exact h2
  block:=fun b h1 h2=>hb b h1 fun hm=>h2 ⟨n,oc0,hn,hm⟩
  loc:=fun _ _ _=>lk rfl
  kind:=fun m oc _ h=>⟨oc,(hob _ _ h).2,by cases oc <;> simp [aQ,aB]⟩}
 refine ⟨ht,⟨fun m oc h => ?_,fun m1 m2 oc1 oc2 b h1 h2 h3 h4 => ?_,fun m oc b off h1 h2 => ?_,g.lG.tr ht⟩⟩
 ·obtain ⟨hne,h⟩:=hob _ _ h
  obtain ⟨h1,h2⟩:=g.obj m oc h
  exact ⟨h1,h2.tr ht fun b hbm=>hb b (h2.inside b hbm) fun hbn=>hne (g.apart m n oc oc0 b h hn hbm hbn)⟩
 ·exact g.apart m1 m2 oc1 oc2 b (hob _ _ h1).2 (hob _ _ h2).2 h3 h4
 ·exact g.out m oc b off (hob _ _ h1).2 h2
theorem uD {T e:Nat} (hfn:∃fn,P.funcs[f]?=some fn/\fn.body.isNone=false/\(fn.name == "runtime.NumGoroutine")=false)
  (H:∀(b:Nat) (p v:Value) (l:List UInt8) (w:World),w.heap[b]?=some (.cells #[p,v] T (0,0))->w.ownsRow 0 e 1 v l.length (l.map fun c=>Value.int .u8 c.toNat)->(∀a n c,v = .slice (some a) n c->0 < c)->
   Calls P f #[.pointer (some ⟨b,0,none⟩)] w fun r w'=>r = .returned (.string ⟨l.toArray⟩)/\Ec v w w') :
  dS P eT X f false (o7 T e):=by
 refine ⟨hfn,fun O st loc w args vs K hs g hO ha => ?_⟩
 unfold o7 at hs
 split at hs
 case h_2=>exact hs.elim
 rename_i n
 split at hs
 case h_2=>exact hs.elim
 rename_i t x hob
 split at hs
 case h_2=>exact hs.elim
 rename_i ht
 have ht':=Ty.eq_of_beq ht
 subst ht'
 rw [hH] at hs
 obtain ⟨⟨hT,he⟩,hs⟩:=hs
 match vs,ha with
 | [v0], .cons h0 .nil=>
 obtain ⟨b,p,u,rfl,hD⟩:=Ap g hob h0
 have hT':x.2.1.toNat=T:=by rw [hT];rfl
 have he':x.2.2.1.toNat=e:=by rw [he];rfl
 have hheap:=hD.heap
 have hrow:=hD.row
 rw [hT'] at hheap
 rw [he',HO hD.u8,show x.1.length=(bytesOf x.1).length by simp [bytesOf]] at hrow
 refine (H b p u (bytesOf x.1) w hheap hrow hD.cap).mono ?_
 rintro r w' ⟨rfl,k⟩
 obtain ⟨tr1,g1⟩:=Eg (w':=w') g hob rfl k.os k.output (by rw [k.size];exact Nat.le_refl _) (fun b' _ h2=>k.block b' fun e=>h2 (by rw [hD.bs,e];simp))
 refine ⟨_,_,_,_,rfl,hs,rfl,(fun hh=>by cases hh),g1,tr1,?_⟩
 refine (ia (eT:=eT) (S:=aB O (bB st n) loc w')).2 ⟨rfl,?_⟩
 rcases hrow.2 with ⟨_,h⟩ | ⟨_,cap,_,_,_,_,h1,h2,_⟩
 ·rw [h];exact Nat.zero_le _
 ·unfold maxLen at h2;unfold aL;omega
theorem yI {T e:Nat} (hfn:∃fn,P.funcs[f]?=some fn/\fn.body.isNone=false/\(fn.name == "runtime.NumGoroutine")=false)
  (H:∀(b:Nat) (p q:Value) (a:Option Addr) (n c:Nat) (w:World),w.heap[b]?=some (.cells #[p, .slice a n c] T (0,0))->
   Calls P f #[.pointer (some ⟨b,0,none⟩)] w fun r w'=>r = .returned (.int .i64 n)/\w'=w) :
  dS P eT X f true (vT T e):=by
 refine ⟨hfn,fun O st loc w args vs K hs g hO ha => ?_⟩
 unfold vT at hs
 split at hs
 case h_2=>exact hs.elim
 rename_i n
 split at hs
 case h_2=>exact hs.elim
 rename_i t x hob
 split at hs
 case h_2=>exact hs.elim
 rename_i ht
 have ht':=Ty.eq_of_beq ht
 subst ht'
 rw [hH] at hs
 obtain ⟨⟨hT,he⟩,hs⟩:=hs
 match vs,ha with
 | [v0], .cons h0 .nil=>
 obtain ⟨b,p,u,rfl,hD⟩:=Ap g hob h0
 have hT':x.2.1.toNat=T:=by rw [hT];rfl
 have hheap:=hD.heap
 rw [hT'] at hheap
 obtain ⟨a,c,rfl,hl⟩:∃a c,u = .slice a x.1.length c/\x.1.length<=aL:=by
  rcases hD.row.2 with ⟨rfl,h⟩ | ⟨g',cap,cur,h,_,_,h1,h2,_⟩
  ·exact ⟨none,0,by rw [h],by rw [h];exact Nat.zero_le _⟩
  ·exact ⟨_,_,h,by unfold maxLen at h2;unfold aL;omega⟩
 refine (H b p p a x.1.length c w hheap).mono ?_
 rintro r w' ⟨rfl,rfl⟩
 refine ⟨_,_,_,loc,rfl,hs,rfl,fun _=>Below.refl _ _,g,Tr.refl _,?_⟩
 refine (cF (eT:=eT) (S:=aB O st loc w')).2 ⟨rfl,?_⟩
 unfold aL at hl
 simp only [IntKind.min,IntKind.max,IntKind.signed,IntKind.bits]
 constructor <;> simp <;> omega
end
end Go.Vg

namespace Go.Mrl
open Go.Vg
def small (c:UInt8):Bool:=decide ((97:Int)<=c.toNat) && decide ((c.toNat:Int)<=122)
def other (c:UInt8):Bool:=(decide ((48:Int)<=c.toNat) && decide ((c.toNat:Int)<=57)) || ((c.toNat:Int) == 95)
def fU (i:Nat) (c:UInt8):Bool:=!small c && ((i:Int) == 0 || !other c)
def p3 (s:List UInt8):Bool:=(List.range s.length).any fun i=>fU i (hE s i)
def aK (s:List UInt8):Int:=if s.length < 1\/8 < s.length then 1 else if p3 s=true then 3 else 0
def aP (n:Int):aV:=if n=0 then .nil else .no n
def s6:aV->Int->Bool
 | .nil,n=>n == 0
 | .no m,n=>decide (n > 0) && m == n
 | .other,_=>false
def eS:aV->Int
 | .nil=>0
 | .no m=>m
 | .other => -1
theorem fY (s:List UInt8):0<=aK s:=by
 unfold aK;split
 ·decide
 ·split <;> decide
theorem B2 {s:List UInt8} {i:Nat} (h:i < s.length) (hb:fU i (hE s i)=true):p3 s=true:=by
 simp only [p3,List.any_eq_true,List.mem_range]
 exact ⟨i,h,hb⟩
theorem Aq {s:List UInt8} (h:∀i,i < s.length->fU i (hE s i)=false):p3 s=false:=by
 simp only [p3,List.any_eq_false,List.mem_range]
 intro i hi;rw [h i hi];simp
theorem ri {s:List UInt8} (h:s.length < 1\/8 < s.length):aK s=1:=by unfold aK;rw [if_pos h]
theorem fN {s:List UInt8} {i:Nat} (h:¬ (s.length < 1\/8 < s.length)) (hi:i < s.length) (hb:fU i (hE s i)=true):aK s=3:=by
 unfold aK
 rw [if_neg h,if_pos (B2 hi hb)]
theorem p4 {s:List UInt8} (h:¬ (s.length < 1\/8 < s.length)) (hb:∀i,i < s.length->fU i (hE s i)=false):aK s=0:=by
 unfold aK
 rw [if_neg h,if_neg (by rw [Aq hb];decide)]
theorem jn {i:Nat} {c:UInt8}:fU i c=true ↔ ¬ (97<=c.toNat/\c.toNat<=122)/\(i=0\/¬ ((48<=c.toNat/\c.toNat<=57)\/c.toNat=95)):=by
 simp only [fU,small,other,Bool.and_eq_true,Bool.not_eq_true',Bool.and_eq_false_iff,Bool.or_eq_true,Bool.or_eq_false_iff,decide_eq_false_iff_not,beq_iff_eq,beq_eq_false_iff_ne]
 omega
theorem iY {i:Nat} {c:UInt8}:fU i c=false ↔ ¬ (¬ (97<=c.toNat/\c.toNat<=122)/\(i=0\/¬ ((48<=c.toNat/\c.toNat<=57)\/c.toNat=95))):=by
 rw [<-jn];simp
theorem lN {s:List UInt8} {i:Nat} (h:∀j,j < i->fU j (hE s j)=false) (hb:fU i (hE s i)=false):∀j,j < i + 1->fU j (hE s j)=false:=by
 intro j hj
 rcases Nat.lt_or_ge j i with hlt | hge
 ·exact h j hlt
 ·obtain rfl:j=i:=by omega
  exact hb
end Go.Mrl

namespace Go.Mrl
open Go.Vg
def eU (p:D aI->Prop) (l:List (D aA)) (i k:Nat):Prop:=
 i < l.length/\k < (nth aA l i).2.2.1.length/\p (nth aI (nth aA l i).2.2.1 k)
def tH (s:List UInt8) (x:D aI):Prop:=x.1=s
def kG (s:List UInt8) (x:D aI):Prop:=x.1=s/\x.2.2.1=false
def ahead (i k i' k':Nat):Prop:=i < i'\/(i=i'/\k < k')
def rY (p:D aI->Prop) (l:List (D aA)) (i k:Nat):Prop:=∀i' k',ahead i' k' i k->¬ eU p l i' k'
def jG (p:D aI->Prop) (l:List (D aA)) (i k:Nat):Prop:=eU p l i k/\rY p l i k
theorem rZ {p:D aI->Prop} {l:List (D aA)} {i k i' k':Nat} (h:jG p l i k) (h':jG p l i' k'):i=i'/\k=k':=by
 have h1:¬ ahead i k i' k':=fun a=>h'.2 i k a h.1
 have h2:¬ ahead i' k' i k:=fun a=>h.2 i' k' a h'.1
 unfold ahead at h1 h2
 omega
theorem r4 {p:D aI->Prop} {l:List (D aA)} {i k:Nat} (h:eU p l i k):∃i k,jG p l i k:=by
 have hi:∀n,∀i,i<=n->∀k,eU p l i k->∃i,(∃k,eU p l i k)/\∀j,j < i->∀k,¬ eU p l j k:=by
  intro n
  induction n with
  | zero=>intro i hi k h;exact ⟨i,⟨k,h⟩,fun j hj=>by omega⟩
  | succ n ih=>
   intro i hi k h
   by_cases c:∃j,j < i/\∃k,eU p l j k
   ·obtain ⟨j,hj,k,hk⟩:=c
    exact ih j (by omega) k hk
   ·exact ⟨i,⟨k,h⟩,fun j hj k hk=>c ⟨j,hj,k,hk⟩⟩
 obtain ⟨i0,⟨k0,h0⟩,hmin⟩:=hi i i (Nat.le_refl _) k h
 have hk:∀n,∀k,k<=n->eU p l i0 k->∃k,eU p l i0 k/\∀j,j < k->¬ eU p l i0 j:=by
  intro n
  induction n with
  | zero=>intro k hk h;exact ⟨k,h,fun j hj=>by omega⟩
  | succ n ih=>
   intro k hk h
   by_cases c:∃j,j < k/\eU p l i0 j
   ·obtain ⟨j,hj,h2⟩:=c
    exact ih j (by omega) h2
   ·exact ⟨k,h,fun j hj h2=>c ⟨j,hj,h2⟩⟩
 obtain ⟨k1,h1,h2⟩:=hk k0 k0 (Nat.le_refl _) h0
 refine ⟨i0,k1,h1,fun i' k' ha hp => ?_⟩
 rcases ha with ha | ⟨rfl,ha⟩
 ·exact hmin i' ha k' hp
 ·exact h2 k' ha hp
open Classical in
noncomputable def cM (x:List (D aA) × List UInt8):Int × Int:=
 if h:∃p:Nat × Nat,jG (kG x.2) x.1 p.1 p.2 then (((Classical.choose h).1:Nat),((Classical.choose h).2:Nat))
 else if h:∃p:Nat × Nat,jG (tH x.2) x.1 p.1 p.2 then (((Classical.choose h).1:Nat),((Classical.choose h).2:Nat))
 else (-1,-1)
theorem oA {l:List (D aA)} {s:List UInt8} {i k:Nat} (h:jG (kG s) l i k):cM (l,s)=((i:Int),(k:Int)):=by
 have hx:∃p:Nat × Nat,jG (kG s) l p.1 p.2:=⟨(i,k),h⟩
 unfold cM
 rw [dif_pos hx]
 have:=rZ h (Classical.choose_spec hx)
 rw [<-this.1,<-this.2]
theorem vV {l:List (D aA)} {s:List UInt8} {i k:Nat} (hn:∀i k,¬ eU (kG s) l i k) (h:jG (tH s) l i k):cM (l,s)=((i:Int),(k:Int)):=by
 have hx:∃p:Nat × Nat,jG (tH s) l p.1 p.2:=⟨(i,k),h⟩
 unfold cM
 rw [dif_neg (fun ⟨p,h⟩=>hn p.1 p.2 h.1),dif_pos hx]
 have:=rZ h (Classical.choose_spec hx)
 rw [<-this.1,<-this.2]
theorem vW {l:List (D aA)} {s:List UInt8} (hn:∀i k,¬ eU (tH s) l i k):cM (l,s)=(-1,-1):=by
 unfold cM
 rw [dif_neg (fun ⟨p,h⟩=>hn p.1 p.2 ⟨h.1.1,h.1.2.1,h.1.2.2.1⟩),dif_neg (fun ⟨p,h⟩=>hn p.1 p.2 h.1)]
theorem B3 (l:List (D aA)) (s:List UInt8):(∃i k:Nat,cM (l,s)=((i:Int),(k:Int))/\jG (kG s) l i k)\/
  (∃i k:Nat,cM (l,s)=((i:Int),(k:Int))/\jG (tH s) l i k/\∀i k,¬ eU (kG s) l i k)\/
  (cM (l,s)=(-1,-1)/\∀i k,¬ eU (tH s) l i k):=by
 by_cases h1:∃i k,eU (kG s) l i k
 ·obtain ⟨i,k,h⟩:=h1
  obtain ⟨i,k,h⟩:=r4 h
  exact .inl ⟨i,k,oA h,h⟩
 ·have h1':∀i k,¬ eU (kG s) l i k:=fun i k h=>h1 ⟨i,k,h⟩
  by_cases h2:∃i k,eU (tH s) l i k
  ·obtain ⟨i,k,h⟩:=h2
   obtain ⟨i,k,h⟩:=r4 h
   exact .inr (.inl ⟨i,k,vV h1' h,h,h1'⟩)
  ·have h2':∀i k,¬ eU (tH s) l i k:=fun i k h=>h2 ⟨i,k,h⟩
   exact .inr (.inr ⟨vW h2',h2'⟩)
def fS (l:List (D aA)) (s:List UInt8) (i k:Nat) (a b:Int):Prop:=
 rY (kG s) l i k/\((a = -1/\b = -1/\rY (tH s) l i k)\/∃i0 k0:Nat,a=i0/\b=k0/\jG (tH s) l i0 k0)
theorem fS.start (l:List (D aA)) (s:List UInt8):fS l s 0 0 (-1) (-1):=
 ⟨fun i' k' h=>by unfold ahead at h;omega, .inl ⟨rfl,rfl,fun i' k' h=>by unfold ahead at h;omega⟩⟩
theorem rY.next {p:D aI->Prop} {l:List (D aA)} {i k:Nat} (h:rY p l i k) (hn:¬ eU p l i k):rY p l i (k + 1):=by
 intro i' k' ha hp
 by_cases e:i'=i/\k'=k
 ·rw [e.1,e.2] at hp;exact hn hp
 ·exact h i' k' (by unfold ahead at *;omega) hp
theorem fS.skip {l:List (D aA)} {s:List UInt8} {i k:Nat} {a b:Int} (h:fS l s i k a b) (hn:¬ (nth aI (nth aA l i).2.2.1 k).1=s):fS l s i (k + 1) a b:=by
 refine ⟨h.1.next fun hp=>hn hp.2.2.1,?_⟩
 rcases h.2 with ⟨h1,h2,h3⟩ | h3
 ·exact .inl ⟨h1,h2,h3.next fun hp=>hn hp.2.2⟩
 ·exact .inr h3
theorem fS.Ki {l:List (D aA)} {s:List UInt8} {i k:Nat} {a b:Int} (h:fS l s i k a b) (hi:i < l.length) (hk:k < (nth aA l i).2.2.1.length)
  (hs:(nth aI (nth aA l i).2.2.1 k).1=s) (hw:(nth aI (nth aA l i).2.2.1 k).2.2.1=false):cM (l,s)=((i:Int),(k:Int)):=
 oA ⟨⟨hi,hk,hs,hw⟩,h.1⟩
theorem fS.wP {l:List (D aA)} {s:List UInt8} {i k:Nat} {a b:Int} (h:fS l s i k a b) (hi:i < l.length) (hk:k < (nth aA l i).2.2.1.length)
  (hs:(nth aI (nth aA l i).2.2.1 k).1=s) (hw:¬ (nth aI (nth aA l i).2.2.1 k).2.2.1=false) (ha:a < 0):fS l s i (k + 1) (i:Int) (k:Int):=by
 refine ⟨h.1.next fun hp=>hw hp.2.2.2, .inr ⟨i,k,rfl,rfl,⟨hi,hk,hs⟩,?_⟩⟩
 rcases h.2 with ⟨_,_,h3⟩ | ⟨i0,k0,h1,_⟩
 ·exact h3
 ·omega
theorem fS.more {l:List (D aA)} {s:List UInt8} {i k:Nat} {a b:Int} (h:fS l s i k a b)
  (hw:¬ (nth aI (nth aA l i).2.2.1 k).2.2.1=false) (ha:¬ a < 0):fS l s i (k + 1) a b:=by
 refine ⟨h.1.next fun hp=>hw hp.2.2.2,?_⟩
 rcases h.2 with ⟨h1,_,_⟩ | h3
 ·omega
 ·exact .inr h3
theorem rY.row {p:D aI->Prop} {l:List (D aA)} {i k:Nat} (h:rY p l i k) (hk:(nth aA l i).2.2.1.length<=k):rY p l (i + 1) 0:=by
 intro i' k' ha hp
 refine h i' k' ?_ hp
 unfold ahead at *
 by_cases e:i'=i
 ·subst e;have:=hp.2.1;omega
 ·omega
theorem fS.row {l:List (D aA)} {s:List UInt8} {i k:Nat} {a b:Int} (h:fS l s i k a b) (hk:(nth aA l i).2.2.1.length<=k):fS l s (i + 1) 0 a b:=by
 refine ⟨h.1.row hk,?_⟩
 rcases h.2 with ⟨h1,h2,h3⟩ | h3
 ·exact .inl ⟨h1,h2,h3.row hk⟩
 ·exact .inr h3
theorem rY.all {p:D aI->Prop} {l:List (D aA)} {i k:Nat} (h:rY p l i k) (hi:l.length<=i):∀i k,¬ eU p l i k:=
 fun i' k' hp=>h i' k' (by have:=hp.1;unfold ahead;omega) hp
theorem fS.done {l:List (D aA)} {s:List UInt8} {i k:Nat} {a b:Int} (h:fS l s i k a b) (hi:l.length<=i):cM (l,s)=(a,b):=by
 rcases h.2 with ⟨rfl,rfl,h3⟩ | ⟨i0,k0,rfl,rfl,h3⟩
 ·exact vW (h3.all hi)
 ·exact vV (h.1.all hi) h3
theorem lA {p:Nat->Prop} {n:Nat} (h:∀j,j < n->p j) (hn:p n):∀j,j < n + 1->p j:=by
 intro j hj
 by_cases e:j=n
 ·rw [e];exact hn
 ·exact h j (by omega)
def jH (o:D aA):Prop:=o.1.length<=6/\o.2.1.length<=50/\o.2.2.1.length<=10/\o.2.2.2.1.length<=10/\
 (∀i,i < o.1.length->(nth .str o.1 i).length<=20)/\(∀i,i < o.2.2.1.length->(nth aI o.2.2.1 i).1.length<=20)/\(∀i,i < o.2.2.2.1.length->(nth aR o.2.2.2.1 i).2.2.2.1.length<=20)
def p5 (l:List (D aA)):Prop:=l.length<=8/\∀i,i < l.length->jH (nth aA l i)
theorem s7 {l:List (D aA)} {s:List UInt8} (h:0<=(cM (l,s)).1):(cM (l,s)).1 < l.length/\0<=(cM (l,s)).2/\(cM (l,s)).2 < (nth aA l (cM (l,s)).1.toNat).2.2.1.length/\
  (nth aI (nth aA l (cM (l,s)).1.toNat).2.2.1 (cM (l,s)).2.toNat).1=s:=by
 rcases B3 l s with ⟨i0,k0,e,f⟩ | ⟨i0,k0,e,f,n⟩ | ⟨e,n⟩
 ·rw [e];obtain ⟨h1,h2,h3⟩:=f.1;exact ⟨by simp only;omega,by simp only;omega,by simp only [Int.toNat_natCast];omega,h3.1⟩
 ·rw [e];obtain ⟨h1,h2,h3⟩:=f.1;exact ⟨by simp only;omega,by simp only;omega,by simp only [Int.toNat_natCast];omega,h3⟩
 ·rw [e] at h;simp at h
end Go.Mrl

namespace Go.Mrl
open Go.Vg
end Go.Mrl
namespace Go.Mrl
open Go.Vg
end Go.Mrl
namespace Go.Mrl
open Go.Vg
end Go.Mrl

namespace Go.Mrl
open Go.Vg
end Go.Mrl
namespace Go.Mrl
open Go.Vg
end Go.Mrl
namespace Go.Mrl
open Go.Vg
end Go.Mrl
namespace Go.Mrl
open Go.Vg
end Go.Mrl
namespace Go.Mrl
open Go.Vg
end Go.Mrl
namespace Go.Mrl
open Go.Vg
end Go.Mrl

namespace Go.Mrl
open Go.Vg
def fO (a b:Int × Int × Unit):Bool:=decide (a.2.1<=0) || (decide (b.2.1<=0) || (decide (a.1 + a.2.1<=b.1) || decide (b.1 + b.2.1<=a.1)))
theorem Ar {a b:Int × Int × Unit}:fO a b=false ↔ 0 < a.2.1/\0 < b.2.1/\b.1 < a.1 + a.2.1/\a.1 < b.1 + b.2.1:=by simp [fO]
def eJ (n:Int):Int:=(n + 15) / 16 * 16
def kN (r:Int × Int × Unit):Prop:=-1000000<=r.1/\r.1<=1000000/\-1000000<=r.2.1/\r.2.1<=1000000
def gB (r:D aU) (l:List (D aU)):Bool:=l.all (fO r)
theorem oB {t:Ty} {xs:List (D t)} {i:Nat} (h:i < xs.length):xs[i]?=some (nth t xs i):=by
 rw [List.getElem?_eq_getElem h,<-gF (List.getElem?_eq_getElem h)]
theorem fZ {t:Ty} {xs:List (D t)} {i:Nat} (h:i < xs.length):nth t xs i∈xs:=by
 have:=oB (t:=t) h
 exact List.mem_of_getElem? this
theorem kH {t:Ty} {xs:List (D t)} {x:D t} (h:x∈xs):∃i,i < xs.length/\nth t xs i=x:=by
 obtain ⟨i,hi,e⟩:=List.getElem_of_mem h
 exact ⟨i,hi,by rw [<-e];exact gF (List.getElem?_eq_getElem hi)⟩
theorem Eh {r:D aU} {l:List (D aU)} (h:∀j,j < l.length->fO r (nth aU l j)=true):gB r l=true:=by
 unfold gB;rw [List.all_eq_true]
 intro x hx
 obtain ⟨i,hi,e⟩:=kH hx
 rw [<-e];exact h i hi
theorem B4 {r:D aU} {l:List (D aU)} {j:Nat} (h:j < l.length) (hf:fO r (nth aU l j)=false):gB r l=false:=by
 unfold gB;rw [List.all_eq_false]
 exact ⟨_,fZ h,by rw [hf];decide⟩
theorem FX {r:D aU} {l:List (D aU)} (h:gB r l=false):∃x∈l,fO r x=false:=by
 unfold gB at h;rw [List.all_eq_false] at h
 obtain ⟨x,hx,e⟩:=h
 exact ⟨x,hx,by simpa using e⟩
def fV (l:List (D aU)) (many:Int):Nat->Int->Int
 | 0,at_=>at_
 | n + 1,at_=>if gB (at_,many,()) l=true then at_ else fV l many n (at_ + 16)
def iA:List (D aU)->List Int->List Int->Option (List Int)
 | _,[],out=>some out
 | l,n :: r,out=>if 256 < fV l (eJ n) 40 0 + eJ n then none else iA (l++[(fV l (eJ n) 40 0,eJ n,())]) r (out++[fV l (eJ n) 40 0])
def As (s:List Int):Bool:=s.any fun (n:Int)=>decide (n < 1) || decide (40 < n)
def At (l:List (D aU)):Bool:=l.any fun (r:Int × Int × Unit)=>decide (r.1 < 0) || (decide (256 < r.1) || (decide (r.2.1 < 0) || decide (256 < r.2.1)))
def cP (x:List Int × List (D aU)):List Int × aV:=
 if 6 < x.1.length\/20 < x.2.length then ([], .no 2) else if As x.1=true\/At x.2=true then ([], .no 1) else
  match iA x.2 x.1 [] with
  | some o=>(o, .nil)
  | none=>([], .no 8)
theorem Da {t:Ty} {xs:List (D t)} {p:D t->Bool} {i:Nat} (h:i < xs.length) (hp:p (nth t xs i)=true):xs.any p=true:=by
 rw [List.any_eq_true];exact ⟨_,fZ h,hp⟩
theorem Db {t:Ty} {xs:List (D t)} {p:D t->Bool} (h:∀i,i < xs.length->p (nth t xs i)=false):xs.any p=false:=by
 rw [List.any_eq_false];intro x hx
 obtain ⟨i,hi,e⟩:=kH hx
 rw [<-e,h i hi];decide
theorem r5 {l:List (D aU)} {s out:List Int} {k:Nat} (h:k < s.length):iA l (s.drop k) out =
  if 256 < fV l (eJ (nth (.int .i64) s k)) 40 0 + eJ (nth (.int .i64) s k) then none
  else iA (l++[(fV l (eJ (nth (.int .i64) s k)) 40 0,eJ (nth (.int .i64) s k),())]) (s.drop (k + 1)) (out++[fV l (eJ (nth (.int .i64) s k)) 40 0]):=by
 have e:s.drop k=nth (.int .i64) s k :: s.drop (k + 1):=by
  rw [List.drop_eq_getElem_cons h]
  congr 1
  exact (gF (t:=.int .i64) (List.getElem?_eq_getElem h)).symm
 rw [e];rfl
theorem B5 {l:List (D aU)} {s out:List Int} {k:Nat} (h:s.length<=k):iA l (s.drop k) out=some out:=by
 rw [List.drop_eq_nil_of_le h];rfl
def lT (r:Int × Int × Unit):Prop:=0<=r.1/\r.1<=256/\0<=r.2.1/\r.2.1<=256
theorem lT.kN {r:Int × Int × Unit} (h:lT r):Mrl.kN r:=by
 obtain ⟨h1,h2,h3,h4⟩:=h
 refine ⟨?_,?_,?_,?_⟩ <;> omega
theorem FY {l:List (D aU)} {at_ many:Int} (hl:∀x∈l,lT x) (h:gB (at_,many,()) l=false):at_ < 512:=by
 obtain ⟨x,hx,e⟩:=FX h
 obtain ⟨h1,h2,h3,h4⟩:=hl x hx
 obtain ⟨h5,h6,h7,h8⟩:=Ar.1 e
 have h8:at_ < x.1 + x.2.1:=h8
 omega
theorem pD {l:List (D aU)} {many at_:Int} {n:Nat} (h:gB (at_,many,()) l=true):fV l many n at_=at_:=by
 cases n with
 | zero=>rfl
 | succ n=>rw [fV,if_pos h]
theorem FZ {l:List (D aU)} {many at_:Int} {n:Nat} (h:gB (at_,many,()) l=false):fV l many (n + 1) at_=fV l many n (at_ + 16):=by
 rw [fV,if_neg (by rw [h];decide)]
theorem mh {n:Int} (h1:1<=n) (h2:n<=40):16<=eJ n/\eJ n<=48:=by unfold eJ;omega
end Go.Mrl
namespace Go.Mrl
open Go.Vg
theorem B6 {s:List Int} {l:List (D aU)} (h:6 < s.length\/20 < l.length):cP (s,l)=([], .no 2):=by
 unfold cP;rw [if_pos h]
theorem B7 {s:List Int} {l:List (D aU)} (h:¬ (6 < s.length\/20 < l.length)) {i:Nat} (hi:i < s.length) (hb:¬ (1<=(nth (.int .i64) s i:Int)/\(nth (.int .i64) s i:Int)<=40)):cP (s,l)=([], .no 1):=by
 unfold cP;rw [if_neg h,if_pos]
 refine .inl (Da (t:=.int .i64) hi ?_)
 simp only [Bool.or_eq_true,decide_eq_true_eq]
 generalize nth (.int .i64) s i=x at hb
 have hb:¬ (1<=(x:Int)/\(x:Int)<=40):=hb
 dsimp only [D] at *;omega
theorem Au {s:List Int} {l:List (D aU)} (h:¬ (6 < s.length\/20 < l.length)) {i:Nat} (hi:i < l.length) (hb:¬ lT (nth aU l i)):cP (s,l)=([], .no 1):=by
 unfold cP;rw [if_neg h,if_pos]
 refine .inr (Da (t:=aU) hi ?_)
 simp only [Bool.or_eq_true,decide_eq_true_eq]
 unfold lT at hb
 dsimp only [D] at *;omega
theorem xH {s:List Int} {l:List (D aU)} (h:¬ (6 < s.length\/20 < l.length)) (hs:∀j,j < s.length->1<=(nth (.int .i64) s j:Int)/\(nth (.int .i64) s j:Int)<=40) (ht:∀j,j < l.length->lT (nth aU l j)) :
  cP (s,l)=match iA l s [] with | some o=>(o, .nil) | none=>([], .no 8):=by
 unfold cP;rw [if_neg h,if_neg]
 rintro (e | e)
 ·have:As s=false:=Db (t:=.int .i64) fun i hi=>by
   have:=hs i hi
   simp only [Bool.or_eq_false_iff,decide_eq_false_iff_not]
   dsimp only [D] at *;omega
  rw [this] at e;cases e
 ·have:At l=false:=Db (t:=aU) fun i hi=>by
   have:=ht i hi
   unfold lT at this
   simp only [Bool.or_eq_false_iff,decide_eq_false_iff_not]
   dsimp only [D] at *;omega
  rw [this] at e;cases e
end Go.Mrl
namespace Go.Mrl
open Go.Vg
theorem HP {l:List (Int × Int × Unit)} {r:Int × Int × Unit} (h:∀y∈l,lT y) (hr:lT r):∀y∈l++[r],lT y:=by
 intro y hy
 rcases List.mem_append.1 hy with hy | hy
 ·exact h y hy
 ·simp at hy;rw [hy];exact hr
end Go.Mrl
namespace Go.Mrl
open Go.Vg
end Go.Mrl
namespace Go.Mrl
open Go.Vg
end Go.Mrl

namespace Go.Mrl
open Go.Vg
theorem B8 {t:Ty} {a b:List (D t)} (hl:a.length=b.length) (h:∀i,i < a.length->nth t a i=nth t b i):a=b:=by
 apply List.ext_getElem hl
 intro i h1 h2
 have:=h i h1
 rwa [show nth t a i=a[i] from gF (List.getElem?_eq_getElem h1),show nth t b i=b[i] from gF (List.getElem?_eq_getElem h2)] at this
def kI (a b:List Int):Bool:=decide (a=b)
theorem Ei {a b:List Int} (hl:(a.length:Int)=b.length) (h:∀i,i < a.length->nth (.int .i64) a i=nth (.int .i64) b i):true=kI a b:=by
 rw [B8 (t:=.int .i64) (by omega) h];simp [kI]
theorem F0 {a b:List Int} (hl:¬ (a.length:Int)=b.length):false=kI a b:=by
 symm;simp only [kI,decide_eq_false_iff_not];intro e;exact hl (by rw [e])
theorem HQ {a b:List Int} {i:Nat} (h:¬ nth (.int .i64) a i=nth (.int .i64) b i):false=kI a b:=by
 symm;simp only [kI,decide_eq_false_iff_not];intro e;exact h (by rw [e])
theorem KU {α:Type} {p:Nat->α->Prop} {f:Nat->α} {k:Nat} (h:∀j,j < k->p j (f j)) (hk:p k (f k)):∀j,j < k + 1->p j (f j):=by
 intro j hj
 by_cases e:j=k
 ·subst e;exact hk
 ·exact h j (by omega)
theorem F1 {p:Nat->Prop} {k:Nat} (h:∀j,j < k->p j) (hk:p k):∀j,j < k + 1->p j:=by
 intro j hj
 by_cases e:j=k
 ·subst e;exact hk
 ·exact h j (by omega)
end Go.Mrl

namespace Go.Mrl
open Go.Vg
theorem qP {t:Ty} {a b:List (D t)} {i:Nat}:nth t (a++b) i=if i < a.length then nth t a i else nth t b (i - a.length):=by
 unfold nth
 simp only [List.getD_eq_getElem?_getD,List.getElem?_append]
 split <;> rfl
theorem Av {t:Ty} {a:List (D t)} {n i:Nat} (h:i < n):nth t (a.take n) i=nth t a i:=by
 unfold nth
 simp only [List.getD_eq_getElem?_getD,List.getElem?_take,if_pos h]
theorem Jo {x m:Int} (hx:0<=x) (hm:0 < m):0<=x.tmod m/\x.tmod m < m:=by
 rw [Int.tmod_eq_emod_of_nonneg hx]
 exact ⟨Int.emod_nonneg _ (by omega),Int.emod_lt_of_pos _ hm⟩
theorem F2 {a x:Int} (h:x=IntKind.i64.wrap ((BitVec.ofInt IntKind.i64.bits a &&& BitVec.ofInt IntKind.i64.bits 1023).toNat:Int)):0<=x/\x<=1023:=by
 have h1:(BitVec.ofInt IntKind.i64.bits a &&& BitVec.ofInt IntKind.i64.bits 1023).toNat<=1023:=by
  rw [BitVec.toNat_and]
  exact Nat.le_trans Nat.and_le_right (by decide)
 rw [sO (by rw [mH];unfold aO;omega)] at h
 omega
end Go.Mrl

namespace Go.Mrl
open Go.Vg
@[reducible] def gu:Ty:=.slice (.int .i64)
@[reducible] def jI:Ty:=.slice gu
abbrev Pt:=Int × Int × Int × Unit
abbrev Ws:=List (List Int)
def p6 (w:Ws) (p:Pt):Prop:=0<=p.1/\p.1 < w.length/\0<=p.2.1/\p.2.1 < (nth gu w p.1.toNat).length
def pE (w:Ws) (p:Pt):Ws:=w.set p.1.toNat ((nth gu w p.1.toNat).set p.2.1.toNat p.2.2.1)
def kQ (w:Ws) (l:List Pt):Ws:=l.foldl pE w
open Classical in
noncomputable def gv (x:Ws × List Pt):Ws × aV:=if ∀i,i < x.2.length->p6 x.1 (nth bO x.2 i) then (kQ x.1 x.2, .nil) else ([], .no 1)
theorem Ej {t:Ty} {l:List (D t)} {i j:Nat} {x:D t} (h:¬ i=j):nth t (l.set i x) j=nth t l j:=by
 unfold nth;simp only [List.getD_eq_getElem?_getD];rw [List.getElem?_set_ne h]
theorem Ek {t:Ty} {l:List (D t)} {i:Nat} {x:D t} (h:i < l.length):nth t (l.set i x) i=x:=by
 unfold nth;simp only [List.getD_eq_getElem?_getD];rw [List.getElem?_set_self h];rfl
theorem B9 (w:Ws) (p:Pt):(pE w p).length=w.length:=by simp [pE]
theorem HR (w:Ws) (p:Pt) (i:Nat):nth gu (pE w p) i=if i < w.length/\p.1.toNat=i then (nth gu w i).set p.2.1.toNat p.2.2.1 else nth gu w i:=by
 unfold pE
 by_cases c:p.1.toNat=i
 ·subst c
  by_cases c2:p.1.toNat < w.length
  ·rw [if_pos ⟨c2,rfl⟩,Ek (t:=gu) c2]
  ·rw [if_neg (fun h=>c2 h.1),List.set_eq_of_length_le (by omega)]
 ·rw [if_neg (fun h=>c h.2),Ej (t:=gu) c]
theorem F3 (w:Ws) (p:Pt) (i:Nat):(nth gu (pE w p) i).length=(nth gu w i).length:=by
 rw [HR];split <;> simp
theorem nn (l:List Pt):∀w:Ws,(kQ w l).length=w.length:=by
 induction l with
 | nil=>intro w;rfl
 | cons p l ih=>intro w;show (kQ (pE w p) l).length=_;rw [ih,B9]
theorem r6 (l:List Pt):∀(w:Ws) (i:Nat),(nth gu (kQ w l) i).length=(nth gu w i).length:=by
 induction l with
 | nil=>intro w i;rfl
 | cons p l ih=>intro w i;show (nth gu (kQ (pE w p) l) i).length=_;rw [ih,F3]
theorem F4 (w:Ws) (l:List Pt) (p:Pt):kQ w (l++[p])=pE (kQ w l) p:=by simp [kQ]
theorem iO {t:Ty} {l:List (D t)} {k:Nat} (h:k < l.length):l.take (k + 1)=l.take k++[nth t l k]:=by
 rw [List.take_add_one,oB h];rfl
theorem F5 {w:Ws} {l:List Pt} {k:Nat} (h:k < l.length):pE (kQ w (l.take k)) (nth bO l k)=kQ w (l.take (k + 1)):=by
 rw [iO (t:=bO) h,F4]
theorem wV {w:Ws} {l:List Pt} (h:∀i,i < l.length->p6 w (nth bO l i)):gv (w,l)=(kQ w l, .nil):=by unfold gv;rw [if_pos h]
theorem HS {w:Ws} {l:List Pt} {i:Nat} (hi:i < l.length) (h:¬ p6 w (nth bO l i)):gv (w,l)=([], .no 1):=by
 unfold gv;rw [if_neg (fun hh=>h (hh i hi))]
theorem HT {w:Ws} {l:List Pt} (h:(gv (w,l)).2.isNil=true):∀i,i < l.length->p6 w (nth bO l i):=by
 unfold gv at h
 split at h
 ·assumption
 ·cases h
theorem HU {w:Ws} {l:List Pt} (h:(gv (w,l)).2.isNil=true):(gv (w,l)).1.length=w.length:=by rw [wV (HT h)];exact nn l w
end Go.Mrl

namespace Go.Mrl
open Go.Vg
def Small (x:Int):Prop:=-1000000<=x/\x<=1000000
def Word (x:Int):Prop:=-2147483648<=x/\x<=2147483647
def IX (o:D aA):Prop:=o.2.2.2.1.length<=10/\(∀i,i < o.2.2.1.length->Small (nth aI o.2.2.1 i).2.1)/\
 ∀i,i < o.2.2.2.1.length->Small (nth aR o.2.2.2.1 i).1/\Word (nth aR o.2.2.2.1 i).2.2.1
def gX (l:List (D aA)):Prop:=l.length<=8/\∀i,i < l.length->IX (nth aA l i)
def mB (b:List Int):Prop:=∀i,i < b.length->0<=(nth (.int .i64) b i:Int)/\(nth (.int .i64) b i:Int)<=256
def mi (b:List Int) (i:Nat):Int:=nth (.int .i64) b i
noncomputable def dH (l:List (D aA)) (b:List Int) (t:D aR):Int × aV:=
 if 0<=(cM (l,t.2.2.2.1)).1 then (mi b (cM (l,t.2.2.2.1)).1.toNat + (nth aI (nth aA l (cM (l,t.2.2.2.1)).1.toNat).2.2.1 (cM (l,t.2.2.2.1)).2.toNat).2.1, .nil)
 else if t.2.2.2.2.1=true then (0, .nil) else (0, .no 6)
def jV (b:List Int) (i:Int) (t:D aR) (n:Int):Int × aV:=
 if t.2.1=(3:Int) then
  if n - (mi b i.toNat + t.1) < -500\/500 < n - (mi b i.toNat + t.1) then (0, .no 7)
  else (n - (mi b i.toNat + t.1), .nil)
 else if n < -2147483648\/2147483647 < n then (0, .no 7) else (n, .nil)
noncomputable def fI (l:List (D aA)) (b:List Int) (i:Int) (t:D aR):Int × aV:=
 if t.2.1=(1:Int) then jV b i t (mi b i.toNat + t.2.2.1)
 else if (dH l b t).2.isNil=true then jV b i t ((dH l b t).1 + t.2.2.1) else (0,(dH l b t).2)
noncomputable def lf (l:List (D aA)) (b:List Int) (i:Nat):List (D aR)->List Pt->List Pt × aV
 | [],out=>(out, .nil)
 | t :: r,out=>if (fI l b i t).2.isNil=true then lf l b i r (out++[((i:Int),t.1,(fI l b i t).1,())]) else ([],(fI l b i t).2)
noncomputable def lB (f:List Pt->List Pt × aV) (x:List Pt × aV):List Pt × aV:=if x.2.isNil=true then f x.1 else ([],x.2)
noncomputable def kO (l:List (D aA)) (b:List Int):List (D aA)->Nat->List Pt->List Pt × aV
 | [],_,out=>(out, .nil)
 | o :: r,i,out=>lB (kO l b r (i + 1)) (lf l b i o.2.2.2.1 out)
open Classical in
noncomputable def fP (x:List (D aA) × List Int):List Pt × aV:=
 if ¬ x.2.length=x.1.length then ([], .no 3) else if mB x.2 then kO x.1 x.2 x.1 0 [] else ([], .no 1)
theorem fQ {t:Ty} {l:List (D t)} {i:Nat} (h:i < l.length):l.drop i=nth t l i :: l.drop (i + 1):=by
 rw [List.drop_eq_getElem_cons h]
 congr 1
 have:=oB h
 rw [List.getElem?_eq_getElem h] at this
 exact Option.some.inj this
theorem F6 {l:List (D aA)} {b:List Int} {i:Nat} {out:List Pt} (h:i < l.length) :
  kO l b (l.drop i) i out=lB (kO l b (l.drop (i + 1)) (i + 1)) (lf l b i ((nth aA l i).2.2.2.1.drop 0) out):=by
 rw [fQ (t:=aA) h];rfl
theorem Jp {l:List (D aA)} {b:List Int} {i:Nat} {out:List Pt} (h:l.length<=i):kO l b (l.drop i) i out=(out, .nil):=by
 rw [List.drop_eq_nil_of_le h];rfl
theorem Kj {l:List (D aA)} {b:List Int} {i k:Nat} {ts:List (D aR)} {out:List Pt} (h:k < ts.length) (hn:(fI l b i (nth aR ts k)).2.isNil=true) :
  lf l b i (ts.drop k) out=lf l b i (ts.drop (k + 1)) (out++[((i:Int),(nth aR ts k).1,(fI l b i (nth aR ts k)).1,())]):=by
 rw [fQ (t:=aR) h,lf,if_pos hn]
theorem Jq {l:List (D aA)} {b:List Int} {i k:Nat} {ts:List (D aR)} {out:List Pt} {f:List Pt->List Pt × aV} (h:k < ts.length) (hn:(fI l b i (nth aR ts k)).2.isNil=false) :
  lB f (lf l b i (ts.drop k) out)=([],(fI l b i (nth aR ts k)).2):=by
 rw [fQ (t:=aR) h,lf,if_neg (by simp [hn])]
 unfold lB
 rw [if_neg (by simp [hn])]
theorem Jr {l:List (D aA)} {b:List Int} {i k:Nat} {ts:List (D aR)} {out:List Pt} {f:List Pt->List Pt × aV} (h:ts.length<=k):lB f (lf l b i (ts.drop k) out)=f out:=by
 rw [List.drop_eq_nil_of_le h];rfl
theorem wW {l:List (D aA)} {b:List Int} (h:b.length=l.length) (hb:mB b):fP (l,b)=kO l b l 0 []:=by unfold fP;rw [if_neg (by simpa using h),if_pos hb]
theorem HV {l:List (D aA)} {b:List Int} (h:¬ b.length=l.length):fP (l,b)=([], .no 3):=by unfold fP;rw [if_pos h]
theorem F7 {l:List (D aA)} {b:List Int} {i:Nat} (h:b.length=l.length) (hi:i < b.length) (hn:¬ (0<=(nth (.int .i64) b i:Int)/\(nth (.int .i64) b i:Int)<=256)):fP (l,b)=([], .no 1):=by
 unfold fP;rw [if_neg (by simpa using h),if_neg (fun hh=>hn (hh i hi))]
theorem mP {b:List Int} {n:Nat} {i:Int} (hb:mB b) (hl:b.length=n) (h0:0<=i) (h1:i < n):0<=(nth (.int .i64) b i.toNat:Int)/\(nth (.int .i64) b i.toNat:Int)<=256:=hb _ (by omega)
theorem F8 {l:List (D aA)} {s:List UInt8} (hm:gX l) (h:0<=(cM (l,s)).1):Small (nth aI (nth aA l (cM (l,s)).1.toNat).2.2.1 (cM (l,s)).2.toNat).2.1:=by
 have hf:=s7 h
 exact (hm.2 _ (by omega)).2.1 _ (by omega)
theorem vX {l:List (D aA)} {b:List Int} {t:D aR} (h:0<=(cM (l,t.2.2.2.1)).1) :
  dH l b t=(nth (.int .i64) b (cM (l,t.2.2.2.1)).1.toNat + (nth aI (nth aA l (cM (l,t.2.2.2.1)).1.toNat).2.2.1 (cM (l,t.2.2.2.1)).2.toNat).2.1, .nil):=by unfold dH mi;rw [if_pos h]
theorem tI {l:List (D aA)} {b:List Int} {t:D aR} (h:(cM (l,t.2.2.2.1)).1 < 0) (hw:t.2.2.2.2.1=true):dH l b t=(0, .nil):=by unfold dH;rw [if_neg (by omega),if_pos hw]
theorem r7 {l:List (D aA)} {b:List Int} {t:D aR} (h:(cM (l,t.2.2.2.1)).1 < 0) (hw:t.2.2.2.2.1=false):dH l b t=(0, .no 6):=by unfold dH;rw [if_neg (by omega),if_neg (by simp [hw])]
theorem r8 {l:List (D aA)} {b:List Int} (t:D aR) (hm:gX l) (hl:b.length=l.length) (hb:mB b) : -2000000<=(dH l b t).1/\(dH l b t).1<=2000000:=by
 by_cases h:0<=(cM (l,t.2.2.2.1)).1
 ·have h1:=mP hb hl h (s7 h).1
  have h2:=F8 hm h
  rw [vX h];unfold Small at h2;dsimp only [D] at *;omega
 ·cases hw:t.2.2.2.2.1 with
  | true=>rw [tI (by omega) hw];simp
  | false=>rw [r7 (by omega) hw];simp
theorem Aw {l:List (D aA)} {b:List Int} {i:Int} {t:D aR} (h:t.2.1=(1:Int)):fI l b i t=jV b i t (nth (.int .i64) b i.toNat + t.2.2.1):=by unfold fI;rw [if_pos h];rfl
theorem p7 {l:List (D aA)} {b:List Int} {i:Int} {t:D aR} (h:¬ t.2.1=(1:Int)) (hn:(dH l b t).2.isNil=true):fI l b i t=jV b i t ((dH l b t).1 + t.2.2.1):=by unfold fI;rw [if_neg h,if_pos hn]
theorem Js {l:List (D aA)} {b:List Int} {i:Int} {t:D aR} (h:¬ t.2.1=(1:Int)) (hn:(dH l b t).2.isNil=false):fI l b i t=(0,(dH l b t).2):=by unfold fI;rw [if_neg h,if_neg (by simp [hn])]
theorem HW {b:List Int} {i n:Int} {t:D aR} (h:t.2.1=(3:Int)) (hr:n - (nth (.int .i64) b i.toNat + t.1) < -500\/500 < n - (nth (.int .i64) b i.toNat + t.1)):jV b i t n=(0, .no 7):=by
 unfold jV mi;rw [if_pos h,if_pos hr]
theorem Jt {b:List Int} {i n m:Int} {t:D aR} (h:t.2.1=(3:Int)) (e:m=n - (nth (.int .i64) b i.toNat + t.1)) (hr : -500<=m/\m<=500):jV b i t n=(m, .nil):=by
 unfold jV mi;rw [if_pos h,if_neg (by omega),e]
theorem Ax {b:List Int} {i n:Int} {t:D aR} (h:¬ t.2.1=(3:Int)) (hr:n < -2147483648\/2147483647 < n):jV b i t n=(0, .no 7):=by
 unfold jV;rw [if_neg h,if_pos hr]
theorem wX {b:List Int} {i n m:Int} {t:D aR} (h:¬ t.2.1=(3:Int)) (e:m=n) (hr : -2147483648<=n/\n<=2147483647):jV b i t n=(m, .nil):=by
 unfold jV;rw [if_neg h,if_neg (by omega),e]
def Told (e:aV):Prop:=s6 e (eS e)=true
theorem xI (b:List Int) (i n:Int) (t:D aR):Told (jV b i t n).2:=by
 unfold jV;split <;> split <;> rfl
theorem Ca (l:List (D aA)) (b:List Int) (t:D aR):Told (dH l b t).2:=by
 unfold dH;split
 ·rfl
 ·split <;> rfl
theorem HX (l:List (D aA)) (b:List Int) (i:Int) (t:D aR):Told (fI l b i t).2:=by
 unfold fI;split
 ·exact xI _ _ _ _
 ·split
  ·exact xI _ _ _ _
  ·exact Ca _ _ _
theorem Ay (l:List (D aA)) (b:List Int) (i:Nat):∀(ts:List (D aR)) (out:List Pt),Told (lf l b i ts out).2
 | [],_=>rfl
 | t :: r,out=>by
  rw [lf];split
  ·exact Ay l b i r _
  ·exact HX _ _ _ _
theorem Az (l:List (D aA)) (b:List Int):∀(os:List (D aA)) (i:Nat) (out:List Pt),Told (kO l b os i out).2
 | [],_,_=>rfl
 | o :: r,i,out=>by
  rw [kO];unfold lB;split
  ·exact Az l b r _ _
  ·exact Ay _ _ _ _ _
theorem AA (x:List (D aA) × List Int):s6 (fP x).2 (eS (fP x).2)=true:=by
 unfold fP;split
 ·rfl
 ·split
  ·exact Az _ _ _ _ _
  ·rfl
end Go.Mrl

namespace Go.Mrl
open Go.Vg
abbrev aF:=List UInt8
def mC (a b:aF):Prop:=Op.bytesLess a b=true
theorem AB (a:UInt8):¬ a < a:=fun h=>by have:=UInt8.lt_iff_toNat_lt.1 h;omega
theorem mj:∀a:aF,¬ mC a a
 | []=>fun h=>by cases h
 | a :: x=>fun h=>by
  unfold mC at h
  simp only [Op.bytesLess,Bool.or_eq_true,decide_eq_true_eq,Bool.and_eq_true] at h
  rcases h with h | ⟨_,h⟩
  ·exact AB a h
  ·exact mj x h
theorem r9:∀{a b c:aF},mC a b->mC b c->mC a c
 | a,[],_,h,_=>by unfold mC at h;cases a <;> simp [Op.bytesLess] at h
 | _,_ :: _,[],_,h=>by unfold mC at h;simp [Op.bytesLess] at h
 | [],_ :: _,_ :: _,_,_=>rfl
 | a :: x,b :: y,c :: z,h1,h2=>by
  unfold mC at h1 h2 ⊢
  simp only [Op.bytesLess,Bool.or_eq_true,decide_eq_true_eq,Bool.and_eq_true,beq_iff_eq] at h1 h2 ⊢
  rcases h1 with h1 | ⟨rfl,h1⟩
  ·rcases h2 with h2 | ⟨rfl,h2⟩
   ·left;rw [UInt8.lt_iff_toNat_lt] at *;omega
   ·exact .inl h1
  ·rcases h2 with h2 | ⟨rfl,h2⟩
   ·exact .inl h2
   ·exact .inr ⟨rfl,r9 h1 h2⟩
theorem sa:∀{a b:aF},¬ mC a b->¬ mC b a->a=b
 | [],[],_,_=>rfl
 | [],_ :: _,h,_=>(h rfl).elim
 | _ :: _,[],_,h=>(h rfl).elim
 | a :: x,b :: y,h1,h2=>by
  unfold mC at h1 h2
  simp only [Op.bytesLess,Bool.or_eq_true,decide_eq_true_eq,Bool.and_eq_true,beq_iff_eq,not_or,not_and] at h1 h2
  have hab:a=b:=by
   apply UInt8.toNat_inj.1
   have h3:=h1.1;have h4:=h2.1
   rw [UInt8.lt_iff_toNat_lt] at h3 h4
   omega
  subst hab
  rw [sa (h1.2 rfl) (h2.2 rfl)]
def vY (a b:aF):Prop:=¬ mC b a
theorem AD (a:aF):vY a a:=mj a
theorem xJ {a b:aF} (h:mC a b):vY a b:=fun h'=>mj a (r9 h h')
theorem F9 {a b c:aF} (h1:vY a b) (h2:vY b c):vY a c:=by
 intro h
 by_cases hab:mC a b
 ·exact h2 (r9 h hab)
 ·have:=sa hab h1;subst this;exact h2 h
theorem sb {a b:aF} (h1:vY a b) (h2:a≠b):mC a b:=Classical.byContradiction fun h=>h2 (sa h h1)
end Go.Mrl

namespace Go.Mrl
open Go.Vg
end Go.Mrl

namespace Go.Mrl
open Go.Vg
theorem aZ {n:Int}:(aP n).isNil=true ↔ n=0:=by
 unfold aP;split
 ·rename_i h;simp [h,aV.isNil]
 ·rename_i h;simp [h,aV.isNil]
theorem p8 {a:Int} (h0 : -9223372036854775808<=a) (h:a < 9223372036854775808):IntKind.i64.wrap a=a:=
 sO (by rw [mH];unfold aO;omega)
end Go.Mrl
namespace Go.Mrl
open Go.Vg
def ml (e:D bK):Prop:=e.1.length<=20/\e.2.1.length<=8/\e.2.2.1.length<=40/\∀i,i < e.2.1.length->(nth aJ e.2.1 i).1.length<=20
def sd (a:D cJ):Prop:=a.2.1.length<=100/\a.2.2.1.length<=1300/\ml a.2.2.2.2.2.1
def mQ (l:List (D cJ)) (m:Int):Prop:=(l.length:Int)<=m/\∀i,i < l.length->sd (nth cJ l i)
end Go.Mrl

namespace Go.Mrl
open Go.Vg
@[reducible] def cH:Ty:=.prod .str (.prod (.int .i64) .unit)
abbrev FE:=aF × (aF × Int × Unit) × Int × Unit
abbrev bM:=(Int × Unit) × (List FE × Int × Unit) × Unit
def np (y:FE):Int:=y.2.2.1
def oC (y:FE):aF:=y.1
def aH (x:bM) (s:aF):aF × Int × Int:=
 if cI cH x.2.1.1 s=true then ((iw cH x.2.1.1 s).1,(iw cH x.2.1.1 s).2.1,0) else ([],0,5)
def bF (x:bM) (s t:aF):bM × Int:=
 if ¬ aK s=0 then (x,aK s) else if 1200 < t.length then (x,2)
 else if (cI cH x.2.1.1 s=false/\x.2.1.1.length=6)\/x.1.1=1000000 then (x,8)
 else (((x.1.1 + 1,()),(dA cH x.2.1.1 s (t,x.1.1 + 1,()) x.2.1.2.1,jy cH x.2.1.1 s x.2.1.2.1,()),()),0)
def dG (x:bM) (s:aF):bM × Int:=
 if cI cH x.2.1.1 s=true then ((x.1,(fH cH x.2.1.1 s,x.2.1.2.1,()),()),0) else (x,5)
def nU:bM:=((0,()),([],0,()),())
theorem ki {x:bM} {s:aF} (h:cI cH x.2.1.1 s=false):aH x s=([],0,5):=by unfold aH;rw [if_neg (by rw [h];simp)]
theorem mm {x:bM} {s:aF} (h:cI cH x.2.1.1 s=true):aH x s=((iw cH x.2.1.1 s).1,(iw cH x.2.1.1 s).2.1,0):=by unfold aH;rw [if_pos h]
theorem se {x:bM} {s t:aF} (h:¬ aK s=0):bF x s t=(x,aK s):=by unfold bF;rw [if_pos h]
theorem sf {x:bM} {s t:aF} (h:aK s=0) (h1:1200 < t.length):bF x s t=(x,2):=by unfold bF;rw [if_neg (by simp [h]),if_pos h1]
theorem sg {x:bM} {s t:aF} (h:aK s=0) (h1:¬ 1200 < t.length) (h2:(cI cH x.2.1.1 s=false/\x.2.1.1.length=6)\/x.1.1=1000000):bF x s t=(x,8):=by unfold bF;rw [if_neg (by simp [h]),if_neg h1,if_pos h2]
theorem qQ {x:bM} {s t:aF} (h:aK s=0) (h1:¬ 1200 < t.length) (h2:¬ ((cI cH x.2.1.1 s=false/\x.2.1.1.length=6)\/x.1.1=1000000)) :
  bF x s t=(((x.1.1 + 1,()),(dA cH x.2.1.1 s (t,x.1.1 + 1,()) x.2.1.2.1,jy cH x.2.1.1 s x.2.1.2.1,()),()),0):=by unfold bF;rw [if_neg (by simp [h]),if_neg h1,if_neg h2]
theorem lg {x:bM} {s:aF} (h:cI cH x.2.1.1 s=false):dG x s=(x,5):=by unfold dG;rw [if_neg (by rw [h];simp)]
theorem ik {x:bM} {s:aF} (h:cI cH x.2.1.1 s=true):dG x s=((x.1,(fH cH x.2.1.1 s,x.2.1.2.1,()),()),0):=by unfold dG;rw [if_pos h]
theorem xK {α:Type} [DecidableEq α]:∀{a b:List α},a.Nodup->(∀y∈a,y∈b)->a.length<=b.length
 | [],_,_,_=>by simp
 | x :: a,b,hn,hs=>by
  have hn':=List.nodup_cons.1 hn
  have h1:(b.erase x).length=b.length - 1:=List.length_erase_of_mem (hs x (by simp))
  have h2:0 < b.length:=List.length_pos_of_mem (hs x (by simp))
  have:=xK (b:=b.erase x) hn'.2 fun y hy=>(List.mem_erase_of_ne (fun (e:y=x)=>hn'.1 (by rw [<-e];exact hy))).2 (hs y (by simp [hy]))
  simp only [List.length_cons]
  omega
end Go.Mrl

namespace Go.Mrl
open Go.Vg
def gP (n:Int):Bool:=decide (-2147483648<=n) && decide (n<=2147483647)
def gJ:List (List UInt8)->List (List UInt8)->Int
 | _,[]=>0
 | p,s :: r=>if aK s > 0 then aK s else if p.any (· == s)=true then 3 else gJ (p++[s]) r
def iP:List Int->Int
 | []=>0
 | n :: r=>if gP n=true then iP r else 1
def eY (n:Nat):List (D aI)->List (D aI)->Int
 | _,[]=>0
 | p,s :: r=>if aK s.1 > 0 then aK s.1 else if s.2.1 < 0\/s.2.1>=(n:Int) then 1 else if p.any (fun x=>x.1 == s.1)=true then 3 else eY n (p++[s]) r
def lh (a:Int):Option Int->Bool
 | some b=>decide (a<=b)
 | none=>false
def kj (n:Nat) (prev:Option Int) (t:D aR):Int:=
 if t.1 < 0\/t.1>=(n:Int)\/gP t.2.2.1=false then 1
 else if t.2.1 < 1\/t.2.1 > 3\/lh t.1 prev=true then 3
 else if t.2.1=1 then (if t.2.2.2.1≠[]\/t.2.2.2.2.1=true then 3 else 0)
 else aK t.2.2.2.1
def iR (n:Nat):Option Int->List (D aR)->Int
 | _,[]=>0
 | prev,t :: r=>if kj n prev t≠0 then kj n prev t else iR n (some t.1) r
def jC (o:D aA):Prop:=o.1.length > 4\/o.2.1.length < 1\/o.2.1.length > 40\/o.2.2.1.length > 8\/o.2.2.2.1.length > 6
instance (o:D aA):Decidable (jC o):=by unfold jC;infer_instance
def cD (o:D aA):Int:=
 if jC o then 2 else if gJ [] o.1≠0 then gJ [] o.1 else if iP o.2.1≠0 then iP o.2.1
 else if eY o.2.1.length [] o.2.2.1≠0 then eY o.2.1.length [] o.2.2.1 else iR o.2.1.length none o.2.2.2.1
theorem km {t:Ty} {l:List (D t)} {i:Nat} (h:i < l.length):l.take (i + 1)=l.take i++[nth t l i]:=by
 rw [List.take_add_one];congr 1;unfold nth;simp [h]
theorem sh (n:Nat):∀(l p:List (D aI)),0<=eY n p l
 | [],_=>Int.le_refl _
 | s :: r,p=>by
  unfold eY
  split
  ·omega
  ·split
   ·decide
   ·split
    ·decide
    ·exact sh n r _
structure il (l:List (List UInt8)) (i:Nat):Prop where
 le:i<=l.length
 eq:gJ (l.take i) (l.drop i)=gJ [] l
theorem il.zero (l:List (List UInt8)):il l 0:=⟨Nat.zero_le _,rfl⟩
theorem il.fault {l:List (List UInt8)} {i:Nat} (h:il l i) (hi:i < l.length) (hf:aK (nth .str l i) > 0):gJ [] l=aK (nth .str l i):=by
 rw [<-h.eq,fQ (t:=.str) hi];unfold gJ;rw [if_pos hf]
theorem il.dup {l:List (List UInt8)} {i:Nat} (h:il l i) (hi:i < l.length) (hf:aK (nth .str l i)<=0) (ha:(l.take i).any (· == nth .str l i)=true):gJ [] l=3:=by
 rw [<-h.eq,fQ (t:=.str) hi];unfold gJ;rw [if_neg (by omega),if_pos ha]
theorem il.next {l:List (List UInt8)} {i:Nat} (h:il l i) (hi:i < l.length) (hf:aK (nth .str l i)<=0) (ha:(l.take i).any (· == nth .str l i)=false):il l (i + 1):=by
 refine ⟨hi,?_⟩
 rw [<-h.eq,fQ (t:=.str) hi,km (t:=.str) hi]
 conv=>rhs;unfold gJ
 rw [if_neg (by omega),if_neg (by rw [ha];decide)]
theorem il.done {l:List (List UInt8)} {i:Nat} (h:il l i) (hi:¬ i < l.length):gJ [] l=0:=by
 rw [<-h.eq,List.drop_eq_nil_of_le (by omega)];rfl
structure ji (l:List Int) (i:Nat):Prop where
 le:i<=l.length
 eq:iP (l.drop i)=iP l
theorem ji.zero (l:List Int):ji l 0:=⟨Nat.zero_le _,rfl⟩
theorem ji.fault {l:List Int} {i:Nat} (h:ji l i) (hi:i < l.length) (hf:gP (nth (.int .i64) l i)=false):iP l=1:=by
 rw [<-h.eq,fQ (t:=.int .i64) hi];unfold iP;rw [if_neg (by rw [hf];decide)]
theorem ji.next {l:List Int} {i:Nat} (h:ji l i) (hi:i < l.length) (hf:gP (nth (.int .i64) l i)=true):ji l (i + 1):=by
 refine ⟨hi,?_⟩
 rw [<-h.eq,fQ (t:=.int .i64) hi]
 conv=>rhs;unfold iP
 rw [if_pos hf]
theorem ji.done {l:List Int} {i:Nat} (h:ji l i) (hi:¬ i < l.length):iP l=0:=by
 rw [<-h.eq,List.drop_eq_nil_of_le (by omega)];rfl
structure iS (n:Nat) (l:List (D aI)) (i:Nat):Prop where
 le:i<=l.length
 eq:eY n (l.take i) (l.drop i)=eY n [] l
theorem iS.zero (n:Nat) (l:List (D aI)):iS n l 0:=⟨Nat.zero_le _,rfl⟩
theorem iS.fault {n:Nat} {l:List (D aI)} {i:Nat} (h:iS n l i) (hi:i < l.length) (hf:aK (nth aI l i).1 > 0):eY n [] l=aK (nth aI l i).1:=by
 rw [<-h.eq,fQ (t:=aI) hi];unfold eY;rw [if_pos hf]
theorem iS.out {n:Nat} {l:List (D aI)} {i:Nat} (h:iS n l i) (hi:i < l.length) (hf:aK (nth aI l i).1<=0) (ho:(nth aI l i).2.1 < 0\/(nth aI l i).2.1>=(n:Int)):eY n [] l=1:=by
 rw [<-h.eq,fQ (t:=aI) hi];unfold eY;rw [if_neg (by omega),if_pos ho]
theorem iS.dup {n:Nat} {l:List (D aI)} {i:Nat} (h:iS n l i) (hi:i < l.length) (hf:aK (nth aI l i).1<=0) (ho:¬ ((nth aI l i).2.1 < 0\/(nth aI l i).2.1>=(n:Int)))
  (ha:(l.take i).any (fun x=>x.1 == (nth aI l i).1)=true):eY n [] l=3:=by
 rw [<-h.eq,fQ (t:=aI) hi];unfold eY;rw [if_neg (by omega),if_neg ho,if_pos ha]
theorem iS.next {n:Nat} {l:List (D aI)} {i:Nat} (h:iS n l i) (hi:i < l.length) (hf:aK (nth aI l i).1<=0) (ho:¬ ((nth aI l i).2.1 < 0\/(nth aI l i).2.1>=(n:Int)))
  (ha:(l.take i).any (fun x=>x.1 == (nth aI l i).1)=false):iS n l (i + 1):=by
 refine ⟨hi,?_⟩
 rw [<-h.eq,fQ (t:=aI) hi,km (t:=aI) hi]
 conv=>rhs;unfold eY
 rw [if_neg (by omega),if_neg ho,if_neg (by rw [ha];decide)]
theorem iS.done {n:Nat} {l:List (D aI)} {i:Nat} (h:iS n l i) (hi:¬ i < l.length):eY n [] l=0:=by
 rw [<-h.eq,List.drop_eq_nil_of_le (by omega)];rfl
def lC (l:List (D aR)) (i:Nat):Option Int:=if i=0 then none else some (nth aR l (i - 1)).1
structure kJ (n:Nat) (l:List (D aR)) (i:Nat):Prop where
 le:i<=l.length
 eq:iR n (lC l i) (l.drop i)=iR n none l
theorem kJ.zero (n:Nat) (l:List (D aR)):kJ n l 0:=⟨Nat.zero_le _,rfl⟩
theorem kJ.fault {n:Nat} {l:List (D aR)} {i:Nat} (h:kJ n l i) (hi:i < l.length) {f:Int} (hf:kj n (lC l i) (nth aR l i)=f) (h0:f≠0):iR n none l=f:=by
 rw [<-h.eq,fQ (t:=aR) hi];unfold iR;rw [if_pos (by rw [hf];exact h0),hf]
theorem kJ.next {n:Nat} {l:List (D aR)} {i:Nat} (h:kJ n l i) (hi:i < l.length) (hf:kj n (lC l i) (nth aR l i)=0):kJ n l (i + 1):=by
 refine ⟨hi,?_⟩
 rw [<-h.eq,fQ (t:=aR) hi]
 conv=>rhs;unfold iR
 rw [if_neg (by rw [hf];decide)]
 rfl
theorem kJ.done {n:Nat} {l:List (D aR)} {i:Nat} (h:kJ n l i) (hi:¬ i < l.length):iR n none l=0:=by
 rw [<-h.eq,List.drop_eq_nil_of_le (by omega)];rfl
theorem AE {t:Ty} {l:List (D t)} {i j:Nat} {f:D t->Bool} (hj:j < i) (hi:i<=l.length) (h:f (nth t l j)=true):(l.take i).any f=true:=by
 rw [List.any_eq_true]
 refine ⟨nth t l j,?_,h⟩
 have:(l.take i)[j]?=some (nth t l j):=by
  rw [List.getElem?_take,if_pos hj]
  unfold nth
  rw [List.getD_eq_getElem?_getD,List.getElem?_eq_getElem (by omega)];rfl
 exact List.mem_of_getElem? this
theorem xL {t:Ty} {l:List (D t)} {i:Nat} {f:D t->Bool} (h:∀j,j < i->f (nth t l j)=false):(l.take i).any f=false:=by
 rw [List.any_eq_false]
 intro x hx
 obtain ⟨j,hj,rfl⟩:=List.getElem_of_mem hx
 rw [List.length_take] at hj
 have:=h j (by omega)
 rw [List.getElem_take]
 have e:nth t l j=l[j]'(by omega):=by unfold nth;simp [show j < l.length by omega]
 rw [e] at this
 rw [this];decide
theorem contains_of {l:List (List UInt8)} {s:List UInt8} {y:Int} (h:(y = -1/\∀j,j < l.length->nth .str l j≠s)\/(0<=y/\y.toNat < l.length/\nth .str l y.toNat=s)):decide (y>=0)=l.any (· == s):=by
 rcases h with ⟨rfl,h⟩ | ⟨h1,h2,h3⟩
 ·have:=xL (t:=.str) (l:=l) (i:=l.length) (f:=(· == s)) fun j hj=>by simpa using h j hj
  rw [List.take_length] at this
  rw [this];rfl
 ·have:=AE (t:=.str) (l:=l) (i:=l.length) (f:=(· == s)) h2 (Nat.le_refl _) (by simpa using h3)
  rw [List.take_length] at this
  rw [this];simpa using h1
theorem Cb {o:D aA} (h:jC o):cD o=2:=by unfold cD;rw [if_pos h]
theorem si {o:D aA} (h:¬ jC o) {f:Int} (hf:gJ [] o.1=f) (h0:f≠0):cD o=f:=by unfold cD;rw [if_neg h,if_pos (by rw [hf];exact h0),hf]
theorem AF {o:D aA} (h:¬ jC o) (h1:gJ [] o.1=0) {f:Int} (hf:iP o.2.1=f) (h0:f≠0):cD o=f:=by
 unfold cD;rw [if_neg h,if_neg (by rw [h1];decide),if_pos (by rw [hf];exact h0),hf]
theorem Cc {o:D aA} (h:¬ jC o) (h1:gJ [] o.1=0) (h2:iP o.2.1=0) {f:Int} (hf:eY o.2.1.length [] o.2.2.1=f) (h0:f≠0):cD o=f:=by
 unfold cD;rw [if_neg h,if_neg (by rw [h1];decide),if_neg (by rw [h2];decide),if_pos (by rw [hf];exact h0),hf]
theorem Cd {o:D aA} (h:¬ jC o) (h1:gJ [] o.1=0) (h2:iP o.2.1=0) (h3:eY o.2.1.length [] o.2.2.1=0) {f:Int} (hf:iR o.2.1.length none o.2.2.2.1=f):cD o=f:=by
 unfold cD;rw [if_neg h,if_neg (by rw [h1];decide),if_neg (by rw [h2];decide),if_neg (by rw [h3];decide),hf]
end Go.Mrl

namespace Go.Mrl
open Go.Vg
abbrev RF:=aF × aF × Int × Unit
abbrev RS:=List RF × Int × Unit
def s9 (y:RF):aF:=y.1
def iq (s:aF) (y:RF):Bool:=!(y.1 == s)
def nV:List RF->aF->aF × Int × Int
 | [],_=>([],0,5)
 | y :: r,s=>if y.1=s then (y.2.1,y.2.2.1,0) else nV r s
def pF (s:aF) (e:RF):List RF->List RF
 | []=>[e]
 | y :: r=>if (Op.bytesLess s y.1 || s == y.1)=true then e :: (y :: r).filter (iq s) else y :: pF s e r
def p9 (x:RS) (s t:aF):RS × Int:=
 if ¬ aK s=0 then (x,aK s) else if 1200 < t.length then (x,2)
 else if (0 < (nV x.1 s).2.2/\x.1.length=6)\/x.2.1=1000000 then (x,8)
 else ((pF s (s,t,x.2.1 + 1,()) x.1,x.2.1 + 1,()),0)
def ta (x:RS) (s:aF):RS × Int:=if (x.1.filter (iq s)).length=x.1.length then (x,5) else ((x.1.filter (iq s),x.2),0)
def o8 (y:FE):RF:=(y.1,y.2.1.1,y.2.1.2.1,())
def qa (L:List RF):Prop:=L.Pairwise fun a b=>mC a.1 b.1
structure eA (x:bM) (r:RS):Prop where
 now:r.2.1=x.1.1
 lo:0<=x.1.1
 hi:x.1.1<=1000000
 len:x.2.1.1.length<=6
 born:(x.2.1.1.map np).Nodup
 pJ:∀y∈x.2.1.1,np y < x.2.1.2.1
 AG:qa r.1
 perm:r.1.Perm (x.2.1.1.map o8)
theorem eA.new:eA nU ([],0,()):=⟨rfl,Int.le_refl _,by decide,by decide,by decide,fun y hy=>by simp [nU] at hy, .nil, .refl _⟩
theorem sj {L:List RF} (h:qa L):(L.map s9).Nodup:=by
 unfold List.Nodup
 rw [List.pairwise_map]
 exact h.imp fun hlt e=>by unfold s9 at e;rw [e] at hlt;exact mj _ hlt
theorem eA.names {x:bM} {r:RS} (h:eA x r):(x.2.1.1.map oC).Nodup:=by
 have h1:=(h.perm.map s9).nodup_iff.1 (sj h.AG)
 rw [List.map_map] at h1
 exact h1
theorem xM:∀{L:List RF} {s:aF},(L.map s9).Nodup->∀y∈L,y.1=s->nV L s=(y.2.1,y.2.2.1,0)
 | [],_,_,_,h,_=>by simp at h
 | z :: r,s,hn,y,hy,e=>by
  simp only [List.map_cons,List.nodup_cons] at hn
  unfold nV
  rcases List.mem_cons.1 hy with rfl | hy
  ·rw [if_pos e]
  ·have:¬ z.1=s:=fun e2=>hn.1 (by rw [show s9 z=s9 y from e2.trans e.symm];exact List.mem_map_of_mem hy)
   rw [if_neg this]
   exact xM hn.2 y hy e
theorem AH:∀{L:List RF} {s:aF},(∀y∈L,¬ y.1=s)->nV L s=([],0,5)
 | [],_,_=>rfl
 | z :: r,s,h=>by
  unfold nV
  rw [if_neg (h z (by simp))]
  exact AH fun y hy=>h y (by simp [hy])
theorem kn:∀{es:List FE} {s:aF},cI cH es s=true ↔ ∃y∈es,y.1=s
 | [],_=>by simp [cI]
 | z :: r,s=>by
  unfold cI
  by_cases c:z.1=s
  ·simp [c]
  ·rw [if_neg c,kn];simp [c]
theorem qR:∀{es:List FE} {s:aF},(es.map oC).Nodup->∀y∈es,y.1=s->iw cH es s=y.2.1
 | [],_,_,_,h,_=>by simp at h
 | z :: r,s,hn,y,hy,e=>by
  simp only [List.map_cons,List.nodup_cons] at hn
  unfold iw
  rcases List.mem_cons.1 hy with rfl | hy
  ·rw [if_pos e]
  ·have:¬ z.1=s:=fun e2=>hn.1 (by rw [show oC z=oC y from e2.trans e.symm];exact List.mem_map_of_mem hy)
   rw [if_neg this]
   exact qR hn.2 y hy e
theorem eA.read {x:bM} {r:RS} (h:eA x r) (s:aF):aH x s=nV r.1 s:=by
 by_cases c:cI cH x.2.1.1 s=true
 ·obtain ⟨y,hy,e⟩:=kn.1 c
  rw [mm c,qR h.names y hy e]
  exact (xM (sj h.AG) (o8 y) (h.perm.mem_iff.2 (List.mem_map_of_mem hy)) e).symm
 ·rw [ki (by simpa using c)]
  refine (AH fun y hy e=>c ?_).symm
  obtain ⟨z,hz,rfl⟩:=List.mem_map.1 (h.perm.mem_iff.1 hy)
  exact kn.2 ⟨z,hz,e⟩
theorem jo {s:aF} {y:RF}:iq s y=true ↔ ¬ y.1=s:=by simp [iq]
theorem AI {s:aF} {e:RF}:∀{L:List RF} {y:RF},y∈pF s e L->y=e\/y∈L
 | [],y,h=>by simp [pF] at h;exact .inl h
 | z :: r,y,h=>by
  unfold pF at h
  split at h
  ·rcases List.mem_cons.1 h with h | h
   ·exact .inl h
   ·exact .inr (List.mem_filter.1 h).1
  ·rcases List.mem_cons.1 h with rfl | h
   ·exact .inr (by simp)
   ·rcases AI h with h | h
    ·exact .inl h
    ·exact .inr (by simp [h])
theorem not_le {s a:aF} (h:¬ (Op.bytesLess s a || s == a)=true):mC a s:=by
 simp at h
 exact sb (a:=a) (b:=s) (by unfold vY mC;rw [h.1];simp) (fun e=>h.2 e.symm)
theorem tJ {s:aF} {e:RF} (he:e.1=s):∀{L:List RF},qa L->qa (pF s e L)
 | [],_=>by simp [pF,qa]
 | z :: r,h=>by
  have h':=List.pairwise_cons.1 h
  unfold pF
  split
  ·rename_i c
   refine List.pairwise_cons.2 ⟨fun y hy => ?_,h.filter _⟩
   have hy':=List.mem_filter.1 hy
   have hn:=jo.1 hy'.2
   have hz:vY s z.1:=by
    simp at c
    rcases c with c | rfl
    ·exact xJ c
    ·exact AD _
   have hzy:vY z.1 y.1:=by
    rcases List.mem_cons.1 hy'.1 with e2 | hy2
    ·rw [e2];exact AD _
    ·exact xJ (h'.1 y hy2)
   rw [he]
   exact sb (F9 hz hzy) (fun e2=>hn e2.symm)
  ·rename_i c
   have hlt:=not_le c
   refine List.pairwise_cons.2 ⟨fun y hy => ?_,tJ he h'.2⟩
   rcases AI hy with rfl | hy
   ·rw [he];exact hlt
   ·exact h'.1 y hy
theorem filter_all {s:aF}:∀{L:List RF},(∀y∈L,¬ y.1=s)->L.filter (iq s)=L:=fun h=>List.filter_eq_self.2 fun y hy=>jo.2 (h y hy)
theorem xN {s:aF} {e:RF}:∀{L:List RF},qa L->(pF s e L).Perm (e :: L.filter (iq s))
 | [],_ => .refl _
 | z :: r,h=>by
  have h':=List.pairwise_cons.1 h
  unfold pF
  split
  ·exact .refl _
  ·rename_i c
   have hlt:=not_le c
   have hz:iq s z=true:=jo.2 fun e=>by rw [e] at hlt;exact mj _ hlt
   rw [List.filter_cons,if_pos hz]
   exact ((xN h'.2).cons z).trans (List.Perm.swap e z _)
theorem sk {s:aF} {v:aF × Int × Unit} {c:Int}:∀{es:List FE},(es.map oC).Nodup->((dA cH es s v c).map o8).Perm ((s,v.1,v.2.1,()) :: (es.map o8).filter (iq s))
 | [],_ => .refl _
 | z :: r,hn=>by
  simp only [List.map_cons,List.nodup_cons] at hn
  unfold dA
  by_cases e:z.1=s
  ·rw [if_pos e]
   have h1:iq s (o8 z)=false:=by
    cases h:iq s (o8 z) with
    | false=>rfl
    | true=>exact absurd e (jo.1 h)
   rw [List.map_cons,List.map_cons,List.filter_cons,if_neg (by rw [h1];simp),filter_all]
   ·exact .refl _
   ·intro y hy e2
    obtain ⟨z2,hz2,rfl⟩:=List.mem_map.1 hy
    exact hn.1 (by rw [show oC z=oC z2 from e.trans (show s=z2.1 from e2.symm)];exact List.mem_map_of_mem hz2)
  ·rw [if_neg e]
   have h1:iq s (o8 z)=true:=jo.2 e
   rw [List.map_cons,List.map_cons,List.filter_cons,if_pos h1]
   exact ((sk hn.2).cons (o8 z)).trans (List.Perm.swap _ _ _)
theorem o9 {s:aF} {v:aF × Int × Unit} {c:Int}:∀{es:List FE},(dA cH es s v c).map np=if cI cH es s=true then es.map np else es.map np++[c]
 | []=>rfl
 | z :: r=>by
  unfold dA cI
  by_cases e:z.1=s
  ·rw [if_pos e,if_pos e];rfl
  ·rw [if_neg e,if_neg e,List.map_cons,o9]
   split <;> rfl
theorem AJ {s:aF}:∀{es:List FE},(es.map oC).Nodup->(fH cH es s).map o8=(es.map o8).filter (iq s)
 | [],_=>rfl
 | z :: r,hn=>by
  simp only [List.map_cons,List.nodup_cons] at hn
  unfold fH
  by_cases e:z.1=s
  ·have h1:¬ iq s (o8 z)=true:=fun h=>jo.1 h e
   rw [if_pos e,List.map_cons,List.filter_cons,if_neg h1,filter_all]
   intro y hy e2
   obtain ⟨z2,hz2,rfl⟩:=List.mem_map.1 hy
   exact hn.1 (by rw [show oC z=oC z2 from e.trans (show s=z2.1 from e2.symm)];exact List.mem_map_of_mem hz2)
  ·have h1:iq s (o8 z)=true:=jo.2 e
   rw [if_neg e,List.map_cons,List.map_cons,List.filter_cons,if_pos h1,AJ hn.2]
theorem mR {s:aF}:∀{es:List FE},(fH cH es s).Sublist es
 | [] => .refl _
 | z :: r=>by
  unfold fH
  split
  ·exact List.sublist_cons_self _ _
  ·exact mR.cons_cons _
theorem eA.has {x:bM} {r:RS} (h:eA x r) (s:aF):0 < (nV r.1 s).2.2 ↔ cI cH x.2.1.1 s=false:=by
 rw [<-h.read s]
 cases c:cI cH x.2.1.1 s with
 | true=>rw [mm c];simp
 | false=>rw [ki c];simp
theorem eA.write {x:bM} {r:RS} (h:eA x r) (s t:aF):eA (bF x s t).1 (p9 r s t).1/\(bF x s t).2=(p9 r s t).2:=by
 have hlen:r.1.length=x.2.1.1.length:=by rw [h.perm.length_eq,List.length_map]
 have hc:((cI cH x.2.1.1 s=false/\x.2.1.1.length=6)\/x.1.1=1000000) ↔ ((0 < (nV r.1 s).2.2/\r.1.length=6)\/r.2.1=1000000):=by rw [h.has,hlen,h.now]
 by_cases h1:aK s=0
 ·by_cases h2:1200 < t.length
  ·rw [sf h1 h2]
   unfold p9;rw [if_neg (by simp [h1]),if_pos h2]
   exact ⟨h,rfl⟩
  ·by_cases h3:(cI cH x.2.1.1 s=false/\x.2.1.1.length=6)\/x.1.1=1000000
   ·rw [sg h1 h2 h3]
    unfold p9;rw [if_neg (by simp [h1]),if_neg h2,if_pos (hc.1 h3)]
    exact ⟨h,rfl⟩
   ·rw [qQ h1 h2 h3]
    unfold p9;rw [if_neg (by simp [h1]),if_neg h2,if_neg (fun h'=>h3 (hc.2 h'))]
    refine ⟨⟨by rw [h.now],by have:=h.lo;simp only;omega,by have:=h.hi;simp only;omega,?_,?_,?_,tJ (s:=s) (e:=(s,t,r.2.1 + 1,())) rfl h.AG,?_⟩,rfl⟩
    ·have hp:=(sk (s:=s) (v:=(t,x.1.1 + 1,())) (c:=x.2.1.2.1) h.names).length_eq
     have hb:=congrArg List.length (o9 (s:=s) (v:=(t,x.1.1 + 1,())) (c:=x.2.1.2.1) (es:=x.2.1.1))
     simp only [List.length_map] at hb
     show (dA cH x.2.1.1 s (t,x.1.1 + 1,()) x.2.1.2.1).length<=6
     rw [hb]
     have:=h.len
     cases c:cI cH x.2.1.1 s with
     | true=>simpa using this
     | false=>
      have:¬ x.2.1.1.length=6:=fun e=>h3 (.inl ⟨c,e⟩)
      simp;omega
    ·show ((dA cH x.2.1.1 s (t,x.1.1 + 1,()) x.2.1.2.1).map np).Nodup
     rw [o9]
     split
     ·exact h.born
     ·rw [List.nodup_append]
      refine ⟨h.born,by simp,fun a ha b hb e => ?_⟩
      simp at hb
      obtain ⟨y,hy,rfl⟩:=List.mem_map.1 ha
      have:=h.pJ y hy
      omega
    ·intro y hy
     have hy':np y∈(dA cH x.2.1.1 s (t,x.1.1 + 1,()) x.2.1.2.1).map np:=List.mem_map_of_mem hy
     rw [o9] at hy'
     show np y < jy cH x.2.1.1 s x.2.1.2.1
     unfold jy
     split at hy'
     ·rename_i c
      rw [if_pos c]
      obtain ⟨z,hz,e⟩:=List.mem_map.1 hy'
      rw [<-e];exact h.pJ z hz
     ·rename_i c
      rw [if_neg c]
      rcases List.mem_append.1 hy' with hy' | hy'
      ·obtain ⟨z,hz,e⟩:=List.mem_map.1 hy'
       have:=h.pJ z hz
       omega
      ·simp at hy';omega
    ·refine (xN h.AG).trans ?_
     rw [h.now]
     exact ((h.perm.filter _).cons _).trans (sk (v:=(t,x.1.1 + 1,())) (c:=x.2.1.2.1) h.names).symm
 ·rw [se h1]
  unfold p9;rw [if_pos h1]
  exact ⟨h,rfl⟩
theorem eA.remove {x:bM} {r:RS} (h:eA x r) (s:aF):eA (dG x s).1 (ta r s).1/\(dG x s).2=(ta r s).2:=by
 have hp:(r.1.filter (iq s)).Perm ((fH cH x.2.1.1 s).map o8):=by rw [AJ h.names];exact h.perm.filter _
 cases c:cI cH x.2.1.1 s with
 | false=>
  have hall:r.1.filter (iq s)=r.1:=filter_all fun y hy e=>by
   obtain ⟨z,hz,rfl⟩:=List.mem_map.1 (h.perm.mem_iff.1 hy)
   have:=kn.2 ⟨z,hz,e⟩
   rw [c] at this;cases this
  rw [lg c]
  unfold ta;rw [if_pos (by rw [hall])]
  exact ⟨h,rfl⟩
 | true=>
  obtain ⟨y,hy,e⟩:=kn.1 c
  have hlt:(r.1.filter (iq s)).length < r.1.length:=List.length_filter_lt_length_iff_exists.2 ⟨o8 y,h.perm.mem_iff.2 (List.mem_map_of_mem hy),by rw [jo];exact fun h=>h e⟩
  rw [ik c]
  unfold ta;rw [if_neg (by omega)]
  refine ⟨⟨h.now,h.lo,h.hi,Nat.le_trans mR.length_le h.len,(mR.map np).nodup h.born,fun y hy=>h.pJ y (mR.subset hy),List.Pairwise.filter _ h.AG,hp⟩,rfl⟩
end Go.Mrl

namespace Go.Mrl
open Go.Vg
def oD:aF:=[119,114,105,116,101]
theorem eA.pre {x:bM} {r:RS} (h:eA x r):x.2.1.1.length<=6/\0<=x.1.1/\x.1.1<=1000000:=⟨h.len,h.lo,h.hi⟩
end Go.Mrl

namespace Go.Mrl
open Go.Vg
def qb:aF:=[114,101,109,111,118,101]
def gQ (x:bM) (a:D cJ):bM:=if a.1=oD then (bF x a.2.1 a.2.2.1).1 else if a.1=qb then (dG x a.2.1).1 else x
def bC (x:bM) (l:List (D cJ)):bM:=l.foldl gQ x
theorem qS {x:bM} {l:List (D cJ)} {i:Nat} (h:i < l.length):bC x (l.take (i + 1))=gQ (bC x (l.take i)) (nth cJ l i):=by rw [iO (t:=cJ) h];simp [bC]
theorem Ce {x:bM} {a:D cJ} (h:a.1=oD):gQ x a=(bF x a.2.1 a.2.2.1).1:=if_pos h
theorem AK {x:bM} {a:D cJ} (h:¬ a.1=oD) (h2:a.1=qb):gQ x a=(dG x a.2.1).1:=by unfold gQ;rw [if_neg h,if_pos h2]
theorem El {x:bM} {a:D cJ} (h:¬ a.1=oD) (h2:¬ a.1=qb):gQ x a=x:=by unfold gQ;rw [if_neg h,if_neg h2]
structure cE (x:bM):Prop where
 AL:∃r,eA x r
 Em:∀y∈x.2.1.1,y.2.1.2.1<=x.1.1
theorem cE.new:cE nU:=⟨⟨_,eA.new⟩,fun y hy=>by simp [nU] at hy⟩
theorem AM {s:aF} {v:aF × Int × Unit} {c:Int}:∀{es:List FE} {y:FE},y∈dA cH es s v c->y.2.1=v\/y∈es
 | [],y,h=>by simp [dA] at h;subst h;exact .inl rfl
 | z :: r,y,h=>by
  unfold dA at h
  split at h
  ·rcases List.mem_cons.1 h with rfl | h
   ·exact .inl rfl
   ·exact .inr (by simp [h])
  ·rcases List.mem_cons.1 h with rfl | h
   ·exact .inr (by simp)
   ·rcases AM h with h | h
    ·exact .inl h
    ·exact .inr (by simp [h])
theorem gU (x:bM) (s t:aF):((bF x s t).1=x/\¬ (bF x s t).2=0)\/
  ((bF x s t).1=((x.1.1 + 1,()),(dA cH x.2.1.1 s (t,x.1.1 + 1,()) x.2.1.2.1,jy cH x.2.1.1 s x.2.1.2.1,()),())/\(bF x s t).2=0):=by
 unfold bF
 split
 ·rename_i h;exact .inl ⟨rfl,h⟩
 ·split
  ·exact .inl ⟨rfl,by simp⟩
  ·split
   ·exact .inl ⟨rfl,by simp⟩
   ·exact .inr ⟨rfl,rfl⟩
theorem cE.write {x:bM} (h:cE x) (s t:aF):cE (bF x s t).1/\x.1.1<=(bF x s t).1.1.1:=by
 obtain ⟨r,hr⟩:=h.AL
 have hg:=(hr.write s t).1
 rcases gU x s t with ⟨e,_⟩ | ⟨e,_⟩
 ·rw [e];exact ⟨h,Int.le_refl _⟩
 ·rw [e] at hg ⊢
  refine ⟨⟨⟨_,hg⟩,fun y hy => ?_⟩,by simp only;omega⟩
  rcases AM hy with hy | hy
  ·rw [hy];exact Int.le_refl _
  ·have:=h.Em y hy;simp only;omega
theorem cE.remove {x:bM} (h:cE x) (s:aF):cE (dG x s).1/\x.1.1<=(dG x s).1.1.1:=by
 obtain ⟨r,hr⟩:=h.AL
 have hg:=(hr.remove s).1
 cases c:cI cH x.2.1.1 s with
 | false=>rw [lg c];exact ⟨h,Int.le_refl _⟩
 | true=>
  rw [ik c] at hg ⊢
  exact ⟨⟨⟨_,hg⟩,fun y hy=>h.Em y (mR.subset hy)⟩,Int.le_refl _⟩
theorem cE.gQ {x:bM} (h:cE x) (a:D cJ):cE (gQ x a)/\x.1.1<=(Mrl.gQ x a).1.1:=by
 unfold Mrl.gQ
 split
 ·exact h.write _ _
 ·split
  ·exact h.remove _
  ·exact ⟨h,Int.le_refl _⟩
theorem cE.done:∀(l:List (D cJ)) {x:bM},cE x->cE (bC x l)
 | [],_,h=>h
 | a :: l,_,h=>cE.done l (h.gQ a).1
theorem En {x:bM} (h:cE x) {s:aF} (hn:(aP (aH x s).2.2).isNil=true):(aH x s).2.1<=x.1.1:=by
 have hc:=aZ.1 hn
 cases c:cI cH x.2.1.1 s with
 | false=>rw [ki c] at hc;simp at hc
 | true=>
  obtain ⟨r,hr⟩:=h.AL
  obtain ⟨y,hy,e⟩:=kn.1 c
  rw [mm c,qR hr.names y hy e]
  exact h.Em y hy
theorem oE {s k:aF} {v:aF × Int × Unit} {c:Int}:∀{es:List FE},cI cH (dA cH es s v c) k=(decide (k=s) || cI cH es k)/\iw cH (dA cH es s v c) k=if k=s then v else iw cH es k
 | []=>by
  by_cases h:s=k
  ·subst h;simp [dA,cI,iw]
  ·have h':¬ k=s:=fun e=>h e.symm
   simp [dA,cI,iw,h,h']
 | z :: r=>by
  obtain ⟨i1,i2⟩:=oE (s:=s) (k:=k) (v:=v) (c:=c) (es:=r)
  unfold dA
  by_cases e:z.1=s
  ·rw [if_pos e]
   by_cases h:s=k
   ·subst h;simp [cI,iw]
   ·have h':¬ k=s:=fun e=>h e.symm
    have h2:¬ z.1=k:=fun e2=>h (e.symm.trans e2)
    simp [cI,iw,h,h',h2]
  ·rw [if_neg e]
   by_cases h:z.1=k
   ·have h':¬ k=s:=fun e2=>e (h.trans e2)
    simp [cI,iw,h,h']
   ·simp only [cI,iw,if_neg h];exact ⟨i1,i2⟩
theorem Eo {x:bM} {s k t:aF} (h:¬ k=s):aH (bF x s t).1 k=aH x k:=by
 rcases gU x s t with ⟨e,_⟩ | ⟨e,_⟩
 ·rw [e]
 ·rw [e]
  unfold aH
  simp only [(oE (s:=s) (k:=k) (v:=(t,x.1.1 + 1,())) (c:=x.2.1.2.1) (es:=x.2.1.1)).1,(oE (s:=s) (k:=k) (v:=(t,x.1.1 + 1,())) (c:=x.2.1.2.1) (es:=x.2.1.1)).2,h,decide_false,Bool.false_or,if_false]
theorem xO {x:bM} {s t:aF} (h:(aP (bF x s t).2).isNil=true):aH (bF x s t).1 s=(t,x.1.1 + 1,0):=by
 rcases gU x s t with ⟨_,e⟩ | ⟨e,_⟩
 ·exact absurd (aZ.1 h) e
 ·rw [e]
  unfold aH
  simp only [(oE (s:=s) (k:=s) (v:=(t,x.1.1 + 1,())) (c:=x.2.1.2.1) (es:=x.2.1.1)).1,(oE (s:=s) (k:=s) (v:=(t,x.1.1 + 1,())) (c:=x.2.1.2.1) (es:=x.2.1.1)).2]
  simp
theorem Ga {x:bM} {s t:aF} (h:(aP (bF x s t).2).isNil=false):(bF x s t).1=x:=by
 rcases gU x s t with ⟨e,_⟩ | ⟨_,e⟩
 ·exact e
 ·rw [e] at h;cases h
theorem cE.pre {x:bM} (h:cE x):x.2.1.1.length<=6/\0<=x.1.1/\x.1.1<=1000000:=let ⟨_,hr⟩:=h.AL;hr.pre
end Go.Mrl

