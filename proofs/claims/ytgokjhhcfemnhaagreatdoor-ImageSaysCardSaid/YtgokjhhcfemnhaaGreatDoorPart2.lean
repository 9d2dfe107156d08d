/- A part of the proof that the law ImageSaysCard holds of the given program: facts that are used there. -/
import Derived.Test.YtgokjhhcfemnhaaGreatDoorPart1
import Derived.Deep.LoopGhost
import Derived.ProofKit
import Derived.KernelRfl
import Derived.Deep.Heap
import Derived.Room.AppendFits
import Derived.Lib.UnsafeStr
set_option linter.unusedSimpArgs false
set_option linter.unusedVariables false
namespace Go.Vg
open Go.RowKit
def fC:List Cl->Bool
 | []=>true
 | .d t :: r=>t.flat && fC r
 | _ :: r=>fC r
def dN:List Ob->Bool
 | []=>true
 | .box _ cls :: r=>fC cls && dN r
 | .row _ t :: r=>t.flat && dN r
 | .tok t :: r=>t.flat && dN r
 | .ext _ _ :: r=>dN r
def oq:List Ob->Bool
 | []=>true
 | .tok _ :: _=>false
 | _ :: r=>oq r
section
variable {eT:TypeId} {X:Ext}
theorem VR.to {t:Ty} {x:D t} {S S':bD} {v:Value} (hw:S'.w=S.w) (hA:t.flat=true\/∀b o,S'.A b o->S.A b o) (h:VR eT t x S.A S.w v):VR eT t x S'.A S'.w v:=by
 rcases hA with hA | hA
 ·exact VR.of_flat hA h
 ·rw [hw];exact VR.xH h fun b o k h'=>k (hA b o h')
def Laid (eT:TypeId) (S:bD):(os:List Ob)->PD os->List Nat->List Loc->Prop
 | [],_,ns,ls=>ns = []/\ls = []
 | o :: r,x,n :: ns,l :: ls=>(S.loc n=l/\n < S.next/\(match o,x.1 with
  | .box _ _,_=>∃b,l.v = .pointer (some ⟨b,0,none⟩)
  | .tok t,y=>VR eT (.slice t) y S.A S.w l.v/\∀ys,S.ob n=some (.tok t ys)->ys=y
  | .row _ _,_=>∃a k c,l.v = .slice a k c
  | .ext 0 _,_=>∃v,∃hs:List Value,l.v = .tuple (v :: hs).toArray
  | .ext (_ + 1) _,_=>sa l.v=l.v))/\Laid eT S r x.2 ns ls
 | _,_,_,_=>False
theorem wm {S:bD}:∀{os:List Ob} {x:PD os} {ns:List Nat} {ls:List Loc} {k:Nat} {v:Value},Laid eT S os x ns ls->xI ls k v->CR eT S (eO os x ns k) v:=by
 intro os
 induction os with
 | nil=>intro x ns ls k v h hr;exact trivial
 | cons o r ih=>
  intro x ns ls k v h hr
  match ns,ls,h with
  | n :: ns,l :: ls,⟨⟨h1,h2,h3⟩,h4⟩=>
   obtain ⟨l0,hl,hv⟩:=hr
   cases k with
   | succ k=>exact ih h4 ⟨l0,by simpa using hl,hv⟩
   | zero=>
    simp at hl
    subst hl
    subst hv
    show CR eT S (M9 o x.1 n) _
    cases o with
    | box T cls=>
     obtain ⟨b,hb⟩:=h3
     rw [hb]
     exact ⟨h2,fun T cs _=>⟨b,by rw [h1];exact hb,rfl⟩⟩
    | row kp t=>
     obtain ⟨a,k,c,hb⟩:=h3
     rw [hb]
     exact ⟨h2,fun t xs _=>by rw [h1,hb];rfl⟩
    | tok t=>
     obtain ⟨a,c,hb,_⟩:=pB h3.1
     rw [show sa l.v=l.v by rw [hb];rfl]
     exact ⟨h3.1,h2,fun ys hy=>by rw [h3.2 ys hy];exact ⟨Nat.le_refl _,fun _=>by rw [h1]⟩⟩
    | ext k t=>
     cases k with
     | zero=>
      obtain ⟨v,hs,hb⟩:=h3
      rw [hb]
      exact ⟨h2,fun t x _=>⟨hs,by rw [h1,hb];rfl⟩⟩
     | succ k=>
      rw [show sa l.v=l.v from h3]
      exact ⟨h2,fun oc _ _=>by rw [h1]⟩
theorem Ko {S S':bD} {F:Nat->Value->Prop} {f:Nat->C} (hw:S'.w=S.w) (hF:∀k v,F k v->CR eT S' (f k) v):∀{cls:List Cl} {x:CD cls} {vs:List Value},
  (fC cls=true\/∀b o,S'.A b o->S.A b o)->o1 eT S F cls x vs->(∀v∈vs,v.oneCell'=true)->cV eT S' (BA f cls x) vs:=by
 intro cls
 induction cls with
 | nil=>intro x vs _ h _;rw [show vs = [] from h];exact .nil
 | cons cl r ih=>
  intro x vs hA h h1
  cases vs with
  | nil=>cases cl <;> exact h.elim
  | cons v vs=>
   have hr:fC r=true\/∀b o,S'.A b o->S.A b o:=by
    rcases hA with hA | hA
    ·left;cases cl <;> simp [fC] at hA <;> first | exact hA.2 | exact hA
    ·exact .inr hA
   cases cl with
   | d t=>
    refine .cons (VR.to hw ?_ h.1) (h1 v (by simp)) (ih hr h.2 fun u hu=>h1 u (by simp [hu]))
    rcases hA with hA | hA
    ·left;simp [fC] at hA;exact hA.1
    ·exact .inr hA
   | obj k=>exact .cons (hF k v h.1) (h1 v (by simp)) (ih hr h.2 fun u hu=>h1 u (by simp [hu]))
   | eH=>exact .cons h.1 (h1 v (by simp)) (ih hr h.2 fun u hu=>h1 u (by simp [hu]))
theorem BD {S S':bD} {F:Nat->Value->Prop} {f:Nat->C} (hw:S'.w=S.w) (hF:∀k v,F k v->CR eT S' (f k) v):∀{cls:List Cl} {x:CD cls} {vs:List Value},
  (fC cls=true\/∀b o,S'.A b o->S.A b o)->o1 eT S F cls x vs->cF eT S' (vf f cls x) vs:=by
 intro cls
 induction cls with
 | nil=>intro x vs _ h;rw [show vs = [] from h];exact .nil
 | cons cl r ih=>
  intro x vs hA h
  cases vs with
  | nil=>cases cl <;> exact h.elim
  | cons v vs=>
   have hr:fC r=true\/∀b o,S'.A b o->S.A b o:=by
    rcases hA with hA | hA
    ·left;cases cl <;> simp [fC] at hA <;> first | exact hA.2 | exact hA
    ·exact .inr hA
   cases cl with
   | d t=>
    refine .cons (show VR eT t x.1 S'.A S'.w v from VR.to hw ?_ h.1) (ih hr h.2)
    rcases hA with hA | hA
    ·left;simp [fC] at hA;exact hA.1
    ·exact .inr hA
   | obj k=>exact .cons (hF k v h.1) (ih hr h.2)
   | eH=>exact .cons h.1 (ih hr h.2)
theorem ic.to {S S':bD} {t:Ty} {xs:List (D t)} {vs:Array Value} (hw:S'.w=S.w) (hA:t.flat=true\/∀b o,S'.A b o->S.A b o) (h:ic eT S t xs vs):ic eT S' t xs vs:=by
 intro i y hy
 obtain ⟨us,h1,h2⟩:=h i y hy
 refine ⟨us,?_,h2⟩
 rcases hA with hA | hA
 ·exact h1.of_flat hA
 ·rw [hw];exact h1.frame fun b o v k h'=>⟨h',fun h''=>k (hA b o h'')⟩
theorem BE.to {S S':bD} {t:Ty} {xs:List (D t)} {l:Loc} (hw:S'.w=S.w) (hA:t.flat=true\/∀b o,S'.A b o->S.A b o) (h:OR eT X S l (.aV t xs)):OR eT X S' l (.aV t xs):=by
 rcases h with h | ⟨b,vs,T,cap,h1,h2,h3,h4,h5,h6,h7⟩
 ·exact .inl h
 ·exact .inr ⟨b,vs,T,cap,h1,h2,by rw [hw];exact h3,h4,h5,h6,h7.to hw hA⟩
def nA (o:Ob):Bool:=dN [o]
theorem Nb {S S':bD} {F:Nat->Value->Prop} {f:Nat->C} (hw:S'.w=S.w) (hF:∀k v,F k v->CR eT S' (f k) v) {o:Ob} {x:OD o} {l:Loc}
  (hA:nA o=true\/∀b o,S'.A b o->S.A b o) (h:Ib eT X S F o x l):OR eT X S' l (nz f o x):=by
 cases o with
 | box T cls=>
  obtain ⟨b,vs,h1,h2,h3,h4,h5⟩:=h
  refine ⟨b,vs,h1,h2,by rw [hw];exact h3,Ko hw hF ?_ h4 h5⟩
  rcases hA with hA | hA
  ·left;simpa [nA,dN] using hA
  ·exact .inr hA
 | row kp t=>
  refine BE.to hw ?_ h
  rcases hA with hA | hA
  ·left;simpa [nA,dN] using hA
  ·exact .inr hA
 | tok t=>
  refine BE.to (X:=X) (l:=l) hw ?_ h
  rcases hA with hA | hA
  ·left;simpa [nA,dN] using hA
  ·exact .inr hA
 | ext k t=>show X.rel _ _ _ _ _;rw [hw];exact h
theorem Kp {S:bD} {t:Ty} {xs:List (D t)} {l:Loc} (h:OR eT X S l (.tok t xs)) (hA:∀b∈l.bs,∀off,off < xs.length * t.size->¬ S.A b off):VR eT (.slice t) xs S.A S.w l.v:=by
 rcases h with ⟨rfl,⟨a,ha⟩,_⟩ | ⟨b,vs,T,cap,h1,h2,h3,h4,h5,h6,he⟩
 ·exact VR.cw rfl ⟨_,rfl,by simp, .inl ⟨rfl,a,0,ha⟩⟩
 ·refine VR.cw rfl ⟨_,rfl,h6, .inr ⟨b,0,cap,h1,h5,fun i y hy => ?_⟩⟩
  obtain ⟨us,r1,r2⟩:=he i y hy
  refine ⟨us,r1,fun j u hj=>⟨?_,?_⟩⟩
  ·rw [Nat.zero_add,cell_of_row S.w b _ vs T (0,0) h3];exact r2 j u hj
  ·rw [Nat.zero_add]
   refine hA b (by rw [h2];simp) _ ?_
   have hi:=aZ hy
   have hjl:=aZ hj
   rw [r1.length] at hjl
   have:(i + 1) * t.size<=xs.length * t.size:=Nat.mul_le_mul_right _ hi
   rw [Nat.add_mul] at this
   omega
def dm:List Nat->List Loc->(Nat->Loc)->Nat->Loc
 | n :: ns,l :: ls,d,m=>if n=m then l else dm ns ls d m
 | _,_,d,m=>d m
theorem kP:∀{ns:List Nat} {ls:List Loc} {d:Nat->Loc} {m:Nat},m∉ns->dm ns ls d m=d m
 | [],_,_,_,_=>by cases ‹List Loc› <;> rfl
 | n :: ns,[],_,_,_=>rfl
 | n :: ns,l :: ls,d,m,h=>by
  simp only [List.mem_cons,not_or] at h
  simp only [dm]
  rw [if_neg (fun e=>h.1 e.symm)]
  exact kP h.2
theorem vh {n:Nat} {l:List Nat}:kD n l=true ↔ n∈l:=by
 refine ⟨qq,fun h => ?_⟩
 induction l with
 | nil=>simp at h
 | cons m r ih=>
  simp only [kD]
  split
  ·rfl
  ·rename_i hb
   rcases List.mem_cons.1 h with h | h
   ·subst h;rw [Nat.beq_refl] at hb;cases hb
   ·exact ih h
theorem jY {n:Nat} {r:List Nat} (h:nodupB (n :: r)=true):n∉r/\nodupB r=true:=by
 simp only [nodupB,Bool.and_eq_true,Bool.not_eq_true'] at h
 exact ⟨fun hm=>by rw [vh.2 hm] at h;exact absurd h.1 (by decide),h.2⟩
theorem hM:∀{ns:List Nat} {ls:List Loc} {d:Nat->Loc} {i n:Nat} {l:Loc},nodupB ns=true->ns[i]?=some n->ls[i]?=some l->dm ns ls d n=l
 | [],_,_,_,_,_,_,h,_=>by simp at h
 | n :: ns,[],_,_,_,_,_,_,h=>by simp at h
 | n :: ns,l :: ls,d,0,m,k,_,h1,h2=>by simp at h1 h2;subst h1;subst h2;simp [dm]
 | n :: ns,l :: ls,d,i + 1,m,k,hn,h1,h2=>by
  obtain ⟨hm,hn⟩:=jY hn
  simp at h1 h2
  simp only [dm]
  rw [if_neg (fun e=>hm (by rw [e];exact List.mem_of_getElem? h1))]
  exact hM hn h1 h2
theorem mQ {cv:Bool} {aF:List (Nat × OC)} {aO:List Ob} {ν:List Nat} {f:Nat->C} {S:bD} {F:Nat->Value->Prop} {loc:Nat->Loc}:∀{os:List Ob} {x:PD os} {ns ms:List Nat} {m:Nat} {oc:OC},cX cv aF aO ν os ns=some x->F9 eT X S F os x (ns.map loc)->ns.length=ms.length->
  look (il f os x ms) m=some oc->∃(i n:Nat) (o:Ob) (y:OD o) (oc0:OC),ns[i]?=some n/\ms[i]?=some m/\os[i]?=some o/\look aF n=some oc0/\gf cv aF aO ν o oc0=some y/\oc=nz f o y/\Ib eT X S F o y (loc n):=by
 intro os
 induction os with
 | nil=>intro x ns ms m oc _ _ _ h;simp [il,look] at h
 | cons o r ih=>
  intro x ns ms m oc hg hR hl h
  cases ns with
  | nil=>simp [cX] at hg
  | cons n ns=>
   cases ms with
   | nil=>simp at hl
   | cons k ms=>
    simp only [cX] at hg
    split at hg
    case h_2=>cases hg
    rename_i oc0 hob
    split at hg
    case h_2=>cases hg
    rename_i x0 y0 h1 h2
    cases hg
    simp only [il,cm] at h
    split at h
    ·rename_i e
     cases h
     exact ⟨0,n,o,x0,oc0,rfl,by simp [e],rfl,hob,h1,rfl,hR.1⟩
    ·obtain ⟨i,n',o',y',oc',k1,k2,k3,k4⟩:=ih h2 hR.2 (by simpa using hl) h
     exact ⟨i + 1,n',o',y',oc',by simpa using k1,by simpa using k2,by simpa using k3,k4⟩
theorem xK {cv:Bool} {aF:List (Nat × OC)} {aO:List Ob} {ν:List Nat} {f:Nat->C} {o:Ob} {y:OD o} {oc:OC} (h:gf cv aF aO ν o oc=some y):(nz f o y).lo=oc.lo\/cv=true:=by
 cases o <;> cases oc <;> simp only [gf,reduceCtorEq] at h
 ·exact .inl rfl
 ·exact .inl rfl
 ·split at h
  ·exact .inr rfl
  ·cases h
 ·obtain ⟨e,h3⟩:=kJ h
  subst e;simp only at h3;subst h3;exact .inl rfl
 ·exact .inl rfl
theorem mo {cv:Bool} {aF:List (Nat × OC)} {aO:List Ob} {ν:List Nat} {o:Ob} {y:OD o} {oc:OC} (h:gf cv aF aO ν o oc=some y) (f:Nat->C):(∀T cls,o = .box T cls->∃cs,oc = .cells T cs)/\
  (∀k t,o = .ext k t->∃x,oc = .ext k t x)/\(∀k t,o = .row k t->cv=false->∃xs,oc = .aV t xs)/\((∀t,o≠.tok t)->cv=false->∀t xs,oc≠.tok t xs):=by
 refine ⟨fun T cls e => ?_,fun k t e => ?_,fun k t e e2 => ?_,fun h1 h2 t xs e => ?_⟩
 ·subst e
  cases oc <;> simp only [gf,reduceCtorEq] at h
  split at h
  ·rename_i hT;rw [Nat.eq_of_beq_eq_true hT];exact ⟨_,rfl⟩
  ·cases h
 ·subst e
  cases oc <;> simp only [gf,reduceCtorEq] at h
  split at h
  ·rename_i hT
   obtain ⟨e,_⟩:=BC h
   subst e
   rw [Nat.eq_of_beq_eq_true hT];exact ⟨_,rfl⟩
  ·cases h
 ·subst e;subst e2
  cases oc <;> simp only [gf,reduceCtorEq] at h
  ·obtain ⟨e,_⟩:=kJ h
   subst e
   exact ⟨_,rfl⟩
 ·subst e;subst h2
  cases o <;> simp only [gf,reduceCtorEq] at h
  exact h1 _ rfl
theorem mR {cv:Bool} {aF:List (Nat × OC)} {aO:List Ob} {ν:List Nat}:∀{os:List Ob} {ns:List Nat} {x:PD os},cX cv aF aO ν os ns=some x->os.length=ns.length:=by
 intro os
 induction os with
 | nil=>intro ns x h;cases ns with | nil=>rfl | cons=>simp [cX] at h
 | cons o r ih=>
  intro ns x h
  cases ns with
  | nil=>simp [cX] at h
  | cons n ns=>
   simp only [cX] at h
   split at h
   case h_2=>cases h
   split at h
   case h_2=>cases h
   rename_i h2
   simp [ih h2]
theorem mq {f:Nat->C}:∀{os:List Ob} {x:PD os} {ms:List Nat} {m:Nat},os.length=ms.length->m∈ms->∃oc,look (il f os x ms) m=some oc:=by
 intro os
 induction os with
 | nil=>intro x ms m h hm;cases ms with | nil=>simp at hm | cons=>simp at h
 | cons o r ih=>
  intro x ms m h hm
  cases ms with
  | nil=>simp at h
  | cons k ms=>
   simp only [il,cm]
   by_cases e:k=m
   ·exact ⟨_,by rw [if_pos e]⟩
   ·rw [if_neg e]
    rcases List.mem_cons.1 hm with hm | hm
    ·exact (e hm.symm).elim
    ·exact ih (by simpa using h) hm
theorem mr:∀{l:List Nat} {i j n:Nat},nodupB l=true->l[i]?=some n->l[j]?=some n->i=j
 | [],_,_,_,_,h,_=>by simp at h
 | m :: r,0,0,_,_,_,_=>rfl
 | m :: r,0,j + 1,n,hn,h1,h2=>by
  simp at h1 h2;subst h1
  exact ((jY hn).1 (List.mem_of_getElem? h2)).elim
 | m :: r,i + 1,0,n,hn,h1,h2=>by
  simp at h1 h2;subst h2
  exact ((jY hn).1 (List.mem_of_getElem? h1)).elim
 | m :: r,i + 1,j + 1,n,hn,h1,h2=>by
  simp at h1 h2
  rw [mr (jY hn).2 h1 h2]
theorem sb {a:Ob} {r:List Ob} (h:dN (a :: r)=true):nA a=true/\dN r=true:=by
 cases a <;> simp [dN,nA] at h ⊢ <;> exact h
theorem uh:∀{l:List Ob} {i:Nat} {o:Ob},dN l=true->l[i]?=some o->nA o=true
 | [],_,_,_,h=>by simp at h
 | a :: r,0,o,hfl,h=>by simp at h;subst h;exact (sb hfl).1
 | a :: r,i + 1,o,hfl,h=>uh (sb hfl).2 (by simpa using h)
theorem Mk {S S2:bD} {F:Nat->Value->Prop} {f:Nat->C} {loc:Nat->Loc} (hNA:∀m t ys,S2.ob m=some (.tok t ys)->∀b∈(S2.loc m).bs,∀off,off < ys.length * t.size->¬ S2.A b off) (hw:S2.w=S.w) :
  ∀{os:List Ob} {x:PD os} {ns ms:List Nat},(dN os=true\/∀b o,S2.A b o->S.A b o)->F9 eT X S F os x (ns.map loc)->nodupB ms=true->ns.length=ms.length->(∀n∈ms,S2.ob n=look (il f os x ms) n)->
   (∀(i n m:Nat),ns[i]?=some n->ms[i]?=some m->S2.loc m=loc n/\m < S2.next)->Laid eT S2 os x ms (ns.map loc):=by
 intro os
 induction os with
 | nil=>
  intro x ns ms _ h _ hl _ _
  have h:ns.map loc = []:=h
  cases ns with
  | nil=>cases ms with
   | nil=>exact ⟨rfl,rfl⟩
   | cons=>simp at hl
  | cons=>simp at h
 | cons o r ih=>
  intro x ns ms hA h hnd hl hob hloc
  cases ns with
  | nil=>exact h.elim
  | cons n ns=>
   cases ms with
   | nil=>simp at hl
   | cons m ms=>
    obtain ⟨hm,hnd'⟩:=jY hnd
    obtain ⟨h1,h2⟩:=hloc 0 n m rfl rfl
    have hA':dN r=true\/∀b o,S2.A b o->S.A b o:=by
     rcases hA with hA | hA
     ·left;cases o <;> simp [dN] at hA <;> first | exact hA.2 | exact hA
     ·exact .inr hA
    refine ⟨⟨h1,h2,?_⟩,ih hA' h.2 hnd' (by simpa using hl) (fun k hk => ?_) (fun i a b ha hb=>hloc (i + 1) a b (by simpa using ha) (by simpa using hb))⟩
    ·cases o with
     | box T cls=>obtain ⟨b,vs,k1,_⟩:=h.1;exact ⟨b,k1⟩
     | row kp t=>rcases h.1 with ⟨_,⟨a,ha⟩,_⟩ | ⟨b,vs,T,cap,ha,_⟩ <;> exact ⟨_,_,_,ha⟩
     | tok t=>
      have hobm:S2.ob m=some (.tok t x.1):=by rw [hob m (by simp)];simp [il,cm,nz]
      refine ⟨?_,fun ys hy=>by rw [hobm] at hy;cases hy;rfl⟩
      refine Kp (X:=X) (BE.to (X:=X) (l:=loc n) hw ?_ h.1) fun b hb off ho=>hNA m t x.1 hobm b (by rw [h1];exact hb) off ho
      rcases hA with hA | hA
      ·left;simp [dN] at hA;exact hA.1
      ·exact .inr hA
     | ext k t=>
      cases k with
      | zero=>
       have hd:=X.deep.1 h.1
       obtain ⟨e,s,rfl,_⟩:=n1 hd
       obtain ⟨_,_,v,hs,hv,_⟩:=hd
       exact ⟨v,hs,hv⟩
      | succ k=>
       show sa (loc n).v=(loc n).v
       cases k with
       | zero=>obtain ⟨e,_,b,es,c6,hm⟩:=X.map.1 h.1;rw [hm.lv];rfl
       | succ k=>obtain ⟨a,ha⟩:=X.ptr (by omega) h.1;rw [ha];rfl
    ·rw [hob k (by simp [hk])]
     simp only [il,cm]
     rw [if_neg (fun e=>hm (by rw [e];exact hk))]
theorem Gb {cv:Bool} {aO:List Ob} {ν:List Nat} {x:PD aO} {O:aH} {st:St} {loc:Nat->Loc} {w:World} (g:Good eT X (aB O st loc w)) (hx:cX cv st.aF aO ν aO ν=some x)
  (hp:∀p∈fB aO x st.aF aO ν,p) (hnd:nodupB ν=true)
  {O2:aH} {ν2:List Nat} {rest:List (Nat × OC)} {locR:Nat->Loc} {st2:St} (hnd2:nodupB ν2=true) (hlen:ν.length=ν2.length)
  (hobjs:st2.aF=il (eO aO x ν2) aO x ν2++rest) (hlt:∀n∈ν2,n < st2.next)
  (hO2:∀n∈ν,∀b∈(loc n).bs,∀off,¬ O2 b off)
  (hD:∀n∈ν,∀b∈(loc n).bs,∀m oc,look rest m=some oc->m∉ν2->b∉(locR m).bs)
  (hR:∀m oc,look rest m=some oc->m∉ν2->m < st2.next/\OR eT X (aB O2 st2 (dm ν2 (ν.map loc) locR) w) (locR m) oc)
  (hR2:∀m m' oc oc' b,look rest m=some oc->look rest m'=some oc'->m∉ν2->m'∉ν2->b∈(locR m).bs->b∈(locR m').bs->m=m')
  (hR3:∀m oc b off,look rest m=some oc->m∉ν2->b∈(locR m).bs->¬ O2 b off)
  (hA:dN aO=true\/∀b o,(aB O2 st2 (dm ν2 (ν.map loc) locR) w).A b o->(aB O st loc w).A b o)
  (hGl:∀b∈X.EJ,¬ (aB O2 st2 (dm ν2 (ν.map loc) locR) w).lI b) :
  Good eT X (aB O2 st2 (dm ν2 (ν.map loc) locR) w)/\Laid eT (aB O2 st2 (dm ν2 (ν.map loc) locR) w) aO x ν2 (ν.map loc):=by
 have hobs:=mP (X:=X) g hx hx hp
 have hol:=mR hx
 generalize hf:eO aO x ν2=f at hobjs
 have hob:∀m oc,(aB O2 st2 (dm ν2 (ν.map loc) locR) w).ob m=some oc->
   (∃(i n:Nat) (o:Ob) (y:OD o) (oc0:OC),ν[i]?=some n/\ν2[i]?=some m/\look st.aF n=some oc0/\gf cv st.aF aO ν o oc0=some y/\oc=nz f o y/\Ib eT X (aB O st loc w) (xI (ν.map loc)) o y (loc n)/\
    dm ν2 (ν.map loc) locR m=loc n/\aO[i]?=some o)\/
   (look rest m=some oc/\m∉ν2/\dm ν2 (ν.map loc) locR m=locR m):=by
  intro m oc h
  simp only [aB,hobjs] at h
  rw [cZ] at h
  split at h
  ·rename_i oc' h'
   cases h
   obtain ⟨i,n,o,y,oc0,k1,k2,k3,k4,k5,k6,k7⟩:=mQ hx hobs hlen h'
   exact .inl ⟨i,n,o,y,oc0,k1,k2,k4,k5,k6,k7,hM hnd2 k2 (by simp [k1]),k3⟩
  ·rename_i h'
   have:m∉ν2:=fun hm=>by
    obtain ⟨oc1,h1⟩:=mq (f:=f) (x:=x) (by omega) hm
    rw [h1] at h';cases h'
   exact .inr ⟨h,this,kP this⟩
 have hap:∀m m' oc oc' b,(aB O2 st2 (dm ν2 (ν.map loc) locR) w).ob m=some oc->(aB O2 st2 (dm ν2 (ν.map loc) locR) w).ob m'=some oc'->
   b∈(dm ν2 (ν.map loc) locR m).bs->b∈(dm ν2 (ν.map loc) locR m').bs->m=m':=by
  intro m m' oc oc' b h1 h2 h3 h4
  rcases hob m oc h1 with ⟨i,n,o,y,oc0,k1,k2,k4,_,_,_,k8,_⟩ | ⟨k1,k2,k3⟩ <;> rcases hob m' oc' h2 with ⟨i',n',o',y',oc0',j1,j2,j4,_,_,_,j8,_⟩ | ⟨j1,j2,j3⟩
  ·rw [k8] at h3;rw [j8] at h4
   have e:=g.apart n n' oc0 oc0' b k4 j4 h3 h4
   subst e
   have:=mr hnd k1 j1
   subst this
   rw [k2] at j2;cases j2;rfl
  ·rw [k8] at h3;rw [j3] at h4
   exact (hD n (List.mem_of_getElem? k1) b h3 m' oc' j1 j2 h4).elim
  ·rw [k3] at h3;rw [j8] at h4
   exact (hD n' (List.mem_of_getElem? j1) b h4 m oc k1 k2 h3).elim
  ·rw [k3] at h3;rw [j3] at h4
   exact hR2 m m' oc oc' b k1 j1 k2 j2 h3 h4
 have hout:∀m oc b off,(aB O2 st2 (dm ν2 (ν.map loc) locR) w).ob m=some oc->b∈(dm ν2 (ν.map loc) locR m).bs->¬ O2 b off:=by
  intro m oc b off h1 h2
  rcases hob m oc h1 with ⟨i,n,o,y,oc0,k1,k2,k4,_,_,_,k8,_⟩ | ⟨k1,k2,k3⟩
  ·rw [k8] at h2;exact hO2 n (List.mem_of_getElem? k1) b h2 off
  ·rw [k3] at h2;exact hR3 m oc b off k1 k2 h2
 have hNA:∀m t ys,(aB O2 st2 (dm ν2 (ν.map loc) locR) w).ob m=some (.tok t ys)->∀b∈((aB O2 st2 (dm ν2 (ν.map loc) locR) w).loc m).bs,∀off,off < ys.length * t.size->¬ (aB O2 st2 (dm ν2 (ν.map loc) locR) w).A b off:=by
  rintro m t ys h1 b hb off ho (h2 | ⟨m',oc',h2,h3,h4⟩)
  ·exact hout m _ b off h1 hb h2
  ·have:=hap m m' _ oc' b h1 h2 hb h3
   subst this
   rw [h1] at h2;cases h2
   simp only [OC.lo] at h4
   omega
 have hlaid:Laid eT (aB O2 st2 (dm ν2 (ν.map loc) locR) w) aO x ν2 (ν.map loc):=by
  refine Mk (X:=X) (S:=aB O st loc w) (f:=f) hNA rfl hA hobs hnd2 hlen (fun n hn => ?_) (fun i n m h1 h2=>⟨hM hnd2 h2 (by simp [h1]),hlt m (List.mem_of_getElem? h2)⟩)
  show look st2.aF n=_
  rw [hobjs,cZ]
  obtain ⟨oc1,h1⟩:=mq (f:=f) (x:=x) (by omega) hn
  rw [h1]
 refine ⟨⟨fun m oc h => ?_,fun m m' oc oc' b h1 h2 h3 h4=>hap m m' oc oc' b h1 h2 h3 h4,fun m oc b off h1 h2=>hout m oc b off h1 h2,g.kB.1,hGl⟩,hlaid⟩
 rcases hob m oc h with ⟨i,n,o,y,oc0,k1,k2,k4,k5,k6,k7,k8,k9⟩ | ⟨k1,k2,k3⟩
 ·refine ⟨hlt m (List.mem_of_getElem? k2),?_⟩
  show OR _ _ _ (dm ν2 (ν.map loc) locR m) oc
  rw [k8,k6]
  refine Nb (S:=aB O st loc w) (S':=aB O2 st2 (dm ν2 (ν.map loc) locR) w) rfl (fun k v hk=>by rw [<-hf];exact wm hlaid hk) ?_ k7
  rcases hA with hA | hA
  ·left
   exact uh hA k9
  ·exact .inr hA
 ·obtain ⟨h1,h2⟩:=hR m oc k1 k2
  refine ⟨h1,?_⟩
  show OR _ _ _ (dm ν2 (ν.map loc) locR m) oc
  rw [k3];exact h2
def upto:Nat->Nat->List Nat
 | _,0=>[]
 | k,m + 1=>k :: upto (k + 1) m
def LU (aO:List Ob) (cls:List Cl) (vs:List cA) (aF:List (Nat × OC)) (as:List (Nat × Nat)):Option (List Nat):=
 match H9 cls vs as with
 | some as1=>match tC aF 0 aO as1 with
  | some as2=>r8 as2 0 aO.length
  | none=>none
 | none=>none
theorem vj:∀(m k i:Nat),i < m->(upto k m)[i]?=some (k + i)
 | m + 1,k,0,_=>by simp [upto]
 | m + 1,k,i + 1,h=>by
  simp only [upto,List.getElem?_cons_succ]
  rw [vj m (k + 1) i (by omega)]
  congr 1;omega
theorem qt:∀{m k n:Nat},n∈upto k m->k<=n/\n < k + m
 | 0,k,n,h=>by simp [upto] at h
 | m + 1,k,n,h=>by
  simp only [upto,List.mem_cons] at h
  rcases h with h | h
  ·omega
  ·have:=qt h;omega
theorem qu:∀(m k:Nat),(upto k m).length=m
 | 0,_=>rfl
 | m + 1,k=>by simp [upto,qu m]
theorem gA:∀(m k:Nat),nodupB (upto k m)=true
 | 0,_=>rfl
 | m + 1,k=>by
  simp only [upto,nodupB,gA m,Bool.and_true,Bool.not_eq_true']
  rw [Bool.eq_false_iff]
  intro h
  have:=qt (vh.1 h)
  omega
theorem iJ {cv:Bool} {aF:List (Nat × OC)} {aO:List Ob} {ν:List Nat}:∀{os:List Ob} {ns:List Nat} {x:PD os} {n:Nat},cX cv aF aO ν os ns=some x->n∈ns->
  ∃o oc y,o∈os/\look aF n=some oc/\gf cv aF aO ν o oc=some y:=by
 intro os
 induction os with
 | nil=>intro ns x n h hn;cases ns with | nil=>simp at hn | cons=>simp [cX] at h
 | cons o r ih=>
  intro ns x n h hn
  cases ns with
  | nil=>simp at hn
  | cons k ns=>
   simp only [cX] at h
   split at h
   case h_2=>cases h
   rename_i oc hob
   split at h
   case h_2=>cases h
   rename_i x0 y0 h1 h2
   rcases List.mem_cons.1 hn with e | hn
   ·subst e;exact ⟨o,oc,x0,by simp,hob,h1⟩
   ·obtain ⟨o',oc',y',k1,k2⟩:=ih h2 hn
    exact ⟨o',oc',y',by simp [k1],k2⟩
end
end Go.Vg

namespace Go.Vg
open Go.RowKit
inductive Ex where
 | normal
 | exit (n:Nat)
 | ret
def AN:(cls:List Cl)->CD cls
 | []=>()
 | .d t :: r=>(cd t,AN r)
 | .obj _ :: r=>AN r
 | .eH :: r=>AN r
def N0:(o:Ob)->OD o
 | .box _ cls=>AN cls
 | .row _ _=>[]
 | .tok _=>[]
 | .ext _ t=>cd t
def LV:(os:List Ob)->PD os
 | []=>()
 | o :: r=>(N0 o,LV r)
structure iz:Type 1 where
 X:Type
 inv:X->Prop
 aW:X->Nat
 aQ:X->List (Nat × SV)
 aF:X->List (Nat × OC):=fun _=>[]
 aU:List Nat
 fY:List Nat:=[]
 dq:List Nat:=[]
 aO:List Ob:=[]
 refs:List (Nat × Nat):=[]
 pd:X->PD aO:=fun _=>LV aO
@[reducible] def sI (x:Int):SV:=.s (.one (.d (.int .i64) x))
@[reducible] def sB (x:Bool):SV:=.s (.one (.d .bool x))
@[reducible] def sS (x:List UInt8):SV:=.s (.one (.d .str x))
@[reducible] def sD (t:Ty) (x:D t):SV:=.s (.one (.d t x))
abbrev cy:=List (Nat × (St->iz))
def qv:C->C->Prop
 | .lit b, .d .bool c=>b=c
 | .d t x, .d t' y=>match h:Ty.beq t t' with
  | true=>ch h x=y
  | false=>False
 | .app t xs n, .app t' ys m=>match h:Ty.beq (.slice t) (.slice t'),Nat.beq n m with
  | true,true=>ch h (a:=.slice t) (b:=.slice t') xs=ys
  | _,_=>False
 | a,b=>a=b
def mu:SV->SV->Prop
 | .s (.one a), .s (.one b)=>qv a b
 | a,b=>a=b
def sd:List C->List C->Prop
 | [],[]=>True
 | a :: as,b :: bs=>qv a b/\sd as bs
 | _,_=>False
def jm:OC->OC->Prop
 | .cells T cs, .cells T' cs'=>match Nat.beq T T' with
  | true=>sd cs cs'
  | false=>False
 | .aV t xs, .aV t' ys=>match h:Ty.beq (.slice t) (.slice t') with
  | true=>ch h (a:=.slice t) (b:=.slice t') xs=ys
  | false=>False
 | .arr t xs, .arr t' ys=>match h:Ty.beq (.slice t) (.slice t') with
  | true=>ch h (a:=.slice t) (b:=.slice t') xs=ys
  | false=>False
 | .tok t xs, .tok t' ys=>match h:Ty.beq (.slice t) (.slice t') with
  | true=>ch h (a:=.slice t) (b:=.slice t') xs=ys
  | false=>False
 | .ext k t x, .ext k' t' y=>match Nat.beq k k',h:Ty.beq t t' with
  | true,true=>ch h x=y
  | _,_=>False
 | .iter cs seen cl, .iter cs' seen' cl'=>sd cs cs'/\seen=seen'/\cl=cl'
 | _,_=>False
def jZ (st:St):List (Nat × SV)->Prop
 | []=>True
 | (n,v) :: r=>match look st.env n with
  | some u=>mu u v/\jZ st r
  | none=>False
def j0 (st:St):List (Nat × OC)->Prop
 | []=>True
 | (n,v) :: r=>match look st.aF n with
  | some u=>jm u v/\j0 st r
  | none=>False
def lP (st:St):List Nat->List (Nat × SV)
 | []=>[]
 | t :: r=>match look st.env t with
  | some v=>(t,v) :: lP st r
  | none=>lP st r
def fH (st:St):List Nat->List (Nat × OC)
 | []=>[]
 | t :: r=>match look st.aF t with
  | some v=>(t,v) :: fH st r
  | none=>fH st r
def bP (an:iz) (st:St) (x:an.X):St:=
 {env:=an.aQ x++lP st an.aU,aF:=an.aF x++fH st an.fY,next:=st.next}
def eA (l:List Oper):List Nat:=l.filterMap (·.dst)
def writes (anns:cy):Nat->Code->List Nat
 | _, .region _ ops _=>eA ops.toList
 | k, .seq a b=>writes anns k a++writes anns k b
 | k, .cond _ a b=>writes anns k a++writes anns k b
 | _, .block id b=>writes anns id b
 | k, .loop b=>match look anns (k + 200000) with
  | some _=>allM :: writes anns k b
  | none=>writes anns k b
 | _,_=>[]
def qw (n:Nat):List Nat->Bool
 | []=>false
 | m :: r=>match Nat.beq m n with
  | true=>true
  | false=>qw n r
def ot (l:List Nat) (W:List Nat):Bool:=match l with
 | []=>true
 | _ => !(qw allM W) && l.all fun n => !(qw n W)
def gB (k:Nat):List Nat->Bool
 | []=>true
 | n :: r=>Nat.blt n k && gB k r
def mv (k:Nat):C->Bool
 | .app _ _ n | .aV n | .kA n | .du n | .xd n _ | .ref n _ | .nk n | .ib n _ _ _ | .kU n _ _ _=>Nat.blt n k
 | .fn _ caps=>gB k caps
 | _=>true
def kQ (k:Nat):List C->Bool
 | []=>true
 | c :: r=>mv k c && kQ k r
def BF (k:Nat):cA->Bool
 | .one c=>mv k c
 | .agg cs=>kQ k cs
def fI (k:Nat):List (Nat × SV)->Bool
 | []=>true
 | (_, .s v) :: r=>BF k v && fI k r
 | (_, .jL _) :: _=>false
def E2 (k:Nat):OC->Bool
 | .cells _ cs=>kQ k cs
 | .iter cs _ _=>kQ k cs
 | _=>true
def fy (k:Nat):List (Nat × OC)->Bool
 | []=>true
 | (n,oc) :: r=>Nat.blt n k && E2 k oc && fy k r
def jn (env:List (Nat × SV)):List Nat->Bool
 | []=>true
 | t :: r=>match look env t with
  | some _=>jn env r
  | none=>false
def jo (W:List Nat):List (Nat × SV)->Bool
 | []=>true
 | (n,_) :: r=>qw n W && jo W r
def AO (env:List (Nat × SV)):List Nat->List Nat
 | []=>[]
 | t :: r=>match look env t with
  | some (.s _)=>t :: AO env r
  | _=>AO env r
def ou (dq:List Nat):List (Nat × OC)->List Nat
 | []=>[]
 | (n,_) :: r=>match qw n dq with
  | true=>ou dq r
  | false=>n :: ou dq r
def tD (st:St) (an:iz):iz:=
 {an with aU:=AO st.env an.aU,fY:=match an.fY with
  | []=>ou an.dq st.aF
  | l=>l}
def aX (ty:Ty) (st:St) (t:Nat):D ty:=
 match look st.env t with
 | some (.s c)=>match mF ty c with
  | some x=>x
  | none=>cd ty
 | _=>cd ty
def rowOf (ty:Ty) (st:St) (n:Nat):List (D ty):=
 match look st.aF n with
 | some (.aV t xs)=>match h:Ty.beq (.slice t) (.slice ty) with
  | true=>ch h (a:=.slice t) xs
  | false=>[]
 | some (.arr t xs)=>match h:Ty.beq (.slice t) (.slice ty) with
  | true=>ch h (a:=.slice t) xs
  | false=>[]
 | some (.tok t xs)=>match h:Ty.beq (.slice t) (.slice ty) with
  | true=>ch h (a:=.slice t) xs
  | false=>[]
 | _=>[]
def aR (st:St) (t:Nat):Nat:=
 match look st.env t with
 | some (.s (.one (.aV n)))=>n
 | some (.s (.one (.kA n)))=>n
 | some (.s (.one (.du n)))=>n
 | some (.s (.one (.xd n _)))=>n
 | some (.s (.one (.ref n _)))=>n
 | some (.s (.one (.app _ _ n)))=>n
 | _=>0
def Nc (st:St) (n:Nat) (seen:List Int):OC:=
 match look st.aF n with
 | some (.iter cs _ cl) => .iter cs seen cl
 | _ => .iter [] seen 0
def kr (st:St) (n k:Nat):Nat:=
 match look st.aF n with
 | some (.cells _ cs)=>match cs[k]? with
  | some (.aV m)=>m
  | some (.ref m _)=>m
  | some (.app _ _ m)=>m
  | some (.du m)=>m
  | some (.xd m _)=>m
  | _=>0
 | _=>0
def Gc (ty:Ty) (st:St) (n k:Nat):D ty:=
 match look st.aF n with
 | some (.cells _ cs)=>match cs[k]? with
  | some c=>match rq ty c with
   | some x=>x
   | none=>cd ty
  | none=>cd ty
 | _=>cd ty
def Ml (_:Nat) (_:St):Prop:=False
def gX (an:iz) (st st':St):VC:=
 match jn st'.env an.aU with
 | true => .leaf (∃x',an.inv x'/\jZ st' (an.aQ x')/\j0 st' (an.aF x'++fH st an.fY))
 | false => .ff
def LW (st:St):List (Nat × Nat)->Option (List (Nat × Nat))
 | []=>some []
 | (t,k) :: r=>match look st.env t,LW st r with
  | some (.s (.one c)),some as=>match LS c with
   | some n=>match look as k with
    | some _=>some as
    | none=>some ((k,n) :: as)
   | none=>none
  | _,_=>none
def Ic (st:St) (an:iz):Option (List Nat):=
 match LW st an.refs with
 | some as1=>match tC st.aF 0 an.aO as1 with
  | some as2=>r8 as2 0 an.aO.length
  | none=>none
 | none=>none
def se (st:St) (an:iz) (ν:List Nat):List (Nat × Nat)->Bool
 | []=>true
 | (t,k) :: r=>(match look st.env t with
  | some (.s (.one c))=>fX false st.aF an.aO ν k c
  | _=>false) && se st an ν r
def wo (st:St) (an:iz) (y:PD an.aO):List (Nat × Nat)->List Prop
 | []=>[]
 | (t,k) :: r=>(match look st.env t with
  | some (.s (.one c))=>oZ an.aO y k c
  | _=>[])++wo st an y r
def sf (an:iz) (y:PD an.aO) (us:List Nat):List (Nat × Nat)->List (Nat × SV)
 | []=>[]
 | (t,k) :: r=>(t, .s (.one (eO an.aO y us k))) :: sf an y us r
def wq (an:iz) (st:St) (x:an.X):List (Nat × SV):=an.aQ x++lP st an.aU
def mS (an:iz) (st:St) (x:an.X):List (Nat × OC):=an.aF x++fH st an.fY
def cI (an:iz) (st:St) (x:an.X):St:=
 {env:=sf an (an.pd x) (upto st.next an.aO.length) an.refs++wq an st x,
  aF:=il (eO an.aO (an.pd x) (upto st.next an.aO.length)) an.aO (an.pd x) (upto st.next an.aO.length)++mS an st x,next:=st.next + an.aO.length}
def nf (ν:List Nat):List (Nat × OC)->Bool
 | []=>true
 | (n,_) :: r => !(kD n ν) && nf ν r
def sg (aU:List Nat):List (Nat × Nat)->Bool
 | []=>true
 | (t,_) :: r => !(qw t aU) && sg aU r
def pK (an:iz) (st:St) (W:List Nat) (x:an.X):Bool:=fI st.next (wq an st x) && (fy st.next (mS an st x) && (jo W (an.aQ x) && sg an.aU an.refs))
def BG (st:St) (an:iz):iz:=
 {an with aU:=(AO st.env an.aU).filter (fun t=>sg [t] an.refs),fY:=match an.fY with
  | []=>ou (an.dq++(match Ic st an with | some l=>l | none=>[])) st.aF
  | l=>l}
def wu (an:iz) (st st':St) (more:an.X->Prop):VC:=
 match Ic st' an with
 | some ν=>match nodupB ν && (se st' an ν an.refs),cX false st'.aF an.aO ν an.aO ν with
  | true,some y => .leaf (F8 (wo st' an y an.refs++fB an.aO y st'.aF an.aO ν++[∃x',an.inv x'/\more x'/\jZ st' (an.aQ x')/\j0 st' (an.aF x'++fH st an.fY)/\(nf ν (mS an st x')=true/\y=an.pd x')]))
  | _,_ => .ff
 | none => .ff
def AP (cx:Cx) (ops:Array Oper) (draw:Bool) (st:St) (K:St->VC):VC:=
 match draw with
 | false=>AJ cx ops.toList ops.toList st K
 | true=>match qm ops with
  | true=>M1 cx ops st fun st'=>K (canon st.next (eA ops.toList) st')
  | false => .ff
def jq:Code->Nat->Nat
 | .region id _ _,_=>id
 | .seq a b,d=>jq a (jq b d)
 | .cond _ a b,d=>jq a (jq b d)
 | .block _ b,d=>jq b d
 | .loop b,d=>jq b d
 | _,d=>d
def vc (cx:Cx) (anns:cy):Code->Nat->St->(Ex->St->VC)->VC
 | .skip,_,st,K=>K .normal st
 | .region id ops draw,_,st,K=>match (look anns (id + 300000)).map (fun f=>tD st (f st)) with
  | none=>AP cx ops draw st (K .normal)
  | some an=>match ot an.aU (eA ops.toList) with
   | true => .both (AP cx ops draw st (gX an st))
    (.all an.X fun x => .imp (an.inv x) (match fI st.next (bP an st x).env && (fy st.next (bP an st x).aF && jo (eA ops.toList) (an.aQ x)) with
     | true=>K .normal (bP an st x)
     | false => .ff))
   | false => .ff
 | .seq a b,cur,st,K=>vc cx anns a cur st fun e st'=>match e with
  | .normal=>vc cx anns b cur st' K
  | e=>K e st'
 | .cond c a b,cur,st,K=>match (look anns (jq a (jq b 0) + 400000)).map (fun f=>tD st (f st)) with
  | none=>match cS st.env c with
   | .lit true=>vc cx anns a cur st K
   | .lit false=>vc cx anns b cur st K
   | .d .bool g => .ite g (vc cx anns a cur st K) (vc cx anns b cur st K)
   | _ => .ff
  | some an=>match ot an.aU (writes anns cur (.cond c a b)) with
   | true => .both (match cS st.env c with
    | .lit true=>vc cx anns a cur st fun e st'=>match e with
     | .normal=>gX an st st'
     | e=>K e st'
    | .lit false=>vc cx anns b cur st fun e st'=>match e with
     | .normal=>gX an st st'
     | e=>K e st'
    | .d .bool g => .ite g (vc cx anns a cur st fun e st'=>match e with
     | .normal=>gX an st st'
     | e=>K e st') (vc cx anns b cur st fun e st'=>match e with
     | .normal=>gX an st st'
     | e=>K e st')
    | _ => .ff)
    (.all an.X fun x => .imp (an.inv x) (match fI st.next (bP an st x).env && (fy st.next (bP an st x).aF && jo (writes anns cur (.cond c a b)) (an.aQ x)) with
     | true=>K .normal (bP an st x)
     | false => .ff))
   | false => .ff
 | .block id b,_,st,K=>match (look anns (id + 100000)).map (fun f=>tD st (f st)) with
  | none=>vc cx anns b id st fun e st'=>match e with
   | .exit i=>match Nat.beq i id with
    | true=>K .normal st'
    | false=>K (.exit i) st'
   | e=>K e st'
  | some an=>match ot an.aU (writes anns id b) with
   | true => .both (vc cx anns b id st fun e st'=>match e with
    | .exit i=>match Nat.beq i id with
     | true=>gX an st st'
     | false=>K (.exit i) st'
    | .normal=>gX an st st'
    | .ret=>K .ret st')
    (.all an.X fun x => .imp (an.inv x) (match fI st.next (bP an st x).env && (fy st.next (bP an st x).aF && jo (writes anns id b) (an.aQ x)) with
     | true=>K .normal (bP an st x)
     | false => .ff))
   | false => .ff
 | .loop b,cur,st,K=>match look anns (cur + 200000) with
  | none=>match (look anns cur).map (fun f=>tD st (f st)) with
   | some an=>match ot an.aU (writes anns cur b) with
    | true => .and (∃x,an.inv x/\jZ st (an.aQ x)/\j0 st (an.aF x))
      (.all an.X fun x => .imp (an.inv x) (match fI st.next (bP an st x).env && (fy st.next (bP an st x).aF && jo (writes anns cur b) (an.aQ x)) with
       | true=>vc cx anns b cur (bP an st x) fun e st'=>match e with
        | .normal=>match jn st'.env an.aU with
         | true => .leaf (∃x',an.inv x'/\an.aW x' < an.aW x/\jZ st' (an.aQ x')/\j0 st' (an.aF x'++fH st an.fY))
         | false => .ff
        | e=>K e st'
       | false => .ff))
    | false => .ff
   | none => .leaf (Ml cur st)
  | some f=>match BG st (f st) with
   | an=>match ot an.aU (writes anns cur b) with
    | true => .both (wu an st st fun _=>True)
      (.all an.X fun x => .imp (an.inv x) (match pK an st (writes anns cur b) x with
       | true=>vc cx anns b cur (cI an st x) fun e st'=>match e with
        | .normal=>match jn st'.env an.aU with
         | true=>wu an st st' fun x'=>an.aW x' < an.aW x
         | false => .ff
        | e=>K e st'
       | false => .ff))
    | false => .ff
 | .exit id,_,st,K=>K (.exit id) st
 | .ret,_,st,K=>K .ret st
 | _,_,_,_ => .ff
section
variable {X:Ext} {P:Program} {cx:Cx}
theorem yl {S:bD} {a b:C} {v:Value} (h:qv a b) (hv:CR cx.eT S a v):CR cx.eT S b v:=by
 unfold qv at h
 split at h
 ·subst h;exact cY.2 hv
 ·split at h
  ·rename_i hb
   subst h
   exact ig hb _ hv
  ·exact h.elim
 ·split at h
  ·rename_i t xs n t' ys m _ hb hn
   have hn:=Nat.eq_of_beq_eq_true hn
   subst hn
   have:t=t':=by have:=Ty.eq_of_beq hb;cases this;rfl
   subst this
   rw [dJ] at h
   subst h
   exact hv
  ·exact h.elim
 ·subst h;exact hv
theorem wv {S:bD} {a b:SV} {v:Value} (h:mu a b) (hv:cP cx.eT S a v):cP cx.eT S b v:=by
 unfold mu at h
 split at h
 ·exact yl h hv
 ·subst h;exact hv
theorem wx {S:bD}:∀{as bs:List C} {vs:List Value},sd as bs->cV cx.eT S as vs->cV cx.eT S bs vs:=by
 intro as
 induction as with
 | nil=>
  intro bs vs h hv
  cases bs with
  | nil=>exact hv
  | cons=>exact h.elim
 | cons a as ih=>
  intro bs vs h hv
  cases bs with
  | nil=>exact h.elim
  | cons b bs=>
   cases hv with
   | cons h1 h2 h3=>exact .cons (yl h.1 h1) h2 (ih h.2 h3)
theorem wy {S:bD} {l:Loc} {a b:OC} (h:jm a b) (hv:OR cx.eT X S l a):OR cx.eT X S l b/\aT l l a b/\a.lo=b.lo:=by
 unfold jm at h
 split at h
 ·split at h
  ·rename_i hT
   have:=Nat.eq_of_beq_eq_true hT
   subst this
   obtain ⟨b,vs,h1,h2,h3,h4⟩:=hv
   exact ⟨⟨b,vs,h1,h2,h3,wx h h4⟩,rfl,rfl⟩
  ·exact h.elim
 ·split at h
  ·rename_i t xs t' ys hb
   have:t=t':=by have:=Ty.eq_of_beq hb;cases this;rfl
   subst this;rw [dJ] at h;subst h
   exact ⟨hv,rfl,rfl⟩
  ·exact h.elim
 ·split at h
  ·rename_i t xs t' ys hb
   have:t=t':=by have:=Ty.eq_of_beq hb;cases this;rfl
   subst this;rw [dJ] at h;subst h
   exact ⟨hv,rfl,rfl⟩
  ·exact h.elim
 ·split at h
  ·rename_i t xs t' ys hb
   have:t=t':=by have:=Ty.eq_of_beq hb;cases this;rfl
   subst this;rw [dJ] at h;subst h
   exact ⟨hv,⟨rfl,Nat.le_refl _,fun _=>rfl⟩,rfl⟩
  ·exact h.elim
 ·split at h
  ·rename_i k t x k' t' y hk hb
   have:=Nat.eq_of_beq_eq_true hk
   subst this
   have:=Ty.eq_of_beq hb
   subst this;rw [fR] at h;subst h
   exact ⟨hv,⟨rfl,rfl⟩,rfl⟩
  ·exact h.elim
 ·obtain ⟨h1,rfl,rfl⟩:=h
  obtain ⟨b,m,c,sn,k1,k2,k3,k4,k5,k6⟩:=hv
  exact ⟨⟨b,m,c,sn,k1,k2,k3,wx h1 k4,k5,k6⟩,trivial,rfl⟩
 ·exact h.elim
theorem qx {n:Nat} {l:List Nat}:qw n l=true ↔ n∈l:=by
 induction l with
 | nil=>simp [qw]
 | cons m r ih=>
  simp only [qw,List.mem_cons]
  by_cases h:m=n
  ·subst h;simp [Nat.beq_refl]
  ·rw [jR h];simp only [ih]
   constructor
   ·exact .inr
   ·rintro (h' | h')
    ·exact absurd h'.symm h
    ·exact h'
theorem ov {l W:List Nat} (h:ot l W=true):∀n∈l,allM∉W/\n∉W:=by
 intro n hn
 unfold ot at h
 split at h
 ·simp at hn
 ·simp only [Bool.and_eq_true,List.all_eq_true,Bool.not_eq_true'] at h
  exact ⟨fun hW=>by rw [qx.2 hW] at h;exact absurd h.1 (by decide),fun hW=>by have:=h.2 n hn;rw [qx.2 hW] at this;cases this⟩
def ow (cx:Cx) (X:Ext) (O:aH) (K:Ex->St->VC) (W:List Nat) (st:St) (S:bD):Exit->Act->World->Prop
 | .normal,a,w=>dP cx X O (K .normal) W st S a w
 | .exit n,a,w=>dP cx X O (K (.exit n)) W st S a w
 | .ret,a,w=>dP cx X O (K .ret) W st S a w
 | _,_,_=>False
theorem ow.mono {O:aH} {K:Ex->St->VC} {W W':List Nat} {st st1:St} {S S1:bD} {e:Exit} {a:Act} {w:World} (h:ow cx X O K W st1 S1 e a w) (ht:Tr S S1) (ha:kq W' st st1) (hW:∀n∈W,n∈W'):ow cx X O K W' st S e a w:=by
 have key:∀K:St->VC,dP cx X O K W st1 S1 a w->dP cx X O K W' st S a w:=by
  rintro K ⟨st',loc',k1,k2,k3,k4,k5⟩
  exact ⟨st',loc',k1,k2,ht.trans k3,k4,ha.trans fun hm t ht=>k5 (fun h=>hm (hW _ h)) t fun h=>ht (hW t h)⟩
 cases e with
 | normal=>exact key _ h
 | exit n=>exact key _ h
 | ret=>exact key _ h
 | goto l=>exact h
 | panic c=>exact h
 | outgrown=>exact h
theorem eP {st:St} {l:List Nat} {n:Nat} {v:SV} (h:look (lP st l) n=some v):n∈l/\look st.env n=some v:=by
 induction l with
 | nil=>simp [lP,look] at h
 | cons t r ih=>
  simp only [lP] at h
  split at h
  ·rename_i u hu
   rw [cm] at h
   by_cases e:t=n
   ·rw [if_pos e] at h;cases h;subst e;exact ⟨by simp,hu⟩
   ·rw [if_neg e] at h;have:=ih h;exact ⟨by simp [this.1],this.2⟩
  ·have:=ih h;exact ⟨by simp [this.1],this.2⟩
theorem Az {st:St} {l:List Nat} {n:Nat} {v:OC} (h:look (fH st l) n=some v):look st.aF n=some v:=by
 induction l with
 | nil=>simp [fH,look] at h
 | cons t r ih=>
  simp only [fH] at h
  split at h
  ·rename_i u hu
   rw [cm] at h
   by_cases e:t=n
   ·rw [if_pos e] at h;cases h;subst e;exact hu
   ·rw [if_neg e] at h;exact ih h
  ·exact ih h
theorem j9 {st:St} {l:List (Nat × SV)} (h:jZ st l):∀{n v},look l n=some v->∃u,look st.env n=some u/\mu u v:=by
 induction l with
 | nil=>intro n v hl;simp [look] at hl
 | cons p r ih=>
  obtain ⟨m,x⟩:=p
  intro n v hl
  simp only [jZ] at h
  split at h
  ·rename_i u hu
   rw [cm] at hl
   by_cases e:m=n
   ·rw [if_pos e] at hl;cases hl;subst e;exact ⟨u,hu,h.1⟩
   ·rw [if_neg e] at hl;exact ih h.2 hl
  ·exact h.elim
theorem ka {st:St} {l:List (Nat × OC)} (h:j0 st l):∀{n v},look l n=some v->∃u,look st.aF n=some u/\jm u v:=by
 induction l with
 | nil=>intro n v hl;simp [look] at hl
 | cons p r ih=>
  obtain ⟨m,x⟩:=p
  intro n v hl
  simp only [j0] at h
  split at h
  ·rename_i u hu
   rw [cm] at hl
   by_cases e:m=n
   ·rw [if_pos e] at hl;cases hl;subst e;exact ⟨u,hu,h.1⟩
   ·rw [if_neg e] at hl;exact ih h.2 hl
  ·exact h.elim
theorem cz {a b:Nat} (h:Nat.blt a b=true):a < b:=jS h
theorem Gd {S S':bD} (hO:∀b o v,¬ S.A b o->S.w.cell? ⟨b,o,none⟩=some v->S'.w.cell? ⟨b,o,none⟩=some v/\¬ S'.A b o) (hloc:S'.loc=S.loc)
  (hob:∀n oc,S'.ob n=some oc->∃oc0,S.ob n=some oc0/\aT (S.loc n) (S.loc n) oc0 oc) {c:C} {v:Value} (hb:mv S'.next c=true) (hv:CR cx.eT S c v):CR cx.eT S' c v:=by
 cases c with
 | lit b=>exact hv
 | d t x=>exact VR.frame hv hO
 | app t xs n=>
  obtain ⟨h1,h2,h3⟩:=hv
  refine ⟨VR.frame h1 hO,cz hb,fun ys hy => ?_⟩
  obtain ⟨oc0,k1,k2⟩:=hob n _ hy
  cases oc0 <;> simp [aT] at k2
  obtain ⟨rfl,k3⟩:=k2
  obtain ⟨m1,m2⟩:=h3 _ k1
  rw [hloc]
  exact ⟨by omega,fun e=>m2 (by omega)⟩
 | fQ=>exact hv
 | eH=>exact hv
 | emp=>exact hv
 | aV n=>
  refine ⟨cz hb,fun t xs e => ?_⟩
  obtain ⟨oc0,k1,k2⟩:=hob n _ e
  cases oc0 <;> simp [aT] at k2
  rw [hloc];exact hv.2 _ _ k1
 | kU n t lo len=>
  refine ⟨cz hb,fun xs e => ?_⟩
  obtain ⟨oc0,k1,k2⟩:=hob n _ e
  cases oc0 <;> simp [aT] at k2
  subst k2
  rw [hloc];exact hv.2 _ k1
 | kA n=>
  refine ⟨cz hb,fun t xs e => ?_⟩
  obtain ⟨oc0,k1,k2⟩:=hob n _ e
  cases oc0 <;> simp [aT] at k2
  rw [hloc];exact hv.2 _ _ k1
 | du n=>
  refine ⟨cz hb,fun oc e hx => ?_⟩
  obtain ⟨oc0,k1,k2⟩:=hob n _ e
  rw [hloc];exact hv.2 _ k1 (by cases oc0 <;> cases oc <;> first | rfl | exact k2.elim | cases hx)
 | xd n p=>
  refine ⟨cz hb,fun t x e => ?_⟩
  obtain ⟨oc0,k1,k2⟩:=hob n _ e
  cases oc0 <;> simp [aT] at k2
  obtain ⟨rfl,rfl⟩:=k2
  rw [hloc];exact hv.2 _ _ k1
 | ref n off=>
  refine ⟨cz hb,fun T cs e => ?_⟩
  obtain ⟨oc0,k1,k2⟩:=hob n _ e
  cases oc0 <;> simp [aT] at k2
  rw [hloc];exact hv.2 _ _ k1
 | nk n=>
  refine ⟨cz hb,?_⟩
  rcases hv.2 with hn | hn
  ·exact .inl hn
  ·refine .inr fun T cs e => ?_
   obtain ⟨oc0,k1,k2⟩:=hob n _ e
   cases oc0 <;> simp [aT] at k2
   rw [hloc];exact hn _ _ k1
 | ib n t i off=>
  refine ⟨cz hb,fun ⟨xs,e⟩ => ?_⟩
  rw [hloc]
  rcases e with e | e
  ·obtain ⟨oc0,k1,k2⟩:=hob n _ e
   cases oc0 <;> simp [aT] at k2
   subst k2;exact hv.2 ⟨_, .inl k1⟩
  ·obtain ⟨oc0,k1,k2⟩:=hob n _ e
   cases oc0 <;> simp [aT] at k2
   subst k2;exact hv.2 ⟨_, .inr k1⟩
 | kV t x=>
  obtain ⟨b,o,us,rfl,h1,h2⟩:=hv
  exact ⟨b,o,us,rfl,h1.frame hO,h2.frame hO⟩
 | fn f caps=>
  obtain ⟨rfl,h2⟩:=hv
  refine ⟨by rw [hloc],fun n hn=>⟨?_,fun t ys e => ?_⟩⟩
  ·have:∀l:List Nat,gB S'.next l=true->n∈l->n < S'.next:=by
    intro l
    induction l with
    | nil=>intro _ h;simp at h
    | cons m r ih=>
     intro h hm
     simp only [gB,Bool.and_eq_true] at h
     rcases List.mem_cons.1 hm with rfl | hm
     ·exact cz h.1
     ·exact ih h.2 hm
   exact this caps hb hn
  ·obtain ⟨oc0,k1,k2⟩:=hob n _ e
   cases oc0 <;> simp [aT] at k2
   exact (h2 n hn).2 _ _ k1
 | any=>trivial
theorem pL {k:Nat}:∀{l:List Nat} {n:Nat},gB k l=true->n∈l->n < k
 | [],_,_,h=>by simp at h
 | m :: r,n,h,hn=>by
  simp only [gB,Bool.and_eq_true] at h
  rcases List.mem_cons.1 hn with e | hn
  ·rw [e];exact cz h.1
  ·exact pL h.2 hn
theorem nB {S S':bD} {k:Nat} (hrel:∀{c:C} {v:Value},mv k c=true->CR cx.eT S c v->CR cx.eT S' c v):∀{cs:List C} {vs:List Value},kQ k cs=true->cV cx.eT S cs vs->cV cx.eT S' cs vs:=by
 intro cs
 induction cs with
 | nil=>intro vs _ h;cases h;exact .nil
 | cons c cs ih=>
  intro vs hb h
  simp only [kQ,Bool.and_eq_true] at hb
  cases h with
  | cons h1 h2 h3=>exact .cons (hrel hb.1 h1) h2 (ih hb.2 h3)
theorem DI {S S':bD} (hO:∀b o v,¬ S.A b o->S.w.cell? ⟨b,o,none⟩=some v->S'.w.cell? ⟨b,o,none⟩=some v/\¬ S'.A b o) {k:Nat} (hk:k<=S'.next) (hloc:∀n,n < k->S'.loc n=S.loc n)
  (hob:∀n oc,n < k->S'.ob n=some oc->∃oc0,S.ob n=some oc0/\aT (S.loc n) (S.loc n) oc0 oc) {c:C} {v:Value} (hb:mv k c=true) (hv:CR cx.eT S c v):CR cx.eT S' c v:=by
 cases c with
 | lit b=>exact hv
 | d t x=>exact VR.frame hv hO
 | app t xs n=>
  obtain ⟨h1,h2,h3⟩:=hv
  refine ⟨VR.frame h1 hO,Nat.lt_of_lt_of_le (cz hb) hk,fun ys hy => ?_⟩
  obtain ⟨oc0,k1,k2⟩:=hob n _ (cz hb) hy
  cases oc0 <;> simp [aT] at k2
  obtain ⟨rfl,k3⟩:=k2
  obtain ⟨m1,m2⟩:=h3 _ k1
  rw [hloc n (cz hb)]
  exact ⟨by omega,fun e=>m2 (by omega)⟩
 | fQ=>exact hv
 | eH=>exact hv
 | emp=>exact hv
 | aV n=>
  refine ⟨Nat.lt_of_lt_of_le (cz hb) hk,fun t xs e => ?_⟩
  obtain ⟨oc0,k1,k2⟩:=hob n _ (cz hb) e
  cases oc0 <;> simp [aT] at k2
  rw [hloc n (cz hb)];exact hv.2 _ _ k1
 | kU n t lo len=>
  refine ⟨Nat.lt_of_lt_of_le (cz hb) hk,fun xs e => ?_⟩
  obtain ⟨oc0,k1,k2⟩:=hob n _ (cz hb) e
  cases oc0 <;> simp [aT] at k2
  subst k2
  rw [hloc n (cz hb)];exact hv.2 _ k1
 | kA n=>
  refine ⟨Nat.lt_of_lt_of_le (cz hb) hk,fun t xs e => ?_⟩
  obtain ⟨oc0,k1,k2⟩:=hob n _ (cz hb) e
  cases oc0 <;> simp [aT] at k2
  rw [hloc n (cz hb)];exact hv.2 _ _ k1
 | du n=>
  refine ⟨Nat.lt_of_lt_of_le (cz hb) hk,fun oc e hx => ?_⟩
  obtain ⟨oc0,k1,k2⟩:=hob n _ (cz hb) e
  rw [hloc n (cz hb)];exact hv.2 _ k1 (by cases oc0 <;> cases oc <;> first | rfl | exact k2.elim | cases hx)
 | xd n p=>
  refine ⟨Nat.lt_of_lt_of_le (cz hb) hk,fun t x e => ?_⟩
  obtain ⟨oc0,k1,k2⟩:=hob n _ (cz hb) e
  cases oc0 <;> simp [aT] at k2
  obtain ⟨rfl,rfl⟩:=k2
  rw [hloc n (cz hb)];exact hv.2 _ _ k1
 | ref n off=>
  refine ⟨Nat.lt_of_lt_of_le (cz hb) hk,fun T cs e => ?_⟩
  obtain ⟨oc0,k1,k2⟩:=hob n _ (cz hb) e
  cases oc0 <;> simp [aT] at k2
  rw [hloc n (cz hb)];exact hv.2 _ _ k1
 | nk n=>
  refine ⟨Nat.lt_of_lt_of_le (cz hb) hk,?_⟩
  rcases hv.2 with hn | hn
  ·exact .inl hn
  ·refine .inr fun T cs e => ?_
   obtain ⟨oc0,k1,k2⟩:=hob n _ (cz hb) e
   cases oc0 <;> simp [aT] at k2
   rw [hloc n (cz hb)];exact hn _ _ k1
 | ib n t i off=>
  refine ⟨Nat.lt_of_lt_of_le (cz hb) hk,fun ⟨xs,e⟩ => ?_⟩
  rw [hloc n (cz hb)]
  rcases e with e | e
  ·obtain ⟨oc0,k1,k2⟩:=hob n _ (cz hb) e
   cases oc0 <;> simp [aT] at k2
   subst k2;exact hv.2 ⟨_, .inl k1⟩
  ·obtain ⟨oc0,k1,k2⟩:=hob n _ (cz hb) e
   cases oc0 <;> simp [aT] at k2
   subst k2;exact hv.2 ⟨_, .inr k1⟩
 | kV t x=>
  obtain ⟨b,o,us,rfl,h1,h2⟩:=hv
  exact ⟨b,o,us,rfl,h1.frame hO,h2.frame hO⟩
 | fn f caps=>
  obtain ⟨rfl,h2⟩:=hv
  have hlt:∀n∈caps,n < k:=fun n hn=>pL hb hn
  refine ⟨by rw [show (caps.map fun n=>(S.loc n).v)=(caps.map fun n=>(S'.loc n).v) from List.map_congr_left fun n hn=>by rw [hloc n (hlt n hn)]],fun n hn=>⟨Nat.lt_of_lt_of_le (hlt n hn) hk,fun t ys e => ?_⟩⟩
  obtain ⟨oc0,k1,k2⟩:=hob n _ (hlt n hn) e
  cases oc0 <;> simp [aT] at k2
  exact (h2 n hn).2 _ _ k1
 | any=>trivial
theorem aT.comp {l1 l2 l3:Loc} {a b c:OC} (h:aT l1 l2 a b) (h':aT l2 l3 b c):aT l1 l3 a c:=by
 cases a <;> cases b <;> simp [aT] at h <;> cases c <;> simp [aT] at h' ⊢
 all_goals (try (simp_all;done))
 obtain ⟨rfl,a1,a2⟩:=h
 obtain ⟨rfl,b1,b2⟩:=h'
 refine ⟨rfl,by omega,fun e => ?_⟩
 rw [b2 (by omega),a2 (by omega)]
theorem o3 {S S':bD} (hrel:∀{c:C} {v:Value},mv S'.next c=true->CR cx.eT S c v->CR cx.eT S' c v):∀{cs:List C} {vs:List Value},kQ S'.next cs=true->cV cx.eT S cs vs->cV cx.eT S' cs vs:=by
 intro cs
 induction cs with
 | nil=>intro vs _ h;cases h;exact .nil
 | cons c cs ih=>
  intro vs hb h
  simp only [kQ,Bool.and_eq_true] at hb
  cases h with
  | cons h1 h2 h3=>exact .cons (hrel hb.1 h1) h2 (ih hb.2 h3)
theorem ry {k:Nat}:∀{l:List (Nat × SV)},fI k l=true->∀{n v},look l n=some v->∃v0,v = .s v0/\BF k v0=true:=by
 intro l
 induction l with
 | nil=>intro _ n v h;simp [look] at h
 | cons p r ih=>
  obtain ⟨m,x⟩:=p
  intro hb n v h
  cases x with
  | jL vs=>simp [fI] at hb
  | s v0=>
   simp only [fI,Bool.and_eq_true] at hb
   rw [cm] at h
   by_cases e:m=n
   ·rw [if_pos e] at h;cases h;exact ⟨v0,rfl,hb.1⟩
   ·rw [if_neg e] at h;exact ih hb.2 h
theorem jD {k:Nat}:∀{l:List (Nat × OC)},fy k l=true->∀{n v},look l n=some v->n < k/\E2 k v=true:=by
 intro l
 induction l with
 | nil=>intro _ n v h;simp [look] at h
 | cons p r ih=>
  obtain ⟨m,x⟩:=p
  intro hb n v h
  simp only [fy,Bool.and_eq_true] at hb
  rw [cm] at h
  by_cases e:m=n
  ·rw [if_pos e] at h;cases h;subst e;exact ⟨cz hb.1.1,hb.1.2⟩
  ·rw [if_neg e] at h;exact ih hb.2 h
theorem qy {an:iz} {O:aH} {st st':St} {loc loc0:Nat->Loc} {w w0:World} {a:Act} (x:an.X) (g:Good cx.eT X (aB O st' loc w)) (hA:fw cx (aB O st' loc w) st' a) (ht:Tr (aB O st loc0 w0) (aB O st' loc w))
  (he:∀n v,look (bP an st x).env n=some v->∃u,look st'.env n=some u/\mu u v)
  (ho:∀n v,look (bP an st x).aF n=some v->∃u,look st'.aF n=some u/\jm u v)
  (hb1:fI st.next (bP an st x).env=true) (hb2:fy st.next (bP an st x).aF=true) :
  Good cx.eT X (aB O (bP an st x) loc w)/\fw cx (aB O (bP an st x) loc w) (bP an st x) a/\Tr (aB O st loc0 w0) (aB O (bP an st x) loc w):=by
 have hob:∀n oc,look (bP an st x).aF n=some oc->∃oc0,look st'.aF n=some oc0/\aT (loc n) (loc n) oc0 oc/\oc0.lo=oc.lo/\OR cx.eT X (aB O st' loc w) (loc n) oc:=by
  intro n oc h
  obtain ⟨u,hu,hs⟩:=ho n oc h
  obtain ⟨h1,h2,h3⟩:=wy hs (g.obj n u hu).2
  exact ⟨u,hu,h2,h3,h1⟩
 have hAsub:∀b o,(aB O (bP an st x) loc w).A b o->(aB O st' loc w).A b o:=by
  rintro b o (h | ⟨n,oc,h1,h2,h3⟩)
  ·exact .inl h
  ·obtain ⟨oc0,k1,_,k3,_⟩:=hob n oc h1
   exact .inr ⟨n,oc0,k1,h2,by rw [k3];exact h3⟩
 have hcell:∀b o v,¬ (aB O st' loc w).A b o->w.cell? ⟨b,o,none⟩=some v->w.cell? ⟨b,o,none⟩=some v/\¬ (aB O (bP an st x) loc w).A b o:=fun b o v h1 h2=>⟨h2,fun h=>h1 (hAsub b o h)⟩
 have hrel:∀{c:C} {v:Value},mv st.next c=true->CR cx.eT (aB O st' loc w) c v->CR cx.eT (aB O (bP an st x) loc w) c v:=fun hb hv=>
  Gd (S:=aB O st' loc w) (S':=aB O (bP an st x) loc w) hcell rfl (fun n oc h=>let ⟨oc0,k1,k2,_⟩:=hob n oc h;⟨oc0,k1,k2⟩) hb hv
 have hor:∀n oc,look (bP an st x).aF n=some oc->OR cx.eT X (aB O (bP an st x) loc w) (loc n) oc:=by
  intro n oc h
  obtain ⟨_,_,_,_,k4⟩:=hob n oc h
  have hb:=(jD hb2 h).2
  cases oc with
  | cells T cs=>
   obtain ⟨b,vs,h1,h2,h3,h4⟩:=k4
   exact ⟨b,vs,h1,h2,h3,o3 hrel hb h4⟩
  | aV t xs=>
   rcases k4 with k4 | ⟨b,vs,T,cap,h1,h2,h3,h4,h5,h6,h7⟩
   ·exact .inl k4
   ·exact .inr ⟨b,vs,T,cap,h1,h2,h3,h4,h5,h6,fun i y hy=>let ⟨us,r1,r2⟩:=h7 i y hy;⟨us,r1.frame hcell,r2⟩⟩
  | arr t xs=>
   obtain ⟨b,vs,T,h1,h2,h3,h4,h5⟩:=k4
   exact ⟨b,vs,T,h1,h2,h3,h4,fun i y hy=>let ⟨us,r1,r2⟩:=h5 i y hy;⟨us,r1.frame hcell,r2⟩⟩
  | tok t xs=>
   rcases k4 with k4 | ⟨b,vs,T,cap,h1,h2,h3,h4,h5,h6,h7⟩
   ·exact .inl k4
   ·exact .inr ⟨b,vs,T,cap,h1,h2,h3,h4,h5,h6,fun i y hy=>let ⟨us,r1,r2⟩:=h7 i y hy;⟨us,r1.frame hcell,r2⟩⟩
  | ext k t x=>exact k4
  | iter cs seen cl=>obtain ⟨b,m,c,sn,k1,k2,k3,k4,k5⟩:=k4;exact ⟨b,m,c,sn,k1,k2,k3,o3 hrel hb k4,k5⟩
 refine ⟨⟨fun n oc h=>⟨(jD hb2 h).1,hor n oc h⟩,fun n m oc oc' b h1 h2 h3 h4 => ?_,fun n oc b off h1 h2 => ?_,g.kB.sub rfl fun b ⟨n,oc,h1,h2⟩=>by obtain ⟨oc0,k1,_⟩:=hob n oc h1;exact ⟨n,oc0,k1,h2⟩⟩,⟨hA.size,hA.defers,fun n v h => ?_⟩,?_⟩
 ·obtain ⟨oc0,k1,_⟩:=hob n oc h1
  obtain ⟨oc0',k1',_⟩:=hob m oc' h2
  exact g.apart n m oc0 oc0' b k1 k1' h3 h4
 ·obtain ⟨oc0,k1,_⟩:=hob n oc h1
  exact g.out n oc0 b off k1 h2
 ·obtain ⟨u,hu,hs⟩:=he n v h
  have hv:=wv hs (hA.env n u hu)
  obtain ⟨v0,rfl,hb⟩:=ry hb1 h
  cases v0 with
  | one c=>exact hrel hb hv
  | agg cs=>obtain ⟨vs,h1,h2⟩:=hv;exact ⟨vs,h1,o3 hrel hb h2⟩
 ·refine {O:=ht.O,next:=Nat.le_refl _,os:=ht.os,output:=ht.output,size:=ht.size,own:=fun b hb => ?_,cell:=fun b o v h1 h2 => ?_,block:=ht.block,loc:=ht.loc,kind:=fun n oc hn h => ?_}
  ·obtain ⟨n,oc,h1,h2⟩:=hb
   obtain ⟨oc0,k1,_⟩:=hob n oc h1
   exact ht.own b ⟨n,oc0,k1,h2⟩
  ·obtain ⟨k1,k2⟩:=ht.cell b o v h1 h2
   exact ⟨k1,fun h=>k2 (hAsub b o h)⟩
  ·obtain ⟨oc0,k1,k2,_⟩:=hob n oc h
   obtain ⟨oc1,m1,m2⟩:=ht.kind n oc0 hn k1
   exact ⟨oc1,m1,m2.comp k2⟩
theorem Ty.beq_refl:∀t:Ty,Ty.beq t t=true:=by
 intro t
 induction t with
 | prod a b iha ihb=>simp [Ty.beq,iha,ihb]
 | slice e ih=>simp [Ty.beq,ih]
 | int k=>simp [Ty.beq]
 | _=>rfl
theorem wz (c:C):qv c c:=by
 cases c with
 | d t x=>
  simp only [qv]
  split
  ·rfl
  ·rename_i h;rw [Ty.beq_refl] at h;cases h
 | app t xs n=>
  simp only [qv]
  split
  ·rfl
  ·rename_i h;exact (h (Ty.beq_refl _) (Nat.beq_refl _)).elim
 | _=>rfl
theorem iK (v:SV):mu v v:=by
 cases v with
 | s v=>
  cases v with
  | one c=>exact wz c
  | agg cs=>rfl
 | jL vs=>rfl
theorem o4:∀cs:List C,sd cs cs
 | []=>trivial
 | c :: cs=>⟨wz c,o4 cs⟩
theorem DJ (v:OC):jm v v:=by
 cases v with
 | cells T cs=>
  simp only [jm,Nat.beq_refl]
  exact o4 cs
 | aV t xs=>
  simp only [jm]
  split
  ·rfl
  ·rename_i h;rw [Ty.beq_refl] at h;cases h
 | arr t xs=>
  simp only [jm]
  split
  ·rfl
  ·rename_i h;rw [Ty.beq_refl] at h;cases h
 | tok t xs=>
  simp only [jm]
  split
  ·rfl
  ·rename_i h;rw [Ty.beq_refl] at h;cases h
 | ext k t x=>
  simp only [jm]
  split
  ·rfl
  ·rename_i h;exact (h (Nat.beq_refl _) (Ty.beq_refl _)).elim
 | iter cs seen cl=>exact ⟨o4 cs,rfl,rfl⟩
theorem mc {W:List Nat}:∀{l:List (Nat × SV)},jo W l=true->∀{n v},look l n=some v->n∈W:=by
 intro l
 induction l with
 | nil=>intro _ n v h;simp [look] at h
 | cons p r ih=>
  obtain ⟨m,x⟩:=p
  intro hb n v h
  simp only [jo,Bool.and_eq_true] at hb
  rw [cm] at h
  by_cases e:m=n
  ·subst e;exact qx.1 hb.1
  ·rw [if_neg e] at h;exact ih hb.2 h
theorem ku {env:List (Nat × SV)}:∀{l:List Nat},jn env l=true->∀{n},n∈l->∃v,look env n=some v:=by
 intro l
 induction l with
 | nil=>intro _ n h;simp at h
 | cons t r ih=>
  intro hb n h
  simp only [jn] at hb
  split at hb
  ·rename_i u hu
   rcases List.mem_cons.1 h with rfl | h
   ·exact ⟨u,hu⟩
   ·exact ih hb h
  ·cases hb
theorem Mm {O:aH} {K:Ex->St->VC} {W:List Nat} {st:St} {S:bD} {next:Act->World->Prop} {Q:Exit->Act->World->Prop} {K':Ex->St->VC}
  (hn:∀a w,dP cx X O (K' .normal) W st S a w->next a w) (hK:∀e,e≠.normal->K' e=K e) (hQ:∀e a w,ow cx X O K W st S e a w->e≠.normal->Q e a w) {e:Exit} {a:Act} {w:World}
  (h:ow cx X O K' W st S e a w):Exit.then next Q e a w:=by
 cases e with
 | normal=>exact hn a w h
 | exit n=>exact hQ _ _ _ (by simpa [ow,hK (.exit n) (by simp)] using h) (by simp)
 | ret=>exact hQ _ _ _ (by simpa [ow,hK .ret (by simp)] using h) (by simp)
 | goto l=>exact h.elim
 | panic c=>exact h.elim
 | outgrown=>exact h.elim
structure Nd (an:iz) (st st':St) (x:an.X) (ν:List Nat):Prop where
 nodup:nodupB ν=true
 refs:se st' an ν an.refs=true
 get:cX false st'.aF an.aO ν an.aO ν=some (an.pd x)
 Od:∀p∈wo st' an (an.pd x) an.refs,p
 conds:∀p∈fB an.aO (an.pd x) st'.aF an.aO ν,p
 env:jZ st' (an.aQ x)
 aF:j0 st' (mS an st x)
 out:nf ν (mS an st x)=true
theorem ym {an:iz} {st st':St} {more:an.X->Prop} (h:(wu an st st' more).holds):∃x,an.inv x/\more x/\∃ν,Nd an st st' x ν:=by
 unfold wu at h
 split at h
 ·rename_i ν _
  split at h
  ·rename_i y hc hy
   simp only [Bool.and_eq_true] at hc
   have hall:=vg h
   obtain ⟨x,h1,h2,h3,h4,h5,h6⟩:=hall (∃x',an.inv x'/\more x'/\jZ st' (an.aQ x')/\j0 st' (an.aF x'++fH st an.fY)/\(nf ν (mS an st x')=true/\y=an.pd x')) (List.mem_append_right _ (List.mem_singleton.2 rfl))
   subst h6
   obtain ⟨k1,_⟩:=gM.1 hall
   obtain ⟨k1,k2⟩:=gM.1 k1
   exact ⟨x,h1,h2,ν,hc.1,hc.2,hy,k1,k2,h3,h4,h5⟩
  ·exact h.elim
 ·exact h.elim
theorem sh {ν:List Nat}:∀{l:List (Nat × OC)},nf ν l=true->∀{n v},look l n=some v->n∉ν
 | [],_,n,v,h=>by simp [look] at h
 | (m,u) :: r,hk,n,v,h=>by
  simp only [nf,Bool.and_eq_true,Bool.not_eq_true'] at hk
  rw [cm] at h
  split at h
  ·rename_i e;subst e
   intro hm;rw [vh.2 hm] at hk;exact absurd hk.1 (by decide)
  ·exact sh hk.2 h
theorem o5 {an:iz} {y:PD an.aO} {us:List Nat}:∀{l:List (Nat × Nat)} {t:Nat} {v:SV},look (sf an y us l) t=some v->∃k,(t,k)∈l/\v = .s (.one (eO an.aO y us k))
 | [],t,v,h=>by simp [sf,look] at h
 | (m,k) :: r,t,v,h=>by
  simp only [sf,cm] at h
  split at h
  ·rename_i e;subst e;cases h;exact ⟨k,by simp,rfl⟩
  ·obtain ⟨k',h1,h2⟩:=o5 h;exact ⟨k',by simp [h1],h2⟩
theorem wA {st:St} {an:iz} {ν:List Nat}:∀{l:List (Nat × Nat)} {t k:Nat},se st an ν l=true->(t,k)∈l->∃c,look st.env t=some (.s (.one c))/\fX false st.aF an.aO ν k c=true
 | [],_,_,_,h=>by simp at h
 | (m,i) :: r,t,k,h,hm=>by
  simp only [se,Bool.and_eq_true] at h
  rcases List.mem_cons.1 hm with e | hm
  ·cases e
   obtain ⟨h1,_⟩:=h
   split at h1
   ·rename_i c hc;exact ⟨c,hc,h1⟩
   ·cases h1
  ·exact wA h.2 hm
theorem yn {st:St} {an:iz} {y:PD an.aO}:∀{l:List (Nat × Nat)} {t k:Nat} {c:C},(∀p∈wo st an y l,p)->(t,k)∈l->look st.env t=some (.s (.one c))->∀p∈oZ an.aO y k c,p
 | [],_,_,_,_,h,_=>by simp at h
 | (m,i) :: r,t,k,c,h,hm,hl=>by
  simp only [wo] at h
  obtain ⟨h1,h2⟩:=gM.1 h
  rcases List.mem_cons.1 hm with e | hm
  ·cases e
   rw [hl] at h1
   exact h1
  ·exact yn h2 hm hl
theorem wB {aU:List Nat}:∀{l:List (Nat × Nat)} {t k:Nat},sg aU l=true->(t,k)∈l->t∉aU
 | [],_,_,_,h=>by simp at h
 | (m,i) :: r,t,k,h,hm=>by
  simp only [sg,Bool.and_eq_true,Bool.not_eq_true'] at h
  rcases List.mem_cons.1 hm with e | hm
  ·cases e
   intro hk;rw [qx.2 hk] at h;exact absurd h.1 (by decide)
  ·exact wB h.2 hm
theorem yp {an:iz} {O:aH} {st st':St} {loc loc0:Nat->Loc} {w w0:World} {a:Act} {W:List Nat} (x:an.X) (g:Good cx.eT X (aB O st' loc w)) (hA:fw cx (aB O st' loc w) st' a) (ht:Tr (aB O st loc0 w0) (aB O st' loc w))
  (hok:pK an st W x=true) (hkeep:∀n∈an.aU,∀v,look st.env n=some v->∃u,look st'.env n=some u/\mu u v) (hf:∃ν,Nd an st st' x ν) :
  ∃loc',Good cx.eT X (aB O (cI an st x) loc' w)/\fw cx (aB O (cI an st x) loc' w) (cI an st x) a/\Tr (aB O st loc0 w0) (aB O (cI an st x) loc' w):=by
 obtain ⟨ν,hf⟩:=hf
 simp only [pK,Bool.and_eq_true] at hok
 obtain ⟨hb1,hb2,hkeys,hnr⟩:=hok
 generalize husd:upto st.next an.aO.length=us
 have husl:us.length=an.aO.length:=by rw [<-husd];exact qu _ _
 have hus:nodupB us=true:=by rw [<-husd];exact gA _ _
 have husm:∀n∈us,st.next<=n/\n < st.next + an.aO.length:=fun n hn=>by rw [<-husd] at hn;exact qt hn
 have hlen:ν.length=us.length:=by rw [husl];exact (mR hf.get).symm
 let loc':=dm us (ν.map loc) loc
 have hlow:∀n,n < st.next->loc' n=loc n:=fun n hn=>kP fun hm=>by have:=(husm n hm).1;omega
 have hnu:∀n,n < st.next->n∉us:=fun n hn hm=>by have:=(husm n hm).1;omega
 have hrest:∀m oc,look (mS an st x) m=some oc->m < st.next/\m∉ν/\∃u,look st'.aF m=some u/\aT (loc m) (loc m) u oc/\u.lo=oc.lo/\OR cx.eT X (aB O st' loc w) (loc m) oc:=by
  intro m oc hm
  obtain ⟨u,hu,hs⟩:=ka hf.aF hm
  obtain ⟨h1,h2,h3⟩:=wy hs (g.obj m u hu).2
  exact ⟨(jD hb2 hm).1,sh hf.out hm,u,hu,h2,h3,h1⟩
 have hob:∀m oc,look (cI an st x).aF m=some oc->(∃(i n:Nat) (o:Ob) (y:OD o) (oc0:OC),ν[i]?=some n/\us[i]?=some m/\look st'.aF n=some oc0/\gf false st'.aF an.aO ν o oc0=some y/\
   oc=nz (eO an.aO (an.pd x) us) o y/\loc' m=loc n)\/(m∉us/\look (mS an st x) m=some oc/\loc' m=loc m):=by
  intro m oc hm
  simp only [cI,husd,cZ] at hm
  split at hm
  ·rename_i oc' hm'
   cases hm
   obtain ⟨i,n,o,y,oc0,k1,k2,k3,k4,k5,k6,_⟩:=mQ hf.get (mP (X:=X) g hf.get hf.get hf.conds) hlen hm'
   exact .inl ⟨i,n,o,y,oc0,k1,k2,k4,k5,k6,hM hus k2 (by simp [k1])⟩
  ·rename_i hm'
   have hnin:m∉us:=fun hmem=>by
    obtain ⟨oc1,h2⟩:=mq (f:=eO an.aO (an.pd x) us) (x:=an.pd x) husl.symm hmem
    rw [h2] at hm';cases hm'
   exact .inr ⟨hnin,hm,kP hnin⟩
 have hAsub:∀b o,(aB O (cI an st x) loc' w).A b o->(aB O st' loc w).A b o:=by
  rintro b off (h | ⟨m,oc,h1,h2,h3⟩)
  ·exact .inl h
  ·rcases hob m oc h1 with ⟨i,n,o,y,oc0,k1,k2,k4,k5,k6,k7⟩ | ⟨k1,k2,k3⟩
   ·refine .inr ⟨n,oc0,k4,by simp only [aB] at h2;rw [k7] at h2;exact h2,?_⟩
    rcases xK (f:=eO an.aO (an.pd x) us) k5 with e | e
    ·rw [<-e,<-k6];exact h3
    ·cases e
   ·obtain ⟨_,_,u,hu,_,hlo,_⟩:=hrest m oc k2
    exact .inr ⟨m,u,hu,by simp only [aB] at h2;rw [k3] at h2;exact h2,by rw [hlo];exact h3⟩
 have hcell:∀b o v,¬ (aB O st' loc w).A b o->w.cell? ⟨b,o,none⟩=some v->w.cell? ⟨b,o,none⟩=some v/\¬ (aB O (cI an st x) loc' w).A b o:=fun b o v h1 h2=>⟨h2,fun h=>h1 (hAsub b o h)⟩
 have hrel:∀{c:C} {v:Value},mv st.next c=true->CR cx.eT (aB O st' loc w) c v->CR cx.eT (aB O (cI an st x) loc' w) c v:=fun hb hv=>
  DI (S:=aB O st' loc w) (S':=aB O (cI an st x) loc' w) (k:=st.next) hcell (by simp [aB,cI]) (fun n hn=>hlow n hn) (fun n oc hn h=>by
   rcases hob n oc h with ⟨i,n',o,y,oc0,k1,k2,_⟩ | ⟨k1,k2,k3⟩
   ·exact absurd (List.mem_of_getElem? k2) (hnu n hn)
   ·obtain ⟨_,_,u,hu,hk,_,_⟩:=hrest n oc k2
    exact ⟨u,hu,hk⟩) hb hv
 obtain ⟨gN,laid⟩:=Gb (X:=X) g hf.get hf.conds hf.nodup (O2:=O) (ν2:=us) (rest:=mS an st x) (locR:=loc) (st2:=cI an st x) hus hlen (by simp only [cI,husd])
  (fun n hn=>by have:=(husm n hn).2;simp only [cI];exact this)
  (fun n hn b hb off h=>by
   obtain ⟨_,oc,_,_,k,_⟩:=iJ hf.get hn
   exact g.out n oc b off k hb h)
  (fun n hn b hb m oc h1 h2 h3=>by
   obtain ⟨_,oc0,_,_,k,_⟩:=iJ hf.get hn
   obtain ⟨_,hmν,u,hu,_⟩:=hrest m oc h1
   have:=g.apart n m oc0 u b k hu hb h3
   exact hmν (by rw [<-this];exact hn))
  (fun m oc h1 h2=>by
   obtain ⟨hm,_,u,hu,hk,hlo,hor⟩:=hrest m oc h1
   refine ⟨by simp only [cI];omega,?_⟩
   have hb:=(jD hb2 h1).2
   cases oc with
   | cells T cs=>
    obtain ⟨b,vs,h1,h2,h3,h4⟩:=hor
    exact ⟨b,vs,h1,h2,h3,nB (k:=st.next) hrel hb h4⟩
   | aV t xs=>exact BE.to (S:=aB O st' loc w) (S':=aB O (cI an st x) loc' w) rfl (.inr hAsub) hor
   | tok t xs=>exact BE.to (X:=X) (S:=aB O st' loc w) (S':=aB O (cI an st x) loc' w) (l:=loc m) rfl (.inr hAsub) hor
   | arr t xs=>
    obtain ⟨b,vs,T,h1,h2,h3,h4,h5⟩:=hor
    exact ⟨b,vs,T,h1,h2,h3,h4,fun i y hy=>let ⟨us,r1,r2⟩:=h5 i y hy;⟨us,r1.frame hcell,r2⟩⟩
   | ext k t x=>exact hor
   | iter cs seen cl=>obtain ⟨b,m,c,sn,k1,k2,k3,k4,k5⟩:=hor;exact ⟨b,m,c,sn,k1,k2,k3,nB (k:=st.next) hrel hb k4,k5⟩)
  (fun m m' oc oc' b h1 h2 _ _ h3 h4=>by
   obtain ⟨_,_,u,hu,_⟩:=hrest m oc h1
   obtain ⟨_,_,u',hu',_⟩:=hrest m' oc' h2
   exact g.apart m m' u u' b hu hu' h3 h4)
  (fun m oc b off h1 _ h2=>by
   obtain ⟨_,_,u,hu,_⟩:=hrest m oc h1
   exact g.out m u b off hu h2)
  (.inr hAsub)
  (fun b hb ⟨m,oc,h1,h2⟩=>by
   rcases hob m oc h1 with ⟨i,n,o,y,oc0,k1,k2,k4,k5,k6,k7⟩ | ⟨k1,k2,k3⟩
   ·refine g.kB.2 b hb ⟨n,oc0,k4,?_⟩
    have e:dm us (ν.map loc) loc m=loc n:=k7
    simp only [aB] at h2;rw [e] at h2;exact h2
   ·obtain ⟨_,_,u,hu,_⟩:=hrest m oc k2
    have e:dm us (ν.map loc) loc m=loc m:=k3
    refine g.kB.2 b hb ⟨m,u,hu,?_⟩
    simp only [aB] at h2;rw [e] at h2;exact h2)
 refine ⟨loc',gN,⟨hA.size,hA.defers,fun t sv hl => ?_⟩,?_⟩
 ·simp only [cI,husd,cZ] at hl
  split at hl
  ·rename_i v hv
   cases hl
   obtain ⟨k,hk,rfl⟩:=o5 hv
   obtain ⟨c,hc,hs⟩:=wA hf.refs hk
   have hcv:CR cx.eT (aB O st' loc w) c (a.tmps.getD t undef):=hA.env t _ hc
   exact wm laid (xJ g hcv hf.get hs (yn hf.Od hk hc))
  ·have hl2:look (wq an st x) t=some sv:=hl
   have hst:∃u,look st'.env t=some u/\mu u sv:=by
    simp only [wq,cZ] at hl2
    split at hl2
    ·rename_i v hv;cases hl2;exact j9 hf.env hv
    ·obtain ⟨h1,h2⟩:=eP hl2;exact hkeep t h1 sv h2
   obtain ⟨u,hu,hs⟩:=hst
   have hv:=wv hs (hA.env t u hu)
   obtain ⟨v0,rfl,hb⟩:=ry hb1 hl2
   cases v0 with
   | one c=>exact hrel hb hv
   | agg cs=>obtain ⟨vs,h1,h2⟩:=hv;exact ⟨vs,h1,nB (k:=st.next) hrel hb h2⟩
 ·refine {O:=ht.O,next:=by simp [aB,cI],os:=ht.os,output:=ht.output,size:=ht.size,own:=fun b hb => ?_,cell:=fun b o v h1 h2 => ?_,block:=ht.block,loc:=fun n hn hfx => ?_,kind:=fun n oc hn h => ?_}
  ·obtain ⟨m,oc,h1,h2⟩:=hb
   rcases hob m oc h1 with ⟨i,n,o,y,oc0,k1,k2,k4,k5,k6,k7⟩ | ⟨k1,k2,k3⟩
   ·exact ht.own b ⟨n,oc0,k4,by simp only [aB] at h2;rw [k7] at h2;exact h2⟩
   ·obtain ⟨_,_,u,hu,_⟩:=hrest m oc k2
    exact ht.own b ⟨m,u,hu,by simp only [aB] at h2;rw [k3] at h2;exact h2⟩
  ·obtain ⟨k1,k2⟩:=ht.cell b o v h1 h2
   exact ⟨k1,fun h=>k2 (hAsub b o h)⟩
  ·show (loc' n).v=_/\(_->loc' n=_)
   rw [hlow n hn];exact ht.loc n hn hfx
  ·rcases hob n oc h with ⟨i,n',o,y,oc0,k1,k2,_⟩ | ⟨k1,k2,k3⟩
   ·exact absurd (List.mem_of_getElem? k2) (hnu n hn)
   ·obtain ⟨_,_,u,hu,hk,_,_⟩:=hrest n oc k2
    obtain ⟨oc1,m1,m2⟩:=ht.kind n u hn hu
    refine ⟨oc1,m1,?_⟩
    show aT _ (loc' n) _ _
    rw [hlow n hn]
    exact m2.comp hk
theorem Ge {an:iz} {st:St} {W:List Nat} {x:an.X} (hok:pK an st W x=true) {n:Nat} (hn:n∈an.aU) {v:SV} (h:look (cI an st x).env n=some v) (hW:n∉W):look st.env n=some v:=by
 simp only [pK,Bool.and_eq_true] at hok
 obtain ⟨_,_,hkeys,hnr⟩:=hok
 simp only [cI,wq,cZ] at h
 split at h
 ·rename_i u hu
  obtain ⟨k,hk,_⟩:=o5 hu
  exact absurd hn (wB hnr hk)
 ·split at h
  ·rename_i u hu;exact absurd (mc hkeys hu) hW
  ·exact (eP h).2
theorem yq {O:aH} {st:St} {loc:Nat->Loc} {w:World} {an:iz} {W:List Nat} {K:St->VC} (hdis:ot an.aU W=true)
  (hk:(VC.all an.X fun x => .imp (an.inv x) (match fI st.next (bP an st x).env && (fy st.next (bP an st x).aF && jo W (an.aQ x)) with
     | true=>K (bP an st x)
     | false => .ff)).holds) {a':Act} {w':World}:dP cx X O (gX an st) W st (aB O st loc w) a' w'->dP cx X O K W st (aB O st loc w) a' w':=by
 have hkeepW:=ov hdis
 rintro ⟨st2,loc2,k1,k2,k3,k4,k5⟩
 simp only [gX] at k1
 split at k1
 case h_2=>exact k1.elim
 rename_i hpres
 obtain ⟨x',hx',hs',ho'⟩:=k1
 have hvx:=hk x' hx'
 split at hvx
 case h_2=>exact hvx.elim
 rename_i hbb
 simp only [Bool.and_eq_true] at hbb
 have hhead:∀t,t∉W->∀v,look (bP an st x').env t=some v->look st.env t=some v:=by
  intro t ht v hv
  simp only [bP,cZ] at hv
  split at hv
  ·rename_i u hu;exact absurd (mc hbb.2.2 hu) ht
  ·exact (eP hv).2
 obtain ⟨m1,m2,m3⟩:=qy (an:=an) (st:=st) x' k2 k4 k3 (by
   intro n v hv
   simp only [bP,cZ] at hv
   split at hv
   ·rename_i u hu;cases hv;exact j9 hs' hu
   ·obtain ⟨hmem,hl⟩:=eP hv
    refine ⟨v,?_,iK v⟩
    obtain ⟨v',hv'⟩:=ku hpres hmem
    have:=k5 (hkeepW n hmem).1 n (hkeepW n hmem).2 v' hv'
    rw [hl] at this
    cases this
    exact hv')
  (by
   intro n v hv
   simp only [bP] at hv
   exact ka ho' hv) hbb.1 hbb.2.1
 exact ⟨bP an st x',loc2,hvx,m1,m3,m2,fun _ t ht v hv=>hhead t ht v hv⟩
theorem yr (hok:kI P cx X) {O:aH} {id:Nat} {ops:Array Oper} {draw:Bool} {st:St} {loc:Nat->Loc} {w:World} {a:Act} {K:Ex->St->VC} (hA:fw cx (aB O st loc w) st a) (g:Good cx.eT X (aB O st loc w)) (hO:dD O w)
  (h:(AP cx ops draw st (K .normal)).holds):(Code.region id ops draw).wp P (ow cx X O K (eA ops.toList) st (aB O st loc w)) a w:=by
 have hW:∀(j:Nat) (oj:Oper) (d:Nat),ops[j]?=some oj->oj.dst=some d->d∈eA ops.toList:=by
  intro j oj d hj hd
  exact List.mem_filterMap.2 ⟨oj,by rw [<-Array.getElem?_toList] at hj;exact List.mem_of_getElem? hj,hd⟩
 have hq:∀st' loc' a' w',(K .normal st').holds->Good cx.eT X (aB O st' loc' w')->Tr (aB O st loc w) (aB O st' loc' w')->fw cx (aB O st' loc' w') st' a'->kq (eA ops.toList) st st'->
   ow cx X O K (eA ops.toList) st (aB O st loc w) .normal a' w':=fun st' loc' a' w' h1 h2 h3 h4 h5=>⟨st',loc',h1,h2,h3,h4,h5⟩
 unfold AP at h
 cases draw with
 | false=>
  refine wp_region_list ?_
  exact DG hok hW ops.toList (fun o ho d hd=>List.mem_filterMap.2 ⟨o,ho,hd⟩) hA g hO h hq
 | true=>
  split at h
  ·rename_i e;cases e
  ·rename_i e
   split at h
   ·rename_i hreg
    rw [Mh] at h
    refine wp_region_any hok.mixed (EX (loud:=gy cx ops.toList) _ _ _ _ (aB O st loc {w with drawn:=w.drawn + 1}).A ?_)
    have hdrew:Below w.heap.size w {w with drawn:=w.drawn + 1}:=⟨rfl,rfl,Nat.le_refl _,fun _ _=>rfl⟩
    obtain ⟨tr,g'⟩:=p7 (S:=aB O st loc w) (S':=aB O st loc {w with drawn:=w.drawn + 1}) g rfl rfl rfl rfl hdrew
    refine DH hok hW hreg (fun c a w h=>h) ops.size _ ?_ ⟨hA.size,hA.defers,hA.env.tr tr⟩ g' (hO.tr (Nat.le_refl _)) h ?_
    ·intro j o ho hj
     rw [Array.getD_eq_getD_getElem?,Array.getElem?_replicate] at hj
     split at hj <;> simp at hj
    ·intro st' loc' a' w' h1 h2 h3 h4 h5
     obtain ⟨st2,loc2,k1,k2,k3,k4,k5⟩:=dP.Ok (K:=K .normal) (f:=canon st.next (eA ops.toList)) (W:=eA ops.toList) hA (fun st'=>by
      rcases F7 st.next (eA ops.toList) st' with e | ⟨r,q,k1,k2⟩
      ·exact .inl e
      ·exact .inr ⟨r,q,k1,k2⟩) (⟨st',loc',h1,h2,tr.trans h3,h4,h5⟩:dP cx X O (fun st'=>K .normal (canon st.next (eA ops.toList) st')) (eA ops.toList) st (aB O st loc w) a' w')
     exact hq st2 loc2 a' w' k1 k2 k3 k4 k5
   ·exact h.elim
theorem Kq (hok:kI P cx X) (anns:cy) {O:aH}:∀(c:Code) (cur:Nat) {st:St} {loc:Nat->Loc} {w:World} {a:Act} {K:Ex->St->VC},
  fw cx (aB O st loc w) st a->Good cx.eT X (aB O st loc w)->dD O w->(vc cx anns c cur st K).holds->c.wp P (ow cx X O K (writes anns cur c) st (aB O st loc w)) a w:=by
 intro c
 induction c with
 | skip=>intro cur st loc w a K hA g hO h;exact wp_skip ⟨st,loc,h,g,Tr.refl _,hA,fun _ _ _ _ h=>h⟩
 | region id ops draw=>
  intro cur st loc w a K hA g hO h
  simp only [vc] at h
  split at h
  ·exact yr hok hA g hO h
  ·rename_i an _
   split at h
   case h_2=>exact h.elim
   rename_i hdis
   obtain ⟨hb,hk⟩:=h
   refine wp_mono (yr (K:=fun e=>match e with | .normal=>gX an st | e=>K e) hok hA g hO hb) ?_
   intro e a' w' hq
   cases e with
   | normal=>exact yq hdis hk hq
   | exit i=>exact hq
   | ret=>exact hq
   | goto l=>exact hq.elim
   | panic c=>exact hq.elim
   | outgrown=>exact hq.elim
 | seq c1 c2 ih1 ih2=>
  intro cur st loc w a K hA g hO h
  refine wp_seq ?_
  refine wp_mono (ih1 cur hA g hO h) ?_
  intro e a' w' hq
  refine Mm (K:=K) (W:=writes anns cur c1) ?_ (fun e he=>by cases e <;> simp_all) ?_ hq
  ·rintro a1 w1 ⟨st',loc',k1,k2,k3,k4,k5⟩
   refine wp_mono (ih2 cur k4 k2 (hO.tr k3.size) k1) ?_
   intro e a2 w2 hq2
   exact hq2.mono k3 (W':=writes anns cur (.seq c1 c2)) (fun hm t ht=>k5 (fun h=>hm (List.mem_append.2 (.inl h))) t fun hm=>ht (List.mem_append.2 (.inl hm))) (fun n hn=>List.mem_append.2 (.inr hn))
  ·intro e a1 w1 hq1 _
   exact hq1.mono (Tr.refl _) (fun _ _ _ _ h=>h) (fun n hn=>List.mem_append.2 (.inl hn))
 | cond x c1 c2 ih1 ih2=>
  intro cur st loc w a K hA g hO h
  have hx:=bF hA.env x
  have h1:∀{K},(vc cx anns c1 cur st K).holds->c1.wp P (ow cx X O K (writes anns cur (.cond x c1 c2)) st (aB O st loc w)) a w:=fun h=>
   wp_mono (ih1 cur hA g hO h) fun e a' w' hq=>hq.mono (Tr.refl _) (fun _ _ _ _ h=>h) (fun n hn=>List.mem_append.2 (.inl hn))
  have h2:∀{K},(vc cx anns c2 cur st K).holds->c2.wp P (ow cx X O K (writes anns cur (.cond x c1 c2)) st (aB O st loc w)) a w:=fun h=>
   wp_mono (ih2 cur hA g hO h) fun e a' w' hq=>hq.mono (Tr.refl _) (fun _ _ _ _ h=>h) (fun n hn=>List.mem_append.2 (.inr hn))
  have base:∀{K:Ex->St->VC},(match cS st.env x with
    | .lit true=>vc cx anns c1 cur st K
    | .lit false=>vc cx anns c2 cur st K
    | .d .bool g => .ite g (vc cx anns c1 cur st K) (vc cx anns c2 cur st K)
    | _ => .ff).holds->(Code.cond x c1 c2).wp P (ow cx X O K (writes anns cur (.cond x c1 c2)) st (aB O st loc w)) a w:=by
   intro K h
   split at h
   ·rename_i hl;rw [hl] at hx;exact wp_cond_true hx (h1 h)
   ·rename_i hl;rw [hl] at hx;exact wp_cond_false hx (h2 h)
   ·rename_i b hl
    rw [hl] at hx
    have hx:=(cY (eT:=cx.eT) (S:=aB O st loc w) (b:=b)).1 hx
    cases b
    ·exact wp_cond_false hx (h2 (h.2 rfl))
    ·exact wp_cond_true hx (h1 (h.1 rfl))
   ·exact h.elim
  simp only [vc] at h
  split at h
  ·exact base h
  ·rename_i an _
   split at h
   case h_2=>exact h.elim
   rename_i hdis
   obtain ⟨hb,hk⟩:=h
   refine wp_mono (base (K:=fun e st'=>match e with | .normal=>gX an st st' | e=>K e st') hb) ?_
   intro e a' w' hq
   cases e with
   | normal=>exact yq hdis hk hq
   | exit i=>exact hq
   | ret=>exact hq
   | goto l=>exact hq.elim
   | panic c=>exact hq.elim
   | outgrown=>exact hq.elim
 | block id b ih=>
  intro cur st loc w a K hA g hO h
  refine wp_block ?_
  simp only [vc] at h
  split at h
  case h_2=>
   rename_i an _
   split at h
   case h_2=>exact h.elim
   rename_i hdis
   have hkeepW:=ov hdis
   obtain ⟨hb,hk⟩:=h
   refine wp_mono (ih id hA g hO hb) ?_
   intro e a' w' hq
   have join:dP cx X O (gX an st) (writes anns id b) st (aB O st loc w) a' w'->ow cx X O K (writes anns cur (.block id b)) st (aB O st loc w) .normal a' w':=by
    rintro ⟨st2,loc2,k1,k2,k3,k4,k5⟩
    simp only [gX] at k1
    split at k1
    case h_2=>exact k1.elim
    rename_i hpres
    obtain ⟨x',hx',hs',ho'⟩:=k1
    have hvx:=hk x' hx'
    split at hvx
    case h_2=>exact hvx.elim
    rename_i hbb
    simp only [Bool.and_eq_true] at hbb
    have hhead:∀t,t∉writes anns id b->∀v,look (bP an st x').env t=some v->look st.env t=some v:=by
     intro t ht v hv
     simp only [bP,cZ] at hv
     split at hv
     ·rename_i u hu;exact absurd (mc hbb.2.2 hu) ht
     ·exact (eP hv).2
    obtain ⟨m1,m2,m3⟩:=qy (an:=an) (st:=st) x' k2 k4 k3 (by
      intro n v hv
      simp only [bP,cZ] at hv
      split at hv
      ·rename_i u hu;cases hv;exact j9 hs' hu
      ·obtain ⟨hmem,hl⟩:=eP hv
       refine ⟨v,?_,iK v⟩
       obtain ⟨v',hv'⟩:=ku hpres hmem
       have:=k5 (hkeepW n hmem).1 n (hkeepW n hmem).2 v' hv'
       rw [hl] at this
       cases this
       exact hv')
     (by
      intro n v hv
      simp only [bP] at hv
      exact ka ho' hv) hbb.1 hbb.2.1
    exact ⟨bP an st x',loc2,hvx,m1,m3,m2,fun _ t ht v hv=>hhead t ht v hv⟩
   cases e with
   | normal=>exact join hq
   | exit i=>
    show if i=id then _ else _
    by_cases hi:i=id
    ·rw [if_pos hi]
     subst hi
     obtain ⟨st',loc',k1,k2⟩:=hq
     simp only [Nat.beq_refl] at k1
     exact join ⟨st',loc',k1,k2⟩
    ·rw [if_neg hi]
     obtain ⟨st',loc',k1,k2⟩:=hq
     simp only [jR hi] at k1
     exact ⟨st',loc',k1,k2⟩
   | ret=>exact hq
   | goto l=>exact hq.elim
   | panic c=>exact hq.elim
   | outgrown=>exact hq.elim
  refine wp_mono (ih id hA g hO h) ?_
  intro e a' w' hq
  cases e with
  | normal=>exact hq
  | exit i=>
   obtain ⟨st',loc',k1,k2,k3,k4,k5⟩:=hq
   simp only at k1
   show if i=id then _ else _
   split at k1
   ·rename_i hi
    rw [if_pos (Nat.eq_of_beq_eq_true hi)]
    exact ⟨st',loc',k1,k2,k3,k4,k5⟩
   ·rename_i hi
    rw [if_neg (fun e=>by rw [e,Nat.beq_refl] at hi;cases hi)]
    exact ⟨st',loc',k1,k2,k3,k4,k5⟩
  | ret=>exact hq
  | goto l=>exact hq.elim
  | panic c=>exact hq.elim
  | outgrown=>exact hq.elim
 | loop b ih=>
  intro cur st loc w a K hA g hO h
  simp only [vc] at h
  split at h
  ·rename_i hnone
   have hwl:writes anns cur (.loop b)=writes anns cur b:=by simp only [writes,hnone]
   split at h
   case h_2=>exact h.elim
   rename_i an _
   split at h
   ·rename_i hdis
    have hkeepW:=ov hdis
    obtain ⟨⟨x0,hx0,hs0,ho0⟩,h⟩:=h
    have hobk:∀x n v,look (bP an st x).aF n=some v->look (an.aF x) n=some v\/look st.aF n=some v:=by
     intro x n v hv
     simp only [bP,cZ] at hv
     split at hv
     ·rename_i u hu;cases hv;exact .inl hu
     ·exact .inr (Az hv)
    have hhead:∀x,jo (writes anns cur b) (an.aQ x)=true->∀t,t∉writes anns cur b->∀v,look (bP an st x).env t=some v->look st.env t=some v:=by
     intro x hk t ht v hv
     simp only [bP,cZ] at hv
     split at hv
     ·rename_i u hu;exact absurd (mc hk hu) ht
     ·exact (eP hv).2
    refine wp_loop_ghost (fun n a' w'=>∃x loc',an.inv x/\an.aW x=n/\fI st.next (bP an st x).env=true/\(fy st.next (bP an st x).aF=true/\jo (writes anns cur b) (an.aQ x)=true)/\
     (vc cx anns b cur (bP an st x) fun e st'=>match e with
       | .normal=>match jn st'.env an.aU with
        | true => .leaf (∃x',an.inv x'/\an.aW x' < an.aW x/\jZ st' (an.aQ x')/\j0 st' (an.aF x'++fH st an.fY))
        | false => .ff
       | e=>K e st').holds/\
     Good cx.eT X (aB O (bP an st x) loc' w')/\fw cx (aB O (bP an st x) loc' w') (bP an st x) a'/\Tr (aB O st loc w) (aB O (bP an st x) loc' w')) (an.aW x0) ?_ ?_
    ·have hx:=h x0 hx0
     split at hx
     ·rename_i hb
      simp only [Bool.and_eq_true] at hb
      obtain ⟨m1,m2,m3⟩:=qy (an:=an) (st:=st) x0 g hA (Tr.refl _) (by
        intro n v hv
        simp only [bP,cZ] at hv
        split at hv
        ·rename_i u hu;cases hv;exact j9 hs0 hu
        ·obtain ⟨_,hl⟩:=eP hv
         exact ⟨v,hl,iK v⟩)
       (by
        intro n v hv
        rcases hobk x0 n v hv with hv | hv
        ·exact ka ho0 hv
        ·exact ⟨v,hv,DJ v⟩) hb.1 hb.2.1
      exact ⟨x0,loc,hx0,rfl,hb.1,hb.2,hx,m1,m2,m3⟩
     ·exact hx.elim
    ·rintro n a1 w1 ⟨x,loc1,hx,hn,hb1,hb2,hvc,g1,hA1,tr1⟩
     refine wp_mono (ih cur hA1 g1 (hO.tr tr1.size) hvc) ?_
     intro e a2 w2 hq
     have up:∀Kx:St->VC,dP cx X O Kx (writes anns cur b) (bP an st x) (aB O (bP an st x) loc1 w1) a2 w2->dP cx X O Kx (writes anns cur (.loop b)) st (aB O st loc w) a2 w2:=by
      rintro Kx ⟨st2,loc2,k1,k2,k3,k4,k5⟩
      exact ⟨st2,loc2,k1,k2,tr1.trans k3,k4,fun hm t ht v hv=>by rw [hwl] at hm ht;exact hhead x hb2.2 t ht v (k5 hm t ht v hv)⟩
     cases e with
     | normal=>
      obtain ⟨st2,loc2,k1,k2,k3,k4,k5⟩:=hq
      simp only at k1
      split at k1
      case h_2=>exact k1.elim
      rename_i hpres
      obtain ⟨x',hx',hlt,hs',ho'⟩:=k1
      have hvx:=h x' hx'
      refine ⟨an.aW x',by rw [<-hn];exact hlt,?_⟩
      split at hvx
      ·rename_i hb
       simp only [Bool.and_eq_true] at hb
       obtain ⟨m1,m2,m3⟩:=qy (an:=an) (st:=st) x' k2 k4 (tr1.trans k3) (by
         intro n v hv
         simp only [bP,cZ] at hv
         split at hv
         ·rename_i u hu;cases hv;exact j9 hs' hu
         ·obtain ⟨hmem,hl⟩:=eP hv
          refine ⟨v,?_,iK v⟩
          obtain ⟨v',hv'⟩:=ku hpres hmem
          have:=hhead x hb2.2 n (hkeepW n hmem).2 v' (k5 (hkeepW n hmem).1 n (hkeepW n hmem).2 v' hv')
          rw [hl] at this
          cases this
          exact hv')
        (by
         intro n v hv
         simp only [bP] at hv
         exact ka ho' hv) hb.1 hb.2.1
       exact ⟨x',loc2,hx',rfl,hb.1,hb.2,hvx,m1,m2,m3⟩
      ·exact hvx.elim
     | exit i=>exact up _ hq
     | ret=>exact up _ hq
     | goto l=>exact hq.elim
     | panic c=>exact hq.elim
     | outgrown=>exact hq.elim
   ·exact h.elim
  ·rename_i f hsome
   have hwl:writes anns cur (.loop b)=allM :: writes anns cur b:=by simp only [writes,hsome]
   generalize BG st (f st)=an at h
   split at h
   case h_2=>exact h.elim
   rename_i hdis
   have hkeepW:=ov hdis
   obtain ⟨hfit,h⟩:=h
   obtain ⟨x0,hx0,_,hf0⟩:=ym hfit
   refine wp_loop_ghost (fun n a' w'=>∃x loc',an.inv x/\an.aW x=n/\pK an st (writes anns cur b) x=true/\
    (vc cx anns b cur (cI an st x) fun e st'=>match e with
      | .normal=>match jn st'.env an.aU with
       | true=>wu an st st' fun x'=>an.aW x' < an.aW x
       | false => .ff
      | e=>K e st').holds/\
    Good cx.eT X (aB O (cI an st x) loc' w')/\fw cx (aB O (cI an st x) loc' w') (cI an st x) a'/\Tr (aB O st loc w) (aB O (cI an st x) loc' w')) (an.aW x0) ?_ ?_
   ·have hx:=h x0 hx0
    split at hx
    case h_2=>exact hx.elim
    rename_i hok2
    obtain ⟨loc',m1,m2,m3⟩:=yp (an:=an) (st:=st) x0 g hA (Tr.refl _) hok2 (fun n hn v hv=>⟨v,hv,iK v⟩) hf0
    exact ⟨x0,loc',hx0,rfl,hok2,hx,m1,m2,m3⟩
   ·rintro n a1 w1 ⟨x,loc1,hx,hn,hokx,hvc,g1,hA1,tr1⟩
    refine wp_mono (ih cur hA1 g1 (hO.tr tr1.size) hvc) ?_
    intro e a2 w2 hq
    have up:∀Kx:St->VC,dP cx X O Kx (writes anns cur b) (cI an st x) (aB O (cI an st x) loc1 w1) a2 w2->dP cx X O Kx (writes anns cur (.loop b)) st (aB O st loc w) a2 w2:=by
     rintro Kx ⟨st2,loc2,k1,k2,k3,k4,k5⟩
     exact ⟨st2,loc2,k1,k2,tr1.trans k3,k4,fun hm=>by rw [hwl] at hm;exact absurd (List.mem_cons_self) hm⟩
    cases e with
    | normal=>
     obtain ⟨st2,loc2,k1,k2,k3,k4,k5⟩:=hq
     simp only at k1
     split at k1
     case h_2=>exact k1.elim
     rename_i hpres
     obtain ⟨x',hx',hlt,hf'⟩:=ym k1
     have hvx:=h x' hx'
     split at hvx
     case h_2=>exact hvx.elim
     rename_i hok2
     refine ⟨an.aW x',by rw [<-hn];exact hlt,?_⟩
     obtain ⟨loc',m1,m2,m3⟩:=yp (an:=an) (st:=st) x' k2 k4 (tr1.trans k3) hok2 (fun n hn v hv=>by
      obtain ⟨v',hv'⟩:=ku hpres hn
      have h1:=k5 (hkeepW n hn).1 n (hkeepW n hn).2 v' hv'
      refine ⟨v',hv',?_⟩
      have h2:=Ge hokx hn h1 (hkeepW n hn).2
      rw [hv] at h2;cases h2
      exact iK v) hf'
     exact ⟨x',loc',hx',rfl,hok2,hvx,m1,m2,m3⟩
    | exit i=>exact up _ hq
    | ret=>exact up _ hq
    | goto l=>exact hq.elim
    | panic c=>exact hq.elim
    | outgrown=>exact hq.elim
 | rangeFunc f ps as b _ _=>intro cur st loc w a K _ _ _ h;exact h.elim
 | exit id=>intro cur st loc w a K hA g hO h;exact wp_exit ⟨st,loc,h,g,Tr.refl _,hA,fun _ _ _ _ h=>h⟩
 | scope b _=>intro cur st loc w a K _ _ _ h;exact h.elim
 | label l=>intro cur st loc w a K _ _ _ h;exact h.elim
 | goto l=>intro cur st loc w a K _ _ _ h;exact h.elim
 | ret=>intro cur st loc w a K hA g hO h;exact wp_ret ⟨st,loc,h,g,Tr.refl _,hA,fun _ _ _ _ h=>h⟩
 | refuse why=>intro cur st loc w a K _ _ _ h;exact h.elim
end
end Go.Vg

namespace Go.Vg
open Go.RowKit
@[reducible] def HL:List Ty->Type
 | []=>Unit
 | [t]=>D t
 | t :: u :: r=>D t × HL (u :: r)
def gC:List Ty->Bool
 | []=>true
 | t :: r=>t.flat && gC r
def AQ (st:St) (want:Ty) (n:Nat):Option (D want):=
 match look st.aF n with
 | some (.ext 0 t xs)=>match h:Ty.beq t want with
  | true=>some (ch h (a:=t) xs)
  | false=>none
 | _=>none
def Gf (lend:Bool) (st:St) (t:Ty) (a:cA):Option (D t):=
 match lend,t,a with
 | true, .slice e, .one (.aV n)=>rP st e (.aV n)
 | true,t, .one (.xd n .top)=>AQ st t n
 | _,t,a=>mF t a
def kv (lend:Bool) (st:St):(ts:List Ty)->List cA->Option (HL ts)
 | [],[]=>some ()
 | [t],[a]=>Gf lend st t a
 | t :: u :: r,a :: as=>match Gf lend st t a,kv lend st (u :: r) as with
  | some x,some xs=>some (x,xs)
  | _,_=>none
 | _,_=>none
def lQ:(ts:List Ty)->HL ts->List cA
 | [],_=>[]
 | [t],y=>[.one (.d t y)]
 | t :: u :: r,ys => .one (.d t ys.1) :: lQ (u :: r) ys.2
def ox:List cA->SV
 | [v] => .s v
 | vs => .jL vs
def si (st:St) (c:C):C × St:=
 match c with
 | .aV n=>match look st.aF n with
  | some (.aV t xs)=>(.d (.slice t) xs,bz st n)
  | _=>(c,st)
 | .xd n .top=>match look st.aF n with
  | some (.ext 0 t xs)=>(.d t xs,bz st n)
  | _=>(c,st)
 | c=>(c,st)
def qz:St->List C->List C × St
 | st,[]=>([],st)
 | st,c :: cs=>match si st c with
  | (c',st1)=>match qz st1 cs with
   | (cs',st2)=>(c' :: cs',st2)
def vk (st:St) (v:cA):cA × St:=
 match v with
 | .one c=>match si st c with
  | (c',st')=>(.one c',st')
 | .agg cs=>match qz st cs with
  | (cs',st')=>(.agg cs',st')
def xL (lend:Bool) (st:St) (v:cA):cA × St:=
 match lend,v with
 | true, .one c=>(.one c,st)
 | _,v=>vk st v
def o6 (lend:Bool):St->List cA->List cA × St
 | st,[]=>([],st)
 | st,v :: vs=>match xL lend st v with
  | (v',st1)=>match o6 lend st1 vs with
   | (vs',st2)=>(v' :: vs',st2)
def fJ (ts rts:List Ty) (pre:HL ts->Prop) (post:HL ts->HL rts->Prop):bQ:=fun args st K=>
 match o6 (gC rts) st args with
 | (args,st)=>match kv (gC rts) st ts args with
  | some xs => .and (pre xs) (.all (HL rts) fun ys => .imp (post xs ys) (K (ox (lQ rts ys)) st))
  | none => .ff
def aM (ts rts:List Ty) (pre:HL ts->Prop) (g:HL ts->HL rts):bQ:=fun args st K=>
 match o6 (gC rts) st args with
 | (args,st)=>match kv (gC rts) st ts args with
  | some xs => .and (pre xs) (K (ox (lQ rts (g xs))) st)
  | none => .ff
inductive Nf (α:Type) where
 | ret (a:α)
 | ite (c:Bool) (a b:Nf α)
def Nf.eval {α:Type}:Nf α->α
 | .ret a=>a
 | .ite c a b=>match c with
  | true=>a.eval
  | false=>b.eval
def Ie (st:St) (want:Ty) (c:C):Option (D want):=
 match c with
 | .aV n=>match look st.aF n with
  | some (.aV t xs)=>match h:Ty.beq (.slice t) want with
   | true=>some (ch h (a:=.slice t) xs)
   | false=>none
  | _=>none
 | .xd n .top=>AQ st want n
 | c=>rq want c
def kx (st:St):(t:Ty)->List C->Option (D t × List C)
 | .prod a b,cs=>match kx st a cs with
  | some (x,cs1)=>match kx st b cs1 with
   | some (y,cs2)=>some ((x,y),cs2)
   | none=>none
  | none=>none
 | .unit,cs=>some ((),cs)
 | t,c :: cs=>match Ie st t c with
  | some x=>some (x,cs)
  | none=>none
 | _,[]=>none
def Gg (st:St) (want:Ty):cA->Option (D want)
 | .one c=>Ie st want c
 | .agg cs=>match want.one with
  | true=>none
  | false=>match kx st want cs with
   | some (x,[])=>some x
   | _=>none
def sj (st:St):(ts:List Ty)->List cA->Option (HL ts)
 | [],[]=>some ()
 | [t],[a]=>Gg st t a
 | t :: u :: r,a :: as=>match Gg st t a,sj st (u :: r) as with
  | some x,some xs=>some (x,xs)
  | _,_=>none
 | _,_=>none
def qA (cx:Cx) (st:St):List ResultVar->(List cA->VC)->VC
 | [],K=>K []
 | .tmp t :: r,K=>match ev st.env (.tmp t) with
  | .s v=>qA cx st r fun vs=>K (v :: vs)
  | _ => .ff
 | .cell a t :: r,K=>rN cx st t (cS st.env (.tmp a)) fun sv=>match sv with
  | .s v=>qA cx st r fun vs=>K (v :: vs)
  | _ => .ff
def Gh (cx:Cx) (anns:cy) (res:List ResultVar) (c:Code) (st:St) (K:List cA->St->VC):VC:=
 vc cx anns c 0 st fun e st'=>match e with
  | .exit _ => .ff
  | _=>qA cx st' res fun vs=>K vs st'
def nC (B:Cx) (Γ:List (FuncId × (Bool × bQ))) (N:Nat):Cx:={B with Γ:=Γ,N:=N}
def pM:Nat->(ts:List Ty)->HL ts->List (Nat × SV)
 | _,[],_=>[]
 | k,[t],x=>[(k, .s (.one (.d t x)))]
 | k,t :: u :: r,xs=>(k, .s (.one (.d t xs.1))) :: pM (k + 1) (u :: r) xs.2
def me (ts:List Ty) (xs:HL ts):St:={env:=pM 0 ts xs,aF:=[],next:=0}
def E3 (B:Cx) (Γ:List (FuncId × (Bool × bQ))) (N:Nat) (anns:cy) (res:List ResultVar) (c:Code) (ts rts:List Ty) (post:HL ts->HL rts->Prop) (xs:HL ts):VC:=
 Gh (nC B Γ N) anns res c (me ts xs) fun vs st=>match sj st rts vs with
  | some ys => .leaf (post xs ys)
  | none => .ff
section
variable {eT:TypeId} {X:Ext} {P:Program} {cx:Cx}
def im (eT:TypeId) (A:aH) (w:World):(ts:List Ty)->HL ts->List Value->Prop
 | [],_,vs=>vs = []
 | [t],x,vs=>∃v,vs = [v]/\VR eT t x A w v
 | t :: u :: r,xs,vs=>∃v vs',vs=v :: vs'/\VR eT t xs.1 A w v/\im eT A w (u :: r) xs.2 vs'
def BH:List Value->Value
 | [v]=>v
 | vs => .tuple vs.toArray
structure bG (P:Program) (eT:TypeId) (X:Ext) (f:FuncId) (ts rts:List Ty) (pre:HL ts->Prop) (post:HL ts->HL rts->Prop):Prop where
 fn:∃fn,P.funcs[f]?=some fn/\fn.body.isNone=false/\(fn.name == "runtime.NumGoroutine")=false
 ok:∀O w xs vs,X.rI w->dD O w->im eT O w ts xs vs->pre xs->
  Calls P f vs.toArray w fun e w'=>∃us ys,e = .returned (BH us)/\post xs ys/\im eT O w' rts ys us/\Below w.heap.size w w'
def sk (tmps:Array Value):ResultVar->Sem Value
 | .tmp t=>pure (tmps.getD t undef)
 | .cell b t=>do loadVar t (<-asAddr (tmps.getD b undef))
theorem DK (hok:TyOK P cx) {O:aH} {st:St} {loc:Nat->Loc} {w:World} {a:Act} (g:Good cx.eT X (aB O st loc w)) (he:fk cx.eT (aB O st loc w) st.env a) :
  ∀{rs:List ResultVar} {K:List cA->VC},(qA cx st rs K).holds->
  ∃vs us,(K vs).holds/\cF cx.eT (aB O st loc w) vs us/\(rs.mapM (sk a.tmps):Sem (List Value)).run P w = .ok us w:=by
 intro rs
 induction rs with
 | nil=>intro K h;exact ⟨[],[],h, .nil,rfl⟩
 | cons r rs ih=>
  intro K h
  cases r with
  | tmp t=>
   simp only [qA] at h
   split at h
   ·rename_i v hv
    obtain ⟨vs,us,h1,h2,h3⟩:=ih h
    have hr:=jh he (.tmp t)
    rw [hv] at hr
    refine ⟨v :: vs,a.tmps.getD t undef :: us,h1, .cons hr h2,?_⟩
    rw [List.mapM_cons]
    simp only [sk,Sem.run_bind,Sem.run_pure,Result.andThen_ok,h3]
   ·exact h.elim
  | cell b t=>
   simp only [qA] at h
   obtain ⟨sv,u,h1,h2,h3⟩:=qb (P:=P) hok g (bF he (.tmp b)) h
   split at h1
   ·rename_i v
    obtain ⟨vs,us,k1,k2,k3⟩:=ih h1
    have h3:=h3 w (Below.refl _ _)
    refine ⟨v :: vs,u :: us,k1, .cons h2 k2,?_⟩
    rw [List.mapM_cons]
    have h4:(do loadVar t (<-asAddr (a.tmps.getD b undef)):Sem Value).run P w = .ok u w:=by
     have h3:(Instr.loadAt t (a.tmps.getD b undef)).run P w = .ok u w:=h3
     generalize a.tmps.getD b undef=p at h3
     cases p with
     | pointer q=>
      cases q with
      | none=>simp [Instr.loadAt,Instr.sureAddr] at h3
      | some q=>simpa [Instr.loadAt,Instr.sureAddr,asAddr] using h3
     | _=>simp [Instr.loadAt,Instr.sureAddr] at h3
    simp only [sk,Sem.run_bind] at h4 ⊢
    simp only [h4,Sem.run_pure,Result.andThen_ok,k3]
   ·exact h1.elim
theorem cF.len {S:bD} {xs:List cA} {us:List Value} (h:cF eT S xs us):xs.length=us.length:=by
 induction h with
 | nil=>rfl
 | cons _ _ ih=>simp [ih]
theorem sq {S:bD} {vs:List cA} {us:List Value} (h:cF eT S vs us):cP eT S (ox vs) (BH us):=by
 match vs,us,h with
 | [],[],h=>exact ⟨[],rfl,h⟩
 | [v],[u], .cons h1 .nil=>exact h1
 | _ :: _ :: _,_ :: _ :: _,h=>exact ⟨_,rfl,h⟩
theorem o7 (hok:kI P cx X) {f:FuncId} {fn:Func} {c:Code} (hf:P.funcs[f]?=some fn) (hb:fn.body=some c) (hN:cx.N=fn.ntmps) (anns:cy) {O:aH} {st:St} {loc:Nat->Loc} {w:World}
  {args:Array Value} {K:List cA->St->VC} (hsz:args.size<=fn.ntmps) (g:Good cx.eT X (aB O st loc w)) (hO:dD O w)
  (henv:∀t sv,look st.env t=some sv->∃v,args[t]?=some v/\cP cx.eT (aB O st loc w) sv v)
  (h:(Gh cx anns fn.results.toList c st K).holds) :
  Calls P f args w fun e w'=>∃vs us st' loc',e = .returned (BH us)/\(K vs st').holds/\cF cx.eT (aB O st' loc' w') vs us/\Good cx.eT X (aB O st' loc' w')/\Tr (aB O st loc w) (aB O st' loc' w'):=by
 refine calls_of_wp hf hb ?_
 have hA:fw cx (aB O st loc w) st {tmps:=args++Array.replicate (fn.ntmps - args.size) undef,defers:=[]}:=by
  refine ⟨by simp [hN];omega,rfl,fun t sv ht => ?_⟩
  obtain ⟨v,hv,hr⟩:=henv t sv ht
  have hlt:t < args.size:=by
   rcases Nat.lt_or_ge t args.size with hh | hh
   ·exact hh
   ·rw [Array.getElem?_eq_none hh] at hv;cases hv
  rw [Array.getD_eq_getD_getElem?,Array.getElem?_append,if_pos hlt,hv]
  exact hr
 refine wp_mono (Kq hok anns c 0 hA g hO h) ?_
 have fin:∀(a':Act) (w':World),dP cx X O (fun st'=>qA cx st' fn.results.toList fun vs=>K vs st') (writes anns 0 c) st (aB O st loc w) a' w'->a'.defers = []/\∃v,(results fn a'.tmps).run P w' = .ok v w'/\
   ∃vs us st' loc',Ending.returned v = .returned (BH us)/\(K vs st').holds/\cF cx.eT (aB O st' loc' w') vs us/\Good cx.eT X (aB O st' loc' w')/\Tr (aB O st loc w) (aB O st' loc' w'):=by
  rintro a' w' ⟨st',loc',k1,k2,k3,k4,_⟩
  obtain ⟨vs,us,m1,m2,m3⟩:=DK (P:=P) hok.toTyOK k2 k4.env k1
  refine ⟨k4.defers,BH us,?_,vs,us,st',loc',rfl,m1,m2,k2,k3⟩
  have hm:(fn.results.mapM (sk a'.tmps):Sem (Array Value)).run P w' = .ok us.toArray w':=by
   rw [<-Array.toArray_toList (xs:=fn.results),List.mapM_toArray,Sem.run_map,m3]
   rfl
  have he:results fn a'.tmps=(do
    let xs <-fn.results.mapM (sk a'.tmps)
    return if h:xs.size=1 then xs[0] else .tuple xs):=by
   unfold results
   congr 1
  rw [he,Sem.run_bind,hm]
  simp only [Result.andThen_ok,Sem.run_pure]
  match us with
  | []=>rfl
  | [u]=>rfl
  | _ :: _ :: _=>rfl
 intro e a' w' hq
 cases e with
 | normal=>exact fin a' w' hq
 | ret=>exact fin a' w' hq
 | exit n=>obtain ⟨st',loc',k1,_⟩:=hq;exact k1.elim
 | goto l=>exact hq.elim
 | panic c=>exact hq.elim
 | outgrown=>exact hq.elim
end
end Go.Vg

namespace Go.Vg
open Go.RowKit
section
variable {X:Ext} {P:Program} {cx:Cx}
theorem Ig {O:aH} {st:St} {loc:Nat->Loc} {w:World} {b o:Nat} (h:¬ (aB O st loc w).A b o):¬ O b o:=fun k=>h (.inl k)
theorem Oe {O:aH} {st:St} {loc:Nat->Loc} {w:World} {t:Ty} {x:D t} {v:Value} {eT:TypeId} (h:VR eT t x (aB O st loc w).A w v):VR eT t x O w v:=
 VR.frame h fun _ _ _ ha hc=>⟨hc,Ig ha⟩
theorem E4 {O:aH} {st:St} {loc:Nat->Loc} {w:World} (g:Good cx.eT X (aB O st loc w)) {n:Nat} {t:Ty} {xs:List (D t)} (hob:look st.aF n=some (.aV t xs))
  {v:Value} (hx:CR cx.eT (aB O st loc w) (.aV n) v):VR cx.eT (.slice t) xs O w v:=by
 rcases (g.obj _ _ hob).2 with ⟨rfl,⟨a,ha⟩,_⟩ | ⟨b,vs,T,cap,hl,ez,hheap,hvs,hcap,hbig,he⟩
 ·exact VR.cw rfl ⟨_,rfl,by simp, .inl ⟨rfl,a,0,(hx.2 _ _ hob).trans ha⟩⟩
 refine VR.cw rfl ⟨_,rfl,hbig, .inr ⟨b,0,cap,(hx.2 _ _ hob).trans hl,hcap,fun i y hy => ?_⟩⟩
 obtain ⟨us,h1,h2⟩:=he i y hy
 refine ⟨us,h1.frame fun _ _ _ ha hc=>⟨hc,Ig ha⟩,fun j u hj=>⟨?_,?_⟩⟩
 ·rw [Nat.zero_add,cell_of_row w b _ vs T (0,0) hheap];exact h2 j u hj
 ·exact g.out n _ b _ hob (by rw [ez];simp)
theorem E5 {O:aH} {st:St} {loc:Nat->Loc} {w:World} (g:Good cx.eT X (aB O st loc w)) {n:Nat} {t:Ty} {xs:D t} (hob:look st.aF n=some (.ext 0 t xs))
  {v:Value} (hx:CR cx.eT (aB O st loc w) (.xd n .top) v) {A:aH} (hA:∀b∈(loc n).bs,∀o,¬ A b o):VR cx.eT t xs A w v:=by
 have hd:gT t xs (loc n) w:=X.deep.1 (g.obj _ _ hob).2
 obtain ⟨e,s,rfl,hs⟩:=n1 hd
 exact hd.data (hx.2 _ _ hob) hA
theorem yt {O:aH} {st:St} {loc:Nat->Loc} {w:World} (g:Good cx.eT X (aB O st loc w)) {n:Nat} {t:Ty} {xs:D t} (h:AQ st t n=some xs)
  {v:Value} (hx:CR cx.eT (aB O st loc w) (.xd n .top) v):VR cx.eT t xs O w v:=by
 unfold AQ at h
 split at h
 ·rename_i t' ys hob
  split at h
  ·cases h;rename_i hb
   exact ig hb _ (E5 g hob hx fun b hb o=>g.out n _ b o hob hb)
  ·cases h
 ·cases h
theorem E6 {O:aH} {st:St} {loc:Nat->Loc} {w:World} (g:Good cx.eT X (aB O st loc w)) {want:Ty} {c:C} {x:D want} {v:Value} (h:Ie st want c=some x)
  (hc:CR cx.eT (aB O st loc w) c v):VR cx.eT want x O w v:=by
 unfold Ie at h
 split at h
 ·rename_i n
  split at h
  ·rename_i t xs hob
   split at h
   ·cases h;rename_i hb;exact ig hb _ (E4 g hob hc)
   ·cases h
  ·cases h
 ·exact yt g h hc
 ·exact Oe (pw h hc)
theorem Ih {O:aH} {st:St} {loc:Nat->Loc} {w:World} (g:Good cx.eT X (aB O st loc w)):∀{t:Ty} {cs cs':List C} {x:D t} {vs:List Value},kx st t cs=some (x,cs')->cV cx.eT (aB O st loc w) cs vs->
  ∃us vs',vs=us++vs'/\R cx.eT t x O w us/\cV cx.eT (aB O st loc w) cs' vs':=by
 have one:∀{t:Ty} {c:C} {cs cs':List C} {x:D t} {vs:List Value},(match Ie st t c with | some x=>some (x,cs) | none=>none)=some (x,cs')->cV cx.eT (aB O st loc w) (c :: cs) vs->
   ∃us vs',vs=us++vs'/\R cx.eT t x O w us/\cV cx.eT (aB O st loc w) cs' vs':=by
  intro t c cs cs' x vs h hc
  cases hc with
  | cons h1 h2 h3=>
   rename_i v vs0
   split at h
   ·rename_i y hy
    cases h
    exact ⟨[v],vs0,rfl,(tY h2 (E6 g hy h1)).2,h3⟩
   ·cases h
 intro t
 induction t with
 | prod a b iha ihb=>
  intro cs cs' x vs h hc
  simp only [kx] at h
  split at h
  ·rename_i y cs1 h1
   split at h
   ·rename_i z cs2 h2
    cases h
    obtain ⟨u1,v1,rfl,r1,k1⟩:=iha h1 hc
    obtain ⟨u2,v2,rfl,r2,k2⟩:=ihb h2 k1
    exact ⟨u1++u2,v2,by simp,⟨u1,u2,rfl,r1,r2⟩,k2⟩
   ·cases h
  ·cases h
 | unit=>
  intro cs cs' x vs h hc
  simp only [kx] at h
  cases h
  exact ⟨[],vs,rfl,rfl,hc⟩
 | bool=>intro cs cs' x vs h hc;cases cs with | nil=>simp [kx] at h | cons c cs=>exact one (t:=.bool) h hc
 | int k=>intro cs cs' x vs h hc;cases cs with | nil=>simp [kx] at h | cons c cs=>exact one (t:=.int k) h hc
 | str=>intro cs cs' x vs h hc;cases cs with | nil=>simp [kx] at h | cons c cs=>exact one (t:=.str) h hc
 | err=>intro cs cs' x vs h hc;cases cs with | nil=>simp [kx] at h | cons c cs=>exact one (t:=.err) h hc
 | eK=>intro cs cs' x vs h hc;cases cs with | nil=>simp [kx] at h | cons c cs=>exact one (t:=.eK) h hc
 | slice e _=>intro cs cs' x vs h hc;cases cs with | nil=>simp [kx] at h | cons c cs=>exact one (t:=.slice e) h hc
theorem BI {O:aH} {st:St} {loc:Nat->Loc} {w:World} (g:Good cx.eT X (aB O st loc w)) {want:Ty} {c:cA} {x:D want} {v:Value} (h:Gg st want c=some x)
  (hc:fv cx.eT (aB O st loc w) c v):VR cx.eT want x O w v:=by
 cases c with
 | one c=>exact E6 g h hc
 | agg cs=>
  simp only [Gg] at h
  obtain ⟨vs,rfl,hcs⟩:=hc
  split at h
  ·cases h
  ·rename_i ho
   split at h
   ·rename_i y hy
    cases h
    obtain ⟨us,vs',rfl,r,k⟩:=Ih g hy hcs
    cases k
    unfold VR
    rw [if_neg (by simp [ho])]
    exact ⟨_,rfl,by simpa using r⟩
   ·cases h
theorem BJ {O:aH} {st:St} {loc:Nat->Loc} {w:World} (g:Good cx.eT X (aB O st loc w)):∀{ts:List Ty} {vs:List cA} {ys:HL ts} {us:List Value},sj st ts vs=some ys->
  cF cx.eT (aB O st loc w) vs us->im cx.eT O w ts ys us
 | [],[],_,_,_, .nil=>rfl
 | [t],[a],ys,_,h, .cons h1 .nil=>⟨_,rfl,BI g h h1⟩
 | t :: u :: r,a :: as,ys,_,h, .cons h1 h2=>by
  simp only [sj] at h
  split at h
  ·rename_i x xs k1 k2
   cases h
   exact ⟨_,_,rfl,BI g k1 h1,BJ g k2 h2⟩
  ·cases h
 | [],_ :: _,_,_,h,_=>by simp [sj] at h
 | [_],[],_,_,h,_=>by simp [sj] at h
 | [_],_ :: _ :: _,_,_,h,_=>by simp [sj] at h
 | _ :: _ :: _,[],_,_,h,_=>by simp [sj] at h
theorem wC {eT:TypeId} {O:aH} {w:World} {S:bD} (hS:S.w=w) (hA:∀b o,¬ O b o->¬ S.A b o):∀(ts:List Ty) (k:Nat) (xs:HL ts) (vs:List Value),im eT O w ts xs vs->
  ∀t sv,look (pM k ts xs) t=some sv->k<=t/\∃v,vs[t - k]?=some v/\cP eT S sv v
 | [],k,xs,vs,_,t,sv,h=>by simp [pM,look] at h
 | [ty],k,x,_,⟨v,rfl,hv⟩,t,sv,h=>by
  simp only [pM,cm] at h
  split at h
  ·cases h
   rename_i e;subst e
   exact ⟨Nat.le_refl _,v,by simp,VR.frame hv fun b o _ ha hc=>⟨by rw [hS];exact hc,hA b o ha⟩⟩
  ·simp [look] at h
 | ty :: u :: r,k,xs,_,⟨v,vs',rfl,hv,hr⟩,t,sv,h=>by
  simp only [pM,cm] at h
  split at h
  ·cases h
   rename_i e;subst e
   exact ⟨Nat.le_refl _,v,by simp,VR.frame hv fun b o _ ha hc=>⟨by rw [hS];exact hc,hA b o ha⟩⟩
  ·obtain ⟨h1,v',h2,h3⟩:=wC hS hA (u :: r) (k + 1) xs.2 vs' hr t sv h
   refine ⟨by omega,v',?_,h3⟩
   rw [show t - k=(t - (k + 1)) + 1 from by omega,List.getElem?_cons_succ]
   exact h2
theorem im.length {eT:TypeId} {O:aH} {w:World}:∀{ts:List Ty} {xs:HL ts} {vs:List Value},im eT O w ts xs vs->vs.length=ts.length
 | [],_,_,h=>by rw [show _ = [] from h];rfl
 | [_],_,_,⟨_,rfl,_⟩=>rfl
 | _ :: u :: r,_,_,⟨_,_,rfl,_,h⟩=>by simp [im.length h]
def wf:(t:Ty)->D t->Prop
 | .int k,x=>k.min<=x/\x<=k.max
 | .str,x=>x.length<=aG
 | .prod a b,x=>wf a x.1/\wf b x.2
 | .slice e,x=>x.length<=aG/\∀(i:Nat) y,x[i]?=some y->wf e y
 | _,_=>True
def c8:(ts:List Ty)->HL ts->Prop
 | [],_=>True
 | [t],x=>wf t x
 | t :: u :: r,xs=>wf t xs.1/\c8 (u :: r) xs.2
theorem R.wf {eT:TypeId}:∀{t:Ty} {x:D t} {A:aH} {w:World} {vs:List Value},R eT t x A w vs->Vg.wf t x:=by
 intro t
 induction t with
 | int k=>intro x A w vs h;exact h.2
 | str=>intro x A w vs h;exact h.2
 | prod a b iha ihb=>intro x A w vs h;obtain ⟨_,_,_,h1,h2⟩:=h;exact ⟨iha h1,ihb h2⟩
 | slice e ih=>
  intro x A w vs h
  obtain ⟨v,_,hl,h⟩:=h
  refine ⟨hl,fun i y hy => ?_⟩
  rcases h with ⟨rfl,_⟩ | ⟨b,o,cap,_,_,h⟩
  ·simp at hy
  ·obtain ⟨us,h1,_⟩:=h i y hy;exact ih h1
 | _=>intro x A w vs h;trivial
theorem VR.wf {eT:TypeId} {t:Ty} {x:D t} {A:aH} {w:World} {v:Value} (h:VR eT t x A w v):Vg.wf t x:=(VR.cells h).wf
theorem im.wf {eT:TypeId} {O:aH} {w:World}:∀{ts:List Ty} {xs:HL ts} {vs:List Value},im eT O w ts xs vs->c8 ts xs
 | [],_,_,_=>trivial
 | [_],_,_,⟨_,_,h⟩=>h.wf
 | _ :: _ :: _,_,_,⟨_,_,_,h,h'⟩=>⟨h.wf,im.wf h'⟩
theorem Gi {B:Cx} {X:Ext} {Γ:List (FuncId × (Bool × bQ))} {N:Nat} {f:FuncId} {fn:Func} {c:Code} (hok:kI P (nC B Γ N) X) (hf:P.funcs[f]?=some fn) (hb:fn.body=some c) (hn:(fn.name == "runtime.NumGoroutine")=false)
  (hN:fn.ntmps=N) {ts rts:List Ty} (anns:HL ts->cy) (hts:ts.length<=N) {pre:HL ts->Prop} {post:HL ts->HL rts->Prop}
  (h:∀xs,c8 ts xs->pre xs->(E3 B Γ N (anns xs) fn.results.toList c ts rts post xs).holds) :
  bG P B.eT X f ts rts pre post:=by
 refine ⟨⟨fn,hf,by rw [hb];rfl,hn⟩,fun O w xs vs hG hO ha hp => ?_⟩
 have g0:Good (nC B Γ N).eT X (aB O (me ts xs) (fun _=>default) w):=
  ⟨fun n oc h=>by simp [aB,me,look] at h,fun n m oc oc' b h=>by simp [aB,me,look] at h,fun n oc b off h=>by simp [aB,me,look] at h,hG,fun b hb ⟨n,oc,h,_⟩=>by simp [aB,me,look] at h⟩
 have hA0:∀b o,¬ O b o->¬ (aB O (me ts xs) (fun _=>default) w).A b o:=by
  rintro b o h (k | ⟨n,oc,k,_⟩)
  ·exact h k
  ·simp [aB,me,look] at k
 refine Calls.mono (o7 hok hf hb hN.symm (anns xs) (by simpa [ha.length,hN] using hts) g0 hO ?_ (h xs ha.wf hp)) ?_
 ·intro t sv ht
  obtain ⟨_,v,h1,h2⟩:=wC (eT:=B.eT) (S:=aB O (me ts xs) (fun _=>default) w) rfl hA0 ts 0 xs vs ha t sv ht
  exact ⟨v,by simpa using h1,h2⟩
 ·rintro e w' ⟨vs',us,st',loc',rfl,h1,h2,h3,h4⟩
  split at h1
  ·rename_i ys hys
   refine ⟨us,ys,rfl,h1,BJ h3 hys h2,h4.os,h4.output,h4.size,fun k hk=>h4.block k hk ?_⟩
   rintro ⟨n,oc,k,_⟩
   simp [aB,me,look] at k
  ·exact h1.elim
def iq:aH:=fun _ _=>False
def outer (lend:Bool) (A:aH):aH:=match lend with
 | true=>iq
 | false=>A
theorem BK {O:aH} {st:St} {loc:Nat->Loc} {w:World} (g:Good cx.eT X (aB O st loc w)) {lend:Bool} {t:Ty} {a:cA} {x:D t} {v:Value} (h:Gf lend st t a=some x)
  (ha:fv cx.eT (aB O st loc w) a v):VR cx.eT t x (outer lend (aB O st loc w).A) w v:=by
 have base:mF t a=some x->VR cx.eT t x (outer lend (aB O st loc w).A) w v:=by
  intro h
  refine VR.xH (ij h ha) fun b o k => ?_
  cases lend with
  | true=>exact id
  | false=>exact k
 unfold Gf at h
 split at h
 ·rename_i e n x' heq
  unfold rP at h
  simp only [xu] at h
  split at h
  ·rename_i e' ys hob
   split at h
   ·cases h;rename_i hb
    exact ig hb _ (VR.xH (E4 g hob ha) fun _ _ _=>id)
   ·cases h
  ·cases h
 ·exact VR.xH (yt g h ha) fun _ _ _=>id
 ·exact base h
theorem yu {O:aH} {st:St} {loc:Nat->Loc} {w:World} (g:Good cx.eT X (aB O st loc w)) {lend:Bool}:∀{ts:List Ty} {as:List cA} {xs:HL ts} {vs:List Value},kv lend st ts as=some xs->
  cF cx.eT (aB O st loc w) as vs->im cx.eT (outer lend (aB O st loc w).A) w ts xs vs
 | [],[],_,_,_, .nil=>rfl
 | [t],[a],xs,_,h, .cons h1 .nil=>⟨_,rfl,BK g h h1⟩
 | t :: u :: r,a :: as,xs,_,h, .cons h1 h2=>by
  simp only [kv] at h
  split at h
  ·rename_i x xs k1 k2
   cases h
   exact ⟨_,_,rfl,BK g k1 h1,yu g k2 h2⟩
  ·cases h
 | [],_ :: _,_,_,h,_=>by simp [kv] at h
 | [_],[],_,_,h,_=>by simp [kv] at h
 | [_],_ :: _ :: _,_,_,h,_=>by simp [kv] at h
 | _ :: _ :: _,[],_,_,h,_=>by simp [kv] at h
theorem ui {eT:TypeId} {S:bD} {O:aH} {w:World} (hS:S.w=w):∀{ts:List Ty} {ys:HL ts} {us:List Value},(gC ts=true\/O=S.A)->im eT O w ts ys us->cF eT S (lQ ts ys) us
 | [],_,_,_,h=>by rw [show _ = [] from h];exact .nil
 | [t],y,_,hl,⟨v,rfl,hv⟩=>by
  refine .cons ?_ .nil
  subst hS
  rcases hl with hl | hl
  ·simp only [gC,Bool.and_true] at hl
   exact VR.of_flat hl hv
  ·subst hl;exact hv
 | t :: u :: r,ys,_,hl,⟨v,vs',rfl,hv,hr⟩=>by
  refine .cons ?_ (ui hS ?_ hr)
  ·subst hS
   rcases hl with hl | hl
   ·simp only [gC,Bool.and_eq_true] at hl
    exact VR.of_flat hl.1 hv
   ·subst hl;exact hv
  ·rcases hl with hl | hl
   ·simp only [gC,Bool.and_eq_true] at hl ⊢;exact .inl hl.2
   ·exact .inr hl
theorem N1 {O:aH} {st:St} {loc:Nat->Loc} {w:World} {eT:TypeId} (g:Good eT X (aB O st loc w)) (hO:dD O w):dD (aB O st loc w).A w:=by
 rintro b off (h | ⟨n,oc,h1,h2,_⟩)
 ·exact hO b off h
 ·exact (g.obj n oc h1).2.inside b h2
theorem yv {eT:TypeId} {f:FuncId} {ts rts:List Ty} {pre:HL ts->Prop} {post:HL ts->HL rts->Prop} (h:bG P eT X f ts rts pre post)
  {O:aH} {st:St} {loc:Nat->Loc} {w:World} {args:List cA} {vs:List Value} {xs:HL ts} (hx:kv (gC rts) st ts args=some xs) (hp:pre xs)
  {K:SV->St->VC} (hK:∀ys,post xs ys->(K (ox (lQ rts ys)) st).holds)
  (g:Good eT X (aB O st loc w)) (hO:dD O w) (ha:cF eT (aB O st loc w) args vs) :
  Calls P f vs.toArray w fun e w'=>∃v sv st' loc',e = .returned v/\(K sv st').holds/\st'.env=st.env/\(true=true->Below w.heap.size w w')/\Good eT X (aB O st' loc' w')/\
   Tr (aB O st loc w) (aB O st' loc' w')/\cP eT (aB O st' loc' w') sv v:=by
 have g':Good (Cx.mk eT [] [] [] 0 [] [] [] false [] []).eT X (aB O st loc w):=g
 have hOut:dD (outer (gC rts) (aB O st loc w).A) w:=by
  intro b off hb
  cases hf:gC rts with
  | true=>rw [hf] at hb;exact hb.elim
  | false=>rw [hf] at hb;exact N1 g hO b off hb
 refine Calls.mono (h.ok _ w xs vs g.kB.1 hOut (yu g' hx ha) hp) ?_
 rintro e w' ⟨us,ys,rfl,h1,h2,h3⟩
 obtain ⟨t,g2⟩:=p7 (S':=aB O st loc w') g rfl rfl rfl rfl h3
 refine ⟨_,_,st,loc,rfl,hK ys h1,rfl,fun _=>h3,g2,t,sq (ui rfl ?_ h2)⟩
 cases hf:gC rts with
 | true=>exact .inl rfl
 | false=>exact .inr (by simp only [outer];funext b off;simp [bD.A,aB])
theorem wD {O:aH} {st:St} {loc:Nat->Loc} {w:World} (g:Good cx.eT X (aB O st loc w)) (c:C) :
  Tr (aB O st loc w) (aB O (si st c).2 loc w)/\Good cx.eT X (aB O (si st c).2 loc w)/\(si st c).2.env=st.env/\
   ∀v,CR cx.eT (aB O st loc w) c v->CR cx.eT (aB O (si st c).2 loc w) (si st c).1 v:=by
 unfold si
 split
 ·rename_i n
  split
  ·rename_i t xs hob
   obtain ⟨h1,h2⟩:=n8 g n
   exact ⟨h1,h2,rfl,fun v hv=>DB g hob hv⟩
  ·exact ⟨Tr.refl _,g,rfl,fun v hv=>hv⟩
 ·rename_i n
  split
  ·rename_i t xs hob
   obtain ⟨h1,h2⟩:=n8 g n
   refine ⟨h1,h2,rfl,fun v hv=>E5 g hob hv fun b hb o => ?_⟩
   rintro (hA' | ⟨m,oc,k1,k2,k3⟩)
   ·exact g.out n _ b o hob hb hA'
   ·simp only [aB,bz] at k1 k2
    rw [jj] at k1
    split at k1
    ·cases k1
    ·rename_i h8;exact h8 (g.apart n m _ _ b hob k1 hb k2)
  ·exact ⟨Tr.refl _,g,rfl,fun v hv=>hv⟩
 ·exact ⟨Tr.refl _,g,rfl,fun v hv=>hv⟩
theorem uj {O:aH} {loc:Nat->Loc} {w:World}:∀(cs:List C) {st:St},Good cx.eT X (aB O st loc w)->
  Tr (aB O st loc w) (aB O (qz st cs).2 loc w)/\Good cx.eT X (aB O (qz st cs).2 loc w)/\(qz st cs).2.env=st.env/\
   ∀vs,cV cx.eT (aB O st loc w) cs vs->cV cx.eT (aB O (qz st cs).2 loc w) (qz st cs).1 vs
 | [],st,g=>⟨Tr.refl _,g,rfl,fun vs h=>h⟩
 | c :: cs,st,g=>by
  obtain ⟨t1,g1,e1,k1⟩:=wD g c
  obtain ⟨t2,g2,e2,k2⟩:=uj cs g1
  refine ⟨t1.trans t2,g2,e2.trans e1,fun vs h => ?_⟩
  cases h with
  | cons h1 h2 h3=>exact .cons ((k1 _ h1).tr t2) h2 (k2 _ (h3.tr t1))
theorem qB {O:aH} {st:St} {loc:Nat->Loc} {w:World} (g:Good cx.eT X (aB O st loc w)) (x:cA) :
  Tr (aB O st loc w) (aB O (vk st x).2 loc w)/\Good cx.eT X (aB O (vk st x).2 loc w)/\(vk st x).2.env=st.env/\
   ∀v,fv cx.eT (aB O st loc w) x v->fv cx.eT (aB O (vk st x).2 loc w) (vk st x).1 v:=by
 cases x with
 | one c=>exact wD g c
 | agg cs=>
  obtain ⟨t1,g1,e1,k1⟩:=uj cs g
  exact ⟨t1,g1,e1,fun v ⟨vs,h1,h2⟩=>⟨vs,h1,k1 _ h2⟩⟩
theorem Gj {O:aH} {st:St} {loc:Nat->Loc} {w:World} (g:Good cx.eT X (aB O st loc w)) (lend:Bool) (x:cA) :
  Tr (aB O st loc w) (aB O (xL lend st x).2 loc w)/\Good cx.eT X (aB O (xL lend st x).2 loc w)/\(xL lend st x).2.env=st.env/\
   ∀v,fv cx.eT (aB O st loc w) x v->fv cx.eT (aB O (xL lend st x).2 loc w) (xL lend st x).1 v:=by
 cases lend with
 | false=>cases x <;> exact qB g _
 | true=>
  cases x with
  | one c=>exact ⟨Tr.refl _,g,rfl,fun v hv=>hv⟩
  | agg cs=>exact qB g _
theorem wE {O:aH} {loc:Nat->Loc} {w:World} (lend:Bool):∀(xs:List cA) {st:St},Good cx.eT X (aB O st loc w)->
  Tr (aB O st loc w) (aB O (o6 lend st xs).2 loc w)/\Good cx.eT X (aB O (o6 lend st xs).2 loc w)/\(o6 lend st xs).2.env=st.env/\
   ∀vs,cF cx.eT (aB O st loc w) xs vs->cF cx.eT (aB O (o6 lend st xs).2 loc w) (o6 lend st xs).1 vs
 | [],st,g=>⟨Tr.refl _,g,rfl,fun vs h=>h⟩
 | x :: xs,st,g=>by
  obtain ⟨t1,g1,e1,k1⟩:=Gj g lend x
  obtain ⟨t2,g2,e2,k2⟩:=wE lend xs g1
  refine ⟨t1.trans t2,g2,e2.trans e1,fun vs h => ?_⟩
  cases h with
  | cons h1 h3=>exact .cons ((k1 _ h1).tr t2) (k2 _ (h3.tr t1))
theorem yw {eT:TypeId} {f:FuncId} {q:Bool} {sp:bQ} {lend:Bool}
  (h:∀O st loc w args vs K,(sp args st K).holds->Good eT X (aB O st loc w)->dD O w->cF eT (aB O st loc w) args vs->
   Calls P f vs.toArray w fun e w'=>∃v sv st' loc',e = .returned v/\(K sv st').holds/\st'.env=st.env/\(q=true->Below w.heap.size w w')/\Good eT X (aB O st' loc' w')/\
    Tr (aB O st loc w) (aB O st' loc' w')/\cP eT (aB O st' loc' w') sv v)
  (O:aH) (st:St) (loc:Nat->Loc) (w:World) (args:List cA) (vs:List Value) (K:SV->St->VC) (hs:(sp (o6 lend st args).1 (o6 lend st args).2 K).holds)
  (g:Good eT X (aB O st loc w)) (hO:dD O w) (ha:cF eT (aB O st loc w) args vs) :
  Calls P f vs.toArray w fun e w'=>∃v sv st' loc',e = .returned v/\(K sv st').holds/\st'.env=st.env/\(q=true->Below w.heap.size w w')/\Good eT X (aB O st' loc' w')/\
   Tr (aB O st loc w) (aB O st' loc' w')/\cP eT (aB O st' loc' w') sv v:=by
 have g':Good (Cx.mk eT [] [] [] 0 [] [] [] false [] []).eT X (aB O st loc w):=g
 obtain ⟨t1,g1,e1,k1⟩:=wE lend args g'
 refine Calls.mono (h O _ loc w _ vs K hs g1 hO (k1 _ ha)) ?_
 rintro e w' ⟨v,sv,st',loc',h1,h2,h3,h4,h5,h6,h7⟩
 exact ⟨v,sv,st',loc',h1,h2,h3.trans e1,h4,h5,t1.trans h6,h7⟩
theorem dj {eT:TypeId} {f:FuncId} {ts rts:List Ty} {pre:HL ts->Prop} {post:HL ts->HL rts->Prop} (h:bG P eT X f ts rts pre post) :
  cL P eT X f true (fJ ts rts pre post):=by
 refine ⟨h.fn,yw (lend:=gC rts) (sp:=fun args st K=>match kv (gC rts) st ts args with
  | some xs => .and (pre xs) (.all (HL rts) fun ys => .imp (post xs ys) (K (ox (lQ rts ys)) st))
  | none => .ff) fun O st loc w args vs K hs g hO ha => ?_⟩
 split at hs
 ·rename_i xs hx
  exact yv h hx hs.1 (fun ys hy=>hs.2 ys hy) g hO ha
 ·exact hs.elim
theorem aE {eT:TypeId} {f:FuncId} {ts rts:List Ty} {pre:HL ts->Prop} {g:HL ts->HL rts} (h:bG P eT X f ts rts pre (fun xs ys=>ys=g xs)) :
  cL P eT X f true (aM ts rts pre g):=by
 refine ⟨h.fn,yw (lend:=gC rts) (sp:=fun args st K=>match kv (gC rts) st ts args with
  | some xs => .and (pre xs) (K (ox (lQ rts (g xs))) st)
  | none => .ff) fun O st loc w args vs K hs hg hO ha => ?_⟩
 split at hs
 ·rename_i xs hx
  exact yv h hx hs.1 (fun ys hy=>by rw [hy];exact hs.2) hg hO ha
 ·exact hs.elim
theorem Mn {B:Cx} {N:Nat} (h:TyOK P B):kI P (nC B [] N) X:=
 {fit:=h.fit,km:=h.km,gw:=h.gw,mixed:=h.mixed,arr:=h.arr,p9:=h.p9,eqs:=h.eqs,kC:=h.kC,mm:=h.mm,n5:=h.n5,calls:=fun f q sp hl=>by simp [nC,look] at hl}
theorem Kr {B:Cx} {Γ:List (FuncId × (Bool × bQ))} {N:Nat} {f:FuncId} {q:Bool} {sp:bQ} (h:cL P B.eT X f q sp) (hΓ:kI P (nC B Γ N) X):kI P (nC B ((f,q,sp) :: Γ) N) X:=
 {fit:=hΓ.fit,km:=hΓ.km,gw:=hΓ.gw,mixed:=hΓ.mixed,arr:=hΓ.arr,p9:=hΓ.p9,eqs:=hΓ.eqs,kC:=hΓ.kC,mm:=hΓ.mm,n5:=hΓ.n5,calls:=fun f' q' sp' hl=>by
   simp only [nC,cm] at hl
   split at hl
   ·rename_i e;subst e;cases hl;exact h
   ·exact hΓ.calls f' q' sp' hl}
end
end Go.Vg

namespace Go.Vg
open Go.RowKit
def Ty.plain:Ty->Bool
 | .err | .eK=>false
 | .prod a b=>a.plain && b.plain
 | .slice e=>e.plain
 | _=>true
def Ty.low:Ty->Bool
 | .slice e=>Nat.blt 0 e.size && e.low
 | .prod a b=>a.low && b.low
 | _=>true
section
variable {H:Type} {enc:TypeId × Value->H} {P:Program} {w:World} {base:Nat} {sp:Nat->Bool} {held:Bool} {eT:TypeId}
theorem Fit.cellsOf {t:TypeId} {ty:Ty} {i:TypeInfo} {d:TypeDesc} (h:Fit P t ty i d):P.cellsOf t=ty.size:=by
 unfold Program.cellsOf;rw [h.info];exact h.size
theorem DL {f:TypeId->Ty->Bool} {cs:List Value} {fuel:Nat}
  (ih:∀t ty,f t ty=true->P.cellsOf t=ty.size/\∀us d ps,ty.plain=true->ty.low=true->DataW.trod enc P w base sp held fuel t us=some (d,ps)->∃x,R eT ty x iq w us) :
  ∀(gs:List Field) (off:Nat) (ty:Ty) (xs:List (DataW H × List MemPlace)),cK f gs off ty=true->ty.plain=true->ty.low=true->
   gs.mapM (fun f=>DataW.trod enc P w base sp held fuel f.type ((cs.drop f.offset).take (P.cellsOf f.type)))=some xs->cs.length=off + ty.size->∃x,R eT ty x iq w (cs.drop off):=by
 intro gs
 induction gs with
 | nil=>
  intro off ty xs h hp hs hm hl
  cases ty <;> simp [cK] at h
  refine ⟨(),?_⟩
  show cs.drop off = []
  exact List.drop_eq_nil_of_le (by simp [Ty.size] at hl;omega)
 | cons g gs ihg=>
  intro off ty xs h hp hs hm hl
  cases ty <;> simp [cK] at h
  rename_i a b
  obtain ⟨⟨⟨h1,h2⟩,h3⟩,h4⟩:=h
  simp only [Ty.plain,Bool.and_eq_true] at hp
  simp only [Ty.size] at hl
  rw [List.mapM_cons] at hm
  obtain ⟨k1,k2⟩:=ih _ _ h2
  subst h1
  rw [k1] at hm
  cases hx:DataW.trod enc P w base sp held fuel g.type ((cs.drop g.offset).take a.size) with
  | none=>simp [hx] at hm
  | some y=>
   cases hxs:gs.mapM (fun f=>DataW.trod enc P w base sp held fuel f.type ((cs.drop f.offset).take (P.cellsOf f.type))) with
   | none=>simp [hx,hxs] at hm
   | some ys=>
    simp only [Ty.low,Bool.and_eq_true] at hs
    obtain ⟨x,rx⟩:=k2 _ y.1 y.2 hp.1 hs.1 hx
    obtain ⟨z,rz⟩:=ihg _ _ _ h4 hp.2 hs.2 hxs (by omega)
    refine ⟨(x,z),_,_,?_,rx,rz⟩
    rw [<-List.drop_drop,List.take_append_drop]
theorem Gk:∀(n:Nat) (t:TypeId) (ty:Ty),fits P n t ty=true->P.cellsOf t=ty.size/\∀fuel us d ps,ty.plain=true->ty.low=true->
  DataW.trod enc P w base sp held fuel t us=some (d,ps)->∃x,R eT ty x iq w us:=by
 intro n
 induction n with
 | zero=>intro t ty h;simp [fits] at h
 | succ n ih=>
  intro t ty h
  obtain ⟨m,i,dsc,hm,fit,hsh⟩:=ie h
  cases hm
  refine ⟨fit.cellsOf,fun fuel us d ps hp hs hd => ?_⟩
  cases fuel with
  | zero=>simp [DataW.trod] at hd
  | succ fuel=>
   unfold DataW.trod at hd
   rw [fit.fm] at hd
   cases ty with
   | bool=>
    cases dsc <;> simp [cg] at hsh
    split at hd
    case h_1 _ _ b _=>exact ⟨b,rfl⟩
    all_goals simp_all
   | int k=>
    cases dsc <;> simp [cg] at hsh
    subst hsh
    split at hd
    case h_2 _ _ k1 k2 x h0=>
     cases h0
     split at hd
     ·rename_i h1
      obtain ⟨rfl,h1⟩:=h1
      simp only [Lit.wf,Bool.and_eq_true,decide_eq_true_eq] at h1
      exact ⟨x,rfl,h1⟩
     ·cases hd
    all_goals simp_all
   | str=>
    cases dsc <;> simp [cg] at hsh
    split at hd
    case h_4 _ _ s _=>
     split at hd
     ·rename_i h1
      refine ⟨s.data.toList,?_,?_⟩
      ·rw [Array.toArray_toList]
      ·unfold maxLen at h1
       unfold aG
       rw [Array.length_toList]
       exact h1
     ·cases hd
    all_goals simp_all
   | err=>simp [Ty.plain] at hp
   | eK=>simp [Ty.plain] at hp
   | unit=>
    cases dsc <;> simp [cg] at hsh
    rename_i fs
    simp only at hd
    split at hd
    ·rename_i hl
     rw [fit.cellsOf] at hl
     refine ⟨(),?_⟩
     exact List.length_eq_zero_iff.1 hl
    ·cases hd
   | prod a b=>
    cases dsc <;> simp [cg] at hsh
    rename_i fs
    simp only at hd
    split at hd
    ·rename_i hl
     rw [fit.cellsOf] at hl
     cases hxs:fs.toList.mapM (fun f=>DataW.trod enc P w base sp held fuel f.type ((us.drop f.offset).take (P.cellsOf f.type))) with
     | none=>rw [hxs] at hd;simp at hd
     | some xs=>
      obtain ⟨x,hx⟩:=DL (fun t ty hf=>⟨(ih t ty hf).1,(ih t ty hf).2 fuel⟩) _ _ _ _ hsh hp hs hxs (by omega)
      exact ⟨x,by simpa using hx⟩
    ·cases hd
   | slice e=>
    cases dsc <;> simp [cg] at hsh
    rename_i te
    simp only [Ty.low,Bool.and_eq_true] at hs
    have hpos:=jS hs.1
    obtain ⟨hce,hel⟩:=ih te e hsh
    split at hd
    case h_7=>exact ⟨[],_,rfl,by simp [aG], .inl ⟨rfl,_,_,rfl⟩⟩
    case h_8 _ _ te' b l c h0=>
     cases h0
     simp only at hd
     split at hd
     case isFalse=>cases hd
     rename_i hcond
     obtain ⟨hb,hlc,hcm⟩:=hcond
     obtain ⟨es,hes,_⟩:=Option.bind_eq_some_iff.1 hd
     rw [hce] at hes
     have hlen:=mapM_some_length hes
     simp only [List.length_range] at hlen
     by_cases hl0:l=0
     ·subst hl0
      exact ⟨[],_,rfl,by simp [aG], .inl ⟨rfl,_,_,rfl⟩⟩
     have hspot:b.spot=none:=by
      have h1:=mapM_some_get hes 0 0 (by rw [List.getElem?_range (by omega)])
      rw [List.getElem?_eq_getElem (by omega)] at h1
      obtain ⟨us,hu,hd1⟩:=Option.bind_eq_some_iff.1 h1
      obtain ⟨_,q1,q2⟩:=World.cells?_some hu
      have q3:=q2 0 hpos
      rw [List.getElem?_eq_getElem (by omega)] at q3
      have e0:(b.add (0 * e.size)).add 0=b:=by simp [Addr.add]
      rw [e0] at q3
      unfold World.cell? at q3
      split at q3
      ·cases hb0:b.spot with
       | none=>rfl
       | some k=>rw [hb0] at q3;simp at q3
      ·cases q3
     obtain ⟨bb,oo,so⟩:=b
     simp only at hspot
     subst hspot
     have hget:∀i,i < l->∃x us,R eT e x iq w us/\Row iq w bb (oo + i * e.size) us:=by
      intro i hi
      have h1:=mapM_some_get hes i i (by simp [hi])
      rw [List.getElem?_eq_getElem (by omega)] at h1
      obtain ⟨us,hu,hd1⟩:=Option.bind_eq_some_iff.1 h1
      obtain ⟨_,q1,q2⟩:=World.cells?_some hu
      obtain ⟨x,hx⟩:=hel fuel us (es[i]'(by omega)).1 (es[i]'(by omega)).2 hp hs.2 hd1
      refine ⟨x,us,hx,fun j u hj=>⟨?_,id⟩⟩
      have hjl:j < us.length:=by
       rcases Nat.lt_or_ge j us.length with h | h
       ·exact h
       ·rw [List.getElem?_eq_none h] at hj;cases hj
      have:=q2 j (by omega)
      rw [Addr.add_lit,Addr.add_lit] at this
      rw [this,hj]
     let xs:List (D e):=(List.range l).map fun i=>if h:i < l then (hget i h).choose else cd e
     have hxl:xs.length=l:=by simp [xs]
     have hxi:∀i y,xs[i]?=some y->∃us,R eT e y iq w us/\Row iq w bb (oo + i * e.size) us:=by
      intro i y hy
      have hi:i < l:=by
       rcases Nat.lt_or_ge i l with h | h
       ·exact h
       ·rw [List.getElem?_eq_none (by omega)] at hy;cases hy
      have:xs[i]?=some (hget i hi).choose:=by simp [xs,hi]
      rw [this] at hy
      cases hy
      exact (hget i hi).choose_spec
     refine ⟨xs,_,rfl,?_, .inr ⟨bb,oo,c,?_,?_,hxi⟩⟩
     ·rw [hxl];unfold maxLen at hcm;unfold aG;omega
     ·rw [hxl]
     ·rw [hxl];exact hlc
    all_goals simp_all
theorem Ks {n:Nat} {t:TypeId} {ty:Ty} (hf:fits P n t ty=true) (hp:ty.plain=true) (hlow:ty.low=true) {r:Reach} {b:Nat} {v:Value} (hval:Value.okWide P w r b t v) {d:DataW H} {ps:List MemPlace}
  (hd:DataW.Trod enc P w base sp held t v d ps):∃x,VR eT ty x iq w v:=by
 obtain ⟨m,i,dsc,hm,fit,hsh⟩:=ie hf
 obtain ⟨fuel,hd⟩:=hd
 have key:∃x,R eT ty x iq w v.cells.toList:=(Gk (eT:=eT) n t ty hf).2 fuel _ _ _ hp hlow hd
 unfold Value.okWide at hval
 rw [fit.fm] at hval
 have one:ty.one=true->Cell.okWide P w r b t v->(v.cells.toList = [v])->∃x,VR eT ty x iq w v:=by
  intro h1 h2 h3
  rw [h3] at key
  obtain ⟨x,hx⟩:=key
  exact ⟨x,VR.cw h1 hx⟩
 have agg:ty.one=false->(∃cs,v = .agg cs/\cs.size=P.cellsOf t/\Row.okWide P w r b t cs)->∃x,VR eT ty x iq w v:=by
  rintro h1 ⟨cs,rfl,_,ts,_,_,h2⟩
  obtain ⟨x,hx⟩:=key
  refine ⟨x,?_⟩
  unfold VR
  rw [if_neg (by simp [h1])]
  exact ⟨cs,rfl,hx⟩
 cases ty with
 | err=>simp [Ty.plain] at hp
 | eK=>simp [Ty.plain] at hp
 | prod a b=>cases dsc <;> simp [cg] at hsh;exact agg rfl hval
 | unit=>cases dsc <;> simp [cg] at hsh;exact agg rfl hval
 | bool=>
  cases dsc <;> simp [cg] at hsh
  refine one rfl hval ?_
  cases v <;> simp [Cell.okWide,Cell.ok,fit.fm,Value.cells] at hval ⊢
 | int k=>
  cases dsc <;> simp [cg] at hsh
  refine one rfl hval ?_
  cases v <;> simp [Cell.okWide,Cell.ok,fit.fm,Value.cells] at hval ⊢
 | str=>
  cases dsc <;> simp [cg] at hsh
  refine one rfl hval ?_
  cases v <;> simp [Cell.okWide,Cell.ok,fit.fm,Value.cells] at hval ⊢
 | slice e=>
  cases dsc <;> simp [cg] at hsh
  refine one rfl hval ?_
  cases v <;> simp [Cell.okWide,Cell.ok,fit.fm,Value.cells] at hval ⊢
def pN (P:Program) (n:Nat):List TypeId->List Ty->Bool
 | [],[]=>true
 | t :: ts,ty :: tys=>fits P n t ty && ty.plain && ty.low && pN P n ts tys
 | _,_=>false
theorem Ii {n:Nat} {r:Reach} {b:Nat}:∀(ts:List TypeId) (tys:List Ty) (vs:List Value) (ds:List (DataW H)) (ps:List MemPlace),pN P n ts tys=true->
  (∀(j:Nat) t v,ts[j]?=some t->vs[j]?=some v->Value.okWide P w r b t v)->DataW.TrodAll enc P w base sp held ts vs ds ps->∃xs,im eT iq w tys xs vs:=by
 intro ts
 induction ts with
 | nil=>
  intro tys vs ds ps hf hv h
  cases tys <;> simp [pN] at hf
  cases vs <;> cases ds <;> simp [DataW.TrodAll] at h
  exact ⟨(),rfl⟩
 | cons t ts ih=>
  intro tys vs ds ps hf hv h
  cases tys <;> simp [pN] at hf
  rename_i ty tys
  obtain ⟨⟨⟨h1,h2⟩,h3⟩,h4⟩:=hf
  cases vs <;> cases ds <;> simp [DataW.TrodAll] at h
  rename_i v vs d ds
  obtain ⟨p,hp,q,hq,_⟩:=h
  obtain ⟨x,hx⟩:=Ks (eT:=eT) h1 h2 h3 (hv 0 t v rfl rfl) hp
  obtain ⟨xs,hxs⟩:=ih tys vs ds q h4 (fun j t' v' h1 h2=>hv (j + 1) t' v' h1 h2) hq
  cases tys with
  | nil=>exact ⟨x,v,by rw [show vs = [] from hxs],hx⟩
  | cons ty' tys=>exact ⟨(x,xs),v,vs,rfl,hx,hxs⟩
theorem Gl (hl:laidOutB P=true) {W W':World} (hb:Below W.heap.size W W'):∀(ts:List TypeId) (vs:List Value) (ds:List (DataW H)) (ps:List MemPlace),(ts.all fun t=>P.readableRec t && Nat.blt t P.types.size)=true->
  DataW.TrodAll enc P W 0 (fun _=>true) true ts vs ds ps->(∀x∈ps,x.block < W.heap.size)->DataW.TrodAll enc P W' 0 (fun b=>decide (b < W.heap.size)) true ts vs ds ps:=by
 intro ts
 induction ts with
 | nil=>intro vs ds ps _ h _;cases vs <;> cases ds <;> simp [DataW.TrodAll] at h ⊢;exact h
 | cons t ts ih=>
  intro vs ds ps hr h hlt
  simp only [List.all_cons,Bool.and_eq_true] at hr
  cases vs <;> cases ds <;> simp only [DataW.TrodAll] at h ⊢
  rename_i v vs d ds
  obtain ⟨p,q,hp,hq,rfl⟩:=h
  exact ⟨p,q,WideElems.Trod_stays hl hr.1.1 (jS hr.1.2) hp (fun x hx=>hb.same (hlt x (by simp [hx]))) (fun x hx=>by simpa using hlt x (by simp [hx])),ih vs ds q hr.2 hq (fun x hx=>hlt x (by simp [hx])),rfl⟩
theorem BL:∀{ts:List TypeId} {vs:List Value} {ds:List (DataW H)} {ps:List MemPlace},DataW.TrodAll enc P w base sp held ts vs ds ps->vs.length=ts.length/\ds.length=ts.length
 | [],[],[],_,_=>⟨rfl,rfl⟩
 | _ :: _,_ :: _,_ :: _,_,⟨_,_,_,h,_⟩=>by simp [BL h]
theorem Ij {X:Ext} {C:Checked} {f:FuncId} {fn:Func} {s:ChangeSpec} {tys:List Ty} {pre:HL tys->Prop} (hs:s.vars = []) (hl:laidOutB C.prog=true)
  (hsp:∀ds:List (DataW H),ds.length=tys.length->s.fn H ds = {results:=[.lit (.bool true)],args:=ds})
  {n:Nat} (hf:pN C.prog n fn.params.toList tys=true) (hr:(fn.params.toList.all fun t=>C.prog.readableRec t && Nat.blt t C.prog.types.size)=true)
  {tb:TypeId} (hres:fn.resultTypes = #[tb]) (hb:C.prog.underlying tb=some .bool)
  (h:bG C.prog eT X f tys [.bool] pre (fun _ y=>y=true))
  {W:World} {base:Nat} {args:Array Value} {ds gs:List (DataW H)} {before:List MemPlace}
  (hval:∀(j:Nat) t v,fn.params[j]?=some t->args[j]?=some v->Value.okWide C.prog W .any base t v)
  (hW:DataW.Whole enc C.prog fn.params.toList s.vars false W args.toList ds gs before)
  (hG:X.rI W) (hpre:∀xs,im eT iq W tys xs args.toList->pre xs) :
  Calls C.prog f args W fun e W'=>∃v,e = .returned v/\s.post enc C.prog fn false true false false W args v W':=by
 have hW0:=hW
 obtain ⟨p,q,hA,hV,rfl,_,_⟩:=hW
 rw [hs] at hV
 obtain ⟨rfl,rfl⟩:gs = []/\q = []:=by cases gs <;> simp [DataW.TrodVars] at hV;exact ⟨rfl,hV⟩
 obtain ⟨xs,hxs⟩:=Ii (eT:=eT) _ _ _ _ _ hf (fun j t v h1 h2=>hval j t v (by rw [<-Array.getElem?_toList];exact h1) (by rw [<-Array.getElem?_toList];exact h2)) hA
 have:=h.ok iq W xs args.toList hG (fun _ _ h=>h.elim) hxs (hpre xs hxs)
 rw [Array.toArray_toList] at this
 refine this.mono ?_
 rintro e W' ⟨us,ys,rfl,rfl,hr',hbel⟩
 obtain ⟨u,rfl,hu⟩:=hr'
 have hu:u = .bool true:=by
  have:=VR.one rfl hu
  simpa [R] using this
 subst hu
 have hlen:ds.length=tys.length:=by
  have h1:=hxs.length
  have h2:=BL hA
  omega
 simp only [List.append_nil] at hW0 ⊢
 have hlt:∀x∈p,x.block < W.heap.size:=hW0.lt
 refine ⟨_,rfl,ds,[],p,[],p,[],hW0,?_,?_,?_,hbel.frame _,fun hh=>by cases hh⟩
 ·rw [List.append_nil,hsp ds hlen,hres]
  exact ⟨[],[],shut_bool hb true,rfl,rfl⟩
 ·rw [List.append_nil,hsp ds hlen]
  exact Gl hl hbel _ _ _ _ hr hA hlt
 ·rw [List.append_nil,hsp ds hlen,hs]
  rfl
end
end Go.Vg

namespace Go.Vg
open Go.RowKit
theorem holds_of {v:VC} {p:Prop} (e:v.holds=p) (h:p):v.holds:=by rw [e];exact h
section
variable {A B:Prop}
theorem iD {p:Prop} [Decidable p] (f:p->A) (g:¬ p->B):(decide p=true->A)/\(decide p=false->B):=⟨fun h=>f (of_decide_eq_true h),fun h=>g (of_decide_eq_false h)⟩
theorem iL {a b:Int} (f:a < b->A) (g:b<=a->B):(decide (a < b)=true->A)/\(decide (a < b)=false->B):=iD f fun h=>g (Int.not_lt.1 h)
theorem iE {a b:Int} (f:a<=b->A) (g:b < a->B):(decide (a<=b)=true->A)/\(decide (a<=b)=false->B):=iD f fun h=>g (Int.not_le.1 h)
theorem iB {b:Bool} (f:b=false->A) (g:b=true->B):((!b)=true->A)/\((!b)=false->B):=⟨fun h=>f (Bool.not_eq_true' b▸h),fun h=>g (Bool.not_eq_false' b▸h)⟩
theorem iQ {α:Type} [BEq α] [LawfulBEq α] {a b:α} (f:a=b->A) (g:¬ a=b->B):((a == b)=true->A)/\((a == b)=false->B):=⟨fun h=>f (eq_of_beq h),fun h=>g fun e=>by rw [e,beq_self_eq_true] at h;cases h⟩
theorem iN {α:Type} [BEq α] [LawfulBEq α] {a b:α} (f:¬ a=b->A) (g:a=b->B):((a != b)=true->A)/\((a != b)=false->B):=
 ⟨fun h=>f fun e=>(by rw [e,bne_self_eq_false] at h;cases h),fun h=>g (by simpa using h)⟩
end
def N2:Ext where
 rel k t x l w:=match k with
  | 0=>gT t x l w
  | 1=>oU t x l w
  | 2=>p6 t x l w
  | _=>False
 inside {k t x l w} h:=by
  match k,h with
  | 0,h=>exact gT.inside h
  | 1,h=>exact oU.inside h
  | 2,h=>exact p6.inside h
 ptr {k t x l w} hk h:=by
  match k,hk,h with
  | 0,hk,_=>omega
  | 1,hk,_=>omega
  | 2,_,h=>obtain ⟨rfl,b,p,v,h⟩:=h;exact ⟨_,h.lv⟩
 deep:=Iff.rfl
 map:=Iff.rfl
 LN:=Iff.rfl
 frame {k t x l w w'} h hb:=by
  match k,h with
  | 0,h=>exact gT.frame h hb
  | 1,h=>exact oU.frame h hb
  | 2,h=>exact p6.frame h hb
 rI _:=True
 EJ:=[]
 LO _ _ hb:=by cases hb
 AV _ _:=trivial
def codeOf (fn:Func):Code:=fn.body.getD .skip
def cp (B:Cx) (Γ:List (FuncId × (Bool × bQ))) (fn:Func) (anns:cy) (ts rts:List Ty) (post:HL ts->HL rts->Prop) (xs:HL ts):VC:=
 E3 B Γ fn.ntmps anns fn.results.toList (codeOf fn) ts rts post xs
def pO (fn:Func) (n:Nat):Bool:=fn.body.isSome && !(fn.name == "runtime.NumGoroutine") && Nat.ble n fn.ntmps
def bU (P:Program) (B:Cx) (X:Ext) (Γ:List (FuncId × (Bool × bQ))):Prop:=∀N,kI P (nC B Γ N) X
section
variable {P:Program} {B:Cx} {X:Ext} {Γ:List (FuncId × (Bool × bQ))}
theorem bI {f:FuncId} {fn:Func} {ts rts:List Ty} {pre:HL ts->Prop} {post:HL ts->HL rts->Prop} (hok:bU P B X Γ) (hf:P.funcs[f]?=some fn) (hc:pO fn ts.length=true)
  (anns:HL ts->cy) (h:∀xs,c8 ts xs->pre xs->(cp B Γ fn (anns xs) ts rts post xs).holds):bG P B.eT X f ts rts pre post:=by
 simp only [pO,Bool.and_eq_true,Bool.not_eq_true'] at hc
 obtain ⟨⟨h1,h2⟩,h3⟩:=hc
 refine Gi (hok fn.ntmps) hf (c:=codeOf fn) ?_ h2 rfl anns (Nat.le_of_ble_eq_true h3) h
 unfold codeOf
 cases hb:fn.body with
 | none=>rw [hb] at h1;cases h1
 | some c=>rfl
theorem bY (h:TyOK P B):bU P B X []:=fun _=>Mn h
theorem aS {f:FuncId} {q:Bool} {sp:bQ} (h:cL P B.eT X f q sp) (hΓ:bU P B X Γ):bU P B X ((f,q,sp) :: Γ):=fun N=>Kr h (hΓ N)
def ir (B:Cx) (l:List Nat):Cx:={B with hint:=l}
theorem bU.hint {l:List Nat} (h:bU P B X Γ):bU P (ir B l) X Γ:=fun N=>
 {fit:=(h N).fit,km:=(h N).km,gw:=(h N).gw,mixed:=(h N).mixed,arr:=(h N).arr,p9:=(h N).p9,eqs:=(h N).eqs,kC:=(h N).kC,mm:=(h N).mm,n5:=(h N).n5,calls:=(h N).calls}
def Gm (B:Cx):Cx:={B with wr:=true}
theorem bU.wrap (h:bU P B X Γ):bU P (Gm B) X Γ:=fun N=>
 {fit:=(h N).fit,km:=(h N).km,gw:=(h N).gw,mixed:=(h N).mixed,arr:=(h N).arr,p9:=(h N).p9,eqs:=(h N).eqs,kC:=(h N).kC,mm:=(h N).mm,n5:=(h N).n5,calls:=(h N).calls}
theorem nD {α:Type} {l:List (Nat × α)} {n:Nat} {x:α} (h:look l n=some x):(n,x)∈l:=by
 induction l with
 | nil=>cases h
 | cons p r ih=>
  obtain ⟨m,y⟩:=p
  rw [cm] at h
  split at h
  ·rename_i e;subst e;cases h;simp
  ·exact List.mem_cons_of_mem _ (ih h)
def Ik (P:Program) (B:Cx) (n:Nat):Bool:=
 (B.τ.all fun p=>fits P n p.1 p.2) &&
 (match P.underlying B.eT with | some (.int .i64)=>true | _=>false) &&
 (match P.info? B.eT with | some i=>(match i.zero with | some (.int .i64 0)=>true | _=>false) | none=>false) &&
 P.follows .mixedOrders &&
 (B.uQ.all fun p=>match P.underlying p.1 with | some (.array m e)=>Nat.beq m p.2.1 && Nat.beq e p.2.2 | _=>false) &&
 (B.uQ.all fun p=>match look B.τ p.2.2 with
  | some e=>(match P.info? p.1 with
   | some i=>(match i.zero with
    | some z=>lK e p.2.1 z.cells.toList
    | none=>false)
   | none=>false)
  | none=>true) &&
 B.eqs.all (FT P) && B.kC.all (A4 P) &&
 (B.mm.all fun p=>match P.underlying p.1 with
  | some (.map k e)=>Nat.beq k p.2.1 && Nat.beq e p.2.2 && (match P.underlying p.2.1 with | some .string=>true | _=>false) &&
   (match P.info? p.2.2 with
    | some i=>(match i.zero with | some (.agg _)=>true | _=>false)
    | none=>false)
  | _=>false) &&
 (B.n5.all fun p=>match P.info? p.1 with
  | some i=>(match i.zero with
   | some (.agg cs)=>(match cs.toList with
    | [.pointer none, .slice none 0 0]=>true
    | _=>false)
   | _=>false)
  | none=>false)
theorem Mo {n:Nat} (h:Ik P B n=true):TyOK P B:=by
 simp only [Ik,Bool.and_eq_true,List.all_eq_true] at h
 obtain ⟨⟨⟨⟨⟨⟨⟨⟨⟨h1,h2⟩,h3⟩,h4⟩,h5⟩,h6⟩,h7⟩,h8⟩,h9⟩,h10⟩:=h
 refine ⟨fun t ty hl=>⟨n,h1 _ (nD hl)⟩,?_,?_,h4,fun t ht=>h7 t (qq ht),fun t ht=>h8 t (qq ht),fun t m e hl => ?_,fun t k e hl => ?_,fun t e hl => ?_,fun t m te e hl he => ?_⟩
 ·split at h2
  ·assumption
  ·cases h2
 ·split at h3
  ·rename_i i hi
   refine ⟨i,hi,?_⟩
   split at h3
   ·assumption
   ·cases h3
  ·cases h3
 ·have:=h5 _ (nD hl)
  simp only at this
  split at this
  ·rename_i m' e' hu
   simp only [Bool.and_eq_true] at this
   rw [hu,Nat.eq_of_beq_eq_true this.1,Nat.eq_of_beq_eq_true this.2]
  ·cases this
 ·have:=h9 _ (nD hl)
  simp only at this
  split at this
  ·rename_i k' e' hu
   simp only [Bool.and_eq_true] at this
   obtain ⟨⟨⟨e1,e2⟩,e3⟩,e4⟩:=this
   rw [hu,Nat.eq_of_beq_eq_true e1,Nat.eq_of_beq_eq_true e2]
   refine ⟨rfl,?_,?_⟩
   ·split at e3
    ·assumption
    ·cases e3
   ·split at e4
    ·rename_i i hi
     split at e4
     ·rename_i cs hz;exact ⟨i,cs,hi,hz⟩
     ·cases e4
    ·cases e4
  ·cases this
 ·have:=h10 _ (nD hl)
  simp only at this
  split at this
  ·rename_i i hi
   split at this
   ·rename_i cs hz
    split at this
    ·rename_i hr
     exact ⟨i,hi,by rw [hz];congr 2;exact Array.toList_inj.1 hr⟩
    ·cases this
   ·cases this
  ·cases this
 ·have:=h6 _ (nD hl)
  simp only [he] at this
  split at this
  ·rename_i i hi
   split at this
   ·rename_i z hz
    exact ⟨i,z,hi,hz,this⟩
   ·cases this
  ·cases this
end
end Go.Vg

namespace Go.Vg
open Go.RowKit
def lR:Nat->List cA->List (Nat × SV)
 | _,[]=>[]
 | k,a :: r=>(k, .s a) :: lR (k + 1) r
def gD (B:Cx) (Γ:List (FuncId × (Bool × bQ))) (fn:Func) (anns:cy):bQ:=fun args st K=>
 match Nat.ble args.length fn.ntmps with
 | true=>Gh (nC B Γ fn.ntmps) anns fn.results.toList (codeOf fn) {env:=lR 0 args,aF:=st.aF,next:=st.next} fun vs st'=>K (ox vs) {st' with env:=st.env}
 | false => .ff
theorem uk {eT:TypeId} {S:bD}:∀{args:List cA} {vs:List Value} (k:Nat),cF eT S args vs->∀t sv,look (lR k args) t=some sv->k<=t/\∃v,vs[t - k]?=some v/\cP eT S sv v:=by
 intro args
 induction args with
 | nil=>intro vs k _ t sv h;simp [lR,look] at h
 | cons a r ih=>
  intro vs k hr t sv h
  cases hr with
  | cons h1 h2=>
   simp only [lR,cm] at h
   split at h
   ·rename_i e
    cases h
    subst e
    exact ⟨Nat.le_refl _,_,by simp,h1⟩
   ·rename_i e
    obtain ⟨k1,v,k2,k3⟩:=ih (k + 1) h2 t sv h
    refine ⟨by omega,v,?_,k3⟩
    rw [show t - k=(t - (k + 1)) + 1 by omega]
    simpa using k2
theorem gq {P:Program} {B:Cx} {X:Ext} {Γ:List (FuncId × (Bool × bQ))} (hok:bU P B X Γ) {f:FuncId} {fn:Func} (hf:P.funcs[f]?=some fn) (hg:pO fn 0=true) (anns:cy) :
  cL P B.eT X f false (gD B Γ fn anns):=by
 simp only [pO,Bool.and_eq_true,Bool.not_eq_true'] at hg
 obtain ⟨⟨h1,h2⟩,_⟩:=hg
 obtain ⟨c,hc⟩:=Option.isSome_iff_exists.1 h1
 refine ⟨⟨fn,hf,by rw [hc];rfl,h2⟩,fun O st loc w args vs K hK g hO ha => ?_⟩
 unfold gD at hK
 split at hK
 case h_2=>exact hK.elim
 rename_i hlen
 have hlen:=Nat.le_of_ble_eq_true hlen
 have hcode:codeOf fn=c:=by unfold codeOf;rw [hc];rfl
 rw [hcode] at hK
 have:=o7 (X:=X) (hok fn.ntmps) hf hc (by rfl) anns (O:=O) (loc:=loc) (w:=w) (args:=vs.toArray)
  (st:={env:=lR 0 args,aF:=st.aF,next:=st.next}) (by rw [List.size_toArray,<-ha.len];exact hlen) g hO
  (fun t sv h=>by
   obtain ⟨_,v,k1,k2⟩:=uk 0 ha t sv h
   exact ⟨v,by simpa using k1,k2⟩) hK
 refine this.mono ?_
 rintro e w' ⟨rs,us,st',loc',he,hk,hr,g',tr⟩
 exact ⟨_,_,_,loc',he,hk,rfl,(fun h=>by cases h),g',tr,sq hr⟩
def LX (st:St) (t k:Nat):Nat:=
 match look st.env t with
 | some (.s (.one (.fn _ caps)))=>caps.getD k 0
 | _=>0
def Ng (ty:Ty) (st:St) (n:Nat):D ty:=
 match look st.aF n with
 | some (.cells _ cs)=>match iW ty cs with
  | some (x,_)=>x
  | none=>cd ty
 | _=>cd ty
end Go.Vg

namespace Go.Vg
open Go.RowKit
def gm:List Cl->St->List cA->List cA × St
 | .d _ :: r,st,v :: vs=>match vk st v with
  | (v',st1)=>match gm r st1 vs with
   | (vs',st2)=>(v' :: vs',st2)
 | .obj _ :: r,st,v :: vs=>match gm r st vs with
  | (vs',st2)=>(v :: vs',st2)
 | .eH :: r,st,v :: vs=>match gm r st vs with
  | (vs',st2)=>(v :: vs',st2)
 | _,st,vs=>(vs,st)
def mw:List (Nat × OC)->List Nat->List (Nat × OC)
 | l,[]=>l
 | l,n :: r=>mw (nt l n) r
def oy:Ob->Ob->Bool
 | .box T _, .box T' _=>Nat.beq T T'
 | .ext k t, .ext k' t'=>Nat.beq k k' && Ty.beq t t'
 | .row true t, .row true t'=>Ty.beq t t'
 | _,_=>false
def jr:List Ob->List Ob->List Nat->Nat->List Nat
 | o :: os,o' :: os',n :: ns,b=>(match oy o o' with | true=>n | false=>b) :: jr os os' ns (b + 1)
 | _,_ :: os',_,b=>b :: jr [] os' [] (b + 1)
 | _,[],_,_=>[]
def xM:Nat->List Ob->List Ob->List (Nat × Nat)
 | k,o :: os,o' :: os'=>match oy o o' with
  | true=>(k,k) :: xM (k + 1) os os'
  | false=>xM (k + 1) os os'
 | _,_,_=>[]
def qC:Nat->List Ob->List Ob->List Nat->Bool
 | k,o :: os,o' :: os',n :: ns=>(match oy o o' with | true=>Nat.beq n k | false=>true) && qC (k + 1) os os' ns
 | _,_,_,_=>true
structure Alt (aO:List Ob) (args:List Cl):Type 1 where
 cv:Bool:=false
 bV:List Ob
 res:List Cl
 ok:CD args->PD aO->Prop:=fun _ _=>True
 out:CD args->PD aO->PD bV
 ret:CD args->PD aO->CD res
section
variable {aO:List Ob} {args:List Cl}
def AR (al:Alt aO args) (a:CD args) (x:PD aO) (ν:List Nat) (st:St) (K:SV->St->VC):VC:=
 match nodupB (jr aO al.bV ν st.next) && gB (st.next + al.bV.length) (jr aO al.bV ν st.next) with
 | true => .imp (al.ok a x) (K (ox (vf (eO al.bV (al.out a x) (jr aO al.bV ν st.next)) al.res (al.ret a x)))
   {env:=st.env,aF:=il (eO al.bV (al.out a x) (jr aO al.bV ν st.next)) al.bV (al.out a x) (jr aO al.bV ν st.next)++mw st.aF ν,next:=st.next + al.bV.length})
 | false => .ff
def wF (a:CD args) (x:PD aO) (ν:List Nat) (st:St) (K:SV->St->VC):List (Alt aO args)->VC
 | [] => .leaf True
 | [al]=>AR al a x ν st K
 | al :: al2 :: r => .both (AR al a x ν st K) (wF a x ν st K (al2 :: r))
def bM (aO:List Ob) (args:List Cl) (pre:CD args->PD aO->Prop) (alts:List (Alt aO args)):bQ:=fun as st K=>
 match gm args st as with
 | (as,st)=>match LU aO args as st.aF [] with
  | some ν=>match nodupB ν,iZ false st.aF aO ν args as,cX false st.aF aO ν aO ν with
   | true,some a,some x=>Kn (jl aO x args as++fB aO x st.aF aO ν) (.and (pre a x) (wF a x ν st K alts))
   | _,_,_ => .ff
  | none => .ff
def ng (aO:List Ob) (args:List Cl) (a:CD args) (x:PD aO):St:=
 {env:=lR 0 (vf (eO aO x (upto 0 aO.length)) args a),aF:=il (eO aO x (upto 0 aO.length)) aO x (upto 0 aO.length),next:=aO.length}
def tE (a:CD args) (x:PD aO) (vs:List cA) (st:St):List (Alt aO args)->VC
 | [] => .ff
 | al :: r=>match gm al.res st vs with
  | (vs',st')=>match LU al.bV al.res vs' st'.aF (xM 0 aO al.bV) with
   | some ν=>match nodupB ν && (qC 0 aO al.bV ν && (!al.cv || (oq aO && (dN al.bV && fC al.res)))),iZ al.cv st'.aF al.bV ν al.res vs',cX al.cv st'.aF al.bV ν al.bV ν with
    | true,some b,some y => .leaf (F8 (jl al.bV y al.res vs'++fB al.bV y st'.aF al.bV ν++[al.ok a x/\y=al.out a x/\b=al.ret a x]))
    | _,_,_=>tE a x vs st r
   | none=>tE a x vs st r
def dR (B:Cx) (Γ:List (FuncId × (Bool × bQ))) (fn:Func) (anns:cy) (aO:List Ob) (args:List Cl) (alts:List (Alt aO args)) (a:CD args) (x:PD aO):VC:=
 Gh (nC B Γ fn.ntmps) anns fn.results.toList (codeOf fn) (ng aO args a x) fun vs st'=>tE a x vs st' alts
def hP:(cls:List Cl)->CD cls->Prop
 | [],_=>True
 | .d t :: r,x=>wf t x.1/\hP r x.2
 | .obj _ :: r,x=>hP r x
 | .eH :: r,x=>hP r x
end
section
variable {eT:TypeId} {X:Ext}
theorem rA {k:Nat}:∀{l:List Nat} {n:Nat},gB k l=true->n∈l->n < k
 | [],_,_,h=>by simp at h
 | m :: r,n,h,hn=>by
  simp only [gB,Bool.and_eq_true] at h
  rcases List.mem_cons.1 hn with e | hn
  ·rw [e];exact jS h.1
  ·exact rA h.2 hn
theorem iM (m:Nat):∀(ns:List Nat) (l:List (Nat × OC)),look (mw l ns) m=if m∈ns then none else look l m
 | [],l=>by simp [mw]
 | n :: r,l=>by
  simp only [mw]
  rw [iM m r,jj]
  by_cases h1:m∈r
  ·simp [h1]
  ·by_cases h2:n=m
   ·subst h2;simp
   ·have:¬ m=n:=fun e=>h2 e.symm
    simp [h1,h2,this]
theorem oz:∀{aO bV:List Ob} {ν:List Nat} {b i n:Nat},(jr aO bV ν b)[i]?=some n->
  (∃o o',aO[i]?=some o/\bV[i]?=some o'/\oy o o'=true/\ν[i]?=some n)\/b<=n
 | aO,[],ν,b,i,n,h=>by
  cases aO <;> cases ν <;> simp [jr] at h
 | [],o' :: os',ν,b,i,n,h=>by
  simp only [jr] at h
  cases i with
  | zero=>simp at h;exact .inr (by omega)
  | succ i=>
   rcases oz (aO:=[]) (ν:=[]) (by simpa using h) with ⟨o,_,h1,_⟩ | h1
   ·simp at h1
   ·exact .inr (by omega)
 | o :: os,o' :: os',[],b,i,n,h=>by
  simp only [jr] at h
  cases i with
  | zero=>simp at h;exact .inr (by omega)
  | succ i=>
   rcases oz (aO:=[]) (ν:=[]) (by simpa using h) with ⟨o,_,h1,_⟩ | h1
   ·simp at h1
   ·exact .inr (by omega)
 | o :: os,o' :: os',n0 :: ns,b,i,n,h=>by
  simp only [jr] at h
  cases i with
  | zero=>
   simp only [List.getElem?_cons_zero,Option.some.injEq] at h
   split at h
   ·rename_i hk;exact .inl ⟨o,o',rfl,rfl,hk,by simp [h]⟩
   ·exact .inr (by omega)
  | succ i=>
   rcases oz (by simpa using h) with ⟨a,a',h1,h2,h3⟩ | h1
   ·exact .inl ⟨a,a',by simpa using h1,by simpa using h2,by simpa using h3⟩
   ·exact .inr (by omega)
theorem nE:∀{aO bV:List Ob} {ν:List Nat} {b:Nat},(jr aO bV ν b).length=bV.length
 | aO,[],ν,b=>by cases aO <;> cases ν <;> rfl
 | [],o' :: os',ν,b=>by simp [jr,nE]
 | o :: os,o' :: os',[],b=>by simp [jr,nE]
 | o :: os,o' :: os',n0 :: ns,b=>by simp [jr,nE]
theorem wG:∀{aO bV:List Ob} {ν:List Nat} {k i n:Nat} {o o':Ob},qC k aO bV ν=true->aO[i]?=some o->bV[i]?=some o'->oy o o'=true->ν[i]?=some n->n=k + i
 | [],_,_,_,_,_,_,_,_,h,_,_,_=>by simp at h
 | _ :: _,[],_,_,_,_,_,_,_,_,h,_,_=>by simp at h
 | _ :: _,_ :: _,[],_,_,_,_,_,_,_,_,_,h=>by simp at h
 | a :: os,a' :: os',m :: ns,k,0,n,o,o',h,h1,h2,h3,h4=>by
  simp at h1 h2 h4
  subst h1;subst h2;subst h4
  simp only [qC,h3,Bool.and_eq_true] at h
  have:=Nat.eq_of_beq_eq_true h.1
  omega
 | a :: os,a' :: os',m :: ns,k,i + 1,n,o,o',h,h1,h2,h3,h4=>by
  simp only [qC,Bool.and_eq_true] at h
  have:=wG h.2 (by simpa using h1) (by simpa using h2) h3 (by simpa using h4)
  omega
theorem yx:∀{l:List Ob} {o:Ob} {t:Ty},oq l=true->o∈l->o≠.tok t
 | [],_,_,_,h=>by simp at h
 | a :: r,o,t,h,ho=>by
  rcases List.mem_cons.1 ho with e | ho
  ·subst e;intro e;subst e;simp [oq] at h
  ·exact yx (by cases a <;> simp_all [oq]) ho
theorem tG {S:bD} {F:Nat->Value->Prop}:∀{cls:List Cl} {x:CD cls} {vs:List Value},o1 eT S F cls x vs->hP cls x
 | [],_,_,_=>trivial
 | .d t :: r,x,v :: vs,h=>⟨h.1.wf,tG h.2⟩
 | .obj k :: r,x,v :: vs,h=>tG (cls:=r) h.2
 | .eH :: r,x,v :: vs,h=>tG (cls:=r) h.2
theorem qD {S:bD} {F:Nat->Value->Prop}:∀{cls:List Cl} {x:CD cls} {vs:List Value},o1 eT S F cls x vs->vs.length=cls.length
 | [],_,_,h=>by rw [show _ = [] from h];rfl
 | .d t :: r,x,v :: vs,h=>by simp [qD h.2]
 | .obj k :: r,x,v :: vs,h=>by simp [qD (cls:=r) h.2]
 | .eH :: r,x,v :: vs,h=>by simp [qD (cls:=r) h.2]
theorem wH {O:aH} {loc:Nat->Loc} {w:World}:∀(cls:List Cl) (xs:List cA) {st:St},Good eT X (aB O st loc w)->
  Tr (aB O st loc w) (aB O (gm cls st xs).2 loc w)/\Good eT X (aB O (gm cls st xs).2 loc w)/\(gm cls st xs).2.env=st.env/\
   ∀vs,cF eT (aB O st loc w) xs vs->cF eT (aB O (gm cls st xs).2 loc w) (gm cls st xs).1 vs:=by
 intro cls
 induction cls with
 | nil=>intro xs st g;exact ⟨Tr.refl _,g,rfl,fun vs h=>h⟩
 | cons cl r ih=>
  intro xs st g
  cases xs with
  | nil=>cases cl <;> exact ⟨Tr.refl _,g,rfl,fun vs h=>h⟩
  | cons x xs=>
   cases cl with
   | d t=>
    have g':Good (Cx.mk eT [] [] [] 0 [] [] [] false [] []).eT X (aB O st loc w):=g
    obtain ⟨t1,g1,e1,k1⟩:=qB g' x
    obtain ⟨t2,g2,e2,k2⟩:=ih xs g1
    refine ⟨t1.trans t2,g2,e2.trans e1,fun vs h => ?_⟩
    cases h with
    | cons h1 h3=>exact .cons ((k1 _ h1).tr t2) (k2 _ (h3.tr t1))
   | obj k=>
    obtain ⟨t2,g2,e2,k2⟩:=ih xs g
    refine ⟨t2,g2,e2,fun vs h => ?_⟩
    cases h with
    | cons h1 h3=>exact .cons (h1.tr t2) (k2 _ h3)
   | eH=>
    obtain ⟨t2,g2,e2,k2⟩:=ih xs g
    refine ⟨t2,g2,e2,fun vs h => ?_⟩
    cases h with
    | cons h1 h3=>exact .cons (h1.tr t2) (k2 _ h3)
end
end Go.Vg

namespace Go.Vg
open Go.RowKit
section
variable {X:Ext} {P:Program} {aO:List Ob} {args:List Cl}
theorem wI {a:CD args} {x:PD aO} {ν:List Nat} {st:St} {K:SV->St->VC}:∀{alts:List (Alt aO args)},(wF a x ν st K alts).holds->∀al∈alts,(AR al a x ν st K).holds
 | [],_,al,h=>by simp at h
 | [al0],h,al,ha=>by simp at ha;subst ha;exact h
 | al0 :: al1 :: r,h,al,ha=>by
  rcases List.mem_cons.1 ha with e | ha
  ·subst e;exact h.1
  ·exact wI h.2 al ha
theorem yy {a:CD args} {x:PD aO} {vs:List cA} {st:St}:∀{alts:List (Alt aO args)},(tE a x vs st alts).holds->∃al∈alts,∃ν,
  nodupB ν=true/\qC 0 aO al.bV ν=true/\(al.cv=false\/(oq aO=true/\dN al.bV=true/\fC al.res=true))/\al.ok a x/\
  iZ al.cv (gm al.res st vs).2.aF al.bV ν al.res (gm al.res st vs).1=some (al.ret a x)/\cX al.cv (gm al.res st vs).2.aF al.bV ν al.bV ν=some (al.out a x)/\
  (∀p∈jl al.bV (al.out a x) al.res (gm al.res st vs).1,p)/\(∀p∈fB al.bV (al.out a x) (gm al.res st vs).2.aF al.bV ν,p)
 | [],h=>h.elim
 | al :: r,h=>by
  have rest:(tE a x vs st r).holds->∃al'∈al :: r,∃ν,
    nodupB ν=true/\qC 0 aO al'.bV ν=true/\(al'.cv=false\/(oq aO=true/\dN al'.bV=true/\fC al'.res=true))/\al'.ok a x/\
    iZ al'.cv (gm al'.res st vs).2.aF al'.bV ν al'.res (gm al'.res st vs).1=some (al'.ret a x)/\cX al'.cv (gm al'.res st vs).2.aF al'.bV ν al'.bV ν=some (al'.out a x)/\
    (∀p∈jl al'.bV (al'.out a x) al'.res (gm al'.res st vs).1,p)/\(∀p∈fB al'.bV (al'.out a x) (gm al'.res st vs).2.aF al'.bV ν,p):=fun h=>by
   obtain ⟨al',h1,h2⟩:=yy h
   exact ⟨al',by simp [h1],h2⟩
  simp only [tE] at h
  split at h
  ·rename_i ν hν
   split at h
   ·rename_i b y hc hb hy
    simp only [Bool.and_eq_true,Bool.or_eq_true,Bool.not_eq_true'] at hc
    obtain ⟨h1,h2,h3⟩:=hc
    have hall:=vg h
    have k3:al.ok a x/\y=al.out a x/\b=al.ret a x:=hall _ (List.mem_append_right _ (by simp))
    obtain ⟨k4,k5,k6⟩:=k3
    subst k5;subst k6
    obtain ⟨k1,_⟩:=gM.1 hall
    obtain ⟨k1,k2⟩:=gM.1 k1
    exact ⟨al,by simp,ν,h1,h2,h3,k4,hb,hy,k1,k2⟩
   ·exact rest h
  ·exact rest h
theorem Kt {B:Cx} {Γ:List (FuncId × (Bool × bQ))} (hok:bU P B X Γ) {f:FuncId} {fn:Func} {c:Code} (hf:P.funcs[f]?=some fn) (hb:fn.body=some c) (hN:args.length<=fn.ntmps) {anns:CD args->PD aO->cy}
  {pre:CD args->PD aO->Prop} {alts:List (Alt aO args)} (h:∀a x,hP args a->pre a x->(dR B Γ fn (anns a x) aO args alts a x).holds)
  {O:aH} {st:St} {loc:Nat->Loc} {w:World} {as:List cA} {vs:List Value} {K:SV->St->VC} (g:Good B.eT X (aB O st loc w)) (hO:dD O w) (ha:cF B.eT (aB O st loc w) as vs)
  {ν:List Nat} {a:CD args} {x:PD aO} (hnd:nodupB ν=true) (hga:iZ false st.aF aO ν args as=some a) (hx:cX false st.aF aO ν aO ν=some x)
  (hp1:∀p∈jl aO x args as,p) (hp2:∀p∈fB aO x st.aF aO ν,p) (hpre:pre a x) (hK:(wF a x ν st K alts).holds) :
  Calls P f vs.toArray w fun e w'=>∃v sv st' loc',e = .returned v/\(K sv st').holds/\st'.env=st.env/\Good B.eT X (aB O st' loc' w')/\
   Tr (aB O st loc w) (aB O st' loc' w')/\cP B.eT (aB O st' loc' w') sv v:=by
 have hvals:=yk g hx hga ha hp1
 have hobsl:=mR hx
 let us:=upto 0 aO.length
 have hul:ν.length=us.length:=by rw [qu];exact hobsl.symm
 let O':aH:=fun b off=>O b off\/∃n oc,look st.aF n=some oc/\n∉ν/\b∈(loc n).bs/\oc.lo<=off
 let st0:=ng aO args a x
 have hOin':dD O' w:=by
  rintro b off (h | ⟨n,oc,h1,_,h2,_⟩)
  ·exact hO b off h
  ·exact (g.obj n oc h1).2.inside b h2
 have hlo:∀n∈ν,∀oc,look st.aF n=some oc->oq aO=true->oc.lo=0:=by
  intro n hn oc h1 h2
  obtain ⟨o,oc',y,k1,k2,k3⟩:=iJ hx hn
  rw [h1] at k2;cases k2
  have:=(mo k3 (fun _ => .any)).2.2.2 (fun t=>yx h2 k1) rfl
  cases oc <;> first | rfl | exact (this _ _ rfl).elim
 have hν:∀n∈ν,∃oc,look st.aF n=some oc:=fun n hn=>let ⟨_,oc,_,_,k,_⟩:=iJ hx hn;⟨oc,k⟩
 let loc0:=dm us (ν.map loc) loc
 have hf0:∀k oc,look st0.aF k=some oc->∃(i n:Nat) (o:Ob) (y:OD o) (oc0:OC),ν[i]?=some n/\us[i]?=some k/\aO[i]?=some o/\look st.aF n=some oc0/\gf false st.aF aO ν o oc0=some y/\oc=nz (eO aO x us) o y/\loc0 k=loc n:=by
  intro k oc hk
  obtain ⟨i,n,o,y,oc0,k1,k2,k3,k4,k5,k6,_⟩:=mQ hx (mP (X:=X) g hx hx hp2) hul hk
  exact ⟨i,n,o,y,oc0,k1,k2,k3,k4,k5,k6,hM (gA _ _) k2 (by simp [k1])⟩
 have hA0:∀b o,(aB O' st0 loc0 w).A b o->(aB O st loc w).A b o:=by
  rintro b off ((h | ⟨n,oc,h1,_,h2,h3⟩) | ⟨k,oc,h1,h2,h3⟩)
  ·exact .inl h
  ·exact .inr ⟨n,oc,h1,h2,h3⟩
  ·obtain ⟨i,n,o,y,oc0,_,_,_,k4,k5,k6,k7⟩:=hf0 k oc h1
   refine .inr ⟨n,oc0,k4,by simp only [aB] at h2;rw [k7] at h2;exact h2,?_⟩
   rcases xK (f:=eO aO x us) k5 with e | e
   ·rw [<-e,<-k6];exact h3
   ·cases e
 have hown0:∀b,(aB O' st0 loc0 w).lI b->∃n∈ν,b∈(loc n).bs:=by
  rintro b ⟨k,oc,h1,h2⟩
  obtain ⟨i,n,o,y,oc0,k1,_,_,_,_,_,k7⟩:=hf0 k oc h1
  exact ⟨n,List.mem_of_getElem? k1,by simp only [aB] at h2;rw [k7] at h2;exact h2⟩
 obtain ⟨g0,laid0⟩:=Gb (X:=X) g hx hp2 hnd (O2:=O') (ν2:=us) (rest:=[]) (locR:=loc) (st2:=st0) (gA _ _) hul
  (by simp [st0,ng,us]) (fun n hn=>by have:=qt hn;simp [st0,ng];omega)
  (fun n hn b hb off=>by
   obtain ⟨oc,k⟩:=hν n hn
   rintro (h | ⟨m,oc',h1,h2,h3,_⟩)
   ·exact g.out n oc b off k hb h
   ·exact h2 (by rw [<-g.apart n m oc oc' b k h1 hb h3];exact hn))
  (fun n hn b hb m oc h=>by simp [look] at h) (fun m oc h=>by simp [look] at h) (fun m m' oc oc' b h=>by simp [look] at h) (fun m oc b off h=>by simp [look] at h) (.inr hA0)
  (fun b hb h=>by
   obtain ⟨n,hn,hbn⟩:=hown0 b h
   obtain ⟨oc,k⟩:=hν n hn
   exact g.kB.2 b hb ⟨n,oc,k,hbn⟩)
 have hargs:cF B.eT (aB O' st0 loc0 w) (vf (eO aO x us) args a) vs:=BD (S:=aB O st loc w) (S':=aB O' st0 loc0 w) rfl (fun k v hk=>wm laid0 hk) (.inr hA0) hvals
 have hcode:codeOf fn=c:=by unfold codeOf;rw [hb];rfl
 have hvc:=h a x (tG hvals) hpre
 unfold dR at hvc
 rw [hcode] at hvc
 have hcalls:=o7 (X:=X) (hok fn.ntmps) hf hb (by rfl) (anns a x) (O:=O') (loc:=loc0) (w:=w) (args:=vs.toArray) (st:=st0)
  (by rw [List.size_toArray,qD hvals];exact hN) g0 hOin'
  (fun t sv ht=>by
   obtain ⟨_,v,k1,k2⟩:=uk 0 hargs t sv ht
   exact ⟨v,by simpa using k1,k2⟩) hvc
 refine hcalls.mono ?_
 rintro e w' ⟨rs,us',st',locE,he,hk,hr,gE',trE'⟩
 obtain ⟨al,hal,ν',hnd',hkept,hcv,hokal,hret,hout,hc1,hc2⟩:=yy hk
 obtain ⟨tF,gE,_,kF⟩:=wH al.res rs gE'
 generalize hst2:(gm al.res st' rs).2=st2 at *
 generalize hrs2:(gm al.res st' rs).1=rs2 at *
 have trE:=trE'.trans tF
 have hrE:=kF us' hr
 have hKal:=wI hK al hal
 unfold AR at hKal
 split at hKal
 case h_2=>exact hKal.elim
 rename_i hn1
 simp only [Bool.and_eq_true] at hn1
 obtain ⟨hnd1,hbel⟩:=hn1
 have hKal:=hKal hokal
 generalize hν1:jr aO al.bV ν st.next=ν1 at *
 have hl1:ν'.length=ν1.length:=by rw [<-hν1,nE];exact (mR hout).symm
 generalize hst1:({env:=st.env,aF:=il (eO al.bV (al.out a x) ν1) al.bV (al.out a x) ν1++mw st.aF ν,next:=st.next + al.bV.length}:St)=st1 at hKal
 have h1env:st1.env=st.env:=by rw [<-hst1]
 have h1objs:st1.aF=il (eO al.bV (al.out a x) ν1) al.bV (al.out a x) ν1++mw st.aF ν:=by rw [<-hst1]
 have h1next:st1.next=st.next + al.bV.length:=by rw [<-hst1]
 let loc1:=dm ν1 (ν'.map locE) loc
 have hf1:∀m oc,look st1.aF m=some oc->(∃(i n:Nat) (o:Ob) (y:OD o) (oc0:OC),ν'[i]?=some n/\ν1[i]?=some m/\al.bV[i]?=some o/\look st2.aF n=some oc0/\gf al.cv st2.aF al.bV ν' o oc0=some y/\
   oc=nz (eO al.bV (al.out a x) ν1) o y/\loc1 m=locE n)\/(m∉ν1/\m∉ν/\look st.aF m=some oc/\loc1 m=loc m):=by
  intro m oc hm
  rw [h1objs,cZ] at hm
  split at hm
  ·rename_i oc' hm'
   cases hm
   obtain ⟨i,n,o,y,oc0,k1,k2,k3,k4,k5,k6,_⟩:=mQ hout (mP (X:=X) gE hout hout hc2) hl1 hm'
   exact .inl ⟨i,n,o,y,oc0,k1,k2,k3,k4,k5,k6,hM hnd1 k2 (by simp [k1])⟩
  ·rename_i hm'
   have hnin:m∉ν1:=fun hmem=>by
    obtain ⟨oc1,h2⟩:=mq (f:=eO al.bV (al.out a x) ν1) (x:=al.out a x) (by rw [<-hν1,nE]) hmem
    rw [h2] at hm';cases hm'
   rw [iM] at hm
   split at hm
   ·cases hm
   ·rename_i hmn
    exact .inr ⟨hnin,hmn,hm,kP hnin⟩
 have hownE:∀n∈ν',∀b∈(locE n).bs,(aB O' st2 locE w').lI b:=by
  intro n hn b hb
  obtain ⟨_,oc,_,_,k,_⟩:=iJ hout hn
  exact ⟨n,oc,k,hb⟩
 have hblk:∀m oc,look st.aF m=some oc->m∉ν->∀b∈(loc m).bs,¬ (aB O' st0 loc0 w).lI b:=by
  intro m oc h1 h2 b hb' ho
  obtain ⟨n,hn,hbn⟩:=hown0 b ho
  obtain ⟨oc',k⟩:=hν n hn
  have:=g.apart n m oc' oc b k h1 hbn hb'
  exact h2 (by rw [<-this];exact hn)
 have hA1:al.cv=false->∀b o,(aB O st1 loc1 w').A b o->(aB O' st2 locE w').A b o:=by
  rintro hcv0 b off (h | ⟨m,oc,h1,h2,h3⟩)
  ·exact .inl (.inl h)
  ·rcases hf1 m oc h1 with ⟨i,n,o,y,oc0,k1,k2,k3,k4,k5,k6,k7⟩ | ⟨k1,k2,k3,k4⟩
   ·refine .inr ⟨n,oc0,k4,by simp only [aB] at h2;rw [k7] at h2;exact h2,?_⟩
    rcases xK (f:=eO al.bV (al.out a x) ν1) k5 with e | e
    ·rw [<-e,<-k6];exact h3
    ·rw [hcv0] at e;cases e
   ·exact .inl (.inr ⟨m,oc,k3,k2,by simp only [aB] at h2;rw [k4] at h2;exact h2,h3⟩)
 have hkeep:∀(m i:Nat),ν1[i]?=some m->m < st.next->∃o o',aO[i]?=some o/\al.bV[i]?=some o'/\oy o o'=true/\ν[i]?=some m:=by
  intro m i h1 h2
  rw [<-hν1] at h1
  rcases oz h1 with h3 | h3
  ·exact h3
  ·omega
 have hT:Tr (aB O st loc w) (aB O st1 loc1 w'):={
  O:=rfl
  next:=by simp only [aB];omega
  os:=trE.os
  output:=trE.output
  size:=trE.size
  own:=by
   rintro b ⟨m,oc,h1,h2⟩
   rcases hf1 m oc h1 with ⟨i,n,o,y,oc0,k1,k2,k3,k4,k5,k6,k7⟩ | ⟨k1,k2,k3,k4⟩
   ·simp only [aB] at h2;rw [k7] at h2
    rcases trE.own b (hownE n (List.mem_of_getElem? k1) b h2) with h3 | h3
    ·obtain ⟨n',hn',hb'⟩:=hown0 b h3
     obtain ⟨oc',k⟩:=hν n' hn'
     exact .inl ⟨n',oc',k,hb'⟩
    ·exact .inr h3
   ·simp only [aB] at h2;rw [k4] at h2;exact .inl ⟨m,oc,k3,h2⟩
  cell:=by
   intro b off v hna hcell
   obtain ⟨h1,h2⟩:=trE.cell b off v (fun h=>hna (hA0 b off h)) hcell
   refine ⟨h1,fun h3 => ?_⟩
   rcases hcv with hcv | ⟨hnt,_,_⟩
   ·exact h2 (hA1 hcv b off h3)
   ·rcases h3 with h3 | ⟨m,oc,h3,h4,h5⟩
    ·exact hna (.inl h3)
    ·rcases hf1 m oc h3 with ⟨i,n,o,y,oc0,k1,k2,k3,k4,k5,k6,k7⟩ | ⟨k1,k2,k3,k4⟩
     ·simp only [aB] at h4;rw [k7] at h4
      rcases trE.own b (hownE n (List.mem_of_getElem? k1) b h4) with h6 | h6
      ·obtain ⟨n',hn',hb'⟩:=hown0 b h6
       obtain ⟨oc',k⟩:=hν n' hn'
       exact hna (.inr ⟨n',oc',k,hb',by rw [hlo n' hn' oc' k hnt];exact Nat.zero_le _⟩)
      ·have:=World.block_lt_of_cell? _ _ hcell
       simp only [aB] at this h6
       omega
     ·simp only [aB] at h4;rw [k4] at h4;exact hna (.inr ⟨m,oc,k3,h4,h5⟩)
  block:=fun b hb' ho=>trE.block b hb' fun h=>ho (by
   obtain ⟨n,hn,hbn⟩:=hown0 b h
   obtain ⟨oc,k⟩:=hν n hn
   exact ⟨n,oc,k,hbn⟩)
  loc:=by
   intro m hm hfix
   by_cases hin:m∈ν1
   ·obtain ⟨i,hi⟩:=List.getElem?_of_mem hin
    obtain ⟨o,o',e1,e2,e3,e4⟩:=hkeep m i hi hm
    have hiE:i < ν'.length:=by rw [hl1];exact aZ hi
    have hn':ν'[i]?=some ν'[i]:=List.getElem?_eq_getElem hiE
    have hni:=wG hkept e1 e2 e3 hn'
    rw [Nat.zero_add] at hni
    have e5:loc1 m=locE i:=by
     have:=hM (d:=loc) hnd1 hi (ls:=ν'.map locE) (l:=locE i) (by simp [hn',hni])
     exact this
    have hui:us[i]?=some i:=by have:=vj aO.length 0 i (aZ e1);simpa using this
    have e6:loc0 i=loc m:=hM (gA _ _) hui (by simp [e4])
    have e7:=trE.loc i (show i < st0.next by simp [st0,ng];exact aZ e1) (fun t ys hy=>by
     obtain ⟨j,n,o2,y,oc0,k1,k2,k3,k4,k5,k6,k7⟩:=hf0 i _ hy
     have hj:j=i:=mr (gA _ _) k2 hui
     subst hj
     rw [e1] at k3;cases k3
     cases o <;> simp [nz] at k6
     cases o' <;> simp [oy] at e3)
    show (loc1 m).v=(loc m).v/\(_->loc1 m=loc m)
    rw [e5,<-e6]
    refine ⟨e7.1,fun hr=>e7.2 fun t z hy => ?_⟩
    obtain ⟨j,n,o2,y,oc0,k1,k2,k3,k4,k5,k6,k7⟩:=hf0 i _ hy
    have hj:j=i:=mr (gA _ _) k2 hui
    subst hj
    rw [e4] at k1;cases k1
    cases o2 <;> simp [nz] at k6
    obtain ⟨rfl,rfl,_⟩:=k6
    obtain ⟨z',rfl⟩:=(mo k5 (fun _ => .any)).2.1 _ _ rfl
    exact hr _ _ k4
   ·exact ki (kP hin)
  kind:=by
   intro m oc' hm hob
   rcases hf1 m oc' hob with ⟨i,n,o,y,oc0,k1,k2,k3,k4,k5,k6,k7⟩ | ⟨k1,k2,k3,k4⟩
   ·obtain ⟨o0,o',e1,e2,e3,e4⟩:=hkeep m i k2 hm
    rw [k3] at e2;cases e2
    have hui:us[i]?=some i:=by have:=vj aO.length 0 i (aZ e1);simpa using this
    obtain ⟨oc2,h2⟩:=mq (f:=eO aO x us) (x:=x) (ms:=us) (by rw [qu]) (List.mem_of_getElem? hui)
    obtain ⟨j,n2,o2,y2,oc3,j1,j2,j3,j4,j5,j6,j7⟩:=hf0 i oc2 (by simpa [st0,ng] using h2)
    have hj:j=i:=mr (gA _ _) j2 hui
    subst hj
    rw [e1] at j3;cases j3
    rw [e4] at j1;cases j1
    refine ⟨oc3,j4,?_⟩
    cases o0 <;> cases o <;> simp [oy] at e3
    ·subst e3
     obtain ⟨cs,rfl⟩:=(mo j5 (fun _ => .any)).1 _ _ rfl
     rw [k6]
     rfl
    ·rename_i kp t kp' t'
     cases kp <;> cases kp' <;> simp at e3
     have e3:=Ty.eq_of_beq e3
     subst e3
     obtain ⟨xs,rfl⟩:=(mo j5 (fun _ => .any)).2.2.1 _ _ rfl rfl
     rw [k6]
     rfl
    ·obtain ⟨e3,e4⟩:=e3
     have e4:=Ty.eq_of_beq e4
     subst e3;subst e4
     obtain ⟨z,rfl⟩:=(mo j5 (fun _ => .any)).2.1 _ _ rfl
     rw [k6]
     exact ⟨rfl,rfl⟩
   ·refine ⟨oc',k3,?_⟩
    cases oc' <;> simp [aT,aB,k4]}
 obtain ⟨g1,laid1⟩:=Gb (X:=X) gE hout hc2 hnd' (O2:=O) (ν2:=ν1) (rest:=mw st.aF ν) (locR:=loc) (st2:=st1) hnd1 hl1 h1objs
  (fun n hn=>by rw [h1next];exact rA hbel hn)
  (fun n hn b hb' off h=>by
   obtain ⟨_,oc,_,_,k,_⟩:=iJ hout hn
   exact gE.out n oc b off k hb' (.inl h))
  (fun n hn b hb' m oc h1 h2 h3=>by
   rw [iM] at h1
   split at h1
   ·cases h1
   ·rename_i hmn
    rcases trE.own b (hownE n hn b hb') with h4 | h4
    ·exact hblk m oc h1 hmn b h3 h4
    ·have:=(g.obj m oc h1).2.inside b h3
     simp only [aB] at this h4
     omega)
  (fun m oc h1 h2=>by
   rw [iM] at h1
   split at h1
   ·cases h1
   ·rename_i hmn
    obtain ⟨k1,k2⟩:=g.obj m oc h1
    refine ⟨by rw [h1next];simp only [aB] at k1;omega,k2.tr hT fun b hb' => ?_⟩
    exact trE.block b (k2.inside b hb') (hblk m oc h1 hmn b hb'))
  (fun m m' oc oc' b h1 h2 _ _ h3 h4=>by
   rw [iM] at h1 h2
   split at h1
   ·cases h1
   ·split at h2
    ·cases h2
    ·exact g.apart m m' oc oc' b h1 h2 h3 h4)
  (fun m oc b off h1 _ h2=>by
   rw [iM] at h1
   split at h1
   ·cases h1
   ·exact g.out m oc b off h1 h2)
  (by
   rcases hcv with hcv | ⟨_,hcv,_⟩
   ·exact .inr (hA1 hcv)
   ·exact .inl hcv)
  (g.kB.tr hT).2
 have hres:=yk gE hout hret hrE hc1
 refine ⟨_,_,st1,loc1,he,hKal,h1env,g1,hT,sq (BD (S:=aB O' st2 locE w') (S':=aB O st1 loc1 w') rfl (fun k v hk=>wm laid1 hk) ?_ hres)⟩
 rcases hcv with hcv | ⟨_,_,hcv⟩
 ·exact .inr (hA1 hcv)
 ·exact .inl hcv
theorem cn {B:Cx} {Γ:List (FuncId × (Bool × bQ))} (hok:bU P B X Γ) {f:FuncId} {fn:Func} (hf:P.funcs[f]?=some fn) (hg:pO fn args.length=true) (anns:CD args->PD aO->cy)
  {pre:CD args->PD aO->Prop} {alts:List (Alt aO args)} (h:∀a x,hP args a->pre a x->(dR B Γ fn (anns a x) aO args alts a x).holds) :
  cL P B.eT X f false (bM aO args pre alts):=by
 simp only [pO,Bool.and_eq_true,Bool.not_eq_true'] at hg
 obtain ⟨⟨h1,h2⟩,h3⟩:=hg
 obtain ⟨c,hc⟩:=Option.isSome_iff_exists.1 h1
 refine ⟨⟨fn,hf,by rw [hc];rfl,h2⟩,fun O st loc w as vs K hK g hO ha => ?_⟩
 unfold bM at hK
 obtain ⟨t1,g1,e1,k1⟩:=wH args as g
 simp only at hK
 split at hK
 case h_2=>exact hK.elim
 rename_i ν hν
 split at hK
 case h_2=>exact hK.elim
 rename_i a x hnd hga hx
 obtain ⟨hp,hpre,hK⟩:=BB hK
 obtain ⟨hp1,hp2⟩:=gM.1 hp
 refine (Kt hok hf hc (Nat.le_of_ble_eq_true h3) h g1 hO (k1 vs ha) hnd hga hx hp1 hp2 hpre hK).mono ?_
 rintro e w' ⟨v,sv,st',loc',q1,q2,q3,q4,q5,q6⟩
 exact ⟨v,sv,st',loc',q1,q2,q3.trans e1,(fun hq=>by cases hq),q4,t1.trans q5,q6⟩
end
end Go.Vg

namespace Go.Vg
@[reducible] def aI:Ty:=.prod .str (.prod (.int .i64) (.prod .bool .unit))
@[reducible] def aP:Ty:=.prod (.int .i64) (.prod (.int .i64) .unit)
@[reducible] def aJ:Ty:=.prod (.int .i64) (.prod (.int .i64) (.prod (.int .i64) (.prod .str (.prod .bool .unit))))
@[reducible] def aN:Ty:=.prod (.int .i64) (.prod (.int .i64) (.prod (.int .i64) .unit))
@[reducible] def gO:Ty:=.prod .str (.prod (.int .i64) (.prod (.int .i64) .unit))
@[reducible] def aA:Ty:=.prod (.slice .str) (.prod (.slice (.int .i64)) (.prod (.slice aI) (.prod (.slice aJ) .unit)))
@[reducible] def fj:Ty:=.prod .str (.prod (.slice gO) (.prod (.slice aN) .unit))
@[reducible] def bT:Ty:=.prod .str (.prod .str (.prod .str (.prod (.int .i64) (.prod (.int .u64) (.prod fj .unit)))))
@[reducible] def bE:Ty:=.prod .str (.prod (.int .i64) (.prod (.slice (.int .i64)) .unit))
@[reducible] def AS:Ty:=.prod (.int .i64) (.prod .str .unit)
@[reducible] def LY:Ty:=.prod (.slice .str) (.prod (.slice .str) (.prod (.slice AS) (.prod (.int .i64) (.prod .bool .unit))))
@[reducible] def cq:Ty:=.prod .str (.prod .str (.prod (.int .i64) .unit))
@[reducible] def E7:Ty:=.prod (.slice cq) (.prod (.int .i64) .unit)
theorem bl :
  (∀(p:Prop) [Decidable p],(decide p=true)=p)/\(∀(p:Prop) [Decidable p],(decide p=false)=¬ p)/\
  (∀(α:Type) [BEq α] [LawfulBEq α] (a b:α),((a == b)=true)=(a=b))/\(∀(α:Type) [BEq α] [LawfulBEq α] (a b:α),((a == b)=false)=¬ a=b)/\
  (∀(α:Type) [BEq α] [LawfulBEq α] (a b:α),((a != b)=true)=¬ a=b)/\(∀(α:Type) [BEq α] [LawfulBEq α] (a b:α),((a != b)=false)=(a=b))/\
  (∀b:Bool,((!b)=true)=(b=false))/\(∀b:Bool,((!b)=false)=(b=true))/\(∀b:Bool,(¬ b=true)=(b=false))/\(∀b:Bool,(¬ b=false)=(b=true))/\
  (∀a b:Bool,((a && b)=true)=(a=true/\b=true))/\(∀a b:Bool,((a || b)=true)=(a=true\/b=true))/\
  (∀a b:Bool,((a && b)=false)=(a=false\/b=false))/\(∀a b:Bool,((a || b)=false)=(a=false/\b=false))/\
  (∀a b:Int,(¬ a < b)=(b<=a))/\(∀a b:Int,(¬ a<=b)=(b < a)):=by
 refine ⟨?_,?_,?_,?_,?_,?_,?_,?_,?_,?_,?_,?_,?_,?_,?_,?_⟩ <;> intros <;> first | (simp;done) | (rename_i a b;cases a <;> cases b <;> simp)
end Go.Vg

namespace Go.Vg
open Go.RowKit
theorem Nh {w:World} {b i:Nat} {c:Array Value} {T:TypeId} {v:Value} (hb:w.heap[b]?=some (.cells c T (0,0))):(w.setCell ⟨b,i,none⟩ v).heap[b]?=some (.cells (c.setIfInBounds i v) T (0,0)):=by
 simp [World.setCell,Array.getElem?_modify,hb]
theorem Mp {P:Program} {w:World} {t u ty e:TypeId} {i:TypeInfo} (ht:P.underlying t=some (.slice e)) (hu:P.underlying u=some .string) (hi:P.info? e=some i) (hz:i.zero=some (.int .u8 0))
  (hsize:i.size=1) (hby:i.bytes=1) {v:Value} {xs:List Value} (hown:w.ownsRow 0 e 1 v xs.length xs) (hcap:∀a n c,v = .slice (some a) n c->0 < c) (s:ByteArray) (hlen:xs.length + s.size<=140737488355328) :
  ∃v' w',(Builtin.append_ #[t,u] ty #[v, .string s]).run P w = .ok v' w'/\w'.ownsRow 0 e 1 v' (xs.length + s.size) (xs++Lib.strCells s)/\w.grownBy w' v.ownBlock/\(∀a n c,v' = .slice (some a) n c->0 < c)/\
   (∀g,v'.ownBlock=some g->v.ownBlock=some g\/w.heap.size<=g):=by
 rcases hown.2 with ⟨rfl,h0⟩ | ⟨g,cap,cur,rfl,hbg,hg,hnc,hcm,hcs,htake⟩
 ·have hown':w.ownsRow w.heap.size e 1 (.slice none 0 0) xs.length xs:=⟨hown.1, .inl ⟨rfl,h0⟩⟩
  obtain ⟨v',w',h1,h2,h3,h4⟩:=Lib.run_append_own_string (P:=P) w w.heap.size t u ty e i ht hu hi hz hsize hby _ _ _ hown' s (by unfold maxLen;omega) hlen (Nat.le_refl _)
  rcases h2.2 with ⟨rfl,h6⟩ | ⟨g,cap,cur,rfl,k1,k2,k3,k4⟩
  ·exact ⟨_,w',h1,⟨h2.1, .inl ⟨rfl,h6⟩⟩,h3,(fun a n c hh=>by cases hh),(fun g hh=>by cases hh)⟩
  ·refine ⟨_,w',h1,⟨h2.1, .inr ⟨g,cap,cur,rfl,Nat.zero_le _,k2,k3,k4⟩⟩,h3,fun a n c hh => ?_,fun g' hh=>by cases hh;exact .inr k1⟩
   cases hh
   by_cases hs:s.size=0
   ·have:=h4.2 ⟨rfl,hs⟩;cases this
   ·omega
 ·have hc0:=hcap _ _ _ rfl
  by_cases hroom:xs.length + s.size<=cap
  ·obtain ⟨w',h1,h2,h3⟩:=Lib.run_append_fits_string (P:=P) w 0 t u ty e i ht hu hi hsize _ _ _ _ hown s hc0 hroom
   exact ⟨_,w',h1,h2,h3,(fun a n c hh=>by cases hh;exact hc0),(fun g' hh => .inl hh)⟩
  ·have holds:∀j u,xs[j]?=some u->w.cell? ((⟨g,0,none⟩:Addr).add j)=some u:=hown.cells (g:=g) rfl
   have hr:=Lib.run_append_grow_string (P:=P) w t u ty e i (.int .u8 0) ht hu hi hz ⟨g,0,none⟩ xs.length cap xs (by rw [hsize];simp) holds s (by omega) (by omega) (by rw [hby];exact growslice_fits (by omega) (by omega))
   have hge:=grownCap_ge w (xs.length + s.size) cap e
   have hcm':grownCap w (xs.length + s.size) cap e<=maxLen:=grownCap_le_maxLen w (xs.length + s.size) cap e (by unfold maxLen;omega)
   refine ⟨_,_,hr,⟨by simp [Lib.strCells_length], .inr ⟨w.heap.size,_,_,rfl,Nat.zero_le _,heap_alloc_new w.drew _,hge,hcm',?_,?_⟩⟩,⟨rfl,rfl,rfl,by simp,fun k hk _=>Go.Deep.blk_alloc_lt w.drew _ k hk⟩,(fun a n c hh=>by cases hh;omega),(fun g' hh=>by cases hh;exact .inr (Nat.le_refl _))⟩
   ·have hz1:(Value.int IntKind.u8 0).cells.size=1:=rfl
    simp only [Array.size_append,List.size_toArray,size_zeroCells,hz1,Lib.strCells_length]
    omega
   ·simp only [Array.toList_append,List.append_assoc]
    rw [<-List.append_assoc]
    have:(xs++Lib.strCells s).length=(xs.length + s.size) * 1:=by simp [Lib.strCells_length]
    rw [<-this]
    exact List.take_left
theorem tW {P:Program} {w w':World} {ops:Array Oper} {rest:List Oper} {o:Oper} {a:Act} {Q:Exit->Act->World->Prop} (hgd:o.guard=none) (sl x:Operand) (t u:TypeId)
  (ho:o.op = .call {callee:=.builtin .append,args:=#[sl,x],argTypes:=#[t,u]}) {v v' y:Value} (hs:a.eval sl=v) (hx:a.eval x=y)
  (hr:(Builtin.append_ #[t,u] o.type #[v,y]).run P w = .ok v' w') (h:wpList P ops Q rest (a.put o.dst v') w'):wpList P ops Q (o :: rest) a w:=by
 refine wpList_plain hgd fun K hK => ?_
 unfold Oper.wp execOp
 simp only [ho,resolve,invoke,builtin,Sem.run_bind,Sem.run_pure,Result.andThen_ok,List.map_toArray,List.map_cons,List.map_nil,hs,hx,hr]
 exact hK _ _ h
structure Kept (b:Nat) (v:Value) (w w':World):Prop where
 os:w'.os=w.os
 output:w'.output=w.output
 size:w.heap.size<=w'.heap.size
 block:∀k,k < w.heap.size->k≠b->v.ownBlock≠some k->w'.heap[k]?=w.heap[k]?
structure Gn (v:Value) (w w':World):Prop where
 os:w'.os=w.os
 output:w'.output=w.output
 size:w'.heap.size=w.heap.size
 block:∀k,v.ownBlock≠some k->w'.heap[k]?=w.heap[k]?
theorem DM {w:World} {g n c:Nat} {m:Nat}:Gn (.slice (some ⟨g,0,none⟩) n c) w (w.drew.freeze ⟨g,0,none⟩ m):=by
 unfold World.freeze
 split
 ·exact ⟨rfl,rfl,rfl,fun _ _=>rfl⟩
 ·refine ⟨rfl,rfl,by simp,fun k hk => ?_⟩
  have:k≠g:=fun e=>hk (by rw [e];rfl)
  simp only [Array.getElem?_modify]
  rw [if_neg (fun e=>this e.symm)]
  rfl
def qE (T e:Nat):bQ:=fun args st K=>
 match args with
 | [.one (.du n), .one (.d .str s)]=>match look st.aF n with
  | some (.ext 2 t x)=>match h:Ty.beq t gL with
   | true => .and ((ch h x).2.1=(T:Int)/\(ch h x).2.2.1=(e:Int)/\(ch h x).1.length + s.length<=140737488355328)
     (K (.jL [.one (.d (.int .i64) (s.length:Int)), .one (.d .err .nil)]) (setObj st n (.ext 2 gL ((ch h x).1++cD s,(T:Int),(e:Int),()))))
   | false => .ff
  | _ => .ff
 | _ => .ff
def oA (T e:Nat):bQ:=fun args st K=>
 match args with
 | [.one (.du n)]=>match look st.aF n with
  | some (.ext 2 t x)=>match h:Ty.beq t gL with
   | true => .and ((ch h x).2.1=(T:Int)/\(ch h x).2.2.1=(e:Int)) (K (.s (.one (.d .str (bytesOf (ch h x).1)))) (bz st n))
   | false => .ff
  | _ => .ff
 | _ => .ff
def wJ (T e:Nat):bQ:=fun args st K=>
 match args with
 | [.one (.du n)]=>match look st.aF n with
  | some (.ext 2 t x)=>match h:Ty.beq t gL with
   | true => .and ((ch h x).2.1=(T:Int)/\(ch h x).2.2.1=(e:Int)) (K (.s (.one (.d (.int .i64) ((ch h x).1.length:Int)))) st)
   | false => .ff
  | _ => .ff
 | _ => .ff
section
variable {P:Program} {eT:TypeId} {X:Ext} {f:FuncId}
theorem BM {O:aH} {st:St} {loc:Nat->Loc} {w:World} (g:Good eT X (aB O st loc w)) {n:Nat} {x:D gL} (hob:look st.aF n=some (.ext 2 gL x)) {v:Value} (hv:CR eT (aB O st loc w) (.du n) v) :
  ∃b p u,v = .pointer (some ⟨b,0,none⟩)/\MP x (loc n) w b p u:=by
 obtain ⟨h0,b,p,u,hD⟩:=X.LN.1 (g.obj n _ hob).2
 exact ⟨b,p,u,(hv.2 _ hob rfl).trans hD.lv,hD⟩
theorem Gp (s:List UInt8):bytesOf (cD s)=s:=by
 induction s with
 | nil=>rfl
 | cons c r ih=>
  simp only [bytesOf,cD,List.map_cons,List.map_map] at ih ⊢
  rw [ih]
  simp
theorem Gq {xs:List Int} (h:∀y∈xs,0<=(y:Int)/\(y:Int)<=255):cD (bytesOf xs)=xs:=by
 induction xs with
 | nil=>rfl
 | cons y r ih=>
  have h1:=h y (by simp)
  have h2:=ih fun z hz=>h z (by simp [hz])
  simp only [cD,bytesOf,List.map_map,List.map_cons] at h2 ⊢
  rw [h2]
  congr 1
  simp only [UInt8.toNat_ofNat']
  omega
theorem Gr (s:List UInt8):∀y∈cD s,0<=(y:Int)/\(y:Int)<=255:=by
 intro y hy
 simp only [cD,List.mem_map] at hy
 obtain ⟨c,_,rfl⟩:=hy
 have:=c.toNat_lt
 omega
theorem Ku {xs:List Int} (h:∀y∈xs,0<=(y:Int)/\(y:Int)<=255):xs.map (Value.int .u8)=(bytesOf xs).map fun c=>Value.int .u8 c.toNat:=by
 conv=>lhs;rw [<-Gq h]
 simp [cD]
theorem wK {T e:Nat} (hfn:∃fn,P.funcs[f]?=some fn/\fn.body.isNone=false/\(fn.name == "runtime.NumGoroutine")=false)
  (H:∀(b:Nat) (p v:Value) (xs:List Value) (s:ByteArray) (w:World),w.heap[b]?=some (.cells #[p,v] T (0,0))->(p = .pointer none\/p = .pointer (some ⟨b,0,none⟩))->w.ownsRow 0 e 1 v xs.length xs->v.ownBlock≠some b->
   (∀a n c,v = .slice (some a) n c->0 < c)->xs.length + s.size<=140737488355328->
   Calls P f #[.pointer (some ⟨b,0,none⟩), .string s] w fun r w'=>r = .returned (.tuple #[.int .i64 s.size, .nilIface])/\
    ∃v',w'.heap[b]?=some (.cells #[.pointer (some ⟨b,0,none⟩),v'] T (0,0))/\w'.ownsRow 0 e 1 v' (xs.length + s.size) (xs++Lib.strCells s)/\v'.ownBlock≠some b/\Kept b v w w'/\
     (∀a n c,v' = .slice (some a) n c->0 < c)/\(∀g,v'.ownBlock=some g->v.ownBlock=some g\/w.heap.size<=g)) :
  cL P eT X f false (qE T e):=by
 refine ⟨hfn,fun O st loc w args vs K hs g hO ha => ?_⟩
 unfold qE at hs
 split at hs
 case h_2=>exact hs.elim
 rename_i n s
 split at hs
 case h_2=>exact hs.elim
 rename_i t x hob
 split at hs
 case h_2=>exact hs.elim
 rename_i ht
 have ht':=Ty.eq_of_beq ht
 subst ht'
 rw [fR] at hs
 obtain ⟨⟨hT,he,hlen⟩,hs⟩:=hs
 match vs,ha with
 | [v0,v1], .cons h0 (.cons h1 .nil)=>
 obtain ⟨b,p,u,rfl,hD⟩:=BM g hob h0
 obtain ⟨rfl,hsl⟩:=fW.1 (show CR eT _ (.d .str s) v1 from h1)
 have hsz:(⟨s.toArray⟩:ByteArray).size=s.length:=by simp [ByteArray.size]
 have hT':x.2.1.toNat=T:=by rw [hT];rfl
 have he':x.2.2.1.toNat=e:=by rw [he];rfl
 have hheap:=hD.heap
 have hrow:=hD.row
 rw [hT'] at hheap
 rw [he'] at hrow
 refine (H b p u (x.1.map (Value.int .u8)) ⟨s.toArray⟩ w hheap hD.ptr (by simpa using hrow) hD.ne hD.cap (by simpa [hsz] using hlen)).mono ?_
 rintro r w' ⟨rfl,v',k1,k2,k3,k4,k5,k6⟩
 have hlt:b < w.heap.size:=(Array.getElem?_eq_some_iff.1 hheap).1
 obtain ⟨tr1,g1⟩:=lJ (S:=aB O st loc w) (S':=aB O (setObj st n (.ext 2 gL (x.1++cD s,(T:Int),(e:Int),()))) (bR loc n ⟨.pointer (some ⟨b,0,none⟩),b :: v'.ownBlock.toList⟩) w') (n:=n)
  (oc:=.ext 2 gL x) (oc':=.ext 2 gL (x.1++cD s,(T:Int),(e:Int),())) (l':=⟨.pointer (some ⟨b,0,none⟩),b :: v'.ownBlock.toList⟩) g rfl hO hob
  (fun m=>kE st n m _) (fun _=>rfl) rfl (fun _=>⟨hD.lv.symm,fun h=>(h _ _ rfl).elim⟩) ⟨rfl,rfl⟩ k4.os k4.output k4.size
  (fun b' h1 h2=>k4.block b' h1 (fun e=>h2 (by simp only [aB];rw [hD.bs,e];simp)) (fun e=>h2 (by simp only [aB];rw [hD.bs,e];simp)))
  (fun b' o v _ ho=>by simp [OC.lo] at ho)
  (fun b' hb'=>by
   rcases List.mem_cons.1 hb' with rfl | hb'
   ·exact .inl ⟨by simp only [aB];rw [hD.bs];simp,Nat.le_refl _⟩
   ·have hb':v'.ownBlock=some b':=by simpa using hb'
    rcases k6 b' hb' with h | h
    ·exact .inl ⟨by simp only [aB];rw [hD.bs,h];simp,Nat.le_refl _⟩
    ·exact .inr h)
 have g1:=g1 (X.LN.2 ⟨rfl,b, .pointer (some ⟨b,0,none⟩),v',rfl, .inr rfl,k1,by
  have e1:x.1.map (Value.int .u8)++Lib.strCells ⟨s.toArray⟩=(x.1++cD s).map (Value.int .u8):=by rw [ud,List.map_append]
  have e2:(x.1.map (Value.int .u8)).length + (⟨s.toArray⟩:ByteArray).size=(x.1++cD s).length:=by simp [hsz,cD]
  rw [e1,e2] at k2
  exact k2,rfl,k3,(fun y hy=>by
   rcases List.mem_append.1 hy with h | h
   ·exact hD.u8 y h
   ·exact Gr s y h),k5⟩)
 refine ⟨_,_,_,_,rfl,hs,rfl,(fun hh=>by cases hh),g1,tr1,⟨[.int .i64 (⟨s.toArray⟩:ByteArray).size, .nilIface],rfl, .cons ?_ (.cons ?_ .nil)⟩⟩
 ·refine cC.2 ⟨by rw [hsz],?_⟩
  simp only [IntKind.min,IntKind.max,IntKind.signed,IntKind.bits]
  unfold aG at hsl
  constructor <;> simp <;> omega
 ·exact jy.2 rfl
theorem Gs {O:aH} {st:St} {loc:Nat->Loc} {w w':World} (g:Good eT X (aB O st loc w)) {n:Nat} {oc0:OC} (hn:look st.aF n=some oc0) (h0:oc0.lo=0)
  (hos:w'.os=w.os) (hout:w'.output=w.output) (hsz:w.heap.size<=w'.heap.size) (hb:∀b,b < w.heap.size->b∉(loc n).bs->w'.heap[b]?=w.heap[b]?) :
  Tr (aB O st loc w) (aB O (bz st n) loc w')/\Good eT X (aB O (bz st n) loc w'):=by
 have hob:∀m oc,look (bz st n).aF m=some oc->m≠n/\look st.aF m=some oc:=by
  intro m oc h
  simp only [bz] at h
  rw [jj] at h
  split at h
  ·cases h
  ·rename_i hne;exact ⟨fun e=>hne e.symm,h⟩
 have hA:∀b o,(aB O (bz st n) loc w').A b o->(aB O st loc w).A b o:=by
  rintro b o (h | ⟨m,oc,h1,h2⟩)
  ·exact .inl h
  ·exact .inr ⟨m,oc,(hob _ _ h1).2,h2⟩
 have ht:Tr (aB O st loc w) (aB O (bz st n) loc w'):={
  O:=rfl
  next:=Nat.le_refl _
  os:=hos
  output:=hout
  size:=hsz
  own:=fun b h=>by obtain ⟨m,oc,h1,h2⟩:=h;exact .inl ⟨m,oc,(hob _ _ h1).2,h2⟩
  cell:=fun b o v h1 h2=>by
   have hlt:=World.block_lt_of_cell? w _ h2
   refine ⟨?_,fun h=>h1 (hA b o h)⟩
   show w'.cell? _=_
   rw [World.cell?_of_block (w:=w) (w':=w') (a:=⟨b,o,none⟩) (hb b hlt fun hm=>h1 (.inr ⟨n,oc0,hn,hm,by rw [h0];exact Nat.zero_le _⟩))]
   exact h2
  block:=fun b h1 h2=>hb b h1 fun hm=>h2 ⟨n,oc0,hn,hm⟩
  loc:=fun _ _ _=>ki rfl
  kind:=fun m oc _ h=>⟨oc,(hob _ _ h).2,by cases oc <;> simp [aT,aB]⟩}
 refine ⟨ht,⟨fun m oc h => ?_,fun m1 m2 oc1 oc2 b h1 h2 h3 h4 => ?_,fun m oc b off h1 h2 => ?_,g.kB.tr ht⟩⟩
 ·obtain ⟨hne,h⟩:=hob _ _ h
  obtain ⟨h1,h2⟩:=g.obj m oc h
  exact ⟨h1,h2.tr ht fun b hbm=>hb b (h2.inside b hbm) fun hbn=>hne (g.apart m n oc oc0 b h hn hbm hbn)⟩
 ·exact g.apart m1 m2 oc1 oc2 b (hob _ _ h1).2 (hob _ _ h2).2 h3 h4
 ·exact g.out m oc b off (hob _ _ h1).2 h2
theorem vm {T e:Nat} (hfn:∃fn,P.funcs[f]?=some fn/\fn.body.isNone=false/\(fn.name == "runtime.NumGoroutine")=false)
  (H:∀(b:Nat) (p v:Value) (l:List UInt8) (w:World),w.heap[b]?=some (.cells #[p,v] T (0,0))->w.ownsRow 0 e 1 v l.length (l.map fun c=>Value.int .u8 c.toNat)->(∀a n c,v = .slice (some a) n c->0 < c)->
   Calls P f #[.pointer (some ⟨b,0,none⟩)] w fun r w'=>r = .returned (.string ⟨l.toArray⟩)/\Gn v w w') :
  cL P eT X f false (oA T e):=by
 refine ⟨hfn,fun O st loc w args vs K hs g hO ha => ?_⟩
 unfold oA at hs
 split at hs
 case h_2=>exact hs.elim
 rename_i n
 split at hs
 case h_2=>exact hs.elim
 rename_i t x hob
 split at hs
 case h_2=>exact hs.elim
 rename_i ht
 have ht':=Ty.eq_of_beq ht
 subst ht'
 rw [fR] at hs
 obtain ⟨⟨hT,he⟩,hs⟩:=hs
 match vs,ha with
 | [v0], .cons h0 .nil=>
 obtain ⟨b,p,u,rfl,hD⟩:=BM g hob h0
 have hT':x.2.1.toNat=T:=by rw [hT];rfl
 have he':x.2.2.1.toNat=e:=by rw [he];rfl
 have hheap:=hD.heap
 have hrow:=hD.row
 rw [hT'] at hheap
 rw [he',Ku hD.u8,show x.1.length=(bytesOf x.1).length by simp [bytesOf]] at hrow
 refine (H b p u (bytesOf x.1) w hheap hrow hD.cap).mono ?_
 rintro r w' ⟨rfl,k⟩
 obtain ⟨tr1,g1⟩:=Gs (w':=w') g hob rfl k.os k.output (by rw [k.size];exact Nat.le_refl _) (fun b' _ h2=>k.block b' fun e=>h2 (by rw [hD.bs,e];simp))
 refine ⟨_,_,_,_,rfl,hs,rfl,(fun hh=>by cases hh),g1,tr1,?_⟩
 refine (fW (eT:=eT) (S:=aB O (bz st n) loc w')).2 ⟨rfl,?_⟩
 rcases hrow.2 with ⟨_,h⟩ | ⟨_,cap,_,_,_,_,h1,h2,_⟩
 ·rw [h];exact Nat.zero_le _
 ·unfold maxLen at h2;unfold aG;omega
theorem AA {T e:Nat} (hfn:∃fn,P.funcs[f]?=some fn/\fn.body.isNone=false/\(fn.name == "runtime.NumGoroutine")=false)
  (H:∀(b:Nat) (p q:Value) (a:Option Addr) (n c:Nat) (w:World),w.heap[b]?=some (.cells #[p, .slice a n c] T (0,0))->
   Calls P f #[.pointer (some ⟨b,0,none⟩)] w fun r w'=>r = .returned (.int .i64 n)/\w'=w) :
  cL P eT X f true (wJ T e):=by
 refine ⟨hfn,fun O st loc w args vs K hs g hO ha => ?_⟩
 unfold wJ at hs
 split at hs
 case h_2=>exact hs.elim
 rename_i n
 split at hs
 case h_2=>exact hs.elim
 rename_i t x hob
 split at hs
 case h_2=>exact hs.elim
 rename_i ht
 have ht':=Ty.eq_of_beq ht
 subst ht'
 rw [fR] at hs
 obtain ⟨⟨hT,he⟩,hs⟩:=hs
 match vs,ha with
 | [v0], .cons h0 .nil=>
 obtain ⟨b,p,u,rfl,hD⟩:=BM g hob h0
 have hT':x.2.1.toNat=T:=by rw [hT];rfl
 have hheap:=hD.heap
 rw [hT'] at hheap
 obtain ⟨a,c,rfl,hl⟩:∃a c,u = .slice a x.1.length c/\x.1.length<=aG:=by
  rcases hD.row.2 with ⟨rfl,h⟩ | ⟨g',cap,cur,h,_,_,h1,h2,_⟩
  ·exact ⟨none,0,by rw [h],by rw [h];exact Nat.zero_le _⟩
  ·exact ⟨_,_,h,by unfold maxLen at h2;unfold aG;omega⟩
 refine (H b p p a x.1.length c w hheap).mono ?_
 rintro r w' ⟨rfl,rfl⟩
 refine ⟨_,_,_,loc,rfl,hs,rfl,fun _=>Below.refl _ _,g,Tr.refl _,?_⟩
 refine (cC (eT:=eT) (S:=aB O st loc w')).2 ⟨rfl,?_⟩
 unfold aG at hl
 simp only [IntKind.min,IntKind.max,IntKind.signed,IntKind.bits]
 constructor <;> simp <;> omega
end
end Go.Vg

namespace Go.Mrl
open Go.Vg
def small (c:UInt8):Bool:=decide ((97:Int)<=c.toNat) && decide ((c.toNat:Int)<=122)
def other (c:UInt8):Bool:=(decide ((48:Int)<=c.toNat) && decide ((c.toNat:Int)<=57)) || ((c.toNat:Int) == 95)
def fg (i:Nat) (c:UInt8):Bool:=!small c && ((i:Int) == 0 || !other c)
def pP (s:List UInt8):Bool:=(List.range s.length).any fun i=>fg i (bX s i)
def aK (s:List UInt8):Int:=if s.length < 1\/8 < s.length then 1 else if pP s=true then 3 else 0
def aY (n:Int):bB:=if n=0 then .nil else .no n
def cG:bB->Int->Bool
 | .nil,n=>n == 0
 | .no m,n=>decide (n > 0) && m == n
 | .other,_=>false
def eJ:bB->Int
 | .nil=>0
 | .no m=>m
 | .other => -1
theorem kb {n:Int} (h:0<=n):cG (aY n) n=true:=by
 unfold aY
 split
 ·rename_i e;subst e;rfl
 ·simp [cG];omega
theorem cj (s:List UInt8):0<=aK s:=by
 unfold aK;split
 ·decide
 ·split <;> decide
theorem DN {s:List UInt8} {i:Nat} (h:i < s.length) (hb:fg i (bX s i)=true):pP s=true:=by
 simp only [pP,List.any_eq_true,List.mem_range]
 exact ⟨i,h,hb⟩
theorem BN {s:List UInt8} (h:∀i,i < s.length->fg i (bX s i)=false):pP s=false:=by
 simp only [pP,List.any_eq_false,List.mem_range]
 intro i hi;rw [h i hi];simp
theorem yz {s:List UInt8} {i:Nat} (h:i < s.length):s[i]?=some (bX s i):=by
 rw [pA (List.getElem?_eq_getElem h),List.getElem?_eq_getElem h]
theorem rB {s:List UInt8} (h:s.length < 1\/8 < s.length):aK s=1:=by unfold aK;rw [if_pos h]
theorem eQ {s:List UInt8} {i:Nat} (h:¬ (s.length < 1\/8 < s.length)) (hi:i < s.length) (hb:fg i (bX s i)=true):aK s=3:=by
 unfold aK
 rw [if_neg h,if_pos (DN hi hb)]
theorem pQ {s:List UInt8} (h:¬ (s.length < 1\/8 < s.length)) (hb:∀i,i < s.length->fg i (bX s i)=false):aK s=0:=by
 unfold aK
 rw [if_neg h,if_neg (by rw [BN hb];decide)]
theorem hU {i:Nat} {c:UInt8}:fg i c=true ↔ ¬ (97<=c.toNat/\c.toNat<=122)/\(i=0\/¬ ((48<=c.toNat/\c.toNat<=57)\/c.toNat=95)):=by
 simp only [fg,small,other,Bool.and_eq_true,Bool.not_eq_true',Bool.and_eq_false_iff,Bool.or_eq_true,Bool.or_eq_false_iff,decide_eq_false_iff_not,beq_iff_eq,beq_eq_false_iff_ne]
 omega
theorem gP {i:Nat} {c:UInt8}:fg i c=false ↔ ¬ (¬ (97<=c.toNat/\c.toNat<=122)/\(i=0\/¬ ((48<=c.toNat/\c.toNat<=57)\/c.toNat=95))):=by
 rw [<-hU];simp
theorem kK {s:List UInt8} {i:Nat} (h:∀j,j < i->fg j (bX s j)=false) (hb:fg i (bX s i)=false):∀j,j < i + 1->fg j (bX s j)=false:=by
 intro j hj
 rcases Nat.lt_or_ge j i with hlt | hge
 ·exact h j hlt
 ·obtain rfl:j=i:=by omega
  exact hb
end Go.Mrl

namespace Go.Mrl
open Go.Vg
def dS (p:D aI->Prop) (l:List (D aA)) (i k:Nat):Prop:=
 i < l.length/\k < (nth aA l i).2.2.1.length/\p (nth aI (nth aA l i).2.2.1 k)
def rC (s:List UInt8) (x:D aI):Prop:=x.1=s
def gY (s:List UInt8) (x:D aI):Prop:=x.1=s/\x.2.2.1=false
def ahead (i k i' k':Nat):Prop:=i < i'\/(i=i'/\k < k')
def pR (p:D aI->Prop) (l:List (D aA)) (i k:Nat):Prop:=∀i' k',ahead i' k' i k->¬ dS p l i' k'
def iA (p:D aI->Prop) (l:List (D aA)) (i k:Nat):Prop:=dS p l i k/\pR p l i k
theorem sr {p:D aI->Prop} {l:List (D aA)} {i k i' k':Nat} (h:iA p l i k) (h':iA p l i' k'):i=i'/\k=k':=by
 have h1:¬ ahead i k i' k':=fun a=>h'.2 i k a h.1
 have h2:¬ ahead i' k' i k:=fun a=>h.2 i' k' a h'.1
 unfold ahead at h1 h2
 omega
theorem ss {p:D aI->Prop} {l:List (D aA)} {i k:Nat} (h:dS p l i k):∃i k,iA p l i k:=by
 have hi:∀n,∀i,i<=n->∀k,dS p l i k->∃i,(∃k,dS p l i k)/\∀j,j < i->∀k,¬ dS p l j k:=by
  intro n
  induction n with
  | zero=>intro i hi k h;exact ⟨i,⟨k,h⟩,fun j hj=>by omega⟩
  | succ n ih=>
   intro i hi k h
   by_cases c:∃j,j < i/\∃k,dS p l j k
   ·obtain ⟨j,hj,k,hk⟩:=c
    exact ih j (by omega) k hk
   ·exact ⟨i,⟨k,h⟩,fun j hj k hk=>c ⟨j,hj,k,hk⟩⟩
 obtain ⟨i0,⟨k0,h0⟩,hmin⟩:=hi i i (Nat.le_refl _) k h
 have hk:∀n,∀k,k<=n->dS p l i0 k->∃k,dS p l i0 k/\∀j,j < k->¬ dS p l i0 j:=by
  intro n
  induction n with
  | zero=>intro k hk h;exact ⟨k,h,fun j hj=>by omega⟩
  | succ n ih=>
   intro k hk h
   by_cases c:∃j,j < k/\dS p l i0 j
   ·obtain ⟨j,hj,h2⟩:=c
    exact ih j (by omega) h2
   ·exact ⟨k,h,fun j hj h2=>c ⟨j,hj,h2⟩⟩
 obtain ⟨k1,h1,h2⟩:=hk k0 k0 (Nat.le_refl _) h0
 refine ⟨i0,k1,h1,fun i' k' ha hp => ?_⟩
 rcases ha with ha | ⟨rfl,ha⟩
 ·exact hmin i' ha k' hp
 ·exact h2 k' ha hp
open Classical in
noncomputable def cB (x:List (D aA) × List UInt8):Int × Int:=
 if h:∃p:Nat × Nat,iA (gY x.2) x.1 p.1 p.2 then (((Classical.choose h).1:Nat),((Classical.choose h).2:Nat))
 else if h:∃p:Nat × Nat,iA (rC x.2) x.1 p.1 p.2 then (((Classical.choose h).1:Nat),((Classical.choose h).2:Nat))
 else (-1,-1)
theorem nF {l:List (D aA)} {s:List UInt8} {i k:Nat} (h:iA (gY s) l i k):cB (l,s)=((i:Int),(k:Int)):=by
 have hx:∃p:Nat × Nat,iA (gY s) l p.1 p.2:=⟨(i,k),h⟩
 unfold cB
 rw [dif_pos hx]
 have:=sr h (Classical.choose_spec hx)
 rw [<-this.1,<-this.2]
theorem qF {l:List (D aA)} {s:List UInt8} {i k:Nat} (hn:∀i k,¬ dS (gY s) l i k) (h:iA (rC s) l i k):cB (l,s)=((i:Int),(k:Int)):=by
 have hx:∃p:Nat × Nat,iA (rC s) l p.1 p.2:=⟨(i,k),h⟩
 unfold cB
 rw [dif_neg (fun ⟨p,h⟩=>hn p.1 p.2 h.1),dif_pos hx]
 have:=sr h (Classical.choose_spec hx)
 rw [<-this.1,<-this.2]
theorem qG {l:List (D aA)} {s:List UInt8} (hn:∀i k,¬ dS (rC s) l i k):cB (l,s)=(-1,-1):=by
 unfold cB
 rw [dif_neg (fun ⟨p,h⟩=>hn p.1 p.2 ⟨h.1.1,h.1.2.1,h.1.2.2.1⟩),dif_neg (fun ⟨p,h⟩=>hn p.1 p.2 h.1)]
theorem DO (l:List (D aA)) (s:List UInt8):(∃i k:Nat,cB (l,s)=((i:Int),(k:Int))/\iA (gY s) l i k)\/
  (∃i k:Nat,cB (l,s)=((i:Int),(k:Int))/\iA (rC s) l i k/\∀i k,¬ dS (gY s) l i k)\/
  (cB (l,s)=(-1,-1)/\∀i k,¬ dS (rC s) l i k):=by
 by_cases h1:∃i k,dS (gY s) l i k
 ·obtain ⟨i,k,h⟩:=h1
  obtain ⟨i,k,h⟩:=ss h
  exact .inl ⟨i,k,nF h,h⟩
 ·have h1':∀i k,¬ dS (gY s) l i k:=fun i k h=>h1 ⟨i,k,h⟩
  by_cases h2:∃i k,dS (rC s) l i k
  ·obtain ⟨i,k,h⟩:=h2
   obtain ⟨i,k,h⟩:=ss h
   exact .inr (.inl ⟨i,k,qF h1' h,h,h1'⟩)
  ·have h2':∀i k,¬ dS (rC s) l i k:=fun i k h=>h2 ⟨i,k,h⟩
   exact .inr (.inr ⟨qG h2',h2'⟩)
def e9 (l:List (D aA)) (s:List UInt8) (i k:Nat) (a b:Int):Prop:=
 pR (gY s) l i k/\((a = -1/\b = -1/\pR (rC s) l i k)\/∃i0 k0:Nat,a=i0/\b=k0/\iA (rC s) l i0 k0)
theorem e9.start (l:List (D aA)) (s:List UInt8):e9 l s 0 0 (-1) (-1):=
 ⟨fun i' k' h=>by unfold ahead at h;omega, .inl ⟨rfl,rfl,fun i' k' h=>by unfold ahead at h;omega⟩⟩
theorem pR.next {p:D aI->Prop} {l:List (D aA)} {i k:Nat} (h:pR p l i k) (hn:¬ dS p l i k):pR p l i (k + 1):=by
 intro i' k' ha hp
 by_cases e:i'=i/\k'=k
 ·rw [e.1,e.2] at hp;exact hn hp
 ·exact h i' k' (by unfold ahead at *;omega) hp
theorem e9.skip {l:List (D aA)} {s:List UInt8} {i k:Nat} {a b:Int} (h:e9 l s i k a b) (hn:¬ (nth aI (nth aA l i).2.2.1 k).1=s):e9 l s i (k + 1) a b:=by
 refine ⟨h.1.next fun hp=>hn hp.2.2.1,?_⟩
 rcases h.2 with ⟨h1,h2,h3⟩ | h3
 ·exact .inl ⟨h1,h2,h3.next fun hp=>hn hp.2.2⟩
 ·exact .inr h3
theorem e9.Ni {l:List (D aA)} {s:List UInt8} {i k:Nat} {a b:Int} (h:e9 l s i k a b) (hi:i < l.length) (hk:k < (nth aA l i).2.2.1.length)
  (hs:(nth aI (nth aA l i).2.2.1 k).1=s) (hw:(nth aI (nth aA l i).2.2.1 k).2.2.1=false):cB (l,s)=((i:Int),(k:Int)):=
 nF ⟨⟨hi,hk,hs,hw⟩,h.1⟩
theorem e9.xH {l:List (D aA)} {s:List UInt8} {i k:Nat} {a b:Int} (h:e9 l s i k a b) (hi:i < l.length) (hk:k < (nth aA l i).2.2.1.length)
  (hs:(nth aI (nth aA l i).2.2.1 k).1=s) (hw:¬ (nth aI (nth aA l i).2.2.1 k).2.2.1=false) (ha:a < 0):e9 l s i (k + 1) (i:Int) (k:Int):=by
 refine ⟨h.1.next fun hp=>hw hp.2.2.2, .inr ⟨i,k,rfl,rfl,⟨hi,hk,hs⟩,?_⟩⟩
 rcases h.2 with ⟨_,_,h3⟩ | ⟨i0,k0,h1,_⟩
 ·exact h3
 ·omega
theorem e9.more {l:List (D aA)} {s:List UInt8} {i k:Nat} {a b:Int} (h:e9 l s i k a b)
  (hw:¬ (nth aI (nth aA l i).2.2.1 k).2.2.1=false) (ha:¬ a < 0):e9 l s i (k + 1) a b:=by
 refine ⟨h.1.next fun hp=>hw hp.2.2.2,?_⟩
 rcases h.2 with ⟨h1,_,_⟩ | h3
 ·omega
 ·exact .inr h3
theorem pR.row {p:D aI->Prop} {l:List (D aA)} {i k:Nat} (h:pR p l i k) (hk:(nth aA l i).2.2.1.length<=k):pR p l (i + 1) 0:=by
 intro i' k' ha hp
 refine h i' k' ?_ hp
 unfold ahead at *
 by_cases e:i'=i
 ·subst e;have:=hp.2.1;omega
 ·omega
theorem e9.row {l:List (D aA)} {s:List UInt8} {i k:Nat} {a b:Int} (h:e9 l s i k a b) (hk:(nth aA l i).2.2.1.length<=k):e9 l s (i + 1) 0 a b:=by
 refine ⟨h.1.row hk,?_⟩
 rcases h.2 with ⟨h1,h2,h3⟩ | h3
 ·exact .inl ⟨h1,h2,h3.row hk⟩
 ·exact .inr h3
theorem pR.all {p:D aI->Prop} {l:List (D aA)} {i k:Nat} (h:pR p l i k) (hi:l.length<=i):∀i k,¬ dS p l i k:=
 fun i' k' hp=>h i' k' (by have:=hp.1;unfold ahead;omega) hp
theorem e9.done {l:List (D aA)} {s:List UInt8} {i k:Nat} {a b:Int} (h:e9 l s i k a b) (hi:l.length<=i):cB (l,s)=(a,b):=by
 rcases h.2 with ⟨rfl,rfl,h3⟩ | ⟨i0,k0,rfl,rfl,h3⟩
 ·exact qG (h3.all hi)
 ·exact qF (h.1.all hi) h3
theorem ja {p:Nat->Prop} {n:Nat} (h:∀j,j < n->p j) (hn:p n):∀j,j < n + 1->p j:=by
 intro j hj
 by_cases e:j=n
 ·rw [e];exact hn
 ·exact h j (by omega)
def iC (o:D aA):Prop:=o.1.length<=6/\o.2.1.length<=50/\o.2.2.1.length<=10/\o.2.2.2.1.length<=10/\
 (∀i,i < o.1.length->(nth .str o.1 i).length<=20)/\(∀i,i < o.2.2.1.length->(nth aI o.2.2.1 i).1.length<=20)/\(∀i,i < o.2.2.2.1.length->(nth aJ o.2.2.2.1 i).2.2.2.1.length<=20)
def pS (l:List (D aA)):Prop:=l.length<=8/\∀i,i < l.length->iC (nth aA l i)
theorem nh {l:List (D aA)} {s:List UInt8} (h:0<=(cB (l,s)).1):(cB (l,s)).1 < l.length/\0<=(cB (l,s)).2/\(cB (l,s)).2 < (nth aA l (cB (l,s)).1.toNat).2.2.1.length/\
  (nth aI (nth aA l (cB (l,s)).1.toNat).2.2.1 (cB (l,s)).2.toNat).1=s:=by
 rcases DO l s with ⟨i0,k0,e,f⟩ | ⟨i0,k0,e,f,n⟩ | ⟨e,n⟩
 ·rw [e];obtain ⟨h1,h2,h3⟩:=f.1;exact ⟨by simp only;omega,by simp only;omega,by simp only [Int.toNat_natCast];omega,h3.1⟩
 ·rw [e];obtain ⟨h1,h2,h3⟩:=f.1;exact ⟨by simp only;omega,by simp only;omega,by simp only [Int.toNat_natCast];omega,h3⟩
 ·rw [e] at h;simp at h
end Go.Mrl

namespace Go.Mrl
open Go.Vg
end Go.Mrl
namespace Go.Mrl
open Go.Vg
end Go.Mrl
namespace Go.Mrl
open Go.Vg
end Go.Mrl

namespace Go.Mrl
open Go.Vg
end Go.Mrl
namespace Go.Mrl
open Go.Vg
end Go.Mrl
namespace Go.Mrl
open Go.Vg
end Go.Mrl
namespace Go.Mrl
open Go.Vg
def mH (n:Nat) (f:Nat->Bool):List Bool:=(List.range n).map f
theorem kd (n:Nat) (f:Nat->Bool):(mH n f).length=n:=by simp [mH]
theorem qH {n i:Nat} {f:Nat->Bool} (h:i < n):(mH n f)[i]?=some (f i):=by simp [mH,List.getElem?_range h]
theorem vo {n i:Nat} {f:Nat->Bool} (h:i < n):nth .bool (mH n f) i=f i:=dx (t:=.bool) (qH h)
theorem Kv {n i:Nat} {f:Nat->Bool} (v:Bool):(mH n f).set i v=mH n (fun j=>if j=i then v else f j):=by
 apply List.ext_getElem?
 intro j
 rw [List.getElem?_set]
 by_cases hj:j < n
 ·rw [qH hj]
  by_cases e:i=j
  ·subst e;rw [if_pos rfl,if_pos (by rw [kd];exact hj),qH hj,if_pos rfl]
  ·rw [if_neg e,qH hj,if_neg (fun h=>e h.symm)]
 ·have h1:∀g:Nat->Bool,(mH n g)[j]?=none:=fun g=>List.getElem?_eq_none (by rw [kd];omega)
  rw [h1,h1]
  split
  ·rw [kd,if_neg (by omega)]
  ·rfl
theorem BO {n:Nat} {f g:Nat->Bool} (h:∀i,i < n->f i=g i):mH n f=mH n g:=
 List.map_congr_left fun i hi=>h i (List.mem_range.1 hi)
end Go.Mrl
namespace Go.Mrl
open Go.Vg
end Go.Mrl
namespace Go.Mrl
open Go.Vg
end Go.Mrl

namespace Go.Mrl
open Go.Vg
def ei (a b:Int × Int × Unit):Bool:=decide (a.2.1<=0) || (decide (b.2.1<=0) || (decide (a.1 + a.2.1<=b.1) || decide (b.1 + b.2.1<=a.1)))
theorem um {a b:Int × Int × Unit}:ei a b=true ↔ a.2.1<=0\/b.2.1<=0\/a.1 + a.2.1<=b.1\/b.1 + b.2.1<=a.1:=by simp [ei]
theorem BP {a b:Int × Int × Unit}:ei a b=false ↔ 0 < a.2.1/\0 < b.2.1/\b.1 < a.1 + a.2.1/\a.1 < b.1 + b.2.1:=by simp [ei]
def cJ (n:Int):Int:=(n + 15) / 16 * 16
def jM (r:Int × Int × Unit):Prop:=-1000000<=r.1/\r.1<=1000000/\-1000000<=r.2.1/\r.2.1<=1000000
def eE (r:D aP) (l:List (D aP)):Bool:=l.all (ei r)
theorem lp {t:Ty} {xs:List (D t)} {i:Nat} (h:i < xs.length):xs[i]?=some (nth t xs i):=by
 rw [List.getElem?_eq_getElem h,<-dx (List.getElem?_eq_getElem h)]
theorem gr {t:Ty} {xs:List (D t)} {i:Nat} (h:i < xs.length):nth t xs i∈xs:=by
 have:=lp (t:=t) h
 exact List.mem_of_getElem? this
theorem lS {t:Ty} {xs:List (D t)} {x:D t} (h:x∈xs):∃i,i < xs.length/\nth t xs i=x:=by
 obtain ⟨i,hi,e⟩:=List.getElem_of_mem h
 exact ⟨i,hi,by rw [<-e];exact dx (List.getElem?_eq_getElem hi)⟩
theorem Gt {r:D aP} {l:List (D aP)} (h:∀j,j < l.length->ei r (nth aP l j)=true):eE r l=true:=by
 unfold eE;rw [List.all_eq_true]
 intro x hx
 obtain ⟨i,hi,e⟩:=lS hx
 rw [<-e];exact h i hi
theorem DP {r:D aP} {l:List (D aP)} {j:Nat} (h:j < l.length) (hf:ei r (nth aP l j)=false):eE r l=false:=by
 unfold eE;rw [List.all_eq_false]
 exact ⟨_,gr h,by rw [hf];decide⟩
theorem Il {r:D aP} {l:List (D aP)} (h:eE r l=false):∃x∈l,ei r x=false:=by
 unfold eE at h;rw [List.all_eq_false] at h
 obtain ⟨x,hx,e⟩:=h
 exact ⟨x,hx,by simpa using e⟩
def eB (l:List (D aP)) (many:Int):Nat->Int->Int
 | 0,at_=>at_
 | n + 1,at_=>if eE (at_,many,()) l=true then at_ else eB l many n (at_ + 16)
def eg:List (D aP)->List Int->List Int->Option (List Int)
 | _,[],out=>some out
 | l,n :: r,out=>if 256 < eB l (cJ n) 40 0 + cJ n then none else eg (l++[(eB l (cJ n) 40 0,cJ n,())]) r (out++[eB l (cJ n) 40 0])
def BQ (s:List Int):Bool:=s.any fun (n:Int)=>decide (n < 1) || decide (40 < n)
def BR (l:List (D aP)):Bool:=l.any fun (r:Int × Int × Unit)=>decide (r.1 < 0) || (decide (256 < r.1) || (decide (r.2.1 < 0) || decide (256 < r.2.1)))
def bW (x:List Int × List (D aP)):List Int × bB:=
 if 6 < x.1.length\/20 < x.2.length then ([], .no 2) else if BQ x.1=true\/BR x.2=true then ([], .no 1) else
  match eg x.2 x.1 [] with
  | some o=>(o, .nil)
  | none=>([], .no 8)
theorem E8 {t:Ty} {xs:List (D t)} {p:D t->Bool} {i:Nat} (h:i < xs.length) (hp:p (nth t xs i)=true):xs.any p=true:=by
 rw [List.any_eq_true];exact ⟨_,gr h,hp⟩
theorem E9 {t:Ty} {xs:List (D t)} {p:D t->Bool} (h:∀i,i < xs.length->p (nth t xs i)=false):xs.any p=false:=by
 rw [List.any_eq_false];intro x hx
 obtain ⟨i,hi,e⟩:=lS hx
 rw [<-e,h i hi];decide
theorem lq {l:List (D aP)} {s out:List Int} {k:Nat} (h:k < s.length):eg l (s.drop k) out =
  if 256 < eB l (cJ (nth (.int .i64) s k)) 40 0 + cJ (nth (.int .i64) s k) then none
  else eg (l++[(eB l (cJ (nth (.int .i64) s k)) 40 0,cJ (nth (.int .i64) s k),())]) (s.drop (k + 1)) (out++[eB l (cJ (nth (.int .i64) s k)) 40 0]):=by
 have e:s.drop k=nth (.int .i64) s k :: s.drop (k + 1):=by
  rw [List.drop_eq_getElem_cons h]
  congr 1
  exact (dx (t:=.int .i64) (List.getElem?_eq_getElem h)).symm
 rw [e];rfl
theorem uo {l:List (D aP)} {s out:List Int} {k:Nat} (h:s.length<=k):eg l (s.drop k) out=some out:=by
 rw [List.drop_eq_nil_of_le h];rfl
def fo (r:Int × Int × Unit):Prop:=0<=r.1/\r.1<=256/\0<=r.2.1/\r.2.1<=256
theorem fo.jM {r:Int × Int × Unit} (h:fo r):Mrl.jM r:=by
 obtain ⟨h1,h2,h3,h4⟩:=h
 refine ⟨?_,?_,?_,?_⟩ <;> omega
theorem yA {l:List (D aP)} {at_ many:Int} (hl:∀x∈l,fo x) (h:eE (at_,many,()) l=false):at_ < 512:=by
 obtain ⟨x,hx,e⟩:=Il h
 obtain ⟨h1,h2,h3,h4⟩:=hl x hx
 obtain ⟨h5,h6,h7,h8⟩:=BP.1 e
 have h8:at_ < x.1 + x.2.1:=h8
 omega
theorem o8 {l:List (D aP)} {many at_:Int} {n:Nat} (h:eE (at_,many,()) l=true):eB l many n at_=at_:=by
 cases n with
 | zero=>rfl
 | succ n=>rw [eB,if_pos h]
theorem Im {l:List (D aP)} {many at_:Int} {n:Nat} (h:eE (at_,many,()) l=false):eB l many (n + 1) at_=eB l many n (at_ + 16):=by
 rw [eB,if_neg (by rw [h];decide)]
theorem cQ {n:Int} (h1:1<=n) (h2:n<=40):16<=cJ n/\cJ n<=48:=by unfold cJ;omega
end Go.Mrl
namespace Go.Mrl
open Go.Vg
theorem uq {s:List Int} {l:List (D aP)} (h:6 < s.length\/20 < l.length):bW (s,l)=([], .no 2):=by
 unfold bW;rw [if_pos h]
theorem ur {s:List Int} {l:List (D aP)} (h:¬ (6 < s.length\/20 < l.length)) {i:Nat} (hi:i < s.length) (hb:¬ (1<=(nth (.int .i64) s i:Int)/\(nth (.int .i64) s i:Int)<=40)):bW (s,l)=([], .no 1):=by
 unfold bW;rw [if_neg h,if_pos]
 refine .inl (E8 (t:=.int .i64) hi ?_)
 simp only [Bool.or_eq_true,decide_eq_true_eq]
 generalize nth (.int .i64) s i=x at hb
 have hb:¬ (1<=(x:Int)/\(x:Int)<=40):=hb
 dsimp only [D] at *;omega
theorem su {s:List Int} {l:List (D aP)} (h:¬ (6 < s.length\/20 < l.length)) {i:Nat} (hi:i < l.length) (hb:¬ fo (nth aP l i)):bW (s,l)=([], .no 1):=by
 unfold bW;rw [if_neg h,if_pos]
 refine .inr (E8 (t:=aP) hi ?_)
 simp only [Bool.or_eq_true,decide_eq_true_eq]
 unfold fo at hb
 dsimp only [D] at *;omega
theorem oB {s:List Int} {l:List (D aP)} (h:¬ (6 < s.length\/20 < l.length)) (hs:∀j,j < s.length->1<=(nth (.int .i64) s j:Int)/\(nth (.int .i64) s j:Int)<=40) (ht:∀j,j < l.length->fo (nth aP l j)) :
  bW (s,l)=match eg l s [] with | some o=>(o, .nil) | none=>([], .no 8):=by
 unfold bW;rw [if_neg h,if_neg]
 rintro (e | e)
 ·have:BQ s=false:=E9 (t:=.int .i64) fun i hi=>by
   have:=hs i hi
   simp only [Bool.or_eq_false_iff,decide_eq_false_iff_not]
   dsimp only [D] at *;omega
  rw [this] at e;cases e
 ·have:BR l=false:=E9 (t:=aP) fun i hi=>by
   have:=ht i hi
   unfold fo at this
   simp only [Bool.or_eq_false_iff,decide_eq_false_iff_not]
   dsimp only [D] at *;omega
  rw [this] at e;cases e
end Go.Mrl
namespace Go.Mrl
open Go.Vg
theorem BS {l:List (Int × Int × Unit)} {r:Int × Int × Unit} (h:∀y∈l,fo y) (hr:fo r):∀y∈l++[r],fo y:=by
 intro y hy
 rcases List.mem_append.1 hy with hy | hy
 ·exact h y hy
 ·simp at hy;rw [hy];exact hr
end Go.Mrl
namespace Go.Mrl
open Go.Vg
def mT (l:List (Int × Int × Unit)) (p:Int):Bool:=l.any fun r=>decide (r.1<=p) && decide (p < r.1 + r.2.1)
def gi (l:List (Int × Int × Unit)):List Bool:=mH 600 fun p=>mT l p
def Fa (U:List Bool) (p:Int):Bool:=decide (600<=p) || !(nth .bool U p.toNat)
def eR (U:List Bool) (at_:Int) (k:Nat):Bool:=(List.range k).all fun q=>Fa U (at_ + q)
def jb (U:List Bool) (many:Int):Nat->Int->Int
 | 0,at_=>at_
 | n + 1,at_=>if eR U at_ many.toNat=true then at_ else jb U many n (at_ + 16)
def eS (U:List Bool) (at_:Int) (k:Nat):List Bool:=mH 600 fun p=>nth .bool U p || (decide (at_<=p) && decide ((p:Int) < at_ + k))
theorem nG (l:List (Int × Int × Unit)):(gi l).length=600:=kd _ _
theorem lr (U:List Bool) (at_:Int) (k:Nat):(eS U at_ k).length=600:=kd _ _
theorem yB {l:List (Int × Int × Unit)} {p:Nat} (h:p < 600):nth .bool (gi l) p=mT l p:=vo h
theorem AB {a b:List Bool} (hl:a.length=b.length) (h:∀i,i < a.length->nth .bool a i=nth .bool b i):a=b:=by
 apply List.ext_getElem hl
 intro i h1 h2
 have:=h i h1
 rw [show nth .bool a i=a[i] from dx (t:=.bool) (List.getElem?_eq_getElem h1),show nth .bool b i=b[i] from dx (t:=.bool) (List.getElem?_eq_getElem h2)] at this
 exact this
theorem wL {U:List Bool} {at_:Int} (h:U.length=600):eS U at_ 0=U:=by
 apply AB (by rw [lr,h])
 intro i hi
 rw [lr] at hi
 unfold eS;rw [vo hi]
 have:(decide (at_<=(i:Int)) && decide ((i:Int) < at_ + ((0:Nat):Int)))=false:=by simp <;> omega
 rw [this,Bool.or_false]
theorem yC {U:List Bool} {at_:Int} {k:Nat} (h0:0<=at_) (_:at_ + k < 600):(eS U at_ k).set (at_ + k).toNat true=eS U at_ (k + 1):=by
 unfold eS;rw [Kv]
 refine BO fun i hi => ?_
 by_cases e:i=(at_ + k).toNat
 ·rw [if_pos e]
  have:(decide (at_<=(i:Int)) && decide ((i:Int) < at_ + ((k + 1:Nat):Int)))=true:=by simp;omega
  rw [this,Bool.or_true]
 ·rw [if_neg e]
  congr 1
  by_cases h1:at_<=(i:Int)
  ·by_cases h2:(i:Int) < at_ + k
   ·simp [h1,h2];omega
   ·simp [h1,h2];omega
  ·simp [h1]
theorem Gu (l:List (Int × Int × Unit)) (r:Int × Int × Unit) (p:Int):mT (l++[r]) p=(mT l p || (decide (r.1<=p) && decide (p < r.1 + r.2.1))):=by
 simp [mT]
theorem wM {l:List (Int × Int × Unit)} {at_ many:Int} {k:Nat} (hk:(k:Int)=many):eS (gi l) at_ k=gi (l++[(at_,many,())]):=by
 unfold eS gi
 refine BO fun i hi => ?_
 rw [vo hi,Gu]
 simp only [hk]
theorem Gv {l:List (D aP)} {i k:Nat} (hi:i < l.length) (hk:(k:Int)=(nth aP l i).2.1):eS (gi (l.take i)) (nth aP l i).1 k=gi (l.take (i + 1)):=by
 have e:l.take (i + 1)=l.take i++[nth aP l i]:=by
  rw [List.take_add_one,lp (t:=aP) hi];rfl
 rw [e]
 exact wM (l:=l.take i) hk
theorem qI {U:List Bool} {at_:Int} {k:Nat}:eR U at_ (k + 1)=(eR U at_ k && Fa U (at_ + k)):=by
 unfold eR;rw [List.range_succ,List.all_append];simp
theorem Gw {U:List Bool} {at_:Int} {k n:Nat} (h:k<=n) (hf:eR U at_ k=false):eR U at_ n=false:=by
 induction n with
 | zero=>
  obtain rfl:k=0:=by omega
  exact hf
 | succ n ih=>
  by_cases e:k=n + 1
  ·rw [<-e];exact hf
  ·rw [qI,ih (by omega)];rfl
theorem wN {U:List Bool} {many at_:Int} {n:Nat} (h:eR U at_ many.toNat=true):jb U many n at_=at_:=by
 cases n with
 | zero=>rfl
 | succ n=>rw [jb,if_pos h]
theorem Ky {U:List Bool} {many at_:Int} {n:Nat} (h:eR U at_ many.toNat=false):jb U many (n + 1) at_=jb U many n (at_ + 16):=by
 rw [jb,if_neg (by rw [h];decide)]
theorem wO {l:List (Int × Int × Unit)} {at_ many:Int} (hl:∀y∈l,fo y) (h0:0<=at_) (hm:0 < many):eR (gi l) at_ many.toNat=eE (at_,many,()) l:=by
 rw [Bool.eq_iff_iff]
 constructor
 ·intro h
  unfold eE;rw [List.all_eq_true]
  intro (x:Int × Int × Unit) hx
  obtain ⟨g1,g2,g3,g4⟩:=hl x hx
  rw [um]
  show many<=0\/x.2.1<=0\/at_ + many<=x.1\/x.1 + x.2.1<=at_
  apply Classical.byContradiction
  intro hn
  have hc:0 < x.2.1/\x.1 < at_ + many/\at_ < x.1 + x.2.1:=by omega
  have key:∀p:Int,at_<=p->p < at_ + many->x.1<=p->p < x.1 + x.2.1->False:=by
   intro p p1 p2 p3 p4
   have:=List.all_eq_true.1 h (p - at_).toNat (List.mem_range.2 (by omega))
   rw [show at_ + ((p - at_).toNat:Int)=p by omega] at this
   unfold Fa at this
   rw [yB (by omega),show ((p.toNat:Nat):Int)=p by omega] at this
   have hin:mT l p=true:=by
    unfold mT;rw [List.any_eq_true]
    exact ⟨x,hx,by simp [p3,p4]⟩
   rw [hin] at this
   simp at this;omega
  by_cases q:at_<=x.1
  ·exact key x.1 q (by omega) (by omega) (by omega)
  ·exact key at_ (by omega) (by omega) (by omega) (by omega)
 ·intro h
  unfold eR;rw [List.all_eq_true]
  intro q hq
  have hq:=List.mem_range.1 hq
  unfold Fa
  by_cases h6:600<=at_ + (q:Int)
  ·simp [h6]
  ·rw [yB (by omega),show (((at_ + (q:Int)).toNat:Nat):Int)=at_ + q by omega]
   have:mT l (at_ + q)=false:=by
    unfold mT;rw [List.any_eq_false]
    intro (x:Int × Int × Unit) hx
    unfold eE at h
    have:=um.1 (List.all_eq_true.1 h x hx)
    simp only [Bool.and_eq_true,decide_eq_true_eq,not_and]
    have:many<=0\/x.2.1<=0\/at_ + many<=x.1\/x.1 + x.2.1<=at_:=this
    omega
   rw [this];simp
theorem wP {l:List (Int × Int × Unit)} {many:Int} (hl:∀y∈l,fo y) (hm:0 < many):∀(n:Nat) (at_:Int),0<=at_->jb (gi l) many n at_=eB l many n at_:=by
 intro n
 induction n with
 | zero=>intro at_ _;rfl
 | succ n ih=>
  intro at_ h0
  unfold jb eB
  rw [wO hl h0 hm,ih _ (by omega)]
end Go.Mrl
namespace Go.Mrl
open Go.Vg
theorem DQ {U:List Bool} {at_:Int} {k:Nat} (h:eR U at_ k=true) (h6:600<=at_ + k):true=eR U at_ (k + 1):=by
 rw [qI,h];simp [Fa,h6]
theorem DR {U:List Bool} {at_:Int} {k:Nat} (h:eR U at_ k=true) (h6:at_ + k < 600):(!(nth .bool U (at_ + k).toNat))=eR U at_ (k + 1):=by
 rw [qI,h]
 have:decide (600<=at_ + (k:Int))=false:=by simp;omega
 simp [Fa,this]
def jE (x:List Int × List (D aP)):List Int × Int:=((bW x).1,eJ (bW x).2)
end Go.Mrl

namespace Go.Mrl
open Go.Vg
theorem o9 {t:Ty} {a b:List (D t)} (hl:a.length=b.length) (h:∀i,i < a.length->nth t a i=nth t b i):a=b:=by
 apply List.ext_getElem hl
 intro i h1 h2
 have:=h i h1
 rwa [show nth t a i=a[i] from dx (List.getElem?_eq_getElem h1),show nth t b i=b[i] from dx (List.getElem?_eq_getElem h2)] at this
def iu (a b:List Int):Bool:=decide (a=b)
def gF (a b:List (List UInt8)):Bool:=decide (a=b)
def jc (a b:List (D aN)):Bool:=decide (a=b)
theorem Gx {a b:List Int} (hl:(a.length:Int)=b.length) (h:∀i,i < a.length->nth (.int .i64) a i=nth (.int .i64) b i):true=iu a b:=by
 rw [o9 (t:=.int .i64) (by omega) h];simp [iu]
theorem Io {a b:List Int} (hl:¬ (a.length:Int)=b.length):false=iu a b:=by
 symm;simp only [iu,decide_eq_false_iff_not];intro e;exact hl (by rw [e])
theorem Kz {a b:List Int} {i:Nat} (h:¬ nth (.int .i64) a i=nth (.int .i64) b i):false=iu a b:=by
 symm;simp only [iu,decide_eq_false_iff_not];intro e;exact h (by rw [e])
theorem Gy {a b:List (List UInt8)} (hl:(a.length:Int)=b.length) (h:∀i,i < a.length->nth .str a i=nth .str b i):true=gF a b:=by
 rw [o9 (t:=.str) (by omega) h];simp [gF]
theorem Ip {a b:List (List UInt8)} (hl:¬ (a.length:Int)=b.length):false=gF a b:=by
 symm;simp only [gF,decide_eq_false_iff_not];intro e;exact hl (by rw [e])
theorem KA {a b:List (List UInt8)} {i:Nat} (h:¬ nth .str a i=nth .str b i):false=gF a b:=by
 symm;simp only [gF,decide_eq_false_iff_not];intro e;exact h (by rw [e])
theorem Of {α:Type} {p:Nat->α->Prop} {f:Nat->α} {k:Nat} (h:∀j,j < k->p j (f j)) (hk:p k (f k)):∀j,j < k + 1->p j (f j):=by
 intro j hj
 by_cases e:j=k
 ·subst e;exact hk
 ·exact h j (by omega)
theorem oC {p:Nat->Prop} {k:Nat} (h:∀j,j < k->p j) (hk:p k):∀j,j < k + 1->p j:=by
 intro j hj
 by_cases e:j=k
 ·subst e;exact hk
 ·exact h j (by omega)
end Go.Mrl

namespace Go.Mrl
open Go.Vg
theorem qJ {t:Ty} {a b:List (D t)} {i:Nat}:nth t (a++b) i=if i < a.length then nth t a i else nth t b (i - a.length):=by
 unfold nth
 simp only [List.getD_eq_getElem?_getD,List.getElem?_append]
 split <;> rfl
theorem BT {t:Ty} {a:List (D t)} {n i:Nat} (h:i < n):nth t (a.take n) i=nth t a i:=by
 unfold nth
 simp only [List.getD_eq_getElem?_getD,List.getElem?_take,if_pos h]
end Go.Mrl

namespace Go.Mrl
open Go.Vg
@[reducible] def dL:Ty:=.slice (.int .i64)
@[reducible] def iF:Ty:=.slice dL
abbrev Pt:=Int × Int × Int × Unit
abbrev Ws:=List (List Int)
def oD (w:Ws) (p:Pt):Prop:=0<=p.1/\p.1 < w.length/\0<=p.2.1/\p.2.1 < (nth dL w p.1.toNat).length
def nH (w:Ws) (p:Pt):Ws:=w.set p.1.toNat ((nth dL w p.1.toNat).set p.2.1.toNat p.2.2.1)
def et (w:Ws) (l:List Pt):Ws:=l.foldl nH w
open Classical in
noncomputable def eU (x:Ws × List Pt):Ws × bB:=if ∀i,i < x.2.length->oD x.1 (nth aN x.2 i) then (et x.1 x.2, .nil) else ([], .no 1)
theorem qK {t:Ty} {l:List (D t)} {i j:Nat} {x:D t} (h:¬ i=j):nth t (l.set i x) j=nth t l j:=by
 unfold nth;simp only [List.getD_eq_getElem?_getD];rw [List.getElem?_set_ne h]
theorem qL {t:Ty} {l:List (D t)} {i:Nat} {x:D t} (h:i < l.length):nth t (l.set i x) i=x:=by
 unfold nth;simp only [List.getD_eq_getElem?_getD];rw [List.getElem?_set_self h];rfl
theorem uu (w:Ws) (p:Pt):(nH w p).length=w.length:=by simp [nH]
theorem BU (w:Ws) (p:Pt) (i:Nat):nth dL (nH w p) i=if i < w.length/\p.1.toNat=i then (nth dL w i).set p.2.1.toNat p.2.2.1 else nth dL w i:=by
 unfold nH
 by_cases c:p.1.toNat=i
 ·subst c
  by_cases c2:p.1.toNat < w.length
  ·rw [if_pos ⟨c2,rfl⟩,qL (t:=dL) c2]
  ·rw [if_neg (fun h=>c2 h.1),List.set_eq_of_length_le (by omega)]
 ·rw [if_neg (fun h=>c h.2),qK (t:=dL) c]
theorem Iq (w:Ws) (p:Pt) (i:Nat):(nth dL (nH w p) i).length=(nth dL w i).length:=by
 rw [BU];split <;> simp
theorem mf (l:List Pt):∀w:Ws,(et w l).length=w.length:=by
 induction l with
 | nil=>intro w;rfl
 | cons p l ih=>intro w;show (et (nH w p) l).length=_;rw [ih,uu]
theorem oE (l:List Pt):∀(w:Ws) (i:Nat),(nth dL (et w l) i).length=(nth dL w i).length:=by
 induction l with
 | nil=>intro w i;rfl
 | cons p l ih=>intro w i;show (nth dL (et (nH w p) l) i).length=_;rw [ih,Iq]
theorem Ir (w:Ws) (l:List Pt) (p:Pt):et w (l++[p])=nH (et w l) p:=by simp [et]
theorem hY {t:Ty} {l:List (D t)} {k:Nat} (h:k < l.length):l.take (k + 1)=l.take k++[nth t l k]:=by
 rw [List.take_add_one,lp h];rfl
theorem Is {w:Ws} {l:List Pt} {k:Nat} (h:k < l.length):nH (et w (l.take k)) (nth aN l k)=et w (l.take (k + 1)):=by
 rw [hY (t:=aN) h,Ir]
theorem pT {w:Ws} {l:List Pt} (h:∀i,i < l.length->oD w (nth aN l i)):eU (w,l)=(et w l, .nil):=by unfold eU;rw [if_pos h]
theorem KB {w:Ws} {l:List Pt} {i:Nat} (hi:i < l.length) (h:¬ oD w (nth aN l i)):eU (w,l)=([], .no 1):=by
 unfold eU;rw [if_neg (fun hh=>h (hh i hi))]
def gQ (r:List Int) (i:Nat):List Pt->List Int
 | []=>r
 | p :: l=>gQ (if p.1=(i:Int) then r.set p.2.1.toNat p.2.2.1 else r) i l
theorem sw (i:Nat) (p:Pt):∀(l:List Pt) (r:List Int),gQ r i (l++[p])=if p.1=(i:Int) then (gQ r i l).set p.2.1.toNat p.2.2.1 else gQ r i l
 | [],_=>rfl
 | _ :: l,_=>sw i p l _
theorem uw (i:Nat):∀(l:List Pt) (r:List Int),(gQ r i l).length=r.length
 | [],_=>rfl
 | _ :: l,_=>by rw [gQ,uw i l];split <;> simp
theorem It {w:Ws} {i:Nat} (hi:i < w.length):∀{l:List Pt} (_:∀p∈l,0<=p.1),nth dL (et w l) i=gQ (nth dL w i) i l:=by
 intro l
 induction l generalizing w with
 | nil=>intro _;rfl
 | cons p l ih=>
  intro h
  show nth dL (et (nH w p) l) i=_
  rw [ih (by rw [uu];exact hi) (fun q hq=>h q (by simp [hq])),BU,gQ]
  have hp:=h p (by simp)
  by_cases c:p.1=(i:Int)
  ·rw [if_pos ⟨hi,by omega⟩,if_pos c]
  ·rw [if_neg (fun h=>by omega),if_neg c]
theorem KC {r:List Int} {i k:Nat} {p:List Pt} (h:k < p.length) (e:(nth aN p k).1=(i:Int)):(gQ r i (p.take k)).set (nth aN p k).2.1.toNat (nth aN p k).2.2.1=gQ r i (p.take (k + 1)):=by
 rw [hY (t:=aN) h,sw,if_pos e]
theorem Iu {r:List Int} {i k:Nat} {p:List Pt} (h:k < p.length) (e:¬ (nth aN p k).1=(i:Int)):gQ r i (p.take k)=gQ r i (p.take (k + 1)):=by
 rw [hY (t:=aN) h,sw,if_neg e]
theorem KD {w:Ws} {l:List Pt} {i:Nat} (hi:i < w.length) (h:∀j,j < l.length->oD w (nth aN l j)):nth dL (eU (w,l)).1 i=gQ (nth dL w i) i l:=by
 rw [pT h]
 refine It hi fun p hp => ?_
 obtain ⟨j,hj,rfl⟩:=lS (t:=aN) hp
 exact (h j hj).1
theorem KE {w:Ws} {l:List Pt} (h:(eU (w,l)).2.isNil=true):∀i,i < l.length->oD w (nth aN l i):=by
 unfold eU at h
 split at h
 ·assumption
 ·cases h
theorem KF {w:Ws} {l:List Pt} (h:(eU (w,l)).2.isNil=true):(eU (w,l)).1.length=w.length:=by rw [pT (KE h)];exact mf l w
end Go.Mrl

namespace Go.Mrl
open Go.Vg
def Small (x:Int):Prop:=-1000000<=x/\x<=1000000
def Word (x:Int):Prop:=-2147483648<=x/\x<=2147483647
def LZ (o:D aA):Prop:=o.2.2.2.1.length<=10/\(∀i,i < o.2.2.1.length->Small (nth aI o.2.2.1 i).2.1)/\
 ∀i,i < o.2.2.2.1.length->Small (nth aJ o.2.2.2.1 i).1/\Word (nth aJ o.2.2.2.1 i).2.2.1
def eC (l:List (D aA)):Prop:=l.length<=8/\∀i,i < l.length->LZ (nth aA l i)
def fD (b:List Int):Prop:=∀i,i < b.length->0<=(nth (.int .i64) b i:Int)/\(nth (.int .i64) b i:Int)<=256
def my (b:List Int) (i:Nat):Int:=nth (.int .i64) b i
noncomputable def dr (l:List (D aA)) (b:List Int) (t:D aJ):Int × bB:=
 if 0<=(cB (l,t.2.2.2.1)).1 then (my b (cB (l,t.2.2.2.1)).1.toNat + (nth aI (nth aA l (cB (l,t.2.2.2.1)).1.toNat).2.2.1 (cB (l,t.2.2.2.1)).2.toNat).2.1, .nil)
 else if t.2.2.2.2.1=true then (0, .nil) else (0, .no 6)
def jd (b:List Int) (i:Int) (t:D aJ) (n:Int):Int × bB:=
 if t.2.1=(3:Int) then
  if n - (my b i.toNat + t.1) < -500\/500 < n - (my b i.toNat + t.1) then (0, .no 7)
  else (n - (my b i.toNat + t.1), .nil)
 else if n < -2147483648\/2147483647 < n then (0, .no 7) else (n, .nil)
noncomputable def dk (l:List (D aA)) (b:List Int) (i:Int) (t:D aJ):Int × bB:=
 if t.2.1=(1:Int) then jd b i t (my b i.toNat + t.2.2.1)
 else if (dr l b t).2.isNil=true then jd b i t ((dr l b t).1 + t.2.2.1) else (0,(dr l b t).2)
noncomputable def gl (l:List (D aA)) (b:List Int) (i:Nat):List (D aJ)->List Pt->List Pt × bB
 | [],out=>(out, .nil)
 | t :: r,out=>if (dk l b i t).2.isNil=true then gl l b i r (out++[((i:Int),t.1,(dk l b i t).1,())]) else ([],(dk l b i t).2)
noncomputable def fr (f:List Pt->List Pt × bB) (x:List Pt × bB):List Pt × bB:=if x.2.isNil=true then f x.1 else ([],x.2)
noncomputable def gg (l:List (D aA)) (b:List Int):List (D aA)->Nat->List Pt->List Pt × bB
 | [],_,out=>(out, .nil)
 | o :: r,i,out=>fr (gg l b r (i + 1)) (gl l b i o.2.2.2.1 out)
open Classical in
noncomputable def cH (x:List (D aA) × List Int):List Pt × bB:=
 if ¬ x.2.length=x.1.length then ([], .no 3) else if fD x.2 then gg x.1 x.2 x.1 0 [] else ([], .no 1)
theorem dG {t:Ty} {l:List (D t)} {i:Nat} (h:i < l.length):l.drop i=nth t l i :: l.drop (i + 1):=by
 rw [List.drop_eq_getElem_cons h]
 congr 1
 have:=lp h
 rw [List.getElem?_eq_getElem h] at this
 exact Option.some.inj this
theorem yD {l:List (D aA)} {b:List Int} {i:Nat} {out:List Pt} (h:i < l.length) :
  gg l b (l.drop i) i out=fr (gg l b (l.drop (i + 1)) (i + 1)) (gl l b i ((nth aA l i).2.2.2.1.drop 0) out):=by
 rw [dG (t:=aA) h];rfl
theorem Fb {l:List (D aA)} {b:List Int} {i:Nat} {out:List Pt} (h:l.length<=i):gg l b (l.drop i) i out=(out, .nil):=by
 rw [List.drop_eq_nil_of_le h];rfl
theorem pU {l:List (D aA)} {b:List Int} {i k:Nat} {ts:List (D aJ)} {out:List Pt} (h:k < ts.length) (hn:(dk l b i (nth aJ ts k)).2.isNil=true) :
  gl l b i (ts.drop k) out=gl l b i (ts.drop (k + 1)) (out++[((i:Int),(nth aJ ts k).1,(dk l b i (nth aJ ts k)).1,())]):=by
 rw [dG (t:=aJ) h,gl,if_pos hn]
theorem lT {l:List (D aA)} {b:List Int} {i k:Nat} {ts:List (D aJ)} {out:List Pt} {f:List Pt->List Pt × bB} (h:k < ts.length) (hn:(dk l b i (nth aJ ts k)).2.isNil=false) :
  fr f (gl l b i (ts.drop k) out)=([],(dk l b i (nth aJ ts k)).2):=by
 rw [dG (t:=aJ) h,gl,if_neg (by simp [hn])]
 unfold fr
 rw [if_neg (by simp [hn])]
theorem Fc {l:List (D aA)} {b:List Int} {i k:Nat} {ts:List (D aJ)} {out:List Pt} {f:List Pt->List Pt × bB} (h:ts.length<=k):fr f (gl l b i (ts.drop k) out)=f out:=by
 rw [List.drop_eq_nil_of_le h];rfl
theorem iO {l:List (D aA)} {b:List Int} (h:b.length=l.length) (hb:fD b):cH (l,b)=gg l b l 0 []:=by unfold cH;rw [if_neg (by simpa using h),if_pos hb]
theorem BV {l:List (D aA)} {b:List Int} (h:¬ b.length=l.length):cH (l,b)=([], .no 3):=by unfold cH;rw [if_pos h]
theorem yE {l:List (D aA)} {b:List Int} {i:Nat} (h:b.length=l.length) (hi:i < b.length) (hn:¬ (0<=(nth (.int .i64) b i:Int)/\(nth (.int .i64) b i:Int)<=256)):cH (l,b)=([], .no 1):=by
 unfold cH;rw [if_neg (by simpa using h),if_neg (fun hh=>hn (hh i hi))]
theorem fZ {b:List Int} {n:Nat} {i:Int} (hb:fD b) (hl:b.length=n) (h0:0<=i) (h1:i < n):0<=(nth (.int .i64) b i.toNat:Int)/\(nth (.int .i64) b i.toNat:Int)<=256:=hb _ (by omega)
theorem wQ {l:List (D aA)} {s:List UInt8} (hm:eC l) (h:0<=(cB (l,s)).1):Small (nth aI (nth aA l (cB (l,s)).1.toNat).2.2.1 (cB (l,s)).2.toNat).2.1:=by
 have hf:=nh h
 exact (hm.2 _ (by omega)).2.1 _ (by omega)
theorem jG {l:List (D aA)} {b:List Int} {t:D aJ} (h:0<=(cB (l,t.2.2.2.1)).1) :
  dr l b t=(nth (.int .i64) b (cB (l,t.2.2.2.1)).1.toNat + (nth aI (nth aA l (cB (l,t.2.2.2.1)).1.toNat).2.2.1 (cB (l,t.2.2.2.1)).2.toNat).2.1, .nil):=by unfold dr my;rw [if_pos h]
theorem iP {l:List (D aA)} {b:List Int} {t:D aJ} (h:(cB (l,t.2.2.2.1)).1 < 0) (hw:t.2.2.2.2.1=true):dr l b t=(0, .nil):=by unfold dr;rw [if_neg (by omega),if_pos hw]
theorem nI {l:List (D aA)} {b:List Int} {t:D aJ} (h:(cB (l,t.2.2.2.1)).1 < 0) (hw:t.2.2.2.2.1=false):dr l b t=(0, .no 6):=by unfold dr;rw [if_neg (by omega),if_neg (by simp [hw])]
theorem oF {l:List (D aA)} {b:List Int} (t:D aJ) (hm:eC l) (hl:b.length=l.length) (hb:fD b) : -2000000<=(dr l b t).1/\(dr l b t).1<=2000000:=by
 by_cases h:0<=(cB (l,t.2.2.2.1)).1
 ·have h1:=fZ hb hl h (nh h).1
  have h2:=wQ hm h
  rw [jG h];unfold Small at h2;dsimp only [D] at *;omega
 ·cases hw:t.2.2.2.2.1 with
  | true=>rw [iP (by omega) hw];simp
  | false=>rw [nI (by omega) hw];simp
theorem nJ {l:List (D aA)} {b:List Int} {i:Int} {t:D aJ} (h:t.2.1=(1:Int)):dk l b i t=jd b i t (nth (.int .i64) b i.toNat + t.2.2.1):=by unfold dk;rw [if_pos h];rfl
theorem gu {l:List (D aA)} {b:List Int} {i:Int} {t:D aJ} (h:¬ t.2.1=(1:Int)) (hn:(dr l b t).2.isNil=true):dk l b i t=jd b i t ((dr l b t).1 + t.2.2.1):=by unfold dk;rw [if_neg h,if_pos hn]
theorem Fe {l:List (D aA)} {b:List Int} {i:Int} {t:D aJ} (h:¬ t.2.1=(1:Int)) (hn:(dr l b t).2.isNil=false):dk l b i t=(0,(dr l b t).2):=by unfold dk;rw [if_neg h,if_neg (by simp [hn])]
theorem vp {b:List Int} {i n:Int} {t:D aJ} (h:t.2.1=(3:Int)) (hr:n - (nth (.int .i64) b i.toNat + t.1) < -500\/500 < n - (nth (.int .i64) b i.toNat + t.1)):jd b i t n=(0, .no 7):=by
 unfold jd my;rw [if_pos h,if_pos hr]
theorem xN {b:List Int} {i n m:Int} {t:D aJ} (h:t.2.1=(3:Int)) (e:m=n - (nth (.int .i64) b i.toNat + t.1)) (hr : -500<=m/\m<=500):jd b i t n=(m, .nil):=by
 unfold jd my;rw [if_pos h,if_neg (by omega),e]
theorem nK {b:List Int} {i n:Int} {t:D aJ} (h:¬ t.2.1=(3:Int)) (hr:n < -2147483648\/2147483647 < n):jd b i t n=(0, .no 7):=by
 unfold jd;rw [if_neg h,if_pos hr]
theorem ni {b:List Int} {i n m:Int} {t:D aJ} (h:¬ t.2.1=(3:Int)) (e:m=n) (hr : -2147483648<=n/\n<=2147483647):jd b i t n=(m, .nil):=by
 unfold jd;rw [if_neg h,if_neg (by omega),e]
theorem iR {out:List Pt} {i a m m':Int} (h:m=m'):out++[(i,a,m,())]=out++[(i,a,m',())]:=by rw [h]
def fb (l:List (D aA)) (s:List UInt8) (pass i k:Nat):Prop:=
 (pass=0->pR (gY s) l i k)/\(pass=1->(∀i k,¬ dS (gY s) l i k)/\pR (rC s) l i k)/\(2<=pass->∀i k,¬ dS (rC s) l i k)
theorem fb.start (l:List (D aA)) (s:List UInt8):fb l s 0 0 0:=
 ⟨fun _ i' k' h=>by unfold ahead at h;omega,fun h=>by omega,fun h=>by omega⟩
theorem fb.row {l:List (D aA)} {s:List UInt8} {pass i k:Nat} (h:fb l s pass i k) (hk:(nth aA l i).2.2.1.length<=k):fb l s pass (i + 1) 0:=
 ⟨fun e=>(h.1 e).row hk,fun e=>⟨(h.2.1 e).1,(h.2.1 e).2.row hk⟩,h.2.2⟩
theorem fb.pass {l:List (D aA)} {s:List UInt8} {pass i k:Nat} (h:fb l s pass i k) (hi:l.length<=i):fb l s (pass + 1) 0 0:=by
 refine ⟨fun e=>by omega,fun e => ?_,fun e => ?_⟩
 ·obtain rfl:pass=0:=by omega
  exact ⟨(h.1 rfl).all hi,fun i' k' h=>by unfold ahead at h;omega⟩
 ·by_cases c:pass=1
  ·exact (h.2.1 c).2.all hi
  ·exact h.2.2 (by omega)
theorem fb.next {l:List (D aA)} {s:List UInt8} {pass i k:Nat} (h:fb l s pass i k) (hn:¬ ((nth aI (nth aA l i).2.2.1 k).1=s/\((nth aI (nth aA l i).2.2.1 k).2.2.1=true ↔ (pass:Int)=1))):fb l s pass i (k + 1):=by
 refine ⟨fun e=>(h.1 e).next fun hp=>hn ⟨hp.2.2.1,?_⟩,fun e=>⟨(h.2.1 e).1,(h.2.1 e).2.next fun hp=>hn ⟨hp.2.2,?_⟩⟩,h.2.2⟩
 ·rw [hp.2.2.2];simp;omega
 ·subst e
  have:=(h.2.1 rfl).1 i k
  cases c:(nth aI (nth aA l i).2.2.1 k).2.2.1 with
  | true=>simp
  | false=>exact absurd ⟨hp.1,hp.2.1,hp.2.2,c⟩ this
theorem fb.found {l:List (D aA)} {s:List UInt8} {pass i k:Nat} (h:fb l s pass i k) (hp:pass < 2) (hi:i < l.length) (hk:k < (nth aA l i).2.2.1.length) (hs:(nth aI (nth aA l i).2.2.1 k).1=s)
  (hw:(nth aI (nth aA l i).2.2.1 k).2.2.1=true ↔ (pass:Int)=1):cB (l,s)=((i:Int),(k:Int)):=by
 by_cases c:pass=0
 ·subst c
  refine nF ⟨⟨hi,hk,hs,?_⟩,h.1 rfl⟩
  cases c:(nth aI (nth aA l i).2.2.1 k).2.2.1 with
  | true=>have:=hw.1 c;simp at this
  | false=>rfl
 ·have h1:=h.2.1 (by omega)
  exact qF h1.1 ⟨⟨hi,hk,hs⟩,h1.2⟩
theorem fb.done {l:List (D aA)} {s:List UInt8} {pass i k:Nat} (h:fb l s pass i k) (hp:¬ pass < 2):cB (l,s)=(-1,-1):=qG (h.2.2 (by omega))
theorem Gz {a b:List Pt} (hl:(a.length:Int)=b.length) (h:∀i,i < a.length->nth aN a i=nth aN b i):true=jc a b:=by
 have:a=b:=o9 (t:=aN) (by omega) h
 simp [jc,this]
theorem KG {a b:List Pt} {i:Nat} (h:¬ nth aN a i=nth aN b i):false=jc a b:=by
 have:¬ a=b:=fun e=>h (by rw [e])
 simp [jc,this]
theorem Iv {a b:List Pt} (h:¬ (a.length:Int)=b.length):false=jc a b:=by
 have:¬ a=b:=fun e=>h (by rw [e])
 simp [jc,this]
def Told (e:bB):Prop:=cG e (eJ e)=true
theorem yF (b:List Int) (i n:Int) (t:D aJ):Told (jd b i t n).2:=by
 unfold jd;split <;> split <;> rfl
theorem DS (l:List (D aA)) (b:List Int) (t:D aJ):Told (dr l b t).2:=by
 unfold dr;split
 ·rfl
 ·split <;> rfl
theorem KH (l:List (D aA)) (b:List Int) (i:Int) (t:D aJ):Told (dk l b i t).2:=by
 unfold dk;split
 ·exact yF _ _ _ _
 ·split
  ·exact yF _ _ _ _
  ·exact DS _ _ _
theorem BW (l:List (D aA)) (b:List Int) (i:Nat):∀(ts:List (D aJ)) (out:List Pt),Told (gl l b i ts out).2
 | [],_=>rfl
 | t :: r,out=>by
  rw [gl];split
  ·exact BW l b i r _
  ·exact KH _ _ _ _
theorem BX (l:List (D aA)) (b:List Int):∀(os:List (D aA)) (i:Nat) (out:List Pt),Told (gg l b os i out).2
 | [],_,_=>rfl
 | o :: r,i,out=>by
  rw [gg];unfold fr;split
  ·exact BX l b r _ _
  ·exact BW _ _ _ _ _
theorem vq (x:List (D aA) × List Int):cG (cH x).2 (eJ (cH x).2)=true:=by
 unfold cH;split
 ·rfl
 ·split
  ·exact BX _ _ _ _ _
  ·rfl
end Go.Mrl

namespace Go.Mrl
open Go.Vg
abbrev aD:=List UInt8
def jN (a b:aD):Prop:=Op.bytesLess a b=true
theorem BY (a:UInt8):¬ a < a:=fun h=>by have:=UInt8.lt_iff_toNat_lt.1 h;omega
theorem lu:∀a:aD,¬ jN a a
 | []=>fun h=>by cases h
 | a :: x=>fun h=>by
  unfold jN at h
  simp only [Op.bytesLess,Bool.or_eq_true,decide_eq_true_eq,Bool.and_eq_true] at h
  rcases h with h | ⟨_,h⟩
  ·exact BY a h
  ·exact lu x h
theorem sx:∀{a b c:aD},jN a b->jN b c->jN a c
 | a,[],_,h,_=>by unfold jN at h;cases a <;> simp [Op.bytesLess] at h
 | _,_ :: _,[],_,h=>by unfold jN at h;simp [Op.bytesLess] at h
 | [],_ :: _,_ :: _,_,_=>rfl
 | a :: x,b :: y,c :: z,h1,h2=>by
  unfold jN at h1 h2 ⊢
  simp only [Op.bytesLess,Bool.or_eq_true,decide_eq_true_eq,Bool.and_eq_true,beq_iff_eq] at h1 h2 ⊢
  rcases h1 with h1 | ⟨rfl,h1⟩
  ·rcases h2 with h2 | ⟨rfl,h2⟩
   ·left;rw [UInt8.lt_iff_toNat_lt] at *;omega
   ·exact .inl h1
  ·rcases h2 with h2 | ⟨rfl,h2⟩
   ·exact .inl h2
   ·exact .inr ⟨rfl,sx h1 h2⟩
theorem oG:∀{a b:aD},¬ jN a b->¬ jN b a->a=b
 | [],[],_,_=>rfl
 | [],_ :: _,h,_=>(h rfl).elim
 | _ :: _,[],_,h=>(h rfl).elim
 | a :: x,b :: y,h1,h2=>by
  unfold jN at h1 h2
  simp only [Op.bytesLess,Bool.or_eq_true,decide_eq_true_eq,Bool.and_eq_true,beq_iff_eq,not_or,not_and] at h1 h2
  have hab:a=b:=by
   apply UInt8.toNat_inj.1
   have h3:=h1.1;have h4:=h2.1
   rw [UInt8.lt_iff_toNat_lt] at h3 h4
   omega
  subst hab
  rw [oG (h1.2 rfl) (h2.2 rfl)]
def ke (a b:aD):Prop:=¬ jN b a
theorem BZ (a:aD):ke a a:=lu a
theorem mz {a b:aD} (h:jN a b):ke a b:=fun h'=>lu a (sx h h')
theorem sy {a b c:aD} (h1:ke a b) (h2:ke b c):ke a c:=by
 intro h
 by_cases hab:jN a b
 ·exact h2 (sx h hab)
 ·have:=oG hab h1;subst this;exact h2 h
theorem B0 {a b:aD} (h1:ke a b) (h2:ke b a):a=b:=oG h2 h1
theorem sz {a b:aD} (h1:ke a b) (h2:a≠b):jN a b:=Classical.byContradiction fun h=>h2 (oG h h1)
theorem mI:∀{a b:List aD},a.Perm b->a.Pairwise ke->b.Pairwise ke->a=b
 | [],b,hp,_,_=>hp.nil_eq
 | x :: a,[],hp,_,_=>by have:=hp.length_eq;simp at this
 | x :: a,y :: b,hp,ha,hb=>by
  have ha':=List.pairwise_cons.1 ha
  have hb':=List.pairwise_cons.1 hb
  have hxy:x=y:=by
   have h1:x∈y :: b:=hp.mem_iff.1 (by simp)
   have h2:y∈x :: a:=hp.mem_iff.2 (by simp)
   rcases List.mem_cons.1 h1 with h1 | h1
   ·exact h1
   ·rcases List.mem_cons.1 h2 with h2 | h2
    ·exact h2.symm
    ·exact B0 (ha'.1 y h2) (hb'.1 x h1)
  subst hxy
  rw [mI (List.perm_cons x |>.1 hp) ha'.2 hb'.2]
def vr (x:aD):List aD->List aD
 | []=>[x]
 | y :: r=>if Op.bytesLess y x=true then y :: vr x r else x :: y :: r
def gV (l:List aD):List aD:=l.foldr vr []
theorem sA (x:aD):∀l:List aD,(vr x l).Perm (x :: l)
 | [] => .refl _
 | y :: r=>by
  unfold vr
  split
  ·exact ((sA x r).cons y).trans (List.Perm.swap x y r)
  ·exact .refl _
theorem ux (x:aD):∀{l:List aD},l.Pairwise ke->(vr x l).Pairwise ke
 | [],_=>by simp [vr]
 | y :: r,h=>by
  have h':=List.pairwise_cons.1 h
  unfold vr
  split
  ·rename_i c
   refine List.pairwise_cons.2 ⟨fun z hz => ?_,ux x h'.2⟩
   rcases List.mem_cons.1 ((sA x r).mem_iff.1 hz) with rfl | hz
   ·exact mz c
   ·exact h'.1 z hz
  ·rename_i c
   have hxy:ke x y:=c
   refine List.pairwise_cons.2 ⟨fun z hz => ?_,h⟩
   rcases List.mem_cons.1 hz with rfl | hz
   ·exact hxy
   ·exact sy hxy (h'.1 z hz)
theorem mU:∀l:List aD,(gV l).Perm l
 | [] => .refl _
 | x :: l=>(sA x _).trans ((mU l).cons x)
theorem ly:∀l:List aD,(gV l).Pairwise ke
 | [] => .nil
 | x :: l=>ux x (ly l)
theorem B1 {a b:List aD} (hp:a.Perm b) (hs:a.Pairwise ke):gV b=a:=mI ((mU b).trans hp.symm) (ly b) hs
theorem AD {a b:List aD} (hp:a.Perm b):gV a=gV b:=mI ((mU a).trans (hp.trans (mU b).symm)) (ly a) (ly b)
def oH (l:List aD) (j:Nat):List aD:=(l.set j (nth .str l (j - 1))).set (j - 1) (nth .str l j)
theorem B2 (l:List aD) (j:Nat):(oH l j).length=l.length:=by simp [oH]
theorem GA {l:List aD} {j:Nat} (h0:0 < j) (h:j < l.length):(oH l j).Perm l:=by
 have e1:nth .str l (j - 1)=l[j - 1]:=dx (t:=.str) (List.getElem?_eq_getElem (by omega))
 have e2:nth .str l j=l[j]:=dx (t:=.str) (List.getElem?_eq_getElem h)
 unfold oH
 rw [e1,e2]
 exact List.set_set_perm h (by omega)
theorem yG {l:List aD} {j k:Nat} (h0:0 < j) (h:j < l.length):nth .str (oH l j) k=if k=j then nth .str l (j - 1) else if k=j - 1 then nth .str l j else nth .str l k:=by
 unfold oH
 by_cases c:k=j - 1
 ·subst c
  rw [qL (t:=.str) (by simp;omega),if_neg (by omega),if_pos rfl]
 ·rw [qK (t:=.str) (fun e=>c e.symm)]
  by_cases c2:k=j
  ·subst c2;rw [qL (t:=.str) h,if_pos rfl]
  ·rw [qK (t:=.str) (fun e=>c2 e.symm),if_neg c2,if_neg c]
def sC (l:List aD) (i:Nat):Prop:=∀a b,a < b->b < i->ke (nth .str l a) (nth .str l b)
def rD (l:List aD) (i j:Nat):Prop:=∀a b,a < b->b<=i->b≠j->ke (nth .str l a) (nth .str l b)
theorem rD.start {l:List aD} {i:Nat} (h:sC l i):rD l i i:=fun a b h1 h2 h3=>h a b h1 (by omega)
theorem rD.swap {l:List aD} {i j:Nat} (h:rD l i j) (h0:0 < j) (hj:j < l.length) (hi:j<=i) (hlt:jN (nth .str l j) (nth .str l (j - 1))):rD (oH l j) i (j - 1):=by
 intro a b h1 h2 h3
 rw [yG h0 hj,yG h0 hj]
 by_cases cb:b=j
 ·subst cb
  rw [if_pos rfl,if_neg (by omega)]
  by_cases ca:a=b - 1
  ·rw [if_pos ca];exact mz hlt
  ·rw [if_neg ca];exact h a (b - 1) (by omega) (by omega) (by omega)
 ·rw [if_neg cb,if_neg h3]
  by_cases ca:a=j
  ·subst ca;rw [if_pos rfl];exact h (a - 1) b (by omega) h2 cb
  ·rw [if_neg ca]
   by_cases ca2:a=j - 1
   ·rw [if_pos ca2];exact h j b (by omega) h2 cb
   ·rw [if_neg ca2];exact h a b h1 h2 cb
theorem rD.done {l:List aD} {i j:Nat} (h:rD l i j) (hj:j=0\/¬ jN (nth .str l j) (nth .str l (j - 1))) (hi:j<=i):sC l (i + 1):=by
 intro a b h1 h2
 by_cases c:b=j
 ·subst c
  rcases hj with hj | hj
  ·omega
  ·by_cases ca:a=b - 1
   ·rw [ca];exact hj
   ·exact sy (h a (b - 1) (by omega) (by omega) (by omega)) hj
 ·exact h a b h1 (by omega) c
theorem DT {l:List aD} (h:sC l l.length):l.Pairwise ke:=by
 rw [List.pairwise_iff_getElem]
 intro i j hi hj hij
 have:=h i j hij hj
 rwa [show nth .str l i=l[i] from dx (t:=.str) (List.getElem?_eq_getElem hi),show nth .str l j=l[j] from dx (t:=.str) (List.getElem?_eq_getElem hj)] at this
theorem Iw {l xs:List aD} (hp:l.Perm xs) (h:sC l l.length):l=gV xs:=(B1 hp (DT h)).symm
end Go.Mrl

namespace Go.Mrl
open Go.Vg
end Go.Mrl

namespace Go.Mrl
open Go.Vg
theorem xO {a:Int} (h0:0<=a) (h:a < 18446744073709551616):IntKind.u64.wrap a=a:=
 px (by simp [IntKind.min,IntKind.max,IntKind.signed,IntKind.bits];omega)
theorem bL {n:Int}:(aY n).isNil=true ↔ n=0:=by
 unfold aY;split
 ·rename_i h;simp [h,bB.isNil]
 ·rename_i h;simp [h,bB.isNil]
theorem pV {a:Int} (h0 : -9223372036854775808<=a) (h:a < 9223372036854775808):IntKind.i64.wrap a=a:=
 px (by rw [nb];unfold aC;omega)
end Go.Mrl
namespace Go.Mrl
open Go.Vg
def mA (e:D fj):Prop:=e.1.length<=20/\e.2.1.length<=8/\e.2.2.1.length<=40/\∀i,i < e.2.1.length->(nth gO e.2.1 i).1.length<=20
def sE (a:D bT):Prop:=a.2.1.length<=100/\a.2.2.1.length<=1300/\mA a.2.2.2.2.2.1
def lU (l:List (D bT)) (m:Int):Prop:=(l.length:Int)<=m/\∀i,i < l.length->sE (nth bT l i)
end Go.Mrl

namespace Go.Mrl
open Go.Vg
@[reducible] def cO:Ty:=.prod .str (.prod (.int .i64) .unit)
abbrev FE:=aD × (aD × Int × Unit) × Int × Unit
abbrev ft:=(Int × Unit) × (List FE × Int × Unit) × Unit
def cr (y:FE):Int:=y.2.2.1
def gn (y:FE):aD:=y.1
def bS (x:ft) (s:aD):aD × Int × Int:=
 if dy cO x.2.1.1 s=true then ((lh cO x.2.1.1 s).1,(lh cO x.2.1.1 s).2.1,0) else ([],0,5)
def dO (x:ft) (s t:aD):ft × Int:=
 if ¬ aK s=0 then (x,aK s) else if 1200 < t.length then (x,2)
 else if (dy cO x.2.1.1 s=false/\x.2.1.1.length=6)\/x.1.1=1000000 then (x,8)
 else (((x.1.1 + 1,()),(eN cO x.2.1.1 s (t,x.1.1 + 1,()) x.2.1.2.1,kH cO x.2.1.1 s x.2.1.2.1,()),()),0)
def dU (x:ft) (s:aD):ft × Int:=
 if dy cO x.2.1.1 s=true then ((x.1,(fG cO x.2.1.1 s,x.2.1.2.1,()),()),0) else (x,5)
def lz (x:ft):List aD:=gV (x.2.1.1.map gn)
def tH:ft:=((0,()),([],0,()),())
theorem oI {x:ft} {s:aD} (h:dy cO x.2.1.1 s=false):bS x s=([],0,5):=by unfold bS;rw [if_neg (by rw [h];simp)]
theorem qM {x:ft} {s:aD} (h:dy cO x.2.1.1 s=true):bS x s=((lh cO x.2.1.1 s).1,(lh cO x.2.1.1 s).2.1,0):=by unfold bS;rw [if_pos h]
theorem sF {x:ft} {s t:aD} (h:¬ aK s=0):dO x s t=(x,aK s):=by unfold dO;rw [if_pos h]
theorem sG {x:ft} {s t:aD} (h:aK s=0) (h1:1200 < t.length):dO x s t=(x,2):=by unfold dO;rw [if_neg (by simp [h]),if_pos h1]
theorem sH {x:ft} {s t:aD} (h:aK s=0) (h1:¬ 1200 < t.length) (h2:(dy cO x.2.1.1 s=false/\x.2.1.1.length=6)\/x.1.1=1000000):dO x s t=(x,8):=by unfold dO;rw [if_neg (by simp [h]),if_neg h1,if_pos h2]
theorem wR {x:ft} {s t:aD} (h:aK s=0) (h1:¬ 1200 < t.length) (h2:¬ ((dy cO x.2.1.1 s=false/\x.2.1.1.length=6)\/x.1.1=1000000)) :
  dO x s t=(((x.1.1 + 1,()),(eN cO x.2.1.1 s (t,x.1.1 + 1,()) x.2.1.2.1,kH cO x.2.1.1 s x.2.1.2.1,()),()),0):=by unfold dO;rw [if_neg (by simp [h]),if_neg h1,if_neg h2]
theorem uy {x:ft} {s:aD} (h:dy cO x.2.1.1 s=false):dU x s=(x,5):=by unfold dU;rw [if_neg (by rw [h];simp)]
theorem sJ {x:ft} {s:aD} (h:dy cO x.2.1.1 s=true):dU x s=((x.1,(fG cO x.2.1.1 s,x.2.1.2.1,()),()),0):=by unfold dU;rw [if_pos h]
theorem Ix {es:List FE} {seen:List Int} {y:FE} (h:y∈fq cO es seen):(fq cO es (seen++[cr y])).length < (fq cO es seen).length:=by
 have e:fq cO es (seen++[cr y])=(fq cO es seen).filter fun z => !(cr z == cr y):=by
  unfold fq
  rw [List.filter_filter]
  apply List.filter_congr
  intro z _
  show (!(seen++[cr y]).contains (cr z))=_
  rw [Bool.eq_iff_iff]
  simp [cr,and_comm]
 rw [e]
 exact List.length_filter_lt_length_iff_exists.2 ⟨y,h,by simp⟩
theorem AE {α β:Type} {f:α->β} {l:List α} (h:(l.map f).Nodup):l.Nodup:=by
 unfold List.Nodup at h ⊢
 rw [List.pairwise_map] at h
 exact h.imp fun hne e=>hne (by rw [e])
theorem sK {α:Type} [DecidableEq α]:∀{a b:List α},a.Nodup->(∀y∈a,y∈b)->a.length<=b.length
 | [],_,_,_=>by simp
 | x :: a,b,hn,hs=>by
  have hn':=List.nodup_cons.1 hn
  have h1:(b.erase x).length=b.length - 1:=List.length_erase_of_mem (hs x (by simp))
  have h2:0 < b.length:=List.length_pos_of_mem (hs x (by simp))
  have:=sK (b:=b.erase x) hn'.2 fun y hy=>(List.mem_erase_of_ne (fun (e:y=x)=>hn'.1 (by rw [<-e];exact hy))).2 (hs y (by simp [hy]))
  simp only [List.length_cons]
  omega
theorem B3 {es x:List FE} (hs:∀y∈x,y∈es) (hn:(x.map cr).Nodup):x.length<=es.length:=by
 have h1:=AE hn
 exact sK h1 hs
structure mg (es:List FE) (x:List FE):Prop where
 sub:∀y∈x,y∈es
 nodup:(x.map cr).Nodup
theorem mg.more {es x:List FE} {y:FE} (h:mg es x) (hy:y∈fq cO es (x.map cr)):mg es (x++[y]):=by
 unfold fq at hy
 have hy':=List.mem_filter.1 hy
 have hn:cr y∉x.map cr:=by
  have:=hy'.2
  simpa [cr] using this
 refine ⟨fun z hz => ?_,?_⟩
 ·rcases List.mem_append.1 hz with hz | hz
  ·exact h.sub z hz
  ·simp at hz;subst hz;exact hy'.1
 ·rw [List.map_append,List.nodup_append]
  refine ⟨h.nodup,by simp,fun a ha b hb => ?_⟩
  simp at hb;subst hb
  exact fun e=>hn (e▸ha)
theorem sL {α β:Type} {f:α->β} {l:List α} (h:(l.map f).Nodup):l.Nodup:=by
 unfold List.Nodup at h ⊢
 rw [List.pairwise_map] at h
 exact h.imp fun hne e=>hne (by rw [e])
theorem born_inj:∀{es:List FE},(es.map cr).Nodup->∀{a b:FE},a∈es->b∈es->cr a=cr b->a=b
 | [],_,_,_,h,_,_=>by simp at h
 | y :: r,hn,a,b,ha,hb,e=>by
  simp only [List.map_cons,List.nodup_cons] at hn
  rcases List.mem_cons.1 ha with ha' | ha' <;> rcases List.mem_cons.1 hb with hb' | hb'
  ·rw [ha',hb']
  ·exact (hn.1 (by rw [<-ha',e];exact List.mem_map_of_mem hb')).elim
  ·exact (hn.1 (by rw [<-hb',<-e];exact List.mem_map_of_mem ha')).elim
  ·exact born_inj hn.2 ha' hb' e
theorem mg.all {es x:List FE} (h:mg es x) (hn:(es.map cr).Nodup) (hl:fq cO es (x.map cr) = []):x.Perm es:=by
 refine (List.perm_ext_iff_of_nodup (sL h.nodup) (sL hn)).2 fun y=>⟨h.sub y,fun hy => ?_⟩
 have hin:cr y∈x.map cr:=by
  apply Classical.byContradiction
  intro hc
  have:y∈fq cO es (x.map cr):=List.mem_filter.2 ⟨hy,by simpa [cr] using hc⟩
  rw [hl] at this;simp at this
 obtain ⟨z,hz,e⟩:=List.mem_map.1 hin
 have:=born_inj hn (h.sub z hz) hy e
 rw [<-this];exact hz
theorem B4 {es x:List FE} (h:mg es x) (hn:(es.map cr).Nodup) (hl:fq cO es (x.map cr) = []):gV (x.map gn)=gV (es.map gn):=AD ((h.all hn hl).map gn)
theorem at_mem:∀{es:List FE} {y:FE},(es.map cr).Nodup->y∈es->ru cO es (cr y)=y/\mO cO es (cr y)=true
 | [],_,_,h=>by simp at h
 | z :: r,y,hn,hy=>by
  simp only [List.map_cons,List.nodup_cons] at hn
  rcases List.mem_cons.1 hy with rfl | hy
  ·exact ⟨by rw [ru];exact if_pos rfl,by rw [mO];exact if_pos rfl⟩
  ·have hne:¬ cr z=cr y:=fun e=>hn.1 (by rw [e];exact List.mem_map_of_mem hy)
   obtain ⟨h1,h2⟩:=at_mem hn.2 hy
   exact ⟨by rw [ru];exact (if_neg hne).trans h1,by rw [mO];exact (if_neg hne).trans h2⟩
theorem wS (l:List Int) (a:Int):lj (l++[a])=a:=by simp [lj]
end Go.Mrl

