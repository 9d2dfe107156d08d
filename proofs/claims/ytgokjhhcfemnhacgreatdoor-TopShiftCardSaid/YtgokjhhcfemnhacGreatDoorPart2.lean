/- A part of the proof that the law TopShiftCard holds of the given program: facts that are used there. -/
import Derived.Test.YtgokjhhcfemnhacGreatDoorPart1
import Derived.Deep.LoopGhost
import Derived.ProofKit
import Derived.KernelRfl
import Derived.Deep.Heap
import Derived.Room.AppendFits
import Derived.Lib.UnsafeStr
import Derived.Lib.SplitLaws
import Derived.Lib.ItoaNum
import Derived.Lib.AtoiAll
set_option linter.unusedSimpArgs false
set_option linter.unusedVariables false
namespace Go.Vg
open Go.RowKit
def dC:List Cl->Bool
 | []=>true
 | .d t :: r=>t.flat && dC r
 | _ :: r=>dC r
def cw:List Ob->Bool
 | []=>true
 | .box _ cls :: r=>dC cls && cw r
 | .row _ t :: r=>t.flat && cw r
 | .tok t :: r=>t.flat && cw r
 | .ext _ _ :: r=>cw r
def lD:List Ob->Bool
 | []=>true
 | .tok _ :: _=>false
 | _ :: r=>lD r
section
variable {eT:TypeId} {X:Ext}
theorem VR.to {t:Ty} {x:D t} {S S':aV} {v:Value} (hw:S'.w=S.w) (hA:t.flat=true\/∀b o,S'.A b o->S.A b o) (h:VR eT t x S.A S.w v):VR eT t x S'.A S'.w v:=by
 rcases hA with hA | hA
 ·exact VR.of_flat hA h
 ·rw [hw];exact VR.sJ h fun b o k h'=>k (hA b o h')
def Laid (eT:TypeId) (S:aV):(os:List Ob)->PD os->List Nat->List Loc->Prop
 | [],_,ns,ls=>ns = []/\ls = []
 | o :: r,x,n :: ns,l :: ls=>(S.loc n=l/\n < S.next/\(match o,x.1 with
  | .box _ _,_=>∃b,l.v = .pointer (some ⟨b,0,none⟩)
  | .tok t,y=>VR eT (.slice t) y S.A S.w l.v/\∀ys,S.ob n=some (.tok t ys)->ys=y
  | .row _ _,_=>∃a k c,l.v = .slice a k c
  | .ext 0 _,_=>∃v,∃hs:List Value,l.v = .tuple (v :: hs).toArray
  | .ext (_ + 1) _,_=>oB l.v=l.v))/\Laid eT S r x.2 ns ls
 | _,_,_,_=>False
theorem rD {S:aV}:∀{os:List Ob} {x:PD os} {ns:List Nat} {ls:List Loc} {k:Nat} {v:Value},Laid eT S os x ns ls->sK ls k v->CR eT S (cX os x ns k) v:=by
 intro os
 induction os with
 | nil=>intro x ns ls k v h hr;exact trivial
 | cons o r ih=>
  intro x ns ls k v h hr
  match ns,ls,h with
  | n :: ns,l :: ls,⟨⟨h1,h2,h3⟩,h4⟩=>
   obtain ⟨l0,hl,hv⟩:=hr
   cases k with
   | succ k=>exact ih h4 ⟨l0,by simpa using hl,hv⟩
   | zero=>
    simp at hl
    subst hl
    subst hv
    show CR eT S (Ge o x.1 n) _
    cases o with
    | box T cls=>
     obtain ⟨b,hb⟩:=h3
     rw [hb]
     exact ⟨h2,fun T cs _=>⟨b,by rw [h1];exact hb,rfl⟩⟩
    | row kp t=>
     obtain ⟨a,k,c,hb⟩:=h3
     rw [hb]
     exact ⟨h2,fun t xs _=>by rw [h1,hb];rfl⟩
    | tok t=>
     obtain ⟨a,c,hb,_⟩:=mh h3.1
     rw [show oB l.v=l.v by rw [hb];rfl]
     exact ⟨h3.1,h2,fun ys hy=>by rw [h3.2 ys hy];exact ⟨Nat.le_refl _,fun _=>by rw [h1]⟩⟩
    | ext k t=>
     cases k with
     | zero=>
      obtain ⟨v,hs,hb⟩:=h3
      rw [hb]
      exact ⟨h2,fun t x _=>⟨hs,by rw [h1,hb];rfl⟩⟩
     | succ k=>
      rw [show oB l.v=l.v from h3]
      exact ⟨h2,fun oc _ _=>by rw [h1]⟩
theorem DP {S S':aV} {F:Nat->Value->Prop} {f:Nat->C} (hw:S'.w=S.w) (hF:∀k v,F k v->CR eT S' (f k) v):∀{cls:List Cl} {x:CD cls} {vs:List Value},
  (dC cls=true\/∀b o,S'.A b o->S.A b o)->lY eT S F cls x vs->(∀v∈vs,v.oneCell'=true)->bS eT S' (vQ f cls x) vs:=by
 intro cls
 induction cls with
 | nil=>intro x vs _ h _;rw [show vs = [] from h];exact .nil
 | cons cl r ih=>
  intro x vs hA h h1
  cases vs with
  | nil=>cases cl <;> exact h.elim
  | cons v vs=>
   have hr:dC r=true\/∀b o,S'.A b o->S.A b o:=by
    rcases hA with hA | hA
    ·left;cases cl <;> simp [dC] at hA <;> first | exact hA.2 | exact hA
    ·exact .inr hA
   cases cl with
   | d t=>
    refine .cons (VR.to hw ?_ h.1) (h1 v (by simp)) (ih hr h.2 fun u hu=>h1 u (by simp [hu]))
    rcases hA with hA | hA
    ·left;simp [dC] at hA;exact hA.1
    ·exact .inr hA
   | obj k=>exact .cons (hF k v h.1) (h1 v (by simp)) (ih hr h.2 fun u hu=>h1 u (by simp [hu]))
   | cU=>exact .cons h.1 (h1 v (by simp)) (ih hr h.2 fun u hu=>h1 u (by simp [hu]))
theorem vT {S S':aV} {F:Nat->Value->Prop} {f:Nat->C} (hw:S'.w=S.w) (hF:∀k v,F k v->CR eT S' (f k) v):∀{cls:List Cl} {x:CD cls} {vs:List Value},
  (dC cls=true\/∀b o,S'.A b o->S.A b o)->lY eT S F cls x vs->bI eT S' (qA f cls x) vs:=by
 intro cls
 induction cls with
 | nil=>intro x vs _ h;rw [show vs = [] from h];exact .nil
 | cons cl r ih=>
  intro x vs hA h
  cases vs with
  | nil=>cases cl <;> exact h.elim
  | cons v vs=>
   have hr:dC r=true\/∀b o,S'.A b o->S.A b o:=by
    rcases hA with hA | hA
    ·left;cases cl <;> simp [dC] at hA <;> first | exact hA.2 | exact hA
    ·exact .inr hA
   cases cl with
   | d t=>
    refine .cons (show VR eT t x.1 S'.A S'.w v from VR.to hw ?_ h.1) (ih hr h.2)
    rcases hA with hA | hA
    ·left;simp [dC] at hA;exact hA.1
    ·exact .inr hA
   | obj k=>exact .cons (hF k v h.1) (ih hr h.2)
   | cU=>exact .cons h.1 (ih hr h.2)
theorem fg.to {S S':aV} {t:Ty} {xs:List (D t)} {vs:Array Value} (hw:S'.w=S.w) (hA:t.flat=true\/∀b o,S'.A b o->S.A b o) (h:fg eT S t xs vs):fg eT S' t xs vs:=by
 intro i y hy
 obtain ⟨us,h1,h2⟩:=h i y hy
 refine ⟨us,?_,h2⟩
 rcases hA with hA | hA
 ·exact h1.of_flat hA
 ·rw [hw];exact h1.frame fun b o v k h'=>⟨h',fun h''=>k (hA b o h'')⟩
theorem vU.to {S S':aV} {t:Ty} {xs:List (D t)} {l:Loc} (hw:S'.w=S.w) (hA:t.flat=true\/∀b o,S'.A b o->S.A b o) (h:OR eT X S l (.aP t xs)):OR eT X S' l (.aP t xs):=by
 rcases h with h | ⟨b,vs,T,cap,h1,h2,h3,h4,h5,h6,h7⟩
 ·exact .inl h
 ·exact .inr ⟨b,vs,T,cap,h1,h2,by rw [hw];exact h3,h4,h5,h6,h7.to hw hA⟩
def kT (o:Ob):Bool:=cw [o]
theorem Gg {S S':aV} {F:Nat->Value->Prop} {f:Nat->C} (hw:S'.w=S.w) (hF:∀k v,F k v->CR eT S' (f k) v) {o:Ob} {x:OD o} {l:Loc}
  (hA:kT o=true\/∀b o,S'.A b o->S.A b o) (h:BZ eT X S F o x l):OR eT X S' l (kS f o x):=by
 cases o with
 | box T cls=>
  obtain ⟨b,vs,h1,h2,h3,h4,h5⟩:=h
  refine ⟨b,vs,h1,h2,by rw [hw];exact h3,DP hw hF ?_ h4 h5⟩
  rcases hA with hA | hA
  ·left;simpa [kT,cw] using hA
  ·exact .inr hA
 | row kp t=>
  refine vU.to hw ?_ h
  rcases hA with hA | hA
  ·left;simpa [kT,cw] using hA
  ·exact .inr hA
 | tok t=>
  refine vU.to (X:=X) (l:=l) hw ?_ h
  rcases hA with hA | hA
  ·left;simpa [kT,cw] using hA
  ·exact .inr hA
 | ext k t=>show X.rel _ _ _ _ _;rw [hw];exact h
theorem DQ {S:aV} {t:Ty} {xs:List (D t)} {l:Loc} (h:OR eT X S l (.tok t xs)) (hA:∀b∈l.bs,∀off,off < xs.length * t.size->¬ S.A b off):VR eT (.slice t) xs S.A S.w l.v:=by
 rcases h with ⟨rfl,⟨a,ha⟩,_⟩ | ⟨b,vs,T,cap,h1,h2,h3,h4,h5,h6,he⟩
 ·exact VR.bt rfl ⟨_,rfl,by simp, .inl ⟨rfl,a,0,ha⟩⟩
 ·refine VR.bt rfl ⟨_,rfl,h6, .inr ⟨b,0,cap,h1,h5,fun i y hy => ?_⟩⟩
  obtain ⟨us,r1,r2⟩:=he i y hy
  refine ⟨us,r1,fun j u hj=>⟨?_,?_⟩⟩
  ·rw [Nat.zero_add,cell_of_row S.w b _ vs T (0,0) h3];exact r2 j u hj
  ·rw [Nat.zero_add]
   refine hA b (by rw [h2];simp) _ ?_
   have hi:=aQ hy
   have hjl:=aQ hj
   rw [r1.length] at hjl
   have:(i + 1) * t.size<=xs.length * t.size:=Nat.mul_le_mul_right _ hi
   rw [Nat.add_mul] at this
   omega
def cb:List Nat->List Loc->(Nat->Loc)->Nat->Loc
 | n :: ns,l :: ls,d,m=>if n=m then l else cb ns ls d m
 | _,_,d,m=>d m
theorem iF:∀{ns:List Nat} {ls:List Loc} {d:Nat->Loc} {m:Nat},m∉ns->cb ns ls d m=d m
 | [],_,_,_,_=>by cases ‹List Loc› <;> rfl
 | n :: ns,[],_,_,_=>rfl
 | n :: ns,l :: ls,d,m,h=>by
  simp only [List.mem_cons,not_or] at h
  simp only [cb]
  rw [if_neg (fun e=>h.1 e.symm)]
  exact iF h.2
theorem qC {n:Nat} {l:List Nat}:ik n l=true ↔ n∈l:=by
 refine ⟨ng,fun h => ?_⟩
 induction l with
 | nil=>simp at h
 | cons m r ih=>
  simp only [ik]
  split
  ·rfl
  ·rename_i hb
   rcases List.mem_cons.1 h with h | h
   ·subst h;rw [Nat.beq_refl] at hb;cases hb
   ·exact ih h
theorem gP {n:Nat} {r:List Nat} (h:nodupB (n :: r)=true):n∉r/\nodupB r=true:=by
 simp only [nodupB,Bool.and_eq_true,Bool.not_eq_true'] at h
 exact ⟨fun hm=>by rw [qC.2 hm] at h;exact absurd h.1 (by decide),h.2⟩
theorem eY:∀{ns:List Nat} {ls:List Loc} {d:Nat->Loc} {i n:Nat} {l:Loc},nodupB ns=true->ns[i]?=some n->ls[i]?=some l->cb ns ls d n=l
 | [],_,_,_,_,_,_,h,_=>by simp at h
 | n :: ns,[],_,_,_,_,_,_,h=>by simp at h
 | n :: ns,l :: ls,d,0,m,k,_,h1,h2=>by simp at h1 h2;subst h1;subst h2;simp [cb]
 | n :: ns,l :: ls,d,i + 1,m,k,hn,h1,h2=>by
  obtain ⟨hm,hn⟩:=gP hn
  simp at h1 h2
  simp only [cb]
  rw [if_neg (fun e=>hm (by rw [e];exact List.mem_of_getElem? h1))]
  exact eY hn h1 h2
theorem ky {cv:Bool} {aC:List (Nat × OC)} {aH:List Ob} {ν:List Nat} {f:Nat->C} {S:aV} {F:Nat->Value->Prop} {loc:Nat->Loc}:∀{os:List Ob} {x:PD os} {ns ms:List Nat} {m:Nat} {oc:OC},bT cv aC aH ν os ns=some x->Aj eT X S F os x (ns.map loc)->ns.length=ms.length->
  look (fm f os x ms) m=some oc->∃(i n:Nat) (o:Ob) (y:OD o) (oc0:OC),ns[i]?=some n/\ms[i]?=some m/\os[i]?=some o/\look aC n=some oc0/\ed cv aC aH ν o oc0=some y/\oc=kS f o y/\BZ eT X S F o y (loc n):=by
 intro os
 induction os with
 | nil=>intro x ns ms m oc _ _ _ h;simp [fm,look] at h
 | cons o r ih=>
  intro x ns ms m oc hg hR hl h
  cases ns with
  | nil=>simp [bT] at hg
  | cons n ns=>
   cases ms with
   | nil=>simp at hl
   | cons k ms=>
    simp only [bT] at hg
    split at hg
    case h_2=>cases hg
    rename_i oc0 hob
    split at hg
    case h_2=>cases hg
    rename_i x0 y0 h1 h2
    cases hg
    simp only [fm,bm] at h
    split at h
    ·rename_i e
     cases h
     exact ⟨0,n,o,x0,oc0,rfl,by simp [e],rfl,hob,h1,rfl,hR.1⟩
    ·obtain ⟨i,n',o',y',oc',k1,k2,k3,k4⟩:=ih h2 hR.2 (by simpa using hl) h
     exact ⟨i + 1,n',o',y',oc',by simpa using k1,by simpa using k2,by simpa using k3,k4⟩
theorem sM {cv:Bool} {aC:List (Nat × OC)} {aH:List Ob} {ν:List Nat} {f:Nat->C} {o:Ob} {y:OD o} {oc:OC} (h:ed cv aC aH ν o oc=some y):(kS f o y).lo=oc.lo\/cv=true:=by
 cases o <;> cases oc <;> simp only [ed,reduceCtorEq] at h
 ·exact .inl rfl
 ·exact .inl rfl
 ·split at h
  ·exact .inr rfl
  ·cases h
 ·obtain ⟨e,h3⟩:=iu h
  subst e;simp only at h3;subst h3;exact .inl rfl
 ·exact .inl rfl
theorem jZ {cv:Bool} {aC:List (Nat × OC)} {aH:List Ob} {ν:List Nat} {o:Ob} {y:OD o} {oc:OC} (h:ed cv aC aH ν o oc=some y) (f:Nat->C):(∀T cls,o = .box T cls->∃cs,oc = .cells T cs)/\
  (∀k t,o = .ext k t->∃x,oc = .ext k t x)/\(∀k t,o = .row k t->cv=false->∃xs,oc = .aP t xs)/\((∀t,o≠.tok t)->cv=false->∀t xs,oc≠.tok t xs):=by
 refine ⟨fun T cls e => ?_,fun k t e => ?_,fun k t e e2 => ?_,fun h1 h2 t xs e => ?_⟩
 ·subst e
  cases oc <;> simp only [ed,reduceCtorEq] at h
  split at h
  ·rename_i hT;rw [Nat.eq_of_beq_eq_true hT];exact ⟨_,rfl⟩
  ·cases h
 ·subst e
  cases oc <;> simp only [ed,reduceCtorEq] at h
  split at h
  ·rename_i hT
   obtain ⟨e,_⟩:=vS h
   subst e
   rw [Nat.eq_of_beq_eq_true hT];exact ⟨_,rfl⟩
  ·cases h
 ·subst e;subst e2
  cases oc <;> simp only [ed,reduceCtorEq] at h
  ·obtain ⟨e,_⟩:=iu h
   subst e
   exact ⟨_,rfl⟩
 ·subst e;subst h2
  cases o <;> simp only [ed,reduceCtorEq] at h
  exact h1 _ rfl
theorem kz {cv:Bool} {aC:List (Nat × OC)} {aH:List Ob} {ν:List Nat}:∀{os:List Ob} {ns:List Nat} {x:PD os},bT cv aC aH ν os ns=some x->os.length=ns.length:=by
 intro os
 induction os with
 | nil=>intro ns x h;cases ns with | nil=>rfl | cons=>simp [bT] at h
 | cons o r ih=>
  intro ns x h
  cases ns with
  | nil=>simp [bT] at h
  | cons n ns=>
   simp only [bT] at h
   split at h
   case h_2=>cases h
   split at h
   case h_2=>cases h
   rename_i h2
   simp [ih h2]
theorem j0 {f:Nat->C}:∀{os:List Ob} {x:PD os} {ms:List Nat} {m:Nat},os.length=ms.length->m∈ms->∃oc,look (fm f os x ms) m=some oc:=by
 intro os
 induction os with
 | nil=>intro x ms m h hm;cases ms with | nil=>simp at hm | cons=>simp at h
 | cons o r ih=>
  intro x ms m h hm
  cases ms with
  | nil=>simp at h
  | cons k ms=>
   simp only [fm,bm]
   by_cases e:k=m
   ·exact ⟨_,by rw [if_pos e]⟩
   ·rw [if_neg e]
    rcases List.mem_cons.1 hm with hm | hm
    ·exact (e hm.symm).elim
    ·exact ih (by simpa using h) hm
theorem j9:∀{l:List Nat} {i j n:Nat},nodupB l=true->l[i]?=some n->l[j]?=some n->i=j
 | [],_,_,_,_,h,_=>by simp at h
 | m :: r,0,0,_,_,_,_=>rfl
 | m :: r,0,j + 1,n,hn,h1,h2=>by
  simp at h1 h2;subst h1
  exact ((gP hn).1 (List.mem_of_getElem? h2)).elim
 | m :: r,i + 1,0,n,hn,h1,h2=>by
  simp at h1 h2;subst h2
  exact ((gP hn).1 (List.mem_of_getElem? h1)).elim
 | m :: r,i + 1,j + 1,n,hn,h1,h2=>by
  simp at h1 h2
  rw [j9 (gP hn).2 h1 h2]
theorem oC {a:Ob} {r:List Ob} (h:cw (a :: r)=true):kT a=true/\cw r=true:=by
 cases a <;> simp [cw,kT] at h ⊢ <;> exact h
theorem pV:∀{l:List Ob} {i:Nat} {o:Ob},cw l=true->l[i]?=some o->kT o=true
 | [],_,_,_,h=>by simp at h
 | a :: r,0,o,hfl,h=>by simp at h;subst h;exact (oC hfl).1
 | a :: r,i + 1,o,hfl,h=>pV (oC hfl).2 (by simpa using h)
theorem Fp {S S2:aV} {F:Nat->Value->Prop} {f:Nat->C} {loc:Nat->Loc} (hNA:∀m t ys,S2.ob m=some (.tok t ys)->∀b∈(S2.loc m).bs,∀off,off < ys.length * t.size->¬ S2.A b off) (hw:S2.w=S.w) :
  ∀{os:List Ob} {x:PD os} {ns ms:List Nat},(cw os=true\/∀b o,S2.A b o->S.A b o)->Aj eT X S F os x (ns.map loc)->nodupB ms=true->ns.length=ms.length->(∀n∈ms,S2.ob n=look (fm f os x ms) n)->
   (∀(i n m:Nat),ns[i]?=some n->ms[i]?=some m->S2.loc m=loc n/\m < S2.next)->Laid eT S2 os x ms (ns.map loc):=by
 intro os
 induction os with
 | nil=>
  intro x ns ms _ h _ hl _ _
  have h:ns.map loc = []:=h
  cases ns with
  | nil=>cases ms with
   | nil=>exact ⟨rfl,rfl⟩
   | cons=>simp at hl
  | cons=>simp at h
 | cons o r ih=>
  intro x ns ms hA h hnd hl hob hloc
  cases ns with
  | nil=>exact h.elim
  | cons n ns=>
   cases ms with
   | nil=>simp at hl
   | cons m ms=>
    obtain ⟨hm,hnd'⟩:=gP hnd
    obtain ⟨h1,h2⟩:=hloc 0 n m rfl rfl
    have hA':cw r=true\/∀b o,S2.A b o->S.A b o:=by
     rcases hA with hA | hA
     ·left;cases o <;> simp [cw] at hA <;> first | exact hA.2 | exact hA
     ·exact .inr hA
    refine ⟨⟨h1,h2,?_⟩,ih hA' h.2 hnd' (by simpa using hl) (fun k hk => ?_) (fun i a b ha hb=>hloc (i + 1) a b (by simpa using ha) (by simpa using hb))⟩
    ·cases o with
     | box T cls=>obtain ⟨b,vs,k1,_⟩:=h.1;exact ⟨b,k1⟩
     | row kp t=>rcases h.1 with ⟨_,⟨a,ha⟩,_⟩ | ⟨b,vs,T,cap,ha,_⟩ <;> exact ⟨_,_,_,ha⟩
     | tok t=>
      have hobm:S2.ob m=some (.tok t x.1):=by rw [hob m (by simp)];simp [fm,bm,kS]
      refine ⟨?_,fun ys hy=>by rw [hobm] at hy;cases hy;rfl⟩
      refine DQ (X:=X) (vU.to (X:=X) (l:=loc n) hw ?_ h.1) fun b hb off ho=>hNA m t x.1 hobm b (by rw [h1];exact hb) off ho
      rcases hA with hA | hA
      ·left;simp [cw] at hA;exact hA.1
      ·exact .inr hA
     | ext k t=>
      cases k with
      | zero=>
       have hd:=X.deep.1 h.1
       obtain ⟨e,s,rfl,_⟩:=ln hd
       obtain ⟨_,_,v,hs,hv,_⟩:=hd
       exact ⟨v,hs,hv⟩
      | succ k=>
       show oB (loc n).v=(loc n).v
       cases k with
       | zero=>obtain ⟨e,_,b,es,b4,hm⟩:=X.map.1 h.1;rw [hm.lv];rfl
       | succ k=>obtain ⟨a,ha⟩:=X.ptr (by omega) h.1;rw [ha];rfl
    ·rw [hob k (by simp [hk])]
     simp only [fm,bm]
     rw [if_neg (fun e=>hm (by rw [e];exact hk))]
theorem Al {cv:Bool} {aH:List Ob} {ν:List Nat} {x:PD aH} {O:aD} {st:St} {loc:Nat->Loc} {w:World} (g:Good eT X (aB O st loc w)) (hx:bT cv st.aC aH ν aH ν=some x)
  (hp:∀p∈dB aH x st.aC aH ν,p) (hnd:nodupB ν=true)
  {O2:aD} {ν2:List Nat} {rest:List (Nat × OC)} {locR:Nat->Loc} {st2:St} (hnd2:nodupB ν2=true) (hlen:ν.length=ν2.length)
  (hobjs:st2.aC=fm (cX aH x ν2) aH x ν2++rest) (hlt:∀n∈ν2,n < st2.next)
  (hO2:∀n∈ν,∀b∈(loc n).bs,∀off,¬ O2 b off)
  (hD:∀n∈ν,∀b∈(loc n).bs,∀m oc,look rest m=some oc->m∉ν2->b∉(locR m).bs)
  (hR:∀m oc,look rest m=some oc->m∉ν2->m < st2.next/\OR eT X (aB O2 st2 (cb ν2 (ν.map loc) locR) w) (locR m) oc)
  (hR2:∀m m' oc oc' b,look rest m=some oc->look rest m'=some oc'->m∉ν2->m'∉ν2->b∈(locR m).bs->b∈(locR m').bs->m=m')
  (hR3:∀m oc b off,look rest m=some oc->m∉ν2->b∈(locR m).bs->¬ O2 b off)
  (hA:cw aH=true\/∀b o,(aB O2 st2 (cb ν2 (ν.map loc) locR) w).A b o->(aB O st loc w).A b o)
  (hGl:∀b∈X.yy,¬ (aB O2 st2 (cb ν2 (ν.map loc) locR) w).jo b) :
  Good eT X (aB O2 st2 (cb ν2 (ν.map loc) locR) w)/\Laid eT (aB O2 st2 (cb ν2 (ν.map loc) locR) w) aH x ν2 (ν.map loc):=by
 have hobs:=kx (X:=X) g hx hx hp
 have hol:=kz hx
 generalize hf:cX aH x ν2=f at hobjs
 have hob:∀m oc,(aB O2 st2 (cb ν2 (ν.map loc) locR) w).ob m=some oc->
   (∃(i n:Nat) (o:Ob) (y:OD o) (oc0:OC),ν[i]?=some n/\ν2[i]?=some m/\look st.aC n=some oc0/\ed cv st.aC aH ν o oc0=some y/\oc=kS f o y/\BZ eT X (aB O st loc w) (sK (ν.map loc)) o y (loc n)/\
    cb ν2 (ν.map loc) locR m=loc n/\aH[i]?=some o)\/
   (look rest m=some oc/\m∉ν2/\cb ν2 (ν.map loc) locR m=locR m):=by
  intro m oc h
  simp only [aB,hobjs] at h
  rw [bY] at h
  split at h
  ·rename_i oc' h'
   cases h
   obtain ⟨i,n,o,y,oc0,k1,k2,k3,k4,k5,k6,k7⟩:=ky hx hobs hlen h'
   exact .inl ⟨i,n,o,y,oc0,k1,k2,k4,k5,k6,k7,eY hnd2 k2 (by simp [k1]),k3⟩
  ·rename_i h'
   have:m∉ν2:=fun hm=>by
    obtain ⟨oc1,h1⟩:=j0 (f:=f) (x:=x) (by omega) hm
    rw [h1] at h';cases h'
   exact .inr ⟨h,this,iF this⟩
 have hap:∀m m' oc oc' b,(aB O2 st2 (cb ν2 (ν.map loc) locR) w).ob m=some oc->(aB O2 st2 (cb ν2 (ν.map loc) locR) w).ob m'=some oc'->
   b∈(cb ν2 (ν.map loc) locR m).bs->b∈(cb ν2 (ν.map loc) locR m').bs->m=m':=by
  intro m m' oc oc' b h1 h2 h3 h4
  rcases hob m oc h1 with ⟨i,n,o,y,oc0,k1,k2,k4,_,_,_,k8,_⟩ | ⟨k1,k2,k3⟩ <;> rcases hob m' oc' h2 with ⟨i',n',o',y',oc0',j1,j2,j4,_,_,_,j8,_⟩ | ⟨j1,j2,j3⟩
  ·rw [k8] at h3;rw [j8] at h4
   have e:=g.apart n n' oc0 oc0' b k4 j4 h3 h4
   subst e
   have:=j9 hnd k1 j1
   subst this
   rw [k2] at j2;cases j2;rfl
  ·rw [k8] at h3;rw [j3] at h4
   exact (hD n (List.mem_of_getElem? k1) b h3 m' oc' j1 j2 h4).elim
  ·rw [k3] at h3;rw [j8] at h4
   exact (hD n' (List.mem_of_getElem? j1) b h4 m oc k1 k2 h3).elim
  ·rw [k3] at h3;rw [j3] at h4
   exact hR2 m m' oc oc' b k1 j1 k2 j2 h3 h4
 have hout:∀m oc b off,(aB O2 st2 (cb ν2 (ν.map loc) locR) w).ob m=some oc->b∈(cb ν2 (ν.map loc) locR m).bs->¬ O2 b off:=by
  intro m oc b off h1 h2
  rcases hob m oc h1 with ⟨i,n,o,y,oc0,k1,k2,k4,_,_,_,k8,_⟩ | ⟨k1,k2,k3⟩
  ·rw [k8] at h2;exact hO2 n (List.mem_of_getElem? k1) b h2 off
  ·rw [k3] at h2;exact hR3 m oc b off k1 k2 h2
 have hNA:∀m t ys,(aB O2 st2 (cb ν2 (ν.map loc) locR) w).ob m=some (.tok t ys)->∀b∈((aB O2 st2 (cb ν2 (ν.map loc) locR) w).loc m).bs,∀off,off < ys.length * t.size->¬ (aB O2 st2 (cb ν2 (ν.map loc) locR) w).A b off:=by
  rintro m t ys h1 b hb off ho (h2 | ⟨m',oc',h2,h3,h4⟩)
  ·exact hout m _ b off h1 hb h2
  ·have:=hap m m' _ oc' b h1 h2 hb h3
   subst this
   rw [h1] at h2;cases h2
   simp only [OC.lo] at h4
   omega
 have hlaid:Laid eT (aB O2 st2 (cb ν2 (ν.map loc) locR) w) aH x ν2 (ν.map loc):=by
  refine Fp (X:=X) (S:=aB O st loc w) (f:=f) hNA rfl hA hobs hnd2 hlen (fun n hn => ?_) (fun i n m h1 h2=>⟨eY hnd2 h2 (by simp [h1]),hlt m (List.mem_of_getElem? h2)⟩)
  show look st2.aC n=_
  rw [hobjs,bY]
  obtain ⟨oc1,h1⟩:=j0 (f:=f) (x:=x) (by omega) hn
  rw [h1]
 refine ⟨⟨fun m oc h => ?_,fun m m' oc oc' b h1 h2 h3 h4=>hap m m' oc oc' b h1 h2 h3 h4,fun m oc b off h1 h2=>hout m oc b off h1 h2,g.ig.1,hGl⟩,hlaid⟩
 rcases hob m oc h with ⟨i,n,o,y,oc0,k1,k2,k4,k5,k6,k7,k8,k9⟩ | ⟨k1,k2,k3⟩
 ·refine ⟨hlt m (List.mem_of_getElem? k2),?_⟩
  show OR _ _ _ (cb ν2 (ν.map loc) locR m) oc
  rw [k8,k6]
  refine Gg (S:=aB O st loc w) (S':=aB O2 st2 (cb ν2 (ν.map loc) locR) w) rfl (fun k v hk=>by rw [<-hf];exact rD hlaid hk) ?_ k7
  rcases hA with hA | hA
  ·left
   exact pV hA k9
  ·exact .inr hA
 ·obtain ⟨h1,h2⟩:=hR m oc k1 k2
  refine ⟨h1,?_⟩
  show OR _ _ _ (cb ν2 (ν.map loc) locR m) oc
  rw [k3];exact h2
def upto:Nat->Nat->List Nat
 | _,0=>[]
 | k,m + 1=>k :: upto (k + 1) m
def EX (aH:List Ob) (cls:List Cl) (vs:List bB) (aC:List (Nat × OC)) (as:List (Nat × Nat)):Option (List Nat):=
 match BX cls vs as with
 | some as1=>match px aC 0 aH as1 with
  | some as2=>oz as2 0 aH.length
  | none=>none
 | none=>none
theorem qD:∀(m k i:Nat),i < m->(upto k m)[i]?=some (k + i)
 | m + 1,k,0,_=>by simp [upto]
 | m + 1,k,i + 1,h=>by
  simp only [upto,List.getElem?_cons_succ]
  rw [qD m (k + 1) i (by omega)]
  congr 1;omega
theorem nh:∀{m k n:Nat},n∈upto k m->k<=n/\n < k + m
 | 0,k,n,h=>by simp [upto] at h
 | m + 1,k,n,h=>by
  simp only [upto,List.mem_cons] at h
  rcases h with h | h
  ·omega
  ·have:=nh h;omega
theorem ni:∀(m k:Nat),(upto k m).length=m
 | 0,_=>rfl
 | m + 1,k=>by simp [upto,ni m]
theorem ew:∀(m k:Nat),nodupB (upto k m)=true
 | 0,_=>rfl
 | m + 1,k=>by
  simp only [upto,nodupB,ew m,Bool.and_true,Bool.not_eq_true']
  rw [Bool.eq_false_iff]
  intro h
  have:=nh (qC.1 h)
  omega
theorem fC {cv:Bool} {aC:List (Nat × OC)} {aH:List Ob} {ν:List Nat}:∀{os:List Ob} {ns:List Nat} {x:PD os} {n:Nat},bT cv aC aH ν os ns=some x->n∈ns->
  ∃o oc y,o∈os/\look aC n=some oc/\ed cv aC aH ν o oc=some y:=by
 intro os
 induction os with
 | nil=>intro ns x n h hn;cases ns with | nil=>simp at hn | cons=>simp [bT] at h
 | cons o r ih=>
  intro ns x n h hn
  cases ns with
  | nil=>simp at hn
  | cons k ns=>
   simp only [bT] at h
   split at h
   case h_2=>cases h
   rename_i oc hob
   split at h
   case h_2=>cases h
   rename_i x0 y0 h1 h2
   rcases List.mem_cons.1 hn with e | hn
   ·subst e;exact ⟨o,oc,x0,by simp,hob,h1⟩
   ·obtain ⟨o',oc',y',k1,k2⟩:=ih h2 hn
    exact ⟨o',oc',y',by simp [k1],k2⟩
end
end Go.Vg

namespace Go.Vg
open Go.RowKit
inductive Ex where
 | normal
 | exit (n:Nat)
 | ret
def uT:(cls:List Cl)->CD cls
 | []=>()
 | .d t :: r=>(bE t,uT r)
 | .obj _ :: r=>uT r
 | .cU :: r=>uT r
def GI:(o:Ob)->OD o
 | .box _ cls=>uT cls
 | .row _ _=>[]
 | .tok _=>[]
 | .ext _ t=>bE t
def EY:(os:List Ob)->PD os
 | []=>()
 | o :: r=>(GI o,EY r)
structure fu:Type 1 where
 X:Type
 inv:X->Prop
 bx:X->Nat
 bd:X->List (Nat × SV)
 aC:X->List (Nat × OC):=fun _=>[]
 bg:List Nat
 dV:List Nat:=[]
 eI:List Nat:=[]
 aH:List Ob:=[]
 refs:List (Nat × Nat):=[]
 pd:X->PD aH:=fun _=>EY aH
@[reducible] def sI (x:Int):SV:=.s (.one (.d (.int .i64) x))
@[reducible] def sB (x:Bool):SV:=.s (.one (.d .bool x))
@[reducible] def sD (t:Ty) (x:D t):SV:=.s (.one (.d t x))
abbrev ch:=List (Nat × (St->fu))
def nj:C->C->Prop
 | .lit b, .d .bool c=>b=c
 | .d t x, .d t' y=>match h:Ty.beq t t' with
  | true=>bn h x=y
  | false=>False
 | .app t xs n, .app t' ys m=>match h:Ty.beq (.slice t) (.slice t'),Nat.beq n m with
  | true,true=>bn h (a:=.slice t) (b:=.slice t') xs=ys
  | _,_=>False
 | a,b=>a=b
def ka:SV->SV->Prop
 | .s (.one a), .s (.one b)=>nj a b
 | a,b=>a=b
def oD:List C->List C->Prop
 | [],[]=>True
 | a :: as,b :: bs=>nj a b/\oD as bs
 | _,_=>False
def fS:OC->OC->Prop
 | .cells T cs, .cells T' cs'=>match Nat.beq T T' with
  | true=>oD cs cs'
  | false=>False
 | .aP t xs, .aP t' ys=>match h:Ty.beq (.slice t) (.slice t') with
  | true=>bn h (a:=.slice t) (b:=.slice t') xs=ys
  | false=>False
 | .arr t xs, .arr t' ys=>match h:Ty.beq (.slice t) (.slice t') with
  | true=>bn h (a:=.slice t) (b:=.slice t') xs=ys
  | false=>False
 | .tok t xs, .tok t' ys=>match h:Ty.beq (.slice t) (.slice t') with
  | true=>bn h (a:=.slice t) (b:=.slice t') xs=ys
  | false=>False
 | .ext k t x, .ext k' t' y=>match Nat.beq k k',h:Ty.beq t t' with
  | true,true=>bn h x=y
  | _,_=>False
 | .iter cs seen cl, .iter cs' seen' cl'=>oD cs cs'/\seen=seen'/\cl=cl'
 | _,_=>False
def gQ (st:St):List (Nat × SV)->Prop
 | []=>True
 | (n,v) :: r=>match look st.env n with
  | some u=>ka u v/\gQ st r
  | none=>False
def gR (st:St):List (Nat × OC)->Prop
 | []=>True
 | (n,v) :: r=>match look st.aC n with
  | some u=>fS u v/\gR st r
  | none=>False
def jw (st:St):List Nat->List (Nat × SV)
 | []=>[]
 | t :: r=>match look st.env t with
  | some v=>(t,v) :: jw st r
  | none=>jw st r
def dI (st:St):List Nat->List (Nat × OC)
 | []=>[]
 | t :: r=>match look st.aC t with
  | some v=>(t,v) :: dI st r
  | none=>dI st r
def ba (an:fu) (st:St) (x:an.X):St:=
 {env:=an.bd x++jw st an.bg,aC:=an.aC x++dI st an.dV,next:=st.next}
def cQ (l:List Oper):List Nat:=l.filterMap (·.dst)
def writes (anns:ch):Nat->Code->List Nat
 | _, .region _ ops _=>cQ ops.toList
 | k, .seq a b=>writes anns k a++writes anns k b
 | k, .cond _ a b=>writes anns k a++writes anns k b
 | _, .block id b=>writes anns id b
 | k, .loop b=>match look anns (k + 200000) with
  | some _=>allM :: writes anns k b
  | none=>writes anns k b
 | _,_=>[]
def nk (n:Nat):List Nat->Bool
 | []=>false
 | m :: r=>match Nat.beq m n with
  | true=>true
  | false=>nk n r
def lE (l:List Nat) (W:List Nat):Bool:=match l with
 | []=>true
 | _ => !(nk allM W) && l.all fun n => !(nk n W)
def ey (k:Nat):List Nat->Bool
 | []=>true
 | n :: r=>Nat.blt n k && ey k r
def kb (k:Nat):C->Bool
 | .app _ _ n | .aP n | .ie n | .cA n | .xd n _ | .ref n _ | .kI n | .fe n _ _ _ | .iO n _ _ _=>Nat.blt n k
 | .fn _ caps=>ey k caps
 | _=>true
def iG (k:Nat):List C->Bool
 | []=>true
 | c :: r=>kb k c && iG k r
def vV (k:Nat):bB->Bool
 | .one c=>kb k c
 | .agg cs=>iG k cs
def dJ (k:Nat):List (Nat × SV)->Bool
 | []=>true
 | (_, .s v) :: r=>vV k v && dJ k r
 | (_, .gA _) :: _=>false
def yR (k:Nat):OC->Bool
 | .cells _ cs=>iG k cs
 | .iter cs _ _=>iG k cs
 | _=>true
def dz (k:Nat):List (Nat × OC)->Bool
 | []=>true
 | (n,oc) :: r=>Nat.blt n k && yR k oc && dz k r
def fT (env:List (Nat × SV)):List Nat->Bool
 | []=>true
 | t :: r=>match look env t with
  | some _=>fT env r
  | none=>false
def fU (W:List Nat):List (Nat × SV)->Bool
 | []=>true
 | (n,_) :: r=>nk n W && fU W r
def uU (env:List (Nat × SV)):List Nat->List Nat
 | []=>[]
 | t :: r=>match look env t with
  | some (.s _)=>t :: uU env r
  | _=>uU env r
def lF (eI:List Nat):List (Nat × OC)->List Nat
 | []=>[]
 | (n,_) :: r=>match nk n eI with
  | true=>lF eI r
  | false=>n :: lF eI r
def py (st:St) (an:fu):fu:=
 {an with bg:=uU st.env an.bg,dV:=match an.dV with
  | []=>lF an.eI st.aC
  | l=>l}
def b5 (ty:Ty) (st:St) (t:Nat):D ty:=
 match look st.env t with
 | some (.s c)=>match ki ty c with
  | some x=>x
  | none=>bE ty
 | _=>bE ty
def bA (st:St) (t:Nat):Nat:=
 match look st.env t with
 | some (.s (.one (.aP n)))=>n
 | some (.s (.one (.ie n)))=>n
 | some (.s (.one (.cA n)))=>n
 | some (.s (.one (.xd n _)))=>n
 | some (.s (.one (.ref n _)))=>n
 | some (.s (.one (.app _ _ n)))=>n
 | _=>0
def G9 (st:St) (n k:Nat):Nat:=
 match look st.aC n with
 | some (.cells _ cs)=>match cs[k]? with
  | some (.aP m)=>m
  | some (.ref m _)=>m
  | some (.app _ _ m)=>m
  | some (.cA m)=>m
  | some (.xd m _)=>m
  | _=>0
 | _=>0
def Am (ty:Ty) (st:St) (n k:Nat):D ty:=
 match look st.aC n with
 | some (.cells _ cs)=>match cs[k]? with
  | some c=>match nO ty c with
   | some x=>x
   | none=>bE ty
  | none=>bE ty
 | _=>bE ty
def Fq (_:Nat) (_:St):Prop:=False
def eU (an:fu) (st st':St):VC:=
 match fT st'.env an.bg with
 | true => .leaf (∃x',an.inv x'/\gQ st' (an.bd x')/\gR st' (an.aC x'++dI st an.dV))
 | false => .ff
def EZ (st:St):List (Nat × Nat)->Option (List (Nat × Nat))
 | []=>some []
 | (t,k) :: r=>match look st.env t,EZ st r with
  | some (.s (.one c)),some as=>match EW c with
   | some n=>match look as k with
    | some _=>some as
    | none=>some ((k,n) :: as)
   | none=>none
  | _,_=>none
def B0 (st:St) (an:fu):Option (List Nat):=
 match EZ st an.refs with
 | some as1=>match px st.aC 0 an.aH as1 with
  | some as2=>oz as2 0 an.aH.length
  | none=>none
 | none=>none
def oE (st:St) (an:fu) (ν:List Nat):List (Nat × Nat)->Bool
 | []=>true
 | (t,k) :: r=>(match look st.env t with
  | some (.s (.one c))=>dU false st.aC an.aH ν k c
  | _=>false) && oE st an ν r
def rE (st:St) (an:fu) (y:PD an.aH):List (Nat × Nat)->List Prop
 | []=>[]
 | (t,k) :: r=>(match look st.env t with
  | some (.s (.one c))=>lX an.aH y k c
  | _=>[])++rE st an y r
def oF (an:fu) (y:PD an.aH) (us:List Nat):List (Nat × Nat)->List (Nat × SV)
 | []=>[]
 | (t,k) :: r=>(t, .s (.one (cX an.aH y us k))) :: oF an y us r
def rF (an:fu) (st:St) (x:an.X):List (Nat × SV):=an.bd x++jw st an.bg
def kA (an:fu) (st:St) (x:an.X):List (Nat × OC):=an.aC x++dI st an.dV
def bJ (an:fu) (st:St) (x:an.X):St:=
 {env:=oF an (an.pd x) (upto st.next an.aH.length) an.refs++rF an st x,
  aC:=fm (cX an.aH (an.pd x) (upto st.next an.aH.length)) an.aH (an.pd x) (upto st.next an.aH.length)++kA an st x,next:=st.next + an.aH.length}
def kG (ν:List Nat):List (Nat × OC)->Bool
 | []=>true
 | (n,_) :: r => !(ik n ν) && kG ν r
def oG (bg:List Nat):List (Nat × Nat)->Bool
 | []=>true
 | (t,_) :: r => !(nk t bg) && oG bg r
def mu (an:fu) (st:St) (W:List Nat) (x:an.X):Bool:=dJ st.next (rF an st x) && (dz st.next (kA an st x) && (fU W (an.bd x) && oG an.bg an.refs))
def vW (st:St) (an:fu):fu:=
 {an with bg:=(uU st.env an.bg).filter (fun t=>oG [t] an.refs),dV:=match an.dV with
  | []=>lF (an.eI++(match B0 st an with | some l=>l | none=>[])) st.aC
  | l=>l}
def rG (an:fu) (st st':St) (more:an.X->Prop):VC:=
 match B0 st' an with
 | some ν=>match nodupB ν && (oE st' an ν an.refs),bT false st'.aC an.aH ν an.aH ν with
  | true,some y => .leaf (Ai (rE st' an y an.refs++dB an.aH y st'.aC an.aH ν++[∃x',an.inv x'/\more x'/\gQ st' (an.bd x')/\gR st' (an.aC x'++dI st an.dV)/\(kG ν (kA an st x')=true/\y=an.pd x')]))
  | _,_ => .ff
 | none => .ff
def uV (cx:Cx) (ops:Array Oper) (draw:Bool) (st:St) (K:St->VC):VC:=
 match draw with
 | false=>uP cx ops.toList ops.toList st K
 | true=>match na ops with
  | true=>F7 cx ops st fun st'=>K (canon st.next (cQ ops.toList) st')
  | false => .ff
def fV:Code->Nat->Nat
 | .region id _ _,_=>id
 | .seq a b,d=>fV a (fV b d)
 | .cond _ a b,d=>fV a (fV b d)
 | .block _ b,d=>fV b d
 | .loop b,d=>fV b d
 | _,d=>d
def vc (cx:Cx) (anns:ch):Code->Nat->St->(Ex->St->VC)->VC
 | .skip,_,st,K=>K .normal st
 | .region id ops draw,_,st,K=>match (look anns (id + 300000)).map (fun f=>py st (f st)) with
  | none=>uV cx ops draw st (K .normal)
  | some an=>match lE an.bg (cQ ops.toList) with
   | true => .both (uV cx ops draw st (eU an st))
    (.all an.X fun x => .imp (an.inv x) (match dJ st.next (ba an st x).env && (dz st.next (ba an st x).aC && fU (cQ ops.toList) (an.bd x)) with
     | true=>K .normal (ba an st x)
     | false => .ff))
   | false => .ff
 | .seq a b,cur,st,K=>vc cx anns a cur st fun e st'=>match e with
  | .normal=>vc cx anns b cur st' K
  | e=>K e st'
 | .cond c a b,cur,st,K=>match (look anns (fV a (fV b 0) + 400000)).map (fun f=>py st (f st)) with
  | none=>match bR st.env c with
   | .lit true=>vc cx anns a cur st K
   | .lit false=>vc cx anns b cur st K
   | .d .bool g => .ite g (vc cx anns a cur st K) (vc cx anns b cur st K)
   | _ => .ff
  | some an=>match lE an.bg (writes anns cur (.cond c a b)) with
   | true => .both (match bR st.env c with
    | .lit true=>vc cx anns a cur st fun e st'=>match e with
     | .normal=>eU an st st'
     | e=>K e st'
    | .lit false=>vc cx anns b cur st fun e st'=>match e with
     | .normal=>eU an st st'
     | e=>K e st'
    | .d .bool g => .ite g (vc cx anns a cur st fun e st'=>match e with
     | .normal=>eU an st st'
     | e=>K e st') (vc cx anns b cur st fun e st'=>match e with
     | .normal=>eU an st st'
     | e=>K e st')
    | _ => .ff)
    (.all an.X fun x => .imp (an.inv x) (match dJ st.next (ba an st x).env && (dz st.next (ba an st x).aC && fU (writes anns cur (.cond c a b)) (an.bd x)) with
     | true=>K .normal (ba an st x)
     | false => .ff))
   | false => .ff
 | .block id b,_,st,K=>match (look anns (id + 100000)).map (fun f=>py st (f st)) with
  | none=>vc cx anns b id st fun e st'=>match e with
   | .exit i=>match Nat.beq i id with
    | true=>K .normal st'
    | false=>K (.exit i) st'
   | e=>K e st'
  | some an=>match lE an.bg (writes anns id b) with
   | true => .both (vc cx anns b id st fun e st'=>match e with
    | .exit i=>match Nat.beq i id with
     | true=>eU an st st'
     | false=>K (.exit i) st'
    | .normal=>eU an st st'
    | .ret=>K .ret st')
    (.all an.X fun x => .imp (an.inv x) (match dJ st.next (ba an st x).env && (dz st.next (ba an st x).aC && fU (writes anns id b) (an.bd x)) with
     | true=>K .normal (ba an st x)
     | false => .ff))
   | false => .ff
 | .loop b,cur,st,K=>match look anns (cur + 200000) with
  | none=>match (look anns cur).map (fun f=>py st (f st)) with
   | some an=>match lE an.bg (writes anns cur b) with
    | true => .and (∃x,an.inv x/\gQ st (an.bd x)/\gR st (an.aC x))
      (.all an.X fun x => .imp (an.inv x) (match dJ st.next (ba an st x).env && (dz st.next (ba an st x).aC && fU (writes anns cur b) (an.bd x)) with
       | true=>vc cx anns b cur (ba an st x) fun e st'=>match e with
        | .normal=>match fT st'.env an.bg with
         | true => .leaf (∃x',an.inv x'/\an.bx x' < an.bx x/\gQ st' (an.bd x')/\gR st' (an.aC x'++dI st an.dV))
         | false => .ff
        | e=>K e st'
       | false => .ff))
    | false => .ff
   | none => .leaf (Fq cur st)
  | some f=>match vW st (f st) with
   | an=>match lE an.bg (writes anns cur b) with
    | true => .both (rG an st st fun _=>True)
      (.all an.X fun x => .imp (an.inv x) (match mu an st (writes anns cur b) x with
       | true=>vc cx anns b cur (bJ an st x) fun e st'=>match e with
        | .normal=>match fT st'.env an.bg with
         | true=>rG an st st' fun x'=>an.bx x' < an.bx x
         | false => .ff
        | e=>K e st'
       | false => .ff))
    | false => .ff
 | .exit id,_,st,K=>K (.exit id) st
 | .ret,_,st,K=>K .ret st
 | _,_,_,_ => .ff
section
variable {X:Ext} {P:Program} {cx:Cx}
theorem tu {S:aV} {a b:C} {v:Value} (h:nj a b) (hv:CR cx.eT S a v):CR cx.eT S b v:=by
 unfold nj at h
 split at h
 ·subst h;exact bX.2 hv
 ·split at h
  ·rename_i hb
   subst h
   exact fj hb _ hv
  ·exact h.elim
 ·split at h
  ·rename_i t xs n t' ys m _ hb hn
   have hn:=Nat.eq_of_beq_eq_true hn
   subst hn
   have:t=t':=by have:=Ty.eq_of_beq hb;cases this;rfl
   subst this
   rw [cq] at h
   subst h
   exact hv
  ·exact h.elim
 ·subst h;exact hv
theorem rH {S:aV} {a b:SV} {v:Value} (h:ka a b) (hv:bQ cx.eT S a v):bQ cx.eT S b v:=by
 unfold ka at h
 split at h
 ·exact tu h hv
 ·subst h;exact hv
theorem rI {S:aV}:∀{as bs:List C} {vs:List Value},oD as bs->bS cx.eT S as vs->bS cx.eT S bs vs:=by
 intro as
 induction as with
 | nil=>
  intro bs vs h hv
  cases bs with
  | nil=>exact hv
  | cons=>exact h.elim
 | cons a as ih=>
  intro bs vs h hv
  cases bs with
  | nil=>exact h.elim
  | cons b bs=>
   cases hv with
   | cons h1 h2 h3=>exact .cons (tu h.1 h1) h2 (ih h.2 h3)
theorem rJ {S:aV} {l:Loc} {a b:OC} (h:fS a b) (hv:OR cx.eT X S l a):OR cx.eT X S l b/\aL l l a b/\a.lo=b.lo:=by
 unfold fS at h
 split at h
 ·split at h
  ·rename_i hT
   have:=Nat.eq_of_beq_eq_true hT
   subst this
   obtain ⟨b,vs,h1,h2,h3,h4⟩:=hv
   exact ⟨⟨b,vs,h1,h2,h3,rI h h4⟩,rfl,rfl⟩
  ·exact h.elim
 ·split at h
  ·rename_i t xs t' ys hb
   have:t=t':=by have:=Ty.eq_of_beq hb;cases this;rfl
   subst this;rw [cq] at h;subst h
   exact ⟨hv,rfl,rfl⟩
  ·exact h.elim
 ·split at h
  ·rename_i t xs t' ys hb
   have:t=t':=by have:=Ty.eq_of_beq hb;cases this;rfl
   subst this;rw [cq] at h;subst h
   exact ⟨hv,rfl,rfl⟩
  ·exact h.elim
 ·split at h
  ·rename_i t xs t' ys hb
   have:t=t':=by have:=Ty.eq_of_beq hb;cases this;rfl
   subst this;rw [cq] at h;subst h
   exact ⟨hv,⟨rfl,Nat.le_refl _,fun _=>rfl⟩,rfl⟩
  ·exact h.elim
 ·split at h
  ·rename_i k t x k' t' y hk hb
   have:=Nat.eq_of_beq_eq_true hk
   subst this
   have:=Ty.eq_of_beq hb
   subst this;rw [dN] at h;subst h
   exact ⟨hv,⟨rfl,rfl⟩,rfl⟩
  ·exact h.elim
 ·obtain ⟨h1,rfl,rfl⟩:=h
  obtain ⟨b,m,c,sn,k1,k2,k3,k4,k5,k6⟩:=hv
  exact ⟨⟨b,m,c,sn,k1,k2,k3,rI h1 k4,k5,k6⟩,trivial,rfl⟩
 ·exact h.elim
theorem nn {n:Nat} {l:List Nat}:nk n l=true ↔ n∈l:=by
 induction l with
 | nil=>simp [nk]
 | cons m r ih=>
  simp only [nk,List.mem_cons]
  by_cases h:m=n
  ·subst h;simp [Nat.beq_refl]
  ·rw [gI h];simp only [ih]
   constructor
   ·exact .inr
   ·rintro (h' | h')
    ·exact absurd h'.symm h
    ·exact h'
theorem lG {l W:List Nat} (h:lE l W=true):∀n∈l,allM∉W/\n∉W:=by
 intro n hn
 unfold lE at h
 split at h
 ·simp at hn
 ·simp only [Bool.and_eq_true,List.all_eq_true,Bool.not_eq_true'] at h
  exact ⟨fun hW=>by rw [nn.2 hW] at h;exact absurd h.1 (by decide),fun hW=>by have:=h.2 n hn;rw [nn.2 hW] at this;cases this⟩
def lH (cx:Cx) (X:Ext) (O:aD) (K:Ex->St->VC) (W:List Nat) (st:St) (S:aV):Exit->Act->World->Prop
 | .normal,a,w=>cy cx X O (K .normal) W st S a w
 | .exit n,a,w=>cy cx X O (K (.exit n)) W st S a w
 | .ret,a,w=>cy cx X O (K .ret) W st S a w
 | _,_,_=>False
theorem lH.mono {O:aD} {K:Ex->St->VC} {W W':List Nat} {st st1:St} {S S1:aV} {e:Exit} {a:Act} {w:World} (h:lH cx X O K W st1 S1 e a w) (ht:Tr S S1) (ha:hM W' st st1) (hW:∀n∈W,n∈W'):lH cx X O K W' st S e a w:=by
 have key:∀K:St->VC,cy cx X O K W st1 S1 a w->cy cx X O K W' st S a w:=by
  rintro K ⟨st',loc',k1,k2,k3,k4,k5⟩
  exact ⟨st',loc',k1,k2,ht.trans k3,k4,ha.trans fun hm t ht=>k5 (fun h=>hm (hW _ h)) t fun h=>ht (hW t h)⟩
 cases e with
 | normal=>exact key _ h
 | exit n=>exact key _ h
 | ret=>exact key _ h
 | goto l=>exact h
 | panic c=>exact h
 | outgrown=>exact h
theorem cY {st:St} {l:List Nat} {n:Nat} {v:SV} (h:look (jw st l) n=some v):n∈l/\look st.env n=some v:=by
 induction l with
 | nil=>simp [jw,look] at h
 | cons t r ih=>
  simp only [jw] at h
  split at h
  ·rename_i u hu
   rw [bm] at h
   by_cases e:t=n
   ·rw [if_pos e] at h;cases h;subst e;exact ⟨by simp,hu⟩
   ·rw [if_neg e] at h;have:=ih h;exact ⟨by simp [this.1],this.2⟩
  ·have:=ih h;exact ⟨by simp [this.1],this.2⟩
theorem uK {st:St} {l:List Nat} {n:Nat} {v:OC} (h:look (dI st l) n=some v):look st.aC n=some v:=by
 induction l with
 | nil=>simp [dI,look] at h
 | cons t r ih=>
  simp only [dI] at h
  split at h
  ·rename_i u hu
   rw [bm] at h
   by_cases e:t=n
   ·rw [if_pos e] at h;cases h;subst e;exact hu
   ·rw [if_neg e] at h;exact ih h
  ·exact ih h
theorem gS {st:St} {l:List (Nat × SV)} (h:gQ st l):∀{n v},look l n=some v->∃u,look st.env n=some u/\ka u v:=by
 induction l with
 | nil=>intro n v hl;simp [look] at hl
 | cons p r ih=>
  obtain ⟨m,x⟩:=p
  intro n v hl
  simp only [gQ] at h
  split at h
  ·rename_i u hu
   rw [bm] at hl
   by_cases e:m=n
   ·rw [if_pos e] at hl;cases hl;subst e;exact ⟨u,hu,h.1⟩
   ·rw [if_neg e] at hl;exact ih h.2 hl
  ·exact h.elim
theorem gT {st:St} {l:List (Nat × OC)} (h:gR st l):∀{n v},look l n=some v->∃u,look st.aC n=some u/\fS u v:=by
 induction l with
 | nil=>intro n v hl;simp [look] at hl
 | cons p r ih=>
  obtain ⟨m,x⟩:=p
  intro n v hl
  simp only [gR] at h
  split at h
  ·rename_i u hu
   rw [bm] at hl
   by_cases e:m=n
   ·rw [if_pos e] at hl;cases hl;subst e;exact ⟨u,hu,h.1⟩
   ·rw [if_neg e] at hl;exact ih h.2 hl
  ·exact h.elim
theorem bz {a b:Nat} (h:Nat.blt a b=true):a < b:=gJ h
theorem An {S S':aV} (hO:∀b o v,¬ S.A b o->S.w.cell? ⟨b,o,none⟩=some v->S'.w.cell? ⟨b,o,none⟩=some v/\¬ S'.A b o) (hloc:S'.loc=S.loc)
  (hob:∀n oc,S'.ob n=some oc->∃oc0,S.ob n=some oc0/\aL (S.loc n) (S.loc n) oc0 oc) {c:C} {v:Value} (hb:kb S'.next c=true) (hv:CR cx.eT S c v):CR cx.eT S' c v:=by
 cases c with
 | lit b=>exact hv
 | d t x=>exact VR.frame hv hO
 | app t xs n=>
  obtain ⟨h1,h2,h3⟩:=hv
  refine ⟨VR.frame h1 hO,bz hb,fun ys hy => ?_⟩
  obtain ⟨oc0,k1,k2⟩:=hob n _ hy
  cases oc0 <;> simp [aL] at k2
  obtain ⟨rfl,k3⟩:=k2
  obtain ⟨m1,m2⟩:=h3 _ k1
  rw [hloc]
  exact ⟨by omega,fun e=>m2 (by omega)⟩
 | dL=>exact hv
 | cU=>exact hv
 | emp=>exact hv
 | aP n=>
  refine ⟨bz hb,fun t xs e => ?_⟩
  obtain ⟨oc0,k1,k2⟩:=hob n _ e
  cases oc0 <;> simp [aL] at k2
  rw [hloc];exact hv.2 _ _ k1
 | iO n t lo len=>
  refine ⟨bz hb,fun xs e => ?_⟩
  obtain ⟨oc0,k1,k2⟩:=hob n _ e
  cases oc0 <;> simp [aL] at k2
  subst k2
  rw [hloc];exact hv.2 _ k1
 | ie n=>
  refine ⟨bz hb,fun t xs e => ?_⟩
  obtain ⟨oc0,k1,k2⟩:=hob n _ e
  cases oc0 <;> simp [aL] at k2
  rw [hloc];exact hv.2 _ _ k1
 | cA n=>
  refine ⟨bz hb,fun oc e hx => ?_⟩
  obtain ⟨oc0,k1,k2⟩:=hob n _ e
  rw [hloc];exact hv.2 _ k1 (by cases oc0 <;> cases oc <;> first | rfl | exact k2.elim | cases hx)
 | xd n p=>
  refine ⟨bz hb,fun t x e => ?_⟩
  obtain ⟨oc0,k1,k2⟩:=hob n _ e
  cases oc0 <;> simp [aL] at k2
  obtain ⟨rfl,rfl⟩:=k2
  rw [hloc];exact hv.2 _ _ k1
 | ref n off=>
  refine ⟨bz hb,fun T cs e => ?_⟩
  obtain ⟨oc0,k1,k2⟩:=hob n _ e
  cases oc0 <;> simp [aL] at k2
  rw [hloc];exact hv.2 _ _ k1
 | kI n=>
  refine ⟨bz hb,?_⟩
  rcases hv.2 with hn | hn
  ·exact .inl hn
  ·refine .inr fun T cs e => ?_
   obtain ⟨oc0,k1,k2⟩:=hob n _ e
   cases oc0 <;> simp [aL] at k2
   rw [hloc];exact hn _ _ k1
 | fe n t i off=>
  refine ⟨bz hb,fun ⟨xs,e⟩ => ?_⟩
  rw [hloc]
  rcases e with e | e
  ·obtain ⟨oc0,k1,k2⟩:=hob n _ e
   cases oc0 <;> simp [aL] at k2
   subst k2;exact hv.2 ⟨_, .inl k1⟩
  ·obtain ⟨oc0,k1,k2⟩:=hob n _ e
   cases oc0 <;> simp [aL] at k2
   subst k2;exact hv.2 ⟨_, .inr k1⟩
 | iP t x=>
  obtain ⟨b,o,us,rfl,h1,h2⟩:=hv
  exact ⟨b,o,us,rfl,h1.frame hO,h2.frame hO⟩
 | fn f caps=>
  obtain ⟨rfl,h2⟩:=hv
  refine ⟨by rw [hloc],fun n hn=>⟨?_,fun t ys e => ?_⟩⟩
  ·have:∀l:List Nat,ey S'.next l=true->n∈l->n < S'.next:=by
    intro l
    induction l with
    | nil=>intro _ h;simp at h
    | cons m r ih=>
     intro h hm
     simp only [ey,Bool.and_eq_true] at h
     rcases List.mem_cons.1 hm with rfl | hm
     ·exact bz h.1
     ·exact ih h.2 hm
   exact this caps hb hn
  ·obtain ⟨oc0,k1,k2⟩:=hob n _ e
   cases oc0 <;> simp [aL] at k2
   exact (h2 n hn).2 _ _ k1
 | any=>trivial
theorem mv {k:Nat}:∀{l:List Nat} {n:Nat},ey k l=true->n∈l->n < k
 | [],_,_,h=>by simp at h
 | m :: r,n,h,hn=>by
  simp only [ey,Bool.and_eq_true] at h
  rcases List.mem_cons.1 hn with e | hn
  ·rw [e];exact bz h.1
  ·exact mv h.2 hn
theorem kU {S S':aV} {k:Nat} (hrel:∀{c:C} {v:Value},kb k c=true->CR cx.eT S c v->CR cx.eT S' c v):∀{cs:List C} {vs:List Value},iG k cs=true->bS cx.eT S cs vs->bS cx.eT S' cs vs:=by
 intro cs
 induction cs with
 | nil=>intro vs _ h;cases h;exact .nil
 | cons c cs ih=>
  intro vs hb h
  simp only [iG,Bool.and_eq_true] at hb
  cases h with
  | cons h1 h2 h3=>exact .cons (hrel hb.1 h1) h2 (ih hb.2 h3)
theorem xL {S S':aV} (hO:∀b o v,¬ S.A b o->S.w.cell? ⟨b,o,none⟩=some v->S'.w.cell? ⟨b,o,none⟩=some v/\¬ S'.A b o) {k:Nat} (hk:k<=S'.next) (hloc:∀n,n < k->S'.loc n=S.loc n)
  (hob:∀n oc,n < k->S'.ob n=some oc->∃oc0,S.ob n=some oc0/\aL (S.loc n) (S.loc n) oc0 oc) {c:C} {v:Value} (hb:kb k c=true) (hv:CR cx.eT S c v):CR cx.eT S' c v:=by
 cases c with
 | lit b=>exact hv
 | d t x=>exact VR.frame hv hO
 | app t xs n=>
  obtain ⟨h1,h2,h3⟩:=hv
  refine ⟨VR.frame h1 hO,Nat.lt_of_lt_of_le (bz hb) hk,fun ys hy => ?_⟩
  obtain ⟨oc0,k1,k2⟩:=hob n _ (bz hb) hy
  cases oc0 <;> simp [aL] at k2
  obtain ⟨rfl,k3⟩:=k2
  obtain ⟨m1,m2⟩:=h3 _ k1
  rw [hloc n (bz hb)]
  exact ⟨by omega,fun e=>m2 (by omega)⟩
 | dL=>exact hv
 | cU=>exact hv
 | emp=>exact hv
 | aP n=>
  refine ⟨Nat.lt_of_lt_of_le (bz hb) hk,fun t xs e => ?_⟩
  obtain ⟨oc0,k1,k2⟩:=hob n _ (bz hb) e
  cases oc0 <;> simp [aL] at k2
  rw [hloc n (bz hb)];exact hv.2 _ _ k1
 | iO n t lo len=>
  refine ⟨Nat.lt_of_lt_of_le (bz hb) hk,fun xs e => ?_⟩
  obtain ⟨oc0,k1,k2⟩:=hob n _ (bz hb) e
  cases oc0 <;> simp [aL] at k2
  subst k2
  rw [hloc n (bz hb)];exact hv.2 _ k1
 | ie n=>
  refine ⟨Nat.lt_of_lt_of_le (bz hb) hk,fun t xs e => ?_⟩
  obtain ⟨oc0,k1,k2⟩:=hob n _ (bz hb) e
  cases oc0 <;> simp [aL] at k2
  rw [hloc n (bz hb)];exact hv.2 _ _ k1
 | cA n=>
  refine ⟨Nat.lt_of_lt_of_le (bz hb) hk,fun oc e hx => ?_⟩
  obtain ⟨oc0,k1,k2⟩:=hob n _ (bz hb) e
  rw [hloc n (bz hb)];exact hv.2 _ k1 (by cases oc0 <;> cases oc <;> first | rfl | exact k2.elim | cases hx)
 | xd n p=>
  refine ⟨Nat.lt_of_lt_of_le (bz hb) hk,fun t x e => ?_⟩
  obtain ⟨oc0,k1,k2⟩:=hob n _ (bz hb) e
  cases oc0 <;> simp [aL] at k2
  obtain ⟨rfl,rfl⟩:=k2
  rw [hloc n (bz hb)];exact hv.2 _ _ k1
 | ref n off=>
  refine ⟨Nat.lt_of_lt_of_le (bz hb) hk,fun T cs e => ?_⟩
  obtain ⟨oc0,k1,k2⟩:=hob n _ (bz hb) e
  cases oc0 <;> simp [aL] at k2
  rw [hloc n (bz hb)];exact hv.2 _ _ k1
 | kI n=>
  refine ⟨Nat.lt_of_lt_of_le (bz hb) hk,?_⟩
  rcases hv.2 with hn | hn
  ·exact .inl hn
  ·refine .inr fun T cs e => ?_
   obtain ⟨oc0,k1,k2⟩:=hob n _ (bz hb) e
   cases oc0 <;> simp [aL] at k2
   rw [hloc n (bz hb)];exact hn _ _ k1
 | fe n t i off=>
  refine ⟨Nat.lt_of_lt_of_le (bz hb) hk,fun ⟨xs,e⟩ => ?_⟩
  rw [hloc n (bz hb)]
  rcases e with e | e
  ·obtain ⟨oc0,k1,k2⟩:=hob n _ (bz hb) e
   cases oc0 <;> simp [aL] at k2
   subst k2;exact hv.2 ⟨_, .inl k1⟩
  ·obtain ⟨oc0,k1,k2⟩:=hob n _ (bz hb) e
   cases oc0 <;> simp [aL] at k2
   subst k2;exact hv.2 ⟨_, .inr k1⟩
 | iP t x=>
  obtain ⟨b,o,us,rfl,h1,h2⟩:=hv
  exact ⟨b,o,us,rfl,h1.frame hO,h2.frame hO⟩
 | fn f caps=>
  obtain ⟨rfl,h2⟩:=hv
  have hlt:∀n∈caps,n < k:=fun n hn=>mv hb hn
  refine ⟨by rw [show (caps.map fun n=>(S.loc n).v)=(caps.map fun n=>(S'.loc n).v) from List.map_congr_left fun n hn=>by rw [hloc n (hlt n hn)]],fun n hn=>⟨Nat.lt_of_lt_of_le (hlt n hn) hk,fun t ys e => ?_⟩⟩
  obtain ⟨oc0,k1,k2⟩:=hob n _ (hlt n hn) e
  cases oc0 <;> simp [aL] at k2
  exact (h2 n hn).2 _ _ k1
 | any=>trivial
theorem aL.comp {l1 l2 l3:Loc} {a b c:OC} (h:aL l1 l2 a b) (h':aL l2 l3 b c):aL l1 l3 a c:=by
 cases a <;> cases b <;> simp [aL] at h <;> cases c <;> simp [aL] at h' ⊢
 all_goals (try (simp_all;done))
 obtain ⟨rfl,a1,a2⟩:=h
 obtain ⟨rfl,b1,b2⟩:=h'
 refine ⟨rfl,by omega,fun e => ?_⟩
 rw [b2 (by omega),a2 (by omega)]
theorem lZ {S S':aV} (hrel:∀{c:C} {v:Value},kb S'.next c=true->CR cx.eT S c v->CR cx.eT S' c v):∀{cs:List C} {vs:List Value},iG S'.next cs=true->bS cx.eT S cs vs->bS cx.eT S' cs vs:=by
 intro cs
 induction cs with
 | nil=>intro vs _ h;cases h;exact .nil
 | cons c cs ih=>
  intro vs hb h
  simp only [iG,Bool.and_eq_true] at hb
  cases h with
  | cons h1 h2 h3=>exact .cons (hrel hb.1 h1) h2 (ih hb.2 h3)
theorem nR {k:Nat}:∀{l:List (Nat × SV)},dJ k l=true->∀{n v},look l n=some v->∃v0,v = .s v0/\vV k v0=true:=by
 intro l
 induction l with
 | nil=>intro _ n v h;simp [look] at h
 | cons p r ih=>
  obtain ⟨m,x⟩:=p
  intro hb n v h
  cases x with
  | gA vs=>simp [dJ] at hb
  | s v0=>
   simp only [dJ,Bool.and_eq_true] at hb
   rw [bm] at h
   by_cases e:m=n
   ·rw [if_pos e] at h;cases h;exact ⟨v0,rfl,hb.1⟩
   ·rw [if_neg e] at h;exact ih hb.2 h
theorem gr {k:Nat}:∀{l:List (Nat × OC)},dz k l=true->∀{n v},look l n=some v->n < k/\yR k v=true:=by
 intro l
 induction l with
 | nil=>intro _ n v h;simp [look] at h
 | cons p r ih=>
  obtain ⟨m,x⟩:=p
  intro hb n v h
  simp only [dz,Bool.and_eq_true] at hb
  rw [bm] at h
  by_cases e:m=n
  ·rw [if_pos e] at h;cases h;subst e;exact ⟨bz hb.1.1,hb.1.2⟩
  ·rw [if_neg e] at h;exact ih hb.2 h
theorem np {an:fu} {O:aD} {st st':St} {loc loc0:Nat->Loc} {w w0:World} {a:Act} (x:an.X) (g:Good cx.eT X (aB O st' loc w)) (hA:dy cx (aB O st' loc w) st' a) (ht:Tr (aB O st loc0 w0) (aB O st' loc w))
  (he:∀n v,look (ba an st x).env n=some v->∃u,look st'.env n=some u/\ka u v)
  (ho:∀n v,look (ba an st x).aC n=some v->∃u,look st'.aC n=some u/\fS u v)
  (hb1:dJ st.next (ba an st x).env=true) (hb2:dz st.next (ba an st x).aC=true) :
  Good cx.eT X (aB O (ba an st x) loc w)/\dy cx (aB O (ba an st x) loc w) (ba an st x) a/\Tr (aB O st loc0 w0) (aB O (ba an st x) loc w):=by
 have hob:∀n oc,look (ba an st x).aC n=some oc->∃oc0,look st'.aC n=some oc0/\aL (loc n) (loc n) oc0 oc/\oc0.lo=oc.lo/\OR cx.eT X (aB O st' loc w) (loc n) oc:=by
  intro n oc h
  obtain ⟨u,hu,hs⟩:=ho n oc h
  obtain ⟨h1,h2,h3⟩:=rJ hs (g.obj n u hu).2
  exact ⟨u,hu,h2,h3,h1⟩
 have hAsub:∀b o,(aB O (ba an st x) loc w).A b o->(aB O st' loc w).A b o:=by
  rintro b o (h | ⟨n,oc,h1,h2,h3⟩)
  ·exact .inl h
  ·obtain ⟨oc0,k1,_,k3,_⟩:=hob n oc h1
   exact .inr ⟨n,oc0,k1,h2,by rw [k3];exact h3⟩
 have hcell:∀b o v,¬ (aB O st' loc w).A b o->w.cell? ⟨b,o,none⟩=some v->w.cell? ⟨b,o,none⟩=some v/\¬ (aB O (ba an st x) loc w).A b o:=fun b o v h1 h2=>⟨h2,fun h=>h1 (hAsub b o h)⟩
 have hrel:∀{c:C} {v:Value},kb st.next c=true->CR cx.eT (aB O st' loc w) c v->CR cx.eT (aB O (ba an st x) loc w) c v:=fun hb hv=>
  An (S:=aB O st' loc w) (S':=aB O (ba an st x) loc w) hcell rfl (fun n oc h=>let ⟨oc0,k1,k2,_⟩:=hob n oc h;⟨oc0,k1,k2⟩) hb hv
 have hor:∀n oc,look (ba an st x).aC n=some oc->OR cx.eT X (aB O (ba an st x) loc w) (loc n) oc:=by
  intro n oc h
  obtain ⟨_,_,_,_,k4⟩:=hob n oc h
  have hb:=(gr hb2 h).2
  cases oc with
  | cells T cs=>
   obtain ⟨b,vs,h1,h2,h3,h4⟩:=k4
   exact ⟨b,vs,h1,h2,h3,lZ hrel hb h4⟩
  | aP t xs=>
   rcases k4 with k4 | ⟨b,vs,T,cap,h1,h2,h3,h4,h5,h6,h7⟩
   ·exact .inl k4
   ·exact .inr ⟨b,vs,T,cap,h1,h2,h3,h4,h5,h6,fun i y hy=>let ⟨us,r1,r2⟩:=h7 i y hy;⟨us,r1.frame hcell,r2⟩⟩
  | arr t xs=>
   obtain ⟨b,vs,T,h1,h2,h3,h4,h5⟩:=k4
   exact ⟨b,vs,T,h1,h2,h3,h4,fun i y hy=>let ⟨us,r1,r2⟩:=h5 i y hy;⟨us,r1.frame hcell,r2⟩⟩
  | tok t xs=>
   rcases k4 with k4 | ⟨b,vs,T,cap,h1,h2,h3,h4,h5,h6,h7⟩
   ·exact .inl k4
   ·exact .inr ⟨b,vs,T,cap,h1,h2,h3,h4,h5,h6,fun i y hy=>let ⟨us,r1,r2⟩:=h7 i y hy;⟨us,r1.frame hcell,r2⟩⟩
  | ext k t x=>exact k4
  | iter cs seen cl=>obtain ⟨b,m,c,sn,k1,k2,k3,k4,k5⟩:=k4;exact ⟨b,m,c,sn,k1,k2,k3,lZ hrel hb k4,k5⟩
 refine ⟨⟨fun n oc h=>⟨(gr hb2 h).1,hor n oc h⟩,fun n m oc oc' b h1 h2 h3 h4 => ?_,fun n oc b off h1 h2 => ?_,g.ig.sub rfl fun b ⟨n,oc,h1,h2⟩=>by obtain ⟨oc0,k1,_⟩:=hob n oc h1;exact ⟨n,oc0,k1,h2⟩⟩,⟨hA.size,hA.defers,fun n v h => ?_⟩,?_⟩
 ·obtain ⟨oc0,k1,_⟩:=hob n oc h1
  obtain ⟨oc0',k1',_⟩:=hob m oc' h2
  exact g.apart n m oc0 oc0' b k1 k1' h3 h4
 ·obtain ⟨oc0,k1,_⟩:=hob n oc h1
  exact g.out n oc0 b off k1 h2
 ·obtain ⟨u,hu,hs⟩:=he n v h
  have hv:=rH hs (hA.env n u hu)
  obtain ⟨v0,rfl,hb⟩:=nR hb1 h
  cases v0 with
  | one c=>exact hrel hb hv
  | agg cs=>obtain ⟨vs,h1,h2⟩:=hv;exact ⟨vs,h1,lZ hrel hb h2⟩
 ·refine {O:=ht.O,next:=Nat.le_refl _,os:=ht.os,output:=ht.output,size:=ht.size,own:=fun b hb => ?_,cell:=fun b o v h1 h2 => ?_,block:=ht.block,loc:=ht.loc,kind:=fun n oc hn h => ?_}
  ·obtain ⟨n,oc,h1,h2⟩:=hb
   obtain ⟨oc0,k1,_⟩:=hob n oc h1
   exact ht.own b ⟨n,oc0,k1,h2⟩
  ·obtain ⟨k1,k2⟩:=ht.cell b o v h1 h2
   exact ⟨k1,fun h=>k2 (hAsub b o h)⟩
  ·obtain ⟨oc0,k1,k2,_⟩:=hob n oc h
   obtain ⟨oc1,m1,m2⟩:=ht.kind n oc0 hn k1
   exact ⟨oc1,m1,m2.comp k2⟩
theorem Ty.beq_refl:∀t:Ty,Ty.beq t t=true:=by
 intro t
 induction t with
 | prod a b iha ihb=>simp [Ty.beq,iha,ihb]
 | slice e ih=>simp [Ty.beq,ih]
 | int k=>simp [Ty.beq]
 | _=>rfl
theorem rK (c:C):nj c c:=by
 cases c with
 | d t x=>
  simp only [nj]
  split
  ·rfl
  ·rename_i h;rw [Ty.beq_refl] at h;cases h
 | app t xs n=>
  simp only [nj]
  split
  ·rfl
  ·rename_i h;exact (h (Ty.beq_refl _) (Nat.beq_refl _)).elim
 | _=>rfl
theorem fD (v:SV):ka v v:=by
 cases v with
 | s v=>
  cases v with
  | one c=>exact rK c
  | agg cs=>rfl
 | gA vs=>rfl
theorem l5:∀cs:List C,oD cs cs
 | []=>trivial
 | c :: cs=>⟨rK c,l5 cs⟩
theorem xM (v:OC):fS v v:=by
 cases v with
 | cells T cs=>
  simp only [fS,Nat.beq_refl]
  exact l5 cs
 | aP t xs=>
  simp only [fS]
  split
  ·rfl
  ·rename_i h;rw [Ty.beq_refl] at h;cases h
 | arr t xs=>
  simp only [fS]
  split
  ·rfl
  ·rename_i h;rw [Ty.beq_refl] at h;cases h
 | tok t xs=>
  simp only [fS]
  split
  ·rfl
  ·rename_i h;rw [Ty.beq_refl] at h;cases h
 | ext k t x=>
  simp only [fS]
  split
  ·rfl
  ·rename_i h;exact (h (Nat.beq_refl _) (Ty.beq_refl _)).elim
 | iter cs seen cl=>exact ⟨l5 cs,rfl,rfl⟩
theorem jP {W:List Nat}:∀{l:List (Nat × SV)},fU W l=true->∀{n v},look l n=some v->n∈W:=by
 intro l
 induction l with
 | nil=>intro _ n v h;simp [look] at h
 | cons p r ih=>
  obtain ⟨m,x⟩:=p
  intro hb n v h
  simp only [fU,Bool.and_eq_true] at hb
  rw [bm] at h
  by_cases e:m=n
  ·subst e;exact nn.1 hb.1
  ·rw [if_neg e] at h;exact ih hb.2 h
theorem hP {env:List (Nat × SV)}:∀{l:List Nat},fT env l=true->∀{n},n∈l->∃v,look env n=some v:=by
 intro l
 induction l with
 | nil=>intro _ n h;simp at h
 | cons t r ih=>
  intro hb n h
  simp only [fT] at hb
  split at hb
  ·rename_i u hu
   rcases List.mem_cons.1 h with rfl | h
   ·exact ⟨u,hu⟩
   ·exact ih hb h
  ·cases hb
theorem Fs {O:aD} {K:Ex->St->VC} {W:List Nat} {st:St} {S:aV} {next:Act->World->Prop} {Q:Exit->Act->World->Prop} {K':Ex->St->VC}
  (hn:∀a w,cy cx X O (K' .normal) W st S a w->next a w) (hK:∀e,e≠.normal->K' e=K e) (hQ:∀e a w,lH cx X O K W st S e a w->e≠.normal->Q e a w) {e:Exit} {a:Act} {w:World}
  (h:lH cx X O K' W st S e a w):Exit.then next Q e a w:=by
 cases e with
 | normal=>exact hn a w h
 | exit n=>exact hQ _ _ _ (by simpa [lH,hK (.exit n) (by simp)] using h) (by simp)
 | ret=>exact hQ _ _ _ (by simpa [lH,hK .ret (by simp)] using h) (by simp)
 | goto l=>exact h.elim
 | panic c=>exact h.elim
 | outgrown=>exact h.elim
structure Gh (an:fu) (st st':St) (x:an.X) (ν:List Nat):Prop where
 nodup:nodupB ν=true
 refs:oE st' an ν an.refs=true
 get:bT false st'.aC an.aH ν an.aH ν=some (an.pd x)
 GS:∀p∈rE st' an (an.pd x) an.refs,p
 conds:∀p∈dB an.aH (an.pd x) st'.aC an.aH ν,p
 env:gQ st' (an.bd x)
 aC:gR st' (kA an st x)
 out:kG ν (kA an st x)=true
theorem tw {an:fu} {st st':St} {more:an.X->Prop} (h:(rG an st st' more).holds):∃x,an.inv x/\more x/\∃ν,Gh an st st' x ν:=by
 unfold rG at h
 split at h
 ·rename_i ν _
  split at h
  ·rename_i y hc hy
   simp only [Bool.and_eq_true] at hc
   have hall:=qB h
   obtain ⟨x,h1,h2,h3,h4,h5,h6⟩:=hall (∃x',an.inv x'/\more x'/\gQ st' (an.bd x')/\gR st' (an.aC x'++dI st an.dV)/\(kG ν (kA an st x')=true/\y=an.pd x')) (List.mem_append_right _ (List.mem_singleton.2 rfl))
   subst h6
   obtain ⟨k1,_⟩:=eH.1 hall
   obtain ⟨k1,k2⟩:=eH.1 k1
   exact ⟨x,h1,h2,ν,hc.1,hc.2,hy,k1,k2,h3,h4,h5⟩
  ·exact h.elim
 ·exact h.elim
theorem oH {ν:List Nat}:∀{l:List (Nat × OC)},kG ν l=true->∀{n v},look l n=some v->n∉ν
 | [],_,n,v,h=>by simp [look] at h
 | (m,u) :: r,hk,n,v,h=>by
  simp only [kG,Bool.and_eq_true,Bool.not_eq_true'] at hk
  rw [bm] at h
  split at h
  ·rename_i e;subst e
   intro hm;rw [qC.2 hm] at hk;exact absurd hk.1 (by decide)
  ·exact oH hk.2 h
theorem l6 {an:fu} {y:PD an.aH} {us:List Nat}:∀{l:List (Nat × Nat)} {t:Nat} {v:SV},look (oF an y us l) t=some v->∃k,(t,k)∈l/\v = .s (.one (cX an.aH y us k))
 | [],t,v,h=>by simp [oF,look] at h
 | (m,k) :: r,t,v,h=>by
  simp only [oF,bm] at h
  split at h
  ·rename_i e;subst e;cases h;exact ⟨k,by simp,rfl⟩
  ·obtain ⟨k',h1,h2⟩:=l6 h;exact ⟨k',by simp [h1],h2⟩
theorem rL {st:St} {an:fu} {ν:List Nat}:∀{l:List (Nat × Nat)} {t k:Nat},oE st an ν l=true->(t,k)∈l->∃c,look st.env t=some (.s (.one c))/\dU false st.aC an.aH ν k c=true
 | [],_,_,_,h=>by simp at h
 | (m,i) :: r,t,k,h,hm=>by
  simp only [oE,Bool.and_eq_true] at h
  rcases List.mem_cons.1 hm with e | hm
  ·cases e
   obtain ⟨h1,_⟩:=h
   split at h1
   ·rename_i c hc;exact ⟨c,hc,h1⟩
   ·cases h1
  ·exact rL h.2 hm
theorem tx {st:St} {an:fu} {y:PD an.aH}:∀{l:List (Nat × Nat)} {t k:Nat} {c:C},(∀p∈rE st an y l,p)->(t,k)∈l->look st.env t=some (.s (.one c))->∀p∈lX an.aH y k c,p
 | [],_,_,_,_,h,_=>by simp at h
 | (m,i) :: r,t,k,c,h,hm,hl=>by
  simp only [rE] at h
  obtain ⟨h1,h2⟩:=eH.1 h
  rcases List.mem_cons.1 hm with e | hm
  ·cases e
   rw [hl] at h1
   exact h1
  ·exact tx h2 hm hl
theorem rM {bg:List Nat}:∀{l:List (Nat × Nat)} {t k:Nat},oG bg l=true->(t,k)∈l->t∉bg
 | [],_,_,_,h=>by simp at h
 | (m,i) :: r,t,k,h,hm=>by
  simp only [oG,Bool.and_eq_true,Bool.not_eq_true'] at h
  rcases List.mem_cons.1 hm with e | hm
  ·cases e
   intro hk;rw [nn.2 hk] at h;exact absurd h.1 (by decide)
  ·exact rM h.2 hm
theorem tz {an:fu} {O:aD} {st st':St} {loc loc0:Nat->Loc} {w w0:World} {a:Act} {W:List Nat} (x:an.X) (g:Good cx.eT X (aB O st' loc w)) (hA:dy cx (aB O st' loc w) st' a) (ht:Tr (aB O st loc0 w0) (aB O st' loc w))
  (hok:mu an st W x=true) (hkeep:∀n∈an.bg,∀v,look st.env n=some v->∃u,look st'.env n=some u/\ka u v) (hf:∃ν,Gh an st st' x ν) :
  ∃loc',Good cx.eT X (aB O (bJ an st x) loc' w)/\dy cx (aB O (bJ an st x) loc' w) (bJ an st x) a/\Tr (aB O st loc0 w0) (aB O (bJ an st x) loc' w):=by
 obtain ⟨ν,hf⟩:=hf
 simp only [mu,Bool.and_eq_true] at hok
 obtain ⟨hb1,hb2,hkeys,hnr⟩:=hok
 generalize husd:upto st.next an.aH.length=us
 have husl:us.length=an.aH.length:=by rw [<-husd];exact ni _ _
 have hus:nodupB us=true:=by rw [<-husd];exact ew _ _
 have husm:∀n∈us,st.next<=n/\n < st.next + an.aH.length:=fun n hn=>by rw [<-husd] at hn;exact nh hn
 have hlen:ν.length=us.length:=by rw [husl];exact (kz hf.get).symm
 let loc':=cb us (ν.map loc) loc
 have hlow:∀n,n < st.next->loc' n=loc n:=fun n hn=>iF fun hm=>by have:=(husm n hm).1;omega
 have hnu:∀n,n < st.next->n∉us:=fun n hn hm=>by have:=(husm n hm).1;omega
 have hrest:∀m oc,look (kA an st x) m=some oc->m < st.next/\m∉ν/\∃u,look st'.aC m=some u/\aL (loc m) (loc m) u oc/\u.lo=oc.lo/\OR cx.eT X (aB O st' loc w) (loc m) oc:=by
  intro m oc hm
  obtain ⟨u,hu,hs⟩:=gT hf.aC hm
  obtain ⟨h1,h2,h3⟩:=rJ hs (g.obj m u hu).2
  exact ⟨(gr hb2 hm).1,oH hf.out hm,u,hu,h2,h3,h1⟩
 have hob:∀m oc,look (bJ an st x).aC m=some oc->(∃(i n:Nat) (o:Ob) (y:OD o) (oc0:OC),ν[i]?=some n/\us[i]?=some m/\look st'.aC n=some oc0/\ed false st'.aC an.aH ν o oc0=some y/\
   oc=kS (cX an.aH (an.pd x) us) o y/\loc' m=loc n)\/(m∉us/\look (kA an st x) m=some oc/\loc' m=loc m):=by
  intro m oc hm
  simp only [bJ,husd,bY] at hm
  split at hm
  ·rename_i oc' hm'
   cases hm
   obtain ⟨i,n,o,y,oc0,k1,k2,k3,k4,k5,k6,_⟩:=ky hf.get (kx (X:=X) g hf.get hf.get hf.conds) hlen hm'
   exact .inl ⟨i,n,o,y,oc0,k1,k2,k4,k5,k6,eY hus k2 (by simp [k1])⟩
  ·rename_i hm'
   have hnin:m∉us:=fun hmem=>by
    obtain ⟨oc1,h2⟩:=j0 (f:=cX an.aH (an.pd x) us) (x:=an.pd x) husl.symm hmem
    rw [h2] at hm';cases hm'
   exact .inr ⟨hnin,hm,iF hnin⟩
 have hAsub:∀b o,(aB O (bJ an st x) loc' w).A b o->(aB O st' loc w).A b o:=by
  rintro b off (h | ⟨m,oc,h1,h2,h3⟩)
  ·exact .inl h
  ·rcases hob m oc h1 with ⟨i,n,o,y,oc0,k1,k2,k4,k5,k6,k7⟩ | ⟨k1,k2,k3⟩
   ·refine .inr ⟨n,oc0,k4,by simp only [aB] at h2;rw [k7] at h2;exact h2,?_⟩
    rcases sM (f:=cX an.aH (an.pd x) us) k5 with e | e
    ·rw [<-e,<-k6];exact h3
    ·cases e
   ·obtain ⟨_,_,u,hu,_,hlo,_⟩:=hrest m oc k2
    exact .inr ⟨m,u,hu,by simp only [aB] at h2;rw [k3] at h2;exact h2,by rw [hlo];exact h3⟩
 have hcell:∀b o v,¬ (aB O st' loc w).A b o->w.cell? ⟨b,o,none⟩=some v->w.cell? ⟨b,o,none⟩=some v/\¬ (aB O (bJ an st x) loc' w).A b o:=fun b o v h1 h2=>⟨h2,fun h=>h1 (hAsub b o h)⟩
 have hrel:∀{c:C} {v:Value},kb st.next c=true->CR cx.eT (aB O st' loc w) c v->CR cx.eT (aB O (bJ an st x) loc' w) c v:=fun hb hv=>
  xL (S:=aB O st' loc w) (S':=aB O (bJ an st x) loc' w) (k:=st.next) hcell (by simp [aB,bJ]) (fun n hn=>hlow n hn) (fun n oc hn h=>by
   rcases hob n oc h with ⟨i,n',o,y,oc0,k1,k2,_⟩ | ⟨k1,k2,k3⟩
   ·exact absurd (List.mem_of_getElem? k2) (hnu n hn)
   ·obtain ⟨_,_,u,hu,hk,_,_⟩:=hrest n oc k2
    exact ⟨u,hu,hk⟩) hb hv
 obtain ⟨gN,laid⟩:=Al (X:=X) g hf.get hf.conds hf.nodup (O2:=O) (ν2:=us) (rest:=kA an st x) (locR:=loc) (st2:=bJ an st x) hus hlen (by simp only [bJ,husd])
  (fun n hn=>by have:=(husm n hn).2;simp only [bJ];exact this)
  (fun n hn b hb off h=>by
   obtain ⟨_,oc,_,_,k,_⟩:=fC hf.get hn
   exact g.out n oc b off k hb h)
  (fun n hn b hb m oc h1 h2 h3=>by
   obtain ⟨_,oc0,_,_,k,_⟩:=fC hf.get hn
   obtain ⟨_,hmν,u,hu,_⟩:=hrest m oc h1
   have:=g.apart n m oc0 u b k hu hb h3
   exact hmν (by rw [<-this];exact hn))
  (fun m oc h1 h2=>by
   obtain ⟨hm,_,u,hu,hk,hlo,hor⟩:=hrest m oc h1
   refine ⟨by simp only [bJ];omega,?_⟩
   have hb:=(gr hb2 h1).2
   cases oc with
   | cells T cs=>
    obtain ⟨b,vs,h1,h2,h3,h4⟩:=hor
    exact ⟨b,vs,h1,h2,h3,kU (k:=st.next) hrel hb h4⟩
   | aP t xs=>exact vU.to (S:=aB O st' loc w) (S':=aB O (bJ an st x) loc' w) rfl (.inr hAsub) hor
   | tok t xs=>exact vU.to (X:=X) (S:=aB O st' loc w) (S':=aB O (bJ an st x) loc' w) (l:=loc m) rfl (.inr hAsub) hor
   | arr t xs=>
    obtain ⟨b,vs,T,h1,h2,h3,h4,h5⟩:=hor
    exact ⟨b,vs,T,h1,h2,h3,h4,fun i y hy=>let ⟨us,r1,r2⟩:=h5 i y hy;⟨us,r1.frame hcell,r2⟩⟩
   | ext k t x=>exact hor
   | iter cs seen cl=>obtain ⟨b,m,c,sn,k1,k2,k3,k4,k5⟩:=hor;exact ⟨b,m,c,sn,k1,k2,k3,kU (k:=st.next) hrel hb k4,k5⟩)
  (fun m m' oc oc' b h1 h2 _ _ h3 h4=>by
   obtain ⟨_,_,u,hu,_⟩:=hrest m oc h1
   obtain ⟨_,_,u',hu',_⟩:=hrest m' oc' h2
   exact g.apart m m' u u' b hu hu' h3 h4)
  (fun m oc b off h1 _ h2=>by
   obtain ⟨_,_,u,hu,_⟩:=hrest m oc h1
   exact g.out m u b off hu h2)
  (.inr hAsub)
  (fun b hb ⟨m,oc,h1,h2⟩=>by
   rcases hob m oc h1 with ⟨i,n,o,y,oc0,k1,k2,k4,k5,k6,k7⟩ | ⟨k1,k2,k3⟩
   ·refine g.ig.2 b hb ⟨n,oc0,k4,?_⟩
    have e:cb us (ν.map loc) loc m=loc n:=k7
    simp only [aB] at h2;rw [e] at h2;exact h2
   ·obtain ⟨_,_,u,hu,_⟩:=hrest m oc k2
    have e:cb us (ν.map loc) loc m=loc m:=k3
    refine g.ig.2 b hb ⟨m,u,hu,?_⟩
    simp only [aB] at h2;rw [e] at h2;exact h2)
 refine ⟨loc',gN,⟨hA.size,hA.defers,fun t sv hl => ?_⟩,?_⟩
 ·simp only [bJ,husd,bY] at hl
  split at hl
  ·rename_i v hv
   cases hl
   obtain ⟨k,hk,rfl⟩:=l6 hv
   obtain ⟨c,hc,hs⟩:=rL hf.refs hk
   have hcv:CR cx.eT (aB O st' loc w) c (a.tmps.getD t undef):=hA.env t _ hc
   exact rD laid (sL g hcv hf.get hs (tx hf.GS hk hc))
  ·have hl2:look (rF an st x) t=some sv:=hl
   have hst:∃u,look st'.env t=some u/\ka u sv:=by
    simp only [rF,bY] at hl2
    split at hl2
    ·rename_i v hv;cases hl2;exact gS hf.env hv
    ·obtain ⟨h1,h2⟩:=cY hl2;exact hkeep t h1 sv h2
   obtain ⟨u,hu,hs⟩:=hst
   have hv:=rH hs (hA.env t u hu)
   obtain ⟨v0,rfl,hb⟩:=nR hb1 hl2
   cases v0 with
   | one c=>exact hrel hb hv
   | agg cs=>obtain ⟨vs,h1,h2⟩:=hv;exact ⟨vs,h1,kU (k:=st.next) hrel hb h2⟩
 ·refine {O:=ht.O,next:=by simp [aB,bJ],os:=ht.os,output:=ht.output,size:=ht.size,own:=fun b hb => ?_,cell:=fun b o v h1 h2 => ?_,block:=ht.block,loc:=fun n hn hfx => ?_,kind:=fun n oc hn h => ?_}
  ·obtain ⟨m,oc,h1,h2⟩:=hb
   rcases hob m oc h1 with ⟨i,n,o,y,oc0,k1,k2,k4,k5,k6,k7⟩ | ⟨k1,k2,k3⟩
   ·exact ht.own b ⟨n,oc0,k4,by simp only [aB] at h2;rw [k7] at h2;exact h2⟩
   ·obtain ⟨_,_,u,hu,_⟩:=hrest m oc k2
    exact ht.own b ⟨m,u,hu,by simp only [aB] at h2;rw [k3] at h2;exact h2⟩
  ·obtain ⟨k1,k2⟩:=ht.cell b o v h1 h2
   exact ⟨k1,fun h=>k2 (hAsub b o h)⟩
  ·show (loc' n).v=_/\(_->loc' n=_)
   rw [hlow n hn];exact ht.loc n hn hfx
  ·rcases hob n oc h with ⟨i,n',o,y,oc0,k1,k2,_⟩ | ⟨k1,k2,k3⟩
   ·exact absurd (List.mem_of_getElem? k2) (hnu n hn)
   ·obtain ⟨_,_,u,hu,hk,_,_⟩:=hrest n oc k2
    obtain ⟨oc1,m1,m2⟩:=ht.kind n u hn hu
    refine ⟨oc1,m1,?_⟩
    show aL _ (loc' n) _ _
    rw [hlow n hn]
    exact m2.comp hk
theorem Ao {an:fu} {st:St} {W:List Nat} {x:an.X} (hok:mu an st W x=true) {n:Nat} (hn:n∈an.bg) {v:SV} (h:look (bJ an st x).env n=some v) (hW:n∉W):look st.env n=some v:=by
 simp only [mu,Bool.and_eq_true] at hok
 obtain ⟨_,_,hkeys,hnr⟩:=hok
 simp only [bJ,rF,bY] at h
 split at h
 ·rename_i u hu
  obtain ⟨k,hk,_⟩:=l6 hu
  exact absurd hn (rM hnr hk)
 ·split at h
  ·rename_i u hu;exact absurd (jP hkeys hu) hW
  ·exact (cY h).2
theorem tA {O:aD} {st:St} {loc:Nat->Loc} {w:World} {an:fu} {W:List Nat} {K:St->VC} (hdis:lE an.bg W=true)
  (hk:(VC.all an.X fun x => .imp (an.inv x) (match dJ st.next (ba an st x).env && (dz st.next (ba an st x).aC && fU W (an.bd x)) with
     | true=>K (ba an st x)
     | false => .ff)).holds) {a':Act} {w':World}:cy cx X O (eU an st) W st (aB O st loc w) a' w'->cy cx X O K W st (aB O st loc w) a' w':=by
 have hkeepW:=lG hdis
 rintro ⟨st2,loc2,k1,k2,k3,k4,k5⟩
 simp only [eU] at k1
 split at k1
 case h_2=>exact k1.elim
 rename_i hpres
 obtain ⟨x',hx',hs',ho'⟩:=k1
 have hvx:=hk x' hx'
 split at hvx
 case h_2=>exact hvx.elim
 rename_i hbb
 simp only [Bool.and_eq_true] at hbb
 have hhead:∀t,t∉W->∀v,look (ba an st x').env t=some v->look st.env t=some v:=by
  intro t ht v hv
  simp only [ba,bY] at hv
  split at hv
  ·rename_i u hu;exact absurd (jP hbb.2.2 hu) ht
  ·exact (cY hv).2
 obtain ⟨m1,m2,m3⟩:=np (an:=an) (st:=st) x' k2 k4 k3 (by
   intro n v hv
   simp only [ba,bY] at hv
   split at hv
   ·rename_i u hu;cases hv;exact gS hs' hu
   ·obtain ⟨hmem,hl⟩:=cY hv
    refine ⟨v,?_,fD v⟩
    obtain ⟨v',hv'⟩:=hP hpres hmem
    have:=k5 (hkeepW n hmem).1 n (hkeepW n hmem).2 v' hv'
    rw [hl] at this
    cases this
    exact hv')
  (by
   intro n v hv
   simp only [ba] at hv
   exact gT ho' hv) hbb.1 hbb.2.1
 exact ⟨ba an st x',loc2,hvx,m1,m3,m2,fun _ t ht v hv=>hhead t ht v hv⟩
theorem tB (hok:ir P cx X) {O:aD} {id:Nat} {ops:Array Oper} {draw:Bool} {st:St} {loc:Nat->Loc} {w:World} {a:Act} {K:Ex->St->VC} (hA:dy cx (aB O st loc w) st a) (g:Good cx.eT X (aB O st loc w)) (hO:ck O w)
  (h:(uV cx ops draw st (K .normal)).holds):(Code.region id ops draw).wp P (lH cx X O K (cQ ops.toList) st (aB O st loc w)) a w:=by
 have hW:∀(j:Nat) (oj:Oper) (d:Nat),ops[j]?=some oj->oj.dst=some d->d∈cQ ops.toList:=by
  intro j oj d hj hd
  exact List.mem_filterMap.2 ⟨oj,by rw [<-Array.getElem?_toList] at hj;exact List.mem_of_getElem? hj,hd⟩
 have hq:∀st' loc' a' w',(K .normal st').holds->Good cx.eT X (aB O st' loc' w')->Tr (aB O st loc w) (aB O st' loc' w')->dy cx (aB O st' loc' w') st' a'->hM (cQ ops.toList) st st'->
   lH cx X O K (cQ ops.toList) st (aB O st loc w) .normal a' w':=fun st' loc' a' w' h1 h2 h3 h4 h5=>⟨st',loc',h1,h2,h3,h4,h5⟩
 unfold uV at h
 cases draw with
 | false=>
  refine wp_region_list ?_
  exact xJ hok hW ops.toList (fun o ho d hd=>List.mem_filterMap.2 ⟨o,ho,hd⟩) hA g hO h hq
 | true=>
  split at h
  ·rename_i e;cases e
  ·rename_i e
   split at h
   ·rename_i hreg
    rw [Fl] at h
    refine wp_region_any hok.mixed (yM (loud:=et cx ops.toList) _ _ _ _ (aB O st loc {w with drawn:=w.drawn + 1}).A ?_)
    have hdrew:Below w.heap.size w {w with drawn:=w.drawn + 1}:=⟨rfl,rfl,Nat.le_refl _,fun _ _=>rfl⟩
    obtain ⟨tr,g'⟩:=mL (S:=aB O st loc w) (S':=aB O st loc {w with drawn:=w.drawn + 1}) g rfl rfl rfl rfl hdrew
    refine xK hok hW hreg (fun c a w h=>h) ops.size _ ?_ ⟨hA.size,hA.defers,hA.env.tr tr⟩ g' (hO.tr (Nat.le_refl _)) h ?_
    ·intro j o ho hj
     rw [Array.getD_eq_getD_getElem?,Array.getElem?_replicate] at hj
     split at hj <;> simp at hj
    ·intro st' loc' a' w' h1 h2 h3 h4 h5
     obtain ⟨st2,loc2,k1,k2,k3,k4,k5⟩:=cy.G1 (K:=K .normal) (f:=canon st.next (cQ ops.toList)) (W:=cQ ops.toList) hA (fun st'=>by
      rcases Ah st.next (cQ ops.toList) st' with e | ⟨r,q,k1,k2⟩
      ·exact .inl e
      ·exact .inr ⟨r,q,k1,k2⟩) (⟨st',loc',h1,h2,tr.trans h3,h4,h5⟩:cy cx X O (fun st'=>K .normal (canon st.next (cQ ops.toList) st')) (cQ ops.toList) st (aB O st loc w) a' w')
     exact hq st2 loc2 a' w' k1 k2 k3 k4 k5
   ·exact h.elim
theorem DR (hok:ir P cx X) (anns:ch) {O:aD}:∀(c:Code) (cur:Nat) {st:St} {loc:Nat->Loc} {w:World} {a:Act} {K:Ex->St->VC},
  dy cx (aB O st loc w) st a->Good cx.eT X (aB O st loc w)->ck O w->(vc cx anns c cur st K).holds->c.wp P (lH cx X O K (writes anns cur c) st (aB O st loc w)) a w:=by
 intro c
 induction c with
 | skip=>intro cur st loc w a K hA g hO h;exact wp_skip ⟨st,loc,h,g,Tr.refl _,hA,fun _ _ _ _ h=>h⟩
 | region id ops draw=>
  intro cur st loc w a K hA g hO h
  simp only [vc] at h
  split at h
  ·exact tB hok hA g hO h
  ·rename_i an _
   split at h
   case h_2=>exact h.elim
   rename_i hdis
   obtain ⟨hb,hk⟩:=h
   refine wp_mono (tB (K:=fun e=>match e with | .normal=>eU an st | e=>K e) hok hA g hO hb) ?_
   intro e a' w' hq
   cases e with
   | normal=>exact tA hdis hk hq
   | exit i=>exact hq
   | ret=>exact hq
   | goto l=>exact hq.elim
   | panic c=>exact hq.elim
   | outgrown=>exact hq.elim
 | seq c1 c2 ih1 ih2=>
  intro cur st loc w a K hA g hO h
  refine wp_seq ?_
  refine wp_mono (ih1 cur hA g hO h) ?_
  intro e a' w' hq
  refine Fs (K:=K) (W:=writes anns cur c1) ?_ (fun e he=>by cases e <;> simp_all) ?_ hq
  ·rintro a1 w1 ⟨st',loc',k1,k2,k3,k4,k5⟩
   refine wp_mono (ih2 cur k4 k2 (hO.tr k3.size) k1) ?_
   intro e a2 w2 hq2
   exact hq2.mono k3 (W':=writes anns cur (.seq c1 c2)) (fun hm t ht=>k5 (fun h=>hm (List.mem_append.2 (.inl h))) t fun hm=>ht (List.mem_append.2 (.inl hm))) (fun n hn=>List.mem_append.2 (.inr hn))
  ·intro e a1 w1 hq1 _
   exact hq1.mono (Tr.refl _) (fun _ _ _ _ h=>h) (fun n hn=>List.mem_append.2 (.inl hn))
 | cond x c1 c2 ih1 ih2=>
  intro cur st loc w a K hA g hO h
  have hx:=aW hA.env x
  have h1:∀{K},(vc cx anns c1 cur st K).holds->c1.wp P (lH cx X O K (writes anns cur (.cond x c1 c2)) st (aB O st loc w)) a w:=fun h=>
   wp_mono (ih1 cur hA g hO h) fun e a' w' hq=>hq.mono (Tr.refl _) (fun _ _ _ _ h=>h) (fun n hn=>List.mem_append.2 (.inl hn))
  have h2:∀{K},(vc cx anns c2 cur st K).holds->c2.wp P (lH cx X O K (writes anns cur (.cond x c1 c2)) st (aB O st loc w)) a w:=fun h=>
   wp_mono (ih2 cur hA g hO h) fun e a' w' hq=>hq.mono (Tr.refl _) (fun _ _ _ _ h=>h) (fun n hn=>List.mem_append.2 (.inr hn))
  have base:∀{K:Ex->St->VC},(match bR st.env x with
    | .lit true=>vc cx anns c1 cur st K
    | .lit false=>vc cx anns c2 cur st K
    | .d .bool g => .ite g (vc cx anns c1 cur st K) (vc cx anns c2 cur st K)
    | _ => .ff).holds->(Code.cond x c1 c2).wp P (lH cx X O K (writes anns cur (.cond x c1 c2)) st (aB O st loc w)) a w:=by
   intro K h
   split at h
   ·rename_i hl;rw [hl] at hx;exact wp_cond_true hx (h1 h)
   ·rename_i hl;rw [hl] at hx;exact wp_cond_false hx (h2 h)
   ·rename_i b hl
    rw [hl] at hx
    have hx:=(bX (eT:=cx.eT) (S:=aB O st loc w) (b:=b)).1 hx
    cases b
    ·exact wp_cond_false hx (h2 (h.2 rfl))
    ·exact wp_cond_true hx (h1 (h.1 rfl))
   ·exact h.elim
  simp only [vc] at h
  split at h
  ·exact base h
  ·rename_i an _
   split at h
   case h_2=>exact h.elim
   rename_i hdis
   obtain ⟨hb,hk⟩:=h
   refine wp_mono (base (K:=fun e st'=>match e with | .normal=>eU an st st' | e=>K e st') hb) ?_
   intro e a' w' hq
   cases e with
   | normal=>exact tA hdis hk hq
   | exit i=>exact hq
   | ret=>exact hq
   | goto l=>exact hq.elim
   | panic c=>exact hq.elim
   | outgrown=>exact hq.elim
 | block id b ih=>
  intro cur st loc w a K hA g hO h
  refine wp_block ?_
  simp only [vc] at h
  split at h
  case h_2=>
   rename_i an _
   split at h
   case h_2=>exact h.elim
   rename_i hdis
   have hkeepW:=lG hdis
   obtain ⟨hb,hk⟩:=h
   refine wp_mono (ih id hA g hO hb) ?_
   intro e a' w' hq
   have join:cy cx X O (eU an st) (writes anns id b) st (aB O st loc w) a' w'->lH cx X O K (writes anns cur (.block id b)) st (aB O st loc w) .normal a' w':=by
    rintro ⟨st2,loc2,k1,k2,k3,k4,k5⟩
    simp only [eU] at k1
    split at k1
    case h_2=>exact k1.elim
    rename_i hpres
    obtain ⟨x',hx',hs',ho'⟩:=k1
    have hvx:=hk x' hx'
    split at hvx
    case h_2=>exact hvx.elim
    rename_i hbb
    simp only [Bool.and_eq_true] at hbb
    have hhead:∀t,t∉writes anns id b->∀v,look (ba an st x').env t=some v->look st.env t=some v:=by
     intro t ht v hv
     simp only [ba,bY] at hv
     split at hv
     ·rename_i u hu;exact absurd (jP hbb.2.2 hu) ht
     ·exact (cY hv).2
    obtain ⟨m1,m2,m3⟩:=np (an:=an) (st:=st) x' k2 k4 k3 (by
      intro n v hv
      simp only [ba,bY] at hv
      split at hv
      ·rename_i u hu;cases hv;exact gS hs' hu
      ·obtain ⟨hmem,hl⟩:=cY hv
       refine ⟨v,?_,fD v⟩
       obtain ⟨v',hv'⟩:=hP hpres hmem
       have:=k5 (hkeepW n hmem).1 n (hkeepW n hmem).2 v' hv'
       rw [hl] at this
       cases this
       exact hv')
     (by
      intro n v hv
      simp only [ba] at hv
      exact gT ho' hv) hbb.1 hbb.2.1
    exact ⟨ba an st x',loc2,hvx,m1,m3,m2,fun _ t ht v hv=>hhead t ht v hv⟩
   cases e with
   | normal=>exact join hq
   | exit i=>
    show if i=id then _ else _
    by_cases hi:i=id
    ·rw [if_pos hi]
     subst hi
     obtain ⟨st',loc',k1,k2⟩:=hq
     simp only [Nat.beq_refl] at k1
     exact join ⟨st',loc',k1,k2⟩
    ·rw [if_neg hi]
     obtain ⟨st',loc',k1,k2⟩:=hq
     simp only [gI hi] at k1
     exact ⟨st',loc',k1,k2⟩
   | ret=>exact hq
   | goto l=>exact hq.elim
   | panic c=>exact hq.elim
   | outgrown=>exact hq.elim
  refine wp_mono (ih id hA g hO h) ?_
  intro e a' w' hq
  cases e with
  | normal=>exact hq
  | exit i=>
   obtain ⟨st',loc',k1,k2,k3,k4,k5⟩:=hq
   simp only at k1
   show if i=id then _ else _
   split at k1
   ·rename_i hi
    rw [if_pos (Nat.eq_of_beq_eq_true hi)]
    exact ⟨st',loc',k1,k2,k3,k4,k5⟩
   ·rename_i hi
    rw [if_neg (fun e=>by rw [e,Nat.beq_refl] at hi;cases hi)]
    exact ⟨st',loc',k1,k2,k3,k4,k5⟩
  | ret=>exact hq
  | goto l=>exact hq.elim
  | panic c=>exact hq.elim
  | outgrown=>exact hq.elim
 | loop b ih=>
  intro cur st loc w a K hA g hO h
  simp only [vc] at h
  split at h
  ·rename_i hnone
   have hwl:writes anns cur (.loop b)=writes anns cur b:=by simp only [writes,hnone]
   split at h
   case h_2=>exact h.elim
   rename_i an _
   split at h
   ·rename_i hdis
    have hkeepW:=lG hdis
    obtain ⟨⟨x0,hx0,hs0,ho0⟩,h⟩:=h
    have hobk:∀x n v,look (ba an st x).aC n=some v->look (an.aC x) n=some v\/look st.aC n=some v:=by
     intro x n v hv
     simp only [ba,bY] at hv
     split at hv
     ·rename_i u hu;cases hv;exact .inl hu
     ·exact .inr (uK hv)
    have hhead:∀x,fU (writes anns cur b) (an.bd x)=true->∀t,t∉writes anns cur b->∀v,look (ba an st x).env t=some v->look st.env t=some v:=by
     intro x hk t ht v hv
     simp only [ba,bY] at hv
     split at hv
     ·rename_i u hu;exact absurd (jP hk hu) ht
     ·exact (cY hv).2
    refine wp_loop_ghost (fun n a' w'=>∃x loc',an.inv x/\an.bx x=n/\dJ st.next (ba an st x).env=true/\(dz st.next (ba an st x).aC=true/\fU (writes anns cur b) (an.bd x)=true)/\
     (vc cx anns b cur (ba an st x) fun e st'=>match e with
       | .normal=>match fT st'.env an.bg with
        | true => .leaf (∃x',an.inv x'/\an.bx x' < an.bx x/\gQ st' (an.bd x')/\gR st' (an.aC x'++dI st an.dV))
        | false => .ff
       | e=>K e st').holds/\
     Good cx.eT X (aB O (ba an st x) loc' w')/\dy cx (aB O (ba an st x) loc' w') (ba an st x) a'/\Tr (aB O st loc w) (aB O (ba an st x) loc' w')) (an.bx x0) ?_ ?_
    ·have hx:=h x0 hx0
     split at hx
     ·rename_i hb
      simp only [Bool.and_eq_true] at hb
      obtain ⟨m1,m2,m3⟩:=np (an:=an) (st:=st) x0 g hA (Tr.refl _) (by
        intro n v hv
        simp only [ba,bY] at hv
        split at hv
        ·rename_i u hu;cases hv;exact gS hs0 hu
        ·obtain ⟨_,hl⟩:=cY hv
         exact ⟨v,hl,fD v⟩)
       (by
        intro n v hv
        rcases hobk x0 n v hv with hv | hv
        ·exact gT ho0 hv
        ·exact ⟨v,hv,xM v⟩) hb.1 hb.2.1
      exact ⟨x0,loc,hx0,rfl,hb.1,hb.2,hx,m1,m2,m3⟩
     ·exact hx.elim
    ·rintro n a1 w1 ⟨x,loc1,hx,hn,hb1,hb2,hvc,g1,hA1,tr1⟩
     refine wp_mono (ih cur hA1 g1 (hO.tr tr1.size) hvc) ?_
     intro e a2 w2 hq
     have up:∀Kx:St->VC,cy cx X O Kx (writes anns cur b) (ba an st x) (aB O (ba an st x) loc1 w1) a2 w2->cy cx X O Kx (writes anns cur (.loop b)) st (aB O st loc w) a2 w2:=by
      rintro Kx ⟨st2,loc2,k1,k2,k3,k4,k5⟩
      exact ⟨st2,loc2,k1,k2,tr1.trans k3,k4,fun hm t ht v hv=>by rw [hwl] at hm ht;exact hhead x hb2.2 t ht v (k5 hm t ht v hv)⟩
     cases e with
     | normal=>
      obtain ⟨st2,loc2,k1,k2,k3,k4,k5⟩:=hq
      simp only at k1
      split at k1
      case h_2=>exact k1.elim
      rename_i hpres
      obtain ⟨x',hx',hlt,hs',ho'⟩:=k1
      have hvx:=h x' hx'
      refine ⟨an.bx x',by rw [<-hn];exact hlt,?_⟩
      split at hvx
      ·rename_i hb
       simp only [Bool.and_eq_true] at hb
       obtain ⟨m1,m2,m3⟩:=np (an:=an) (st:=st) x' k2 k4 (tr1.trans k3) (by
         intro n v hv
         simp only [ba,bY] at hv
         split at hv
         ·rename_i u hu;cases hv;exact gS hs' hu
         ·obtain ⟨hmem,hl⟩:=cY hv
          refine ⟨v,?_,fD v⟩
          obtain ⟨v',hv'⟩:=hP hpres hmem
          have:=hhead x hb2.2 n (hkeepW n hmem).2 v' (k5 (hkeepW n hmem).1 n (hkeepW n hmem).2 v' hv')
          rw [hl] at this
          cases this
          exact hv')
        (by
         intro n v hv
         simp only [ba] at hv
         exact gT ho' hv) hb.1 hb.2.1
       exact ⟨x',loc2,hx',rfl,hb.1,hb.2,hvx,m1,m2,m3⟩
      ·exact hvx.elim
     | exit i=>exact up _ hq
     | ret=>exact up _ hq
     | goto l=>exact hq.elim
     | panic c=>exact hq.elim
     | outgrown=>exact hq.elim
   ·exact h.elim
  ·rename_i f hsome
   have hwl:writes anns cur (.loop b)=allM :: writes anns cur b:=by simp only [writes,hsome]
   generalize vW st (f st)=an at h
   split at h
   case h_2=>exact h.elim
   rename_i hdis
   have hkeepW:=lG hdis
   obtain ⟨hfit,h⟩:=h
   obtain ⟨x0,hx0,_,hf0⟩:=tw hfit
   refine wp_loop_ghost (fun n a' w'=>∃x loc',an.inv x/\an.bx x=n/\mu an st (writes anns cur b) x=true/\
    (vc cx anns b cur (bJ an st x) fun e st'=>match e with
      | .normal=>match fT st'.env an.bg with
       | true=>rG an st st' fun x'=>an.bx x' < an.bx x
       | false => .ff
      | e=>K e st').holds/\
    Good cx.eT X (aB O (bJ an st x) loc' w')/\dy cx (aB O (bJ an st x) loc' w') (bJ an st x) a'/\Tr (aB O st loc w) (aB O (bJ an st x) loc' w')) (an.bx x0) ?_ ?_
   ·have hx:=h x0 hx0
    split at hx
    case h_2=>exact hx.elim
    rename_i hok2
    obtain ⟨loc',m1,m2,m3⟩:=tz (an:=an) (st:=st) x0 g hA (Tr.refl _) hok2 (fun n hn v hv=>⟨v,hv,fD v⟩) hf0
    exact ⟨x0,loc',hx0,rfl,hok2,hx,m1,m2,m3⟩
   ·rintro n a1 w1 ⟨x,loc1,hx,hn,hokx,hvc,g1,hA1,tr1⟩
    refine wp_mono (ih cur hA1 g1 (hO.tr tr1.size) hvc) ?_
    intro e a2 w2 hq
    have up:∀Kx:St->VC,cy cx X O Kx (writes anns cur b) (bJ an st x) (aB O (bJ an st x) loc1 w1) a2 w2->cy cx X O Kx (writes anns cur (.loop b)) st (aB O st loc w) a2 w2:=by
     rintro Kx ⟨st2,loc2,k1,k2,k3,k4,k5⟩
     exact ⟨st2,loc2,k1,k2,tr1.trans k3,k4,fun hm=>by rw [hwl] at hm;exact absurd (List.mem_cons_self) hm⟩
    cases e with
    | normal=>
     obtain ⟨st2,loc2,k1,k2,k3,k4,k5⟩:=hq
     simp only at k1
     split at k1
     case h_2=>exact k1.elim
     rename_i hpres
     obtain ⟨x',hx',hlt,hf'⟩:=tw k1
     have hvx:=h x' hx'
     split at hvx
     case h_2=>exact hvx.elim
     rename_i hok2
     refine ⟨an.bx x',by rw [<-hn];exact hlt,?_⟩
     obtain ⟨loc',m1,m2,m3⟩:=tz (an:=an) (st:=st) x' k2 k4 (tr1.trans k3) hok2 (fun n hn v hv=>by
      obtain ⟨v',hv'⟩:=hP hpres hn
      have h1:=k5 (hkeepW n hn).1 n (hkeepW n hn).2 v' hv'
      refine ⟨v',hv',?_⟩
      have h2:=Ao hokx hn h1 (hkeepW n hn).2
      rw [hv] at h2;cases h2
      exact fD v) hf'
     exact ⟨x',loc',hx',rfl,hok2,hvx,m1,m2,m3⟩
    | exit i=>exact up _ hq
    | ret=>exact up _ hq
    | goto l=>exact hq.elim
    | panic c=>exact hq.elim
    | outgrown=>exact hq.elim
 | rangeFunc f ps as b _ _=>intro cur st loc w a K _ _ _ h;exact h.elim
 | exit id=>intro cur st loc w a K hA g hO h;exact wp_exit ⟨st,loc,h,g,Tr.refl _,hA,fun _ _ _ _ h=>h⟩
 | scope b _=>intro cur st loc w a K _ _ _ h;exact h.elim
 | label l=>intro cur st loc w a K _ _ _ h;exact h.elim
 | goto l=>intro cur st loc w a K _ _ _ h;exact h.elim
 | ret=>intro cur st loc w a K hA g hO h;exact wp_ret ⟨st,loc,h,g,Tr.refl _,hA,fun _ _ _ _ h=>h⟩
 | refuse why=>intro cur st loc w a K _ _ _ h;exact h.elim
end
end Go.Vg

namespace Go.Vg
open Go.RowKit
@[reducible] def HL:List Ty->Type
 | []=>Unit
 | [t]=>D t
 | t :: u :: r=>D t × HL (u :: r)
def ez:List Ty->Bool
 | []=>true
 | t :: r=>t.flat && ez r
def uW (st:St) (want:Ty) (n:Nat):Option (D want):=
 match look st.aC n with
 | some (.ext 0 t xs)=>match h:Ty.beq t want with
  | true=>some (bn h (a:=t) xs)
  | false=>none
 | _=>none
def Ap (lend:Bool) (st:St) (t:Ty) (a:bB):Option (D t):=
 match lend,t,a with
 | true, .slice e, .one (.aP n)=>n7 st e (.aP n)
 | true,t, .one (.xd n .top)=>uW st t n
 | _,t,a=>ki t a
def hU (lend:Bool) (st:St):(ts:List Ty)->List bB->Option (HL ts)
 | [],[]=>some ()
 | [t],[a]=>Ap lend st t a
 | t :: u :: r,a :: as=>match Ap lend st t a,hU lend st (u :: r) as with
  | some x,some xs=>some (x,xs)
  | _,_=>none
 | _,_=>none
def jx:(ts:List Ty)->HL ts->List bB
 | [],_=>[]
 | [t],y=>[.one (.d t y)]
 | t :: u :: r,ys => .one (.d t ys.1) :: jx (u :: r) ys.2
def lI:List bB->SV
 | [v] => .s v
 | vs => .gA vs
def oI (st:St) (c:C):C × St:=
 match c with
 | .aP n=>match look st.aC n with
  | some (.aP t xs)=>(.d (.slice t) xs,aS st n)
  | _=>(c,st)
 | .xd n .top=>match look st.aC n with
  | some (.ext 0 t xs)=>(.d t xs,aS st n)
  | _=>(c,st)
 | c=>(c,st)
def nq:St->List C->List C × St
 | st,[]=>([],st)
 | st,c :: cs=>match oI st c with
  | (c',st1)=>match nq st1 cs with
   | (cs',st2)=>(c' :: cs',st2)
def qE (st:St) (v:bB):bB × St:=
 match v with
 | .one c=>match oI st c with
  | (c',st')=>(.one c',st')
 | .agg cs=>match nq st cs with
  | (cs',st')=>(.agg cs',st')
def sN (lend:Bool) (st:St) (v:bB):bB × St:=
 match lend,v with
 | true, .one c=>(.one c,st)
 | _,v=>qE st v
def l7 (lend:Bool):St->List bB->List bB × St
 | st,[]=>([],st)
 | st,v :: vs=>match sN lend st v with
  | (v',st1)=>match l7 lend st1 vs with
   | (vs',st2)=>(v' :: vs',st2)
def iv (ts rts:List Ty) (pre:HL ts->Prop) (post:HL ts->HL rts->Prop):bq:=fun args st K=>
 match l7 (ez rts) st args with
 | (args,st)=>match hU (ez rts) st ts args with
  | some xs => .and (pre xs) (.all (HL rts) fun ys => .imp (post xs ys) (K (lI (jx rts ys)) st))
  | none => .ff
def aN (ts rts:List Ty) (pre:HL ts->Prop) (g:HL ts->HL rts):bq:=fun args st K=>
 match l7 (ez rts) st args with
 | (args,st)=>match hU (ez rts) st ts args with
  | some xs => .and (pre xs) (K (lI (jx rts (g xs))) st)
  | none => .ff
inductive Gi (α:Type) where
 | ret (a:α)
 | ite (c:Bool) (a b:Gi α)
def Gi.eval {α:Type}:Gi α->α
 | .ret a=>a
 | .ite c a b=>match c with
  | true=>a.eval
  | false=>b.eval
def B1 (st:St) (want:Ty) (c:C):Option (D want):=
 match c with
 | .aP n=>match look st.aC n with
  | some (.aP t xs)=>match h:Ty.beq (.slice t) want with
   | true=>some (bn h (a:=.slice t) xs)
   | false=>none
  | _=>none
 | .xd n .top=>uW st want n
 | c=>nO want c
def hY (st:St):(t:Ty)->List C->Option (D t × List C)
 | .prod a b,cs=>match hY st a cs with
  | some (x,cs1)=>match hY st b cs1 with
   | some (y,cs2)=>some ((x,y),cs2)
   | none=>none
  | none=>none
 | .unit,cs=>some ((),cs)
 | t,c :: cs=>match B1 st t c with
  | some x=>some (x,cs)
  | none=>none
 | _,[]=>none
def Aq (st:St) (want:Ty):bB->Option (D want)
 | .one c=>B1 st want c
 | .agg cs=>match want.one with
  | true=>none
  | false=>match hY st want cs with
   | some (x,[])=>some x
   | _=>none
def oJ (st:St):(ts:List Ty)->List bB->Option (HL ts)
 | [],[]=>some ()
 | [t],[a]=>Aq st t a
 | t :: u :: r,a :: as=>match Aq st t a,oJ st (u :: r) as with
  | some x,some xs=>some (x,xs)
  | _,_=>none
 | _,_=>none
def nr (cx:Cx) (st:St):List ResultVar->(List bB->VC)->VC
 | [],K=>K []
 | .tmp t :: r,K=>match ev st.env (.tmp t) with
  | .s v=>nr cx st r fun vs=>K (v :: vs)
  | _ => .ff
 | .cell a t :: r,K=>nZ cx st t (bR st.env (.tmp a)) fun sv=>match sv with
  | .s v=>nr cx st r fun vs=>K (v :: vs)
  | _ => .ff
def Ar (cx:Cx) (anns:ch) (res:List ResultVar) (c:Code) (st:St) (K:List bB->St->VC):VC:=
 vc cx anns c 0 st fun e st'=>match e with
  | .exit _ => .ff
  | _=>nr cx st' res fun vs=>K vs st'
def kV (B:Cx) (Γ:List (FuncId × (Bool × bq))) (N:Nat):Cx:={B with Γ:=Γ,N:=N}
def mw:Nat->(ts:List Ty)->HL ts->List (Nat × SV)
 | _,[],_=>[]
 | k,[t],x=>[(k, .s (.one (.d t x)))]
 | k,t :: u :: r,xs=>(k, .s (.one (.d t xs.1))) :: mw (k + 1) (u :: r) xs.2
def jQ (ts:List Ty) (xs:HL ts):St:={env:=mw 0 ts xs,aC:=[],next:=0}
def yS (B:Cx) (Γ:List (FuncId × (Bool × bq))) (N:Nat) (anns:ch) (res:List ResultVar) (c:Code) (ts rts:List Ty) (post:HL ts->HL rts->Prop) (xs:HL ts):VC:=
 Ar (kV B Γ N) anns res c (jQ ts xs) fun vs st=>match oJ st rts vs with
  | some ys => .leaf (post xs ys)
  | none => .ff
section
variable {eT:TypeId} {X:Ext} {P:Program} {cx:Cx}
def fo (eT:TypeId) (A:aD) (w:World):(ts:List Ty)->HL ts->List Value->Prop
 | [],_,vs=>vs = []
 | [t],x,vs=>∃v,vs = [v]/\VR eT t x A w v
 | t :: u :: r,xs,vs=>∃v vs',vs=v :: vs'/\VR eT t xs.1 A w v/\fo eT A w (u :: r) xs.2 vs'
def vX:List Value->Value
 | [v]=>v
 | vs => .tuple vs.toArray
structure bu (P:Program) (eT:TypeId) (X:Ext) (f:FuncId) (ts rts:List Ty) (pre:HL ts->Prop) (post:HL ts->HL rts->Prop):Prop where
 fn:∃fn,P.funcs[f]?=some fn/\fn.body.isNone=false/\(fn.name == "runtime.NumGoroutine")=false
 ok:∀O w xs vs,X.nU w->ck O w->fo eT O w ts xs vs->pre xs->
  Calls P f vs.toArray w fun e w'=>∃us ys,e = .returned (vX us)/\post xs ys/\fo eT O w' rts ys us/\Below w.heap.size w w'
def oK (tmps:Array Value):ResultVar->Sem Value
 | .tmp t=>pure (tmps.getD t undef)
 | .cell b t=>do loadVar t (<-asAddr (tmps.getD b undef))
theorem xN (hok:TyOK P cx) {O:aD} {st:St} {loc:Nat->Loc} {w:World} {a:Act} (g:Good cx.eT X (aB O st loc w)) (he:dj cx.eT (aB O st loc w) st.env a) :
  ∀{rs:List ResultVar} {K:List bB->VC},(nr cx st rs K).holds->
  ∃vs us,(K vs).holds/\bI cx.eT (aB O st loc w) vs us/\(rs.mapM (oK a.tmps):Sem (List Value)).run P w = .ok us w:=by
 intro rs
 induction rs with
 | nil=>intro K h;exact ⟨[],[],h, .nil,rfl⟩
 | cons r rs ih=>
  intro K h
  cases r with
  | tmp t=>
   simp only [nr] at h
   split at h
   ·rename_i v hv
    obtain ⟨vs,us,h1,h2,h3⟩:=ih h
    have hr:=fM he (.tmp t)
    rw [hv] at hr
    refine ⟨v :: vs,a.tmps.getD t undef :: us,h1, .cons hr h2,?_⟩
    rw [List.mapM_cons]
    simp only [oK,Sem.run_bind,Sem.run_pure,Result.andThen_ok,h3]
   ·exact h.elim
  | cell b t=>
   simp only [nr] at h
   obtain ⟨sv,u,h1,h2,h3⟩:=mP (P:=P) hok g (aW he (.tmp b)) h
   split at h1
   ·rename_i v
    obtain ⟨vs,us,k1,k2,k3⟩:=ih h1
    have h3:=h3 w (Below.refl _ _)
    refine ⟨v :: vs,u :: us,k1, .cons h2 k2,?_⟩
    rw [List.mapM_cons]
    have h4:(do loadVar t (<-asAddr (a.tmps.getD b undef)):Sem Value).run P w = .ok u w:=by
     have h3:(Instr.loadAt t (a.tmps.getD b undef)).run P w = .ok u w:=h3
     generalize a.tmps.getD b undef=p at h3
     cases p with
     | pointer q=>
      cases q with
      | none=>simp [Instr.loadAt,Instr.sureAddr] at h3
      | some q=>simpa [Instr.loadAt,Instr.sureAddr,asAddr] using h3
     | _=>simp [Instr.loadAt,Instr.sureAddr] at h3
    simp only [oK,Sem.run_bind] at h4 ⊢
    simp only [h4,Sem.run_pure,Result.andThen_ok,k3]
   ·exact h1.elim
theorem bI.len {S:aV} {xs:List bB} {us:List Value} (h:bI eT S xs us):xs.length=us.length:=by
 induction h with
 | nil=>rfl
 | cons _ _ ih=>simp [ih]
theorem oL {S:aV} {vs:List bB} {us:List Value} (h:bI eT S vs us):bQ eT S (lI vs) (vX us):=by
 match vs,us,h with
 | [],[],h=>exact ⟨[],rfl,h⟩
 | [v],[u], .cons h1 .nil=>exact h1
 | _ :: _ :: _,_ :: _ :: _,h=>exact ⟨_,rfl,h⟩
theorem l8 (hok:ir P cx X) {f:FuncId} {fn:Func} {c:Code} (hf:P.funcs[f]?=some fn) (hb:fn.body=some c) (hN:cx.N=fn.ntmps) (anns:ch) {O:aD} {st:St} {loc:Nat->Loc} {w:World}
  {args:Array Value} {K:List bB->St->VC} (hsz:args.size<=fn.ntmps) (g:Good cx.eT X (aB O st loc w)) (hO:ck O w)
  (henv:∀t sv,look st.env t=some sv->∃v,args[t]?=some v/\bQ cx.eT (aB O st loc w) sv v)
  (h:(Ar cx anns fn.results.toList c st K).holds) :
  Calls P f args w fun e w'=>∃vs us st' loc',e = .returned (vX us)/\(K vs st').holds/\bI cx.eT (aB O st' loc' w') vs us/\Good cx.eT X (aB O st' loc' w')/\Tr (aB O st loc w) (aB O st' loc' w'):=by
 refine calls_of_wp hf hb ?_
 have hA:dy cx (aB O st loc w) st {tmps:=args++Array.replicate (fn.ntmps - args.size) undef,defers:=[]}:=by
  refine ⟨by simp [hN];omega,rfl,fun t sv ht => ?_⟩
  obtain ⟨v,hv,hr⟩:=henv t sv ht
  have hlt:t < args.size:=by
   rcases Nat.lt_or_ge t args.size with hh | hh
   ·exact hh
   ·rw [Array.getElem?_eq_none hh] at hv;cases hv
  rw [Array.getD_eq_getD_getElem?,Array.getElem?_append,if_pos hlt,hv]
  exact hr
 refine wp_mono (DR hok anns c 0 hA g hO h) ?_
 have fin:∀(a':Act) (w':World),cy cx X O (fun st'=>nr cx st' fn.results.toList fun vs=>K vs st') (writes anns 0 c) st (aB O st loc w) a' w'->a'.defers = []/\∃v,(results fn a'.tmps).run P w' = .ok v w'/\
   ∃vs us st' loc',Ending.returned v = .returned (vX us)/\(K vs st').holds/\bI cx.eT (aB O st' loc' w') vs us/\Good cx.eT X (aB O st' loc' w')/\Tr (aB O st loc w) (aB O st' loc' w'):=by
  rintro a' w' ⟨st',loc',k1,k2,k3,k4,_⟩
  obtain ⟨vs,us,m1,m2,m3⟩:=xN (P:=P) hok.toTyOK k2 k4.env k1
  refine ⟨k4.defers,vX us,?_,vs,us,st',loc',rfl,m1,m2,k2,k3⟩
  have hm:(fn.results.mapM (oK a'.tmps):Sem (Array Value)).run P w' = .ok us.toArray w':=by
   rw [<-Array.toArray_toList (xs:=fn.results),List.mapM_toArray,Sem.run_map,m3]
   rfl
  have he:results fn a'.tmps=(do
    let xs <-fn.results.mapM (oK a'.tmps)
    return if h:xs.size=1 then xs[0] else .tuple xs):=by
   unfold results
   congr 1
  rw [he,Sem.run_bind,hm]
  simp only [Result.andThen_ok,Sem.run_pure]
  match us with
  | []=>rfl
  | [u]=>rfl
  | _ :: _ :: _=>rfl
 intro e a' w' hq
 cases e with
 | normal=>exact fin a' w' hq
 | ret=>exact fin a' w' hq
 | exit n=>obtain ⟨st',loc',k1,_⟩:=hq;exact k1.elim
 | goto l=>exact hq.elim
 | panic c=>exact hq.elim
 | outgrown=>exact hq.elim
end
end Go.Vg

namespace Go.Vg
open Go.RowKit
section
variable {X:Ext} {P:Program} {cx:Cx}
theorem B2 {O:aD} {st:St} {loc:Nat->Loc} {w:World} {b o:Nat} (h:¬ (aB O st loc w).A b o):¬ O b o:=fun k=>h (.inl k)
theorem GU {O:aD} {st:St} {loc:Nat->Loc} {w:World} {t:Ty} {x:D t} {v:Value} {eT:TypeId} (h:VR eT t x (aB O st loc w).A w v):VR eT t x O w v:=
 VR.frame h fun _ _ _ ha hc=>⟨hc,B2 ha⟩
theorem yT {O:aD} {st:St} {loc:Nat->Loc} {w:World} (g:Good cx.eT X (aB O st loc w)) {n:Nat} {t:Ty} {xs:List (D t)} (hob:look st.aC n=some (.aP t xs))
  {v:Value} (hx:CR cx.eT (aB O st loc w) (.aP n) v):VR cx.eT (.slice t) xs O w v:=by
 rcases (g.obj _ _ hob).2 with ⟨rfl,⟨a,ha⟩,_⟩ | ⟨b,vs,T,cap,hl,cP,hheap,hvs,hcap,hbig,he⟩
 ·exact VR.bt rfl ⟨_,rfl,by simp, .inl ⟨rfl,a,0,(hx.2 _ _ hob).trans ha⟩⟩
 refine VR.bt rfl ⟨_,rfl,hbig, .inr ⟨b,0,cap,(hx.2 _ _ hob).trans hl,hcap,fun i y hy => ?_⟩⟩
 obtain ⟨us,h1,h2⟩:=he i y hy
 refine ⟨us,h1.frame fun _ _ _ ha hc=>⟨hc,B2 ha⟩,fun j u hj=>⟨?_,?_⟩⟩
 ·rw [Nat.zero_add,cell_of_row w b _ vs T (0,0) hheap];exact h2 j u hj
 ·exact g.out n _ b _ hob (by rw [cP];simp)
theorem yU {O:aD} {st:St} {loc:Nat->Loc} {w:World} (g:Good cx.eT X (aB O st loc w)) {n:Nat} {t:Ty} {xs:D t} (hob:look st.aC n=some (.ext 0 t xs))
  {v:Value} (hx:CR cx.eT (aB O st loc w) (.xd n .top) v) {A:aD} (hA:∀b∈(loc n).bs,∀o,¬ A b o):VR cx.eT t xs A w v:=by
 have hd:eO t xs (loc n) w:=X.deep.1 (g.obj _ _ hob).2
 obtain ⟨e,s,rfl,hs⟩:=ln hd
 exact hd.data (hx.2 _ _ hob) hA
theorem tC {O:aD} {st:St} {loc:Nat->Loc} {w:World} (g:Good cx.eT X (aB O st loc w)) {n:Nat} {t:Ty} {xs:D t} (h:uW st t n=some xs)
  {v:Value} (hx:CR cx.eT (aB O st loc w) (.xd n .top) v):VR cx.eT t xs O w v:=by
 unfold uW at h
 split at h
 ·rename_i t' ys hob
  split at h
  ·cases h;rename_i hb
   exact fj hb _ (yU g hob hx fun b hb o=>g.out n _ b o hob hb)
  ·cases h
 ·cases h
theorem yV {O:aD} {st:St} {loc:Nat->Loc} {w:World} (g:Good cx.eT X (aB O st loc w)) {want:Ty} {c:C} {x:D want} {v:Value} (h:B1 st want c=some x)
  (hc:CR cx.eT (aB O st loc w) c v):VR cx.eT want x O w v:=by
 unfold B1 at h
 split at h
 ·rename_i n
  split at h
  ·rename_i t xs hob
   split at h
   ·cases h;rename_i hb;exact fj hb _ (yT g hob hc)
   ·cases h
  ·cases h
 ·exact tC g h hc
 ·exact GU (me h hc)
theorem B3 {O:aD} {st:St} {loc:Nat->Loc} {w:World} (g:Good cx.eT X (aB O st loc w)):∀{t:Ty} {cs cs':List C} {x:D t} {vs:List Value},hY st t cs=some (x,cs')->bS cx.eT (aB O st loc w) cs vs->
  ∃us vs',vs=us++vs'/\R cx.eT t x O w us/\bS cx.eT (aB O st loc w) cs' vs':=by
 have one:∀{t:Ty} {c:C} {cs cs':List C} {x:D t} {vs:List Value},(match B1 st t c with | some x=>some (x,cs) | none=>none)=some (x,cs')->bS cx.eT (aB O st loc w) (c :: cs) vs->
   ∃us vs',vs=us++vs'/\R cx.eT t x O w us/\bS cx.eT (aB O st loc w) cs' vs':=by
  intro t c cs cs' x vs h hc
  cases hc with
  | cons h1 h2 h3=>
   rename_i v vs0
   split at h
   ·rename_i y hy
    cases h
    exact ⟨[v],vs0,rfl,(pM h2 (yV g hy h1)).2,h3⟩
   ·cases h
 intro t
 induction t with
 | prod a b iha ihb=>
  intro cs cs' x vs h hc
  simp only [hY] at h
  split at h
  ·rename_i y cs1 h1
   split at h
   ·rename_i z cs2 h2
    cases h
    obtain ⟨u1,v1,rfl,r1,k1⟩:=iha h1 hc
    obtain ⟨u2,v2,rfl,r2,k2⟩:=ihb h2 k1
    exact ⟨u1++u2,v2,by simp,⟨u1,u2,rfl,r1,r2⟩,k2⟩
   ·cases h
  ·cases h
 | unit=>
  intro cs cs' x vs h hc
  simp only [hY] at h
  cases h
  exact ⟨[],vs,rfl,rfl,hc⟩
 | bool=>intro cs cs' x vs h hc;cases cs with | nil=>simp [hY] at h | cons c cs=>exact one (t:=.bool) h hc
 | int k=>intro cs cs' x vs h hc;cases cs with | nil=>simp [hY] at h | cons c cs=>exact one (t:=.int k) h hc
 | str=>intro cs cs' x vs h hc;cases cs with | nil=>simp [hY] at h | cons c cs=>exact one (t:=.str) h hc
 | err=>intro cs cs' x vs h hc;cases cs with | nil=>simp [hY] at h | cons c cs=>exact one (t:=.err) h hc
 | cF=>intro cs cs' x vs h hc;cases cs with | nil=>simp [hY] at h | cons c cs=>exact one (t:=.cF) h hc
 | slice e _=>intro cs cs' x vs h hc;cases cs with | nil=>simp [hY] at h | cons c cs=>exact one (t:=.slice e) h hc
theorem vY {O:aD} {st:St} {loc:Nat->Loc} {w:World} (g:Good cx.eT X (aB O st loc w)) {want:Ty} {c:bB} {x:D want} {v:Value} (h:Aq st want c=some x)
  (hc:dx cx.eT (aB O st loc w) c v):VR cx.eT want x O w v:=by
 cases c with
 | one c=>exact yV g h hc
 | agg cs=>
  simp only [Aq] at h
  obtain ⟨vs,rfl,hcs⟩:=hc
  split at h
  ·cases h
  ·rename_i ho
   split at h
   ·rename_i y hy
    cases h
    obtain ⟨us,vs',rfl,r,k⟩:=B3 g hy hcs
    cases k
    unfold VR
    rw [if_neg (by simp [ho])]
    exact ⟨_,rfl,by simpa using r⟩
   ·cases h
theorem vZ {O:aD} {st:St} {loc:Nat->Loc} {w:World} (g:Good cx.eT X (aB O st loc w)):∀{ts:List Ty} {vs:List bB} {ys:HL ts} {us:List Value},oJ st ts vs=some ys->
  bI cx.eT (aB O st loc w) vs us->fo cx.eT O w ts ys us
 | [],[],_,_,_, .nil=>rfl
 | [t],[a],ys,_,h, .cons h1 .nil=>⟨_,rfl,vY g h h1⟩
 | t :: u :: r,a :: as,ys,_,h, .cons h1 h2=>by
  simp only [oJ] at h
  split at h
  ·rename_i x xs k1 k2
   cases h
   exact ⟨_,_,rfl,vY g k1 h1,vZ g k2 h2⟩
  ·cases h
 | [],_ :: _,_,_,h,_=>by simp [oJ] at h
 | [_],[],_,_,h,_=>by simp [oJ] at h
 | [_],_ :: _ :: _,_,_,h,_=>by simp [oJ] at h
 | _ :: _ :: _,[],_,_,h,_=>by simp [oJ] at h
theorem rN {eT:TypeId} {O:aD} {w:World} {S:aV} (hS:S.w=w) (hA:∀b o,¬ O b o->¬ S.A b o):∀(ts:List Ty) (k:Nat) (xs:HL ts) (vs:List Value),fo eT O w ts xs vs->
  ∀t sv,look (mw k ts xs) t=some sv->k<=t/\∃v,vs[t - k]?=some v/\bQ eT S sv v
 | [],k,xs,vs,_,t,sv,h=>by simp [mw,look] at h
 | [ty],k,x,_,⟨v,rfl,hv⟩,t,sv,h=>by
  simp only [mw,bm] at h
  split at h
  ·cases h
   rename_i e;subst e
   exact ⟨Nat.le_refl _,v,by simp,VR.frame hv fun b o _ ha hc=>⟨by rw [hS];exact hc,hA b o ha⟩⟩
  ·simp [look] at h
 | ty :: u :: r,k,xs,_,⟨v,vs',rfl,hv,hr⟩,t,sv,h=>by
  simp only [mw,bm] at h
  split at h
  ·cases h
   rename_i e;subst e
   exact ⟨Nat.le_refl _,v,by simp,VR.frame hv fun b o _ ha hc=>⟨by rw [hS];exact hc,hA b o ha⟩⟩
  ·obtain ⟨h1,v',h2,h3⟩:=rN hS hA (u :: r) (k + 1) xs.2 vs' hr t sv h
   refine ⟨by omega,v',?_,h3⟩
   rw [show t - k=(t - (k + 1)) + 1 from by omega,List.getElem?_cons_succ]
   exact h2
theorem fo.length {eT:TypeId} {O:aD} {w:World}:∀{ts:List Ty} {xs:HL ts} {vs:List Value},fo eT O w ts xs vs->vs.length=ts.length
 | [],_,_,h=>by rw [show _ = [] from h];rfl
 | [_],_,_,⟨_,rfl,_⟩=>rfl
 | _ :: u :: r,_,_,⟨_,_,rfl,_,h⟩=>by simp [fo.length h]
def wf:(t:Ty)->D t->Prop
 | .int k,x=>k.min<=x/\x<=k.max
 | .str,x=>x.length<=aI
 | .prod a b,x=>wf a x.1/\wf b x.2
 | .slice e,x=>x.length<=aI/\∀(i:Nat) y,x[i]?=some y->wf e y
 | _,_=>True
def dD:(ts:List Ty)->HL ts->Prop
 | [],_=>True
 | [t],x=>wf t x
 | t :: u :: r,xs=>wf t xs.1/\dD (u :: r) xs.2
theorem R.wf {eT:TypeId}:∀{t:Ty} {x:D t} {A:aD} {w:World} {vs:List Value},R eT t x A w vs->Vg.wf t x:=by
 intro t
 induction t with
 | int k=>intro x A w vs h;exact h.2
 | str=>intro x A w vs h;exact h.2
 | prod a b iha ihb=>intro x A w vs h;obtain ⟨_,_,_,h1,h2⟩:=h;exact ⟨iha h1,ihb h2⟩
 | slice e ih=>
  intro x A w vs h
  obtain ⟨v,_,hl,h⟩:=h
  refine ⟨hl,fun i y hy => ?_⟩
  rcases h with ⟨rfl,_⟩ | ⟨b,o,cap,_,_,h⟩
  ·simp at hy
  ·obtain ⟨us,h1,_⟩:=h i y hy;exact ih h1
 | _=>intro x A w vs h;trivial
theorem VR.wf {eT:TypeId} {t:Ty} {x:D t} {A:aD} {w:World} {v:Value} (h:VR eT t x A w v):Vg.wf t x:=(VR.cells h).wf
theorem fo.wf {eT:TypeId} {O:aD} {w:World}:∀{ts:List Ty} {xs:HL ts} {vs:List Value},fo eT O w ts xs vs->dD ts xs
 | [],_,_,_=>trivial
 | [_],_,_,⟨_,_,h⟩=>h.wf
 | _ :: _ :: _,_,_,⟨_,_,_,h,h'⟩=>⟨h.wf,fo.wf h'⟩
theorem As {B:Cx} {X:Ext} {Γ:List (FuncId × (Bool × bq))} {N:Nat} {f:FuncId} {fn:Func} {c:Code} (hok:ir P (kV B Γ N) X) (hf:P.funcs[f]?=some fn) (hb:fn.body=some c) (hn:(fn.name == "runtime.NumGoroutine")=false)
  (hN:fn.ntmps=N) {ts rts:List Ty} (anns:HL ts->ch) (hts:ts.length<=N) {pre:HL ts->Prop} {post:HL ts->HL rts->Prop}
  (h:∀xs,dD ts xs->pre xs->(yS B Γ N (anns xs) fn.results.toList c ts rts post xs).holds) :
  bu P B.eT X f ts rts pre post:=by
 refine ⟨⟨fn,hf,by rw [hb];rfl,hn⟩,fun O w xs vs hG hO ha hp => ?_⟩
 have g0:Good (kV B Γ N).eT X (aB O (jQ ts xs) (fun _=>default) w):=
  ⟨fun n oc h=>by simp [aB,jQ,look] at h,fun n m oc oc' b h=>by simp [aB,jQ,look] at h,fun n oc b off h=>by simp [aB,jQ,look] at h,hG,fun b hb ⟨n,oc,h,_⟩=>by simp [aB,jQ,look] at h⟩
 have hA0:∀b o,¬ O b o->¬ (aB O (jQ ts xs) (fun _=>default) w).A b o:=by
  rintro b o h (k | ⟨n,oc,k,_⟩)
  ·exact h k
  ·simp [aB,jQ,look] at k
 refine Calls.mono (l8 hok hf hb hN.symm (anns xs) (by simpa [ha.length,hN] using hts) g0 hO ?_ (h xs ha.wf hp)) ?_
 ·intro t sv ht
  obtain ⟨_,v,h1,h2⟩:=rN (eT:=B.eT) (S:=aB O (jQ ts xs) (fun _=>default) w) rfl hA0 ts 0 xs vs ha t sv ht
  exact ⟨v,by simpa using h1,h2⟩
 ·rintro e w' ⟨vs',us,st',loc',rfl,h1,h2,h3,h4⟩
  split at h1
  ·rename_i ys hys
   refine ⟨us,ys,rfl,h1,vZ h3 hys h2,h4.os,h4.output,h4.size,fun k hk=>h4.block k hk ?_⟩
   rintro ⟨n,oc,k,_⟩
   simp [aB,jQ,look] at k
  ·exact h1.elim
def fp:aD:=fun _ _=>False
def outer (lend:Bool) (A:aD):aD:=match lend with
 | true=>fp
 | false=>A
theorem v7 {O:aD} {st:St} {loc:Nat->Loc} {w:World} (g:Good cx.eT X (aB O st loc w)) {lend:Bool} {t:Ty} {a:bB} {x:D t} {v:Value} (h:Ap lend st t a=some x)
  (ha:dx cx.eT (aB O st loc w) a v):VR cx.eT t x (outer lend (aB O st loc w).A) w v:=by
 have base:ki t a=some x->VR cx.eT t x (outer lend (aB O st loc w).A) w v:=by
  intro h
  refine VR.sJ (fk h ha) fun b o k => ?_
  cases lend with
  | true=>exact id
  | false=>exact k
 unfold Ap at h
 split at h
 ·rename_i e n x' heq
  unfold n7 at h
  simp only [sr] at h
  split at h
  ·rename_i e' ys hob
   split at h
   ·cases h;rename_i hb
    exact fj hb _ (VR.sJ (yT g hob ha) fun _ _ _=>id)
   ·cases h
  ·cases h
 ·exact VR.sJ (tC g h ha) fun _ _ _=>id
 ·exact base h
theorem tD {O:aD} {st:St} {loc:Nat->Loc} {w:World} (g:Good cx.eT X (aB O st loc w)) {lend:Bool}:∀{ts:List Ty} {as:List bB} {xs:HL ts} {vs:List Value},hU lend st ts as=some xs->
  bI cx.eT (aB O st loc w) as vs->fo cx.eT (outer lend (aB O st loc w).A) w ts xs vs
 | [],[],_,_,_, .nil=>rfl
 | [t],[a],xs,_,h, .cons h1 .nil=>⟨_,rfl,v7 g h h1⟩
 | t :: u :: r,a :: as,xs,_,h, .cons h1 h2=>by
  simp only [hU] at h
  split at h
  ·rename_i x xs k1 k2
   cases h
   exact ⟨_,_,rfl,v7 g k1 h1,tD g k2 h2⟩
  ·cases h
 | [],_ :: _,_,_,h,_=>by simp [hU] at h
 | [_],[],_,_,h,_=>by simp [hU] at h
 | [_],_ :: _ :: _,_,_,h,_=>by simp [hU] at h
 | _ :: _ :: _,[],_,_,h,_=>by simp [hU] at h
theorem pW {eT:TypeId} {S:aV} {O:aD} {w:World} (hS:S.w=w):∀{ts:List Ty} {ys:HL ts} {us:List Value},(ez ts=true\/O=S.A)->fo eT O w ts ys us->bI eT S (jx ts ys) us
 | [],_,_,_,h=>by rw [show _ = [] from h];exact .nil
 | [t],y,_,hl,⟨v,rfl,hv⟩=>by
  refine .cons ?_ .nil
  subst hS
  rcases hl with hl | hl
  ·simp only [ez,Bool.and_true] at hl
   exact VR.of_flat hl hv
  ·subst hl;exact hv
 | t :: u :: r,ys,_,hl,⟨v,vs',rfl,hv,hr⟩=>by
  refine .cons ?_ (pW hS ?_ hr)
  ·subst hS
   rcases hl with hl | hl
   ·simp only [ez,Bool.and_eq_true] at hl
    exact VR.of_flat hl.1 hv
   ·subst hl;exact hv
  ·rcases hl with hl | hl
   ·simp only [ez,Bool.and_eq_true] at hl ⊢;exact .inl hl.2
   ·exact .inr hl
theorem GJ {O:aD} {st:St} {loc:Nat->Loc} {w:World} {eT:TypeId} (g:Good eT X (aB O st loc w)) (hO:ck O w):ck (aB O st loc w).A w:=by
 rintro b off (h | ⟨n,oc,h1,h2,_⟩)
 ·exact hO b off h
 ·exact (g.obj n oc h1).2.inside b h2
theorem tE {eT:TypeId} {f:FuncId} {ts rts:List Ty} {pre:HL ts->Prop} {post:HL ts->HL rts->Prop} (h:bu P eT X f ts rts pre post)
  {O:aD} {st:St} {loc:Nat->Loc} {w:World} {args:List bB} {vs:List Value} {xs:HL ts} (hx:hU (ez rts) st ts args=some xs) (hp:pre xs)
  {K:SV->St->VC} (hK:∀ys,post xs ys->(K (lI (jx rts ys)) st).holds)
  (g:Good eT X (aB O st loc w)) (hO:ck O w) (ha:bI eT (aB O st loc w) args vs) :
  Calls P f vs.toArray w fun e w'=>∃v sv st' loc',e = .returned v/\(K sv st').holds/\st'.env=st.env/\(true=true->Below w.heap.size w w')/\Good eT X (aB O st' loc' w')/\
   Tr (aB O st loc w) (aB O st' loc' w')/\bQ eT (aB O st' loc' w') sv v:=by
 have g':Good (Cx.mk eT [] [] [] 0 [] [] [] false [] []).eT X (aB O st loc w):=g
 have hOut:ck (outer (ez rts) (aB O st loc w).A) w:=by
  intro b off hb
  cases hf:ez rts with
  | true=>rw [hf] at hb;exact hb.elim
  | false=>rw [hf] at hb;exact GJ g hO b off hb
 refine Calls.mono (h.ok _ w xs vs g.ig.1 hOut (tD g' hx ha) hp) ?_
 rintro e w' ⟨us,ys,rfl,h1,h2,h3⟩
 obtain ⟨t,g2⟩:=mL (S':=aB O st loc w') g rfl rfl rfl rfl h3
 refine ⟨_,_,st,loc,rfl,hK ys h1,rfl,fun _=>h3,g2,t,oL (pW rfl ?_ h2)⟩
 cases hf:ez rts with
 | true=>exact .inl rfl
 | false=>exact .inr (by simp only [outer];funext b off;simp [aV.A,aB])
theorem rO {O:aD} {st:St} {loc:Nat->Loc} {w:World} (g:Good cx.eT X (aB O st loc w)) (c:C) :
  Tr (aB O st loc w) (aB O (oI st c).2 loc w)/\Good cx.eT X (aB O (oI st c).2 loc w)/\(oI st c).2.env=st.env/\
   ∀v,CR cx.eT (aB O st loc w) c v->CR cx.eT (aB O (oI st c).2 loc w) (oI st c).1 v:=by
 unfold oI
 split
 ·rename_i n
  split
  ·rename_i t xs hob
   obtain ⟨h1,h2⟩:=lr g n
   exact ⟨h1,h2,rfl,fun v hv=>xE g hob hv⟩
  ·exact ⟨Tr.refl _,g,rfl,fun v hv=>hv⟩
 ·rename_i n
  split
  ·rename_i t xs hob
   obtain ⟨h1,h2⟩:=lr g n
   refine ⟨h1,h2,rfl,fun v hv=>yU g hob hv fun b hb o => ?_⟩
   rintro (hA' | ⟨m,oc,k1,k2,k3⟩)
   ·exact g.out n _ b o hob hb hA'
   ·simp only [aB,aS] at k1 k2
    rw [fO] at k1
    split at k1
    ·cases k1
    ·rename_i h8;exact h8 (g.apart n m _ _ b hob k1 hb k2)
  ·exact ⟨Tr.refl _,g,rfl,fun v hv=>hv⟩
 ·exact ⟨Tr.refl _,g,rfl,fun v hv=>hv⟩
theorem pX {O:aD} {loc:Nat->Loc} {w:World}:∀(cs:List C) {st:St},Good cx.eT X (aB O st loc w)->
  Tr (aB O st loc w) (aB O (nq st cs).2 loc w)/\Good cx.eT X (aB O (nq st cs).2 loc w)/\(nq st cs).2.env=st.env/\
   ∀vs,bS cx.eT (aB O st loc w) cs vs->bS cx.eT (aB O (nq st cs).2 loc w) (nq st cs).1 vs
 | [],st,g=>⟨Tr.refl _,g,rfl,fun vs h=>h⟩
 | c :: cs,st,g=>by
  obtain ⟨t1,g1,e1,k1⟩:=rO g c
  obtain ⟨t2,g2,e2,k2⟩:=pX cs g1
  refine ⟨t1.trans t2,g2,e2.trans e1,fun vs h => ?_⟩
  cases h with
  | cons h1 h2 h3=>exact .cons ((k1 _ h1).tr t2) h2 (k2 _ (h3.tr t1))
theorem nt {O:aD} {st:St} {loc:Nat->Loc} {w:World} (g:Good cx.eT X (aB O st loc w)) (x:bB) :
  Tr (aB O st loc w) (aB O (qE st x).2 loc w)/\Good cx.eT X (aB O (qE st x).2 loc w)/\(qE st x).2.env=st.env/\
   ∀v,dx cx.eT (aB O st loc w) x v->dx cx.eT (aB O (qE st x).2 loc w) (qE st x).1 v:=by
 cases x with
 | one c=>exact rO g c
 | agg cs=>
  obtain ⟨t1,g1,e1,k1⟩:=pX cs g
  exact ⟨t1,g1,e1,fun v ⟨vs,h1,h2⟩=>⟨vs,h1,k1 _ h2⟩⟩
theorem At {O:aD} {st:St} {loc:Nat->Loc} {w:World} (g:Good cx.eT X (aB O st loc w)) (lend:Bool) (x:bB) :
  Tr (aB O st loc w) (aB O (sN lend st x).2 loc w)/\Good cx.eT X (aB O (sN lend st x).2 loc w)/\(sN lend st x).2.env=st.env/\
   ∀v,dx cx.eT (aB O st loc w) x v->dx cx.eT (aB O (sN lend st x).2 loc w) (sN lend st x).1 v:=by
 cases lend with
 | false=>cases x <;> exact nt g _
 | true=>
  cases x with
  | one c=>exact ⟨Tr.refl _,g,rfl,fun v hv=>hv⟩
  | agg cs=>exact nt g _
theorem rP {O:aD} {loc:Nat->Loc} {w:World} (lend:Bool):∀(xs:List bB) {st:St},Good cx.eT X (aB O st loc w)->
  Tr (aB O st loc w) (aB O (l7 lend st xs).2 loc w)/\Good cx.eT X (aB O (l7 lend st xs).2 loc w)/\(l7 lend st xs).2.env=st.env/\
   ∀vs,bI cx.eT (aB O st loc w) xs vs->bI cx.eT (aB O (l7 lend st xs).2 loc w) (l7 lend st xs).1 vs
 | [],st,g=>⟨Tr.refl _,g,rfl,fun vs h=>h⟩
 | x :: xs,st,g=>by
  obtain ⟨t1,g1,e1,k1⟩:=At g lend x
  obtain ⟨t2,g2,e2,k2⟩:=rP lend xs g1
  refine ⟨t1.trans t2,g2,e2.trans e1,fun vs h => ?_⟩
  cases h with
  | cons h1 h3=>exact .cons ((k1 _ h1).tr t2) (k2 _ (h3.tr t1))
theorem tG {eT:TypeId} {f:FuncId} {q:Bool} {sp:bq} {lend:Bool}
  (h:∀O st loc w args vs K,(sp args st K).holds->Good eT X (aB O st loc w)->ck O w->bI eT (aB O st loc w) args vs->
   Calls P f vs.toArray w fun e w'=>∃v sv st' loc',e = .returned v/\(K sv st').holds/\st'.env=st.env/\(q=true->Below w.heap.size w w')/\Good eT X (aB O st' loc' w')/\
    Tr (aB O st loc w) (aB O st' loc' w')/\bQ eT (aB O st' loc' w') sv v)
  (O:aD) (st:St) (loc:Nat->Loc) (w:World) (args:List bB) (vs:List Value) (K:SV->St->VC) (hs:(sp (l7 lend st args).1 (l7 lend st args).2 K).holds)
  (g:Good eT X (aB O st loc w)) (hO:ck O w) (ha:bI eT (aB O st loc w) args vs) :
  Calls P f vs.toArray w fun e w'=>∃v sv st' loc',e = .returned v/\(K sv st').holds/\st'.env=st.env/\(q=true->Below w.heap.size w w')/\Good eT X (aB O st' loc' w')/\
   Tr (aB O st loc w) (aB O st' loc' w')/\bQ eT (aB O st' loc' w') sv v:=by
 have g':Good (Cx.mk eT [] [] [] 0 [] [] [] false [] []).eT X (aB O st loc w):=g
 obtain ⟨t1,g1,e1,k1⟩:=rP lend args g'
 refine Calls.mono (h O _ loc w _ vs K hs g1 hO (k1 _ ha)) ?_
 rintro e w' ⟨v,sv,st',loc',h1,h2,h3,h4,h5,h6,h7⟩
 exact ⟨v,sv,st',loc',h1,h2,h3.trans e1,h4,h5,t1.trans h6,h7⟩
theorem dW {eT:TypeId} {f:FuncId} {ts rts:List Ty} {pre:HL ts->Prop} {post:HL ts->HL rts->Prop} (h:bu P eT X f ts rts pre post) :
  cJ P eT X f true (iv ts rts pre post):=by
 refine ⟨h.fn,tG (lend:=ez rts) (sp:=fun args st K=>match hU (ez rts) st ts args with
  | some xs => .and (pre xs) (.all (HL rts) fun ys => .imp (post xs ys) (K (lI (jx rts ys)) st))
  | none => .ff) fun O st loc w args vs K hs g hO ha => ?_⟩
 split at hs
 ·rename_i xs hx
  exact tE h hx hs.1 (fun ys hy=>hs.2 ys hy) g hO ha
 ·exact hs.elim
theorem aE {eT:TypeId} {f:FuncId} {ts rts:List Ty} {pre:HL ts->Prop} {g:HL ts->HL rts} (h:bu P eT X f ts rts pre (fun xs ys=>ys=g xs)) :
  cJ P eT X f true (aN ts rts pre g):=by
 refine ⟨h.fn,tG (lend:=ez rts) (sp:=fun args st K=>match hU (ez rts) st ts args with
  | some xs => .and (pre xs) (K (lI (jx rts (g xs))) st)
  | none => .ff) fun O st loc w args vs K hs hg hO ha => ?_⟩
 split at hs
 ·rename_i xs hx
  exact tE h hx hs.1 (fun ys hy=>by rw [hy];exact hs.2) hg hO ha
 ·exact hs.elim
theorem Ft {B:Cx} {N:Nat} (h:TyOK P B):ir P (kV B [] N) X:=
 {fit:=h.fit,hE:=h.hE,ep:=h.ep,mixed:=h.mixed,arr:=h.arr,mN:=h.mN,eqs:=h.eqs,ij:=h.ij,jX:=h.jX,lp:=h.lp,calls:=fun f q sp hl=>by simp [kV,look] at hl}
theorem DS {B:Cx} {Γ:List (FuncId × (Bool × bq))} {N:Nat} {f:FuncId} {q:Bool} {sp:bq} (h:cJ P B.eT X f q sp) (hΓ:ir P (kV B Γ N) X):ir P (kV B ((f,q,sp) :: Γ) N) X:=
 {fit:=hΓ.fit,hE:=hΓ.hE,ep:=hΓ.ep,mixed:=hΓ.mixed,arr:=hΓ.arr,mN:=hΓ.mN,eqs:=hΓ.eqs,ij:=hΓ.ij,jX:=hΓ.jX,lp:=hΓ.lp,calls:=fun f' q' sp' hl=>by
   simp only [kV,bm] at hl
   split at hl
   ·rename_i e;subst e;cases hl;exact h
   ·exact hΓ.calls f' q' sp' hl}
end
end Go.Vg

namespace Go.Vg
open Go.RowKit
def Ty.plain:Ty->Bool
 | .err | .cF=>false
 | .prod a b=>a.plain && b.plain
 | .slice e=>e.plain
 | _=>true
def Ty.low:Ty->Bool
 | .slice e=>Nat.blt 0 e.size && e.low
 | .prod a b=>a.low && b.low
 | _=>true
section
variable {H:Type} {enc:TypeId × Value->H} {P:Program} {w:World} {base:Nat} {sp:Nat->Bool} {held:Bool} {eT:TypeId}
theorem Fit.cellsOf {t:TypeId} {ty:Ty} {i:TypeInfo} {d:TypeDesc} (h:Fit P t ty i d):P.cellsOf t=ty.size:=by
 unfold Program.cellsOf;rw [h.info];exact h.size
theorem xO {f:TypeId->Ty->Bool} {cs:List Value} {fuel:Nat}
  (ih:∀t ty,f t ty=true->P.cellsOf t=ty.size/\∀us d ps,ty.plain=true->ty.low=true->DataW.trod enc P w base sp held fuel t us=some (d,ps)->∃x,R eT ty x fp w us) :
  ∀(gs:List Field) (off:Nat) (ty:Ty) (xs:List (DataW H × List MemPlace)),bN f gs off ty=true->ty.plain=true->ty.low=true->
   gs.mapM (fun f=>DataW.trod enc P w base sp held fuel f.type ((cs.drop f.offset).take (P.cellsOf f.type)))=some xs->cs.length=off + ty.size->∃x,R eT ty x fp w (cs.drop off):=by
 intro gs
 induction gs with
 | nil=>
  intro off ty xs h hp hs hm hl
  cases ty <;> simp [bN] at h
  refine ⟨(),?_⟩
  show cs.drop off = []
  exact List.drop_eq_nil_of_le (by simp [Ty.size] at hl;omega)
 | cons g gs ihg=>
  intro off ty xs h hp hs hm hl
  cases ty <;> simp [bN] at h
  rename_i a b
  obtain ⟨⟨⟨h1,h2⟩,h3⟩,h4⟩:=h
  simp only [Ty.plain,Bool.and_eq_true] at hp
  simp only [Ty.size] at hl
  rw [List.mapM_cons] at hm
  obtain ⟨k1,k2⟩:=ih _ _ h2
  subst h1
  rw [k1] at hm
  cases hx:DataW.trod enc P w base sp held fuel g.type ((cs.drop g.offset).take a.size) with
  | none=>simp [hx] at hm
  | some y=>
   cases hxs:gs.mapM (fun f=>DataW.trod enc P w base sp held fuel f.type ((cs.drop f.offset).take (P.cellsOf f.type))) with
   | none=>simp [hx,hxs] at hm
   | some ys=>
    simp only [Ty.low,Bool.and_eq_true] at hs
    obtain ⟨x,rx⟩:=k2 _ y.1 y.2 hp.1 hs.1 hx
    obtain ⟨z,rz⟩:=ihg _ _ _ h4 hp.2 hs.2 hxs (by omega)
    refine ⟨(x,z),_,_,?_,rx,rz⟩
    rw [<-List.drop_drop,List.take_append_drop]
theorem Au:∀(n:Nat) (t:TypeId) (ty:Ty),fits P n t ty=true->P.cellsOf t=ty.size/\∀fuel us d ps,ty.plain=true->ty.low=true->
  DataW.trod enc P w base sp held fuel t us=some (d,ps)->∃x,R eT ty x fp w us:=by
 intro n
 induction n with
 | zero=>intro t ty h;simp [fits] at h
 | succ n ih=>
  intro t ty h
  obtain ⟨m,i,dsc,hm,fit,hsh⟩:=fh h
  cases hm
  refine ⟨fit.cellsOf,fun fuel us d ps hp hs hd => ?_⟩
  cases fuel with
  | zero=>simp [DataW.trod] at hd
  | succ fuel=>
   unfold DataW.trod at hd
   rw [fit.du] at hd
   cases ty with
   | bool=>
    cases dsc <;> simp [bh] at hsh
    split at hd
    case h_1 _ _ b _=>exact ⟨b,rfl⟩
    all_goals simp_all
   | int k=>
    cases dsc <;> simp [bh] at hsh
    subst hsh
    split at hd
    case h_2 _ _ k1 k2 x h0=>
     cases h0
     split at hd
     ·rename_i h1
      obtain ⟨rfl,h1⟩:=h1
      simp only [Lit.wf,Bool.and_eq_true,decide_eq_true_eq] at h1
      exact ⟨x,rfl,h1⟩
     ·cases hd
    all_goals simp_all
   | str=>
    cases dsc <;> simp [bh] at hsh
    split at hd
    case h_4 _ _ s _=>
     split at hd
     ·rename_i h1
      refine ⟨s.data.toList,?_,?_⟩
      ·rw [Array.toArray_toList]
      ·unfold maxLen at h1
       unfold aI
       rw [Array.length_toList]
       exact h1
     ·cases hd
    all_goals simp_all
   | err=>simp [Ty.plain] at hp
   | cF=>simp [Ty.plain] at hp
   | unit=>
    cases dsc <;> simp [bh] at hsh
    rename_i fs
    simp only at hd
    split at hd
    ·rename_i hl
     rw [fit.cellsOf] at hl
     refine ⟨(),?_⟩
     exact List.length_eq_zero_iff.1 hl
    ·cases hd
   | prod a b=>
    cases dsc <;> simp [bh] at hsh
    rename_i fs
    simp only at hd
    split at hd
    ·rename_i hl
     rw [fit.cellsOf] at hl
     cases hxs:fs.toList.mapM (fun f=>DataW.trod enc P w base sp held fuel f.type ((us.drop f.offset).take (P.cellsOf f.type))) with
     | none=>rw [hxs] at hd;simp at hd
     | some xs=>
      obtain ⟨x,hx⟩:=xO (fun t ty hf=>⟨(ih t ty hf).1,(ih t ty hf).2 fuel⟩) _ _ _ _ hsh hp hs hxs (by omega)
      exact ⟨x,by simpa using hx⟩
    ·cases hd
   | slice e=>
    cases dsc <;> simp [bh] at hsh
    rename_i te
    simp only [Ty.low,Bool.and_eq_true] at hs
    have hpos:=gJ hs.1
    obtain ⟨hce,hel⟩:=ih te e hsh
    split at hd
    case h_7=>exact ⟨[],_,rfl,by simp [aI], .inl ⟨rfl,_,_,rfl⟩⟩
    case h_8 _ _ te' b l c h0=>
     cases h0
     simp only at hd
     split at hd
     case isFalse=>cases hd
     rename_i hcond
     obtain ⟨hb,hlc,hcm⟩:=hcond
     obtain ⟨es,hes,_⟩:=Option.bind_eq_some_iff.1 hd
     rw [hce] at hes
     have hlen:=mapM_some_length hes
     simp only [List.length_range] at hlen
     by_cases hl0:l=0
     ·subst hl0
      exact ⟨[],_,rfl,by simp [aI], .inl ⟨rfl,_,_,rfl⟩⟩
     have hspot:b.spot=none:=by
      have h1:=mapM_some_get hes 0 0 (by rw [List.getElem?_range (by omega)])
      rw [List.getElem?_eq_getElem (by omega)] at h1
      obtain ⟨us,hu,hd1⟩:=Option.bind_eq_some_iff.1 h1
      obtain ⟨_,q1,q2⟩:=World.cells?_some hu
      have q3:=q2 0 hpos
      rw [List.getElem?_eq_getElem (by omega)] at q3
      have e0:(b.add (0 * e.size)).add 0=b:=by simp [Addr.add]
      rw [e0] at q3
      unfold World.cell? at q3
      split at q3
      ·cases hb0:b.spot with
       | none=>rfl
       | some k=>rw [hb0] at q3;simp at q3
      ·cases q3
     obtain ⟨bb,oo,so⟩:=b
     simp only at hspot
     subst hspot
     have hget:∀i,i < l->∃x us,R eT e x fp w us/\Row fp w bb (oo + i * e.size) us:=by
      intro i hi
      have h1:=mapM_some_get hes i i (by simp [hi])
      rw [List.getElem?_eq_getElem (by omega)] at h1
      obtain ⟨us,hu,hd1⟩:=Option.bind_eq_some_iff.1 h1
      obtain ⟨_,q1,q2⟩:=World.cells?_some hu
      obtain ⟨x,hx⟩:=hel fuel us (es[i]'(by omega)).1 (es[i]'(by omega)).2 hp hs.2 hd1
      refine ⟨x,us,hx,fun j u hj=>⟨?_,id⟩⟩
      have hjl:j < us.length:=by
       rcases Nat.lt_or_ge j us.length with h | h
       ·exact h
       ·rw [List.getElem?_eq_none h] at hj;cases hj
      have:=q2 j (by omega)
      rw [Addr.add_lit,Addr.add_lit] at this
      rw [this,hj]
     let xs:List (D e):=(List.range l).map fun i=>if h:i < l then (hget i h).choose else bE e
     have hxl:xs.length=l:=by simp [xs]
     have hxi:∀i y,xs[i]?=some y->∃us,R eT e y fp w us/\Row fp w bb (oo + i * e.size) us:=by
      intro i y hy
      have hi:i < l:=by
       rcases Nat.lt_or_ge i l with h | h
       ·exact h
       ·rw [List.getElem?_eq_none (by omega)] at hy;cases hy
      have:xs[i]?=some (hget i hi).choose:=by simp [xs,hi]
      rw [this] at hy
      cases hy
      exact (hget i hi).choose_spec
     refine ⟨xs,_,rfl,?_, .inr ⟨bb,oo,c,?_,?_,hxi⟩⟩
     ·rw [hxl];unfold maxLen at hcm;unfold aI;omega
     ·rw [hxl]
     ·rw [hxl];exact hlc
    all_goals simp_all
theorem DT {n:Nat} {t:TypeId} {ty:Ty} (hf:fits P n t ty=true) (hp:ty.plain=true) (hlow:ty.low=true) {r:Reach} {b:Nat} {v:Value} (hval:Value.okWide P w r b t v) {d:DataW H} {ps:List MemPlace}
  (hd:DataW.Trod enc P w base sp held t v d ps):∃x,VR eT ty x fp w v:=by
 obtain ⟨m,i,dsc,hm,fit,hsh⟩:=fh hf
 obtain ⟨fuel,hd⟩:=hd
 have key:∃x,R eT ty x fp w v.cells.toList:=(Au (eT:=eT) n t ty hf).2 fuel _ _ _ hp hlow hd
 unfold Value.okWide at hval
 rw [fit.du] at hval
 have one:ty.one=true->Cell.okWide P w r b t v->(v.cells.toList = [v])->∃x,VR eT ty x fp w v:=by
  intro h1 h2 h3
  rw [h3] at key
  obtain ⟨x,hx⟩:=key
  exact ⟨x,VR.bt h1 hx⟩
 have agg:ty.one=false->(∃cs,v = .agg cs/\cs.size=P.cellsOf t/\Row.okWide P w r b t cs)->∃x,VR eT ty x fp w v:=by
  rintro h1 ⟨cs,rfl,_,ts,_,_,h2⟩
  obtain ⟨x,hx⟩:=key
  refine ⟨x,?_⟩
  unfold VR
  rw [if_neg (by simp [h1])]
  exact ⟨cs,rfl,hx⟩
 cases ty with
 | err=>simp [Ty.plain] at hp
 | cF=>simp [Ty.plain] at hp
 | prod a b=>cases dsc <;> simp [bh] at hsh;exact agg rfl hval
 | unit=>cases dsc <;> simp [bh] at hsh;exact agg rfl hval
 | bool=>
  cases dsc <;> simp [bh] at hsh
  refine one rfl hval ?_
  cases v <;> simp [Cell.okWide,Cell.ok,fit.du,Value.cells] at hval ⊢
 | int k=>
  cases dsc <;> simp [bh] at hsh
  refine one rfl hval ?_
  cases v <;> simp [Cell.okWide,Cell.ok,fit.du,Value.cells] at hval ⊢
 | str=>
  cases dsc <;> simp [bh] at hsh
  refine one rfl hval ?_
  cases v <;> simp [Cell.okWide,Cell.ok,fit.du,Value.cells] at hval ⊢
 | slice e=>
  cases dsc <;> simp [bh] at hsh
  refine one rfl hval ?_
  cases v <;> simp [Cell.okWide,Cell.ok,fit.du,Value.cells] at hval ⊢
def my (P:Program) (n:Nat):List TypeId->List Ty->Bool
 | [],[]=>true
 | t :: ts,ty :: tys=>fits P n t ty && ty.plain && ty.low && my P n ts tys
 | _,_=>false
theorem B4 {n:Nat} {r:Reach} {b:Nat}:∀(ts:List TypeId) (tys:List Ty) (vs:List Value) (ds:List (DataW H)) (ps:List MemPlace),my P n ts tys=true->
  (∀(j:Nat) t v,ts[j]?=some t->vs[j]?=some v->Value.okWide P w r b t v)->DataW.TrodAll enc P w base sp held ts vs ds ps->∃xs,fo eT fp w tys xs vs:=by
 intro ts
 induction ts with
 | nil=>
  intro tys vs ds ps hf hv h
  cases tys <;> simp [my] at hf
  cases vs <;> cases ds <;> simp [DataW.TrodAll] at h
  exact ⟨(),rfl⟩
 | cons t ts ih=>
  intro tys vs ds ps hf hv h
  cases tys <;> simp [my] at hf
  rename_i ty tys
  obtain ⟨⟨⟨h1,h2⟩,h3⟩,h4⟩:=hf
  cases vs <;> cases ds <;> simp [DataW.TrodAll] at h
  rename_i v vs d ds
  obtain ⟨p,hp,q,hq,_⟩:=h
  obtain ⟨x,hx⟩:=DT (eT:=eT) h1 h2 h3 (hv 0 t v rfl rfl) hp
  obtain ⟨xs,hxs⟩:=ih tys vs ds q h4 (fun j t' v' h1 h2=>hv (j + 1) t' v' h1 h2) hq
  cases tys with
  | nil=>exact ⟨x,v,by rw [show vs = [] from hxs],hx⟩
  | cons ty' tys=>exact ⟨(x,xs),v,vs,rfl,hx,hxs⟩
theorem Av (hl:laidOutB P=true) {W W':World} (hb:Below W.heap.size W W'):∀(ts:List TypeId) (vs:List Value) (ds:List (DataW H)) (ps:List MemPlace),(ts.all fun t=>P.readableRec t && Nat.blt t P.types.size)=true->
  DataW.TrodAll enc P W 0 (fun _=>true) true ts vs ds ps->(∀x∈ps,x.block < W.heap.size)->DataW.TrodAll enc P W' 0 (fun b=>decide (b < W.heap.size)) true ts vs ds ps:=by
 intro ts
 induction ts with
 | nil=>intro vs ds ps _ h _;cases vs <;> cases ds <;> simp [DataW.TrodAll] at h ⊢;exact h
 | cons t ts ih=>
  intro vs ds ps hr h hlt
  simp only [List.all_cons,Bool.and_eq_true] at hr
  cases vs <;> cases ds <;> simp only [DataW.TrodAll] at h ⊢
  rename_i v vs d ds
  obtain ⟨p,q,hp,hq,rfl⟩:=h
  exact ⟨p,q,WideElems.Trod_stays hl hr.1.1 (gJ hr.1.2) hp (fun x hx=>hb.same (hlt x (by simp [hx]))) (fun x hx=>by simpa using hlt x (by simp [hx])),ih vs ds q hr.2 hq (fun x hx=>hlt x (by simp [hx])),rfl⟩
theorem v8:∀{ts:List TypeId} {vs:List Value} {ds:List (DataW H)} {ps:List MemPlace},DataW.TrodAll enc P w base sp held ts vs ds ps->vs.length=ts.length/\ds.length=ts.length
 | [],[],[],_,_=>⟨rfl,rfl⟩
 | _ :: _,_ :: _,_ :: _,_,⟨_,_,_,h,_⟩=>by simp [v8 h]
theorem B5 {X:Ext} {C:Checked} {f:FuncId} {fn:Func} {s:ChangeSpec} {tys:List Ty} {pre:HL tys->Prop} (hs:s.vars = []) (hl:laidOutB C.prog=true)
  (hsp:∀ds:List (DataW H),ds.length=tys.length->s.fn H ds = {results:=[.lit (.bool true)],args:=ds})
  {n:Nat} (hf:my C.prog n fn.params.toList tys=true) (hr:(fn.params.toList.all fun t=>C.prog.readableRec t && Nat.blt t C.prog.types.size)=true)
  {tb:TypeId} (hres:fn.resultTypes = #[tb]) (hb:C.prog.underlying tb=some .bool)
  (h:bu C.prog eT X f tys [.bool] pre (fun _ y=>y=true))
  {W:World} {base:Nat} {args:Array Value} {ds gs:List (DataW H)} {before:List MemPlace}
  (hval:∀(j:Nat) t v,fn.params[j]?=some t->args[j]?=some v->Value.okWide C.prog W .any base t v)
  (hW:DataW.Whole enc C.prog fn.params.toList s.vars false W args.toList ds gs before)
  (hG:X.nU W) (hpre:∀xs,fo eT fp W tys xs args.toList->pre xs) :
  Calls C.prog f args W fun e W'=>∃v,e = .returned v/\s.post enc C.prog fn false true false false W args v W':=by
 have hW0:=hW
 obtain ⟨p,q,hA,hV,rfl,_,_⟩:=hW
 rw [hs] at hV
 obtain ⟨rfl,rfl⟩:gs = []/\q = []:=by cases gs <;> simp [DataW.TrodVars] at hV;exact ⟨rfl,hV⟩
 obtain ⟨xs,hxs⟩:=B4 (eT:=eT) _ _ _ _ _ hf (fun j t v h1 h2=>hval j t v (by rw [<-Array.getElem?_toList];exact h1) (by rw [<-Array.getElem?_toList];exact h2)) hA
 have:=h.ok fp W xs args.toList hG (fun _ _ h=>h.elim) hxs (hpre xs hxs)
 rw [Array.toArray_toList] at this
 refine this.mono ?_
 rintro e W' ⟨us,ys,rfl,rfl,hr',hbel⟩
 obtain ⟨u,rfl,hu⟩:=hr'
 have hu:u = .bool true:=by
  have:=VR.one rfl hu
  simpa [R] using this
 subst hu
 have hlen:ds.length=tys.length:=by
  have h1:=hxs.length
  have h2:=v8 hA
  omega
 simp only [List.append_nil] at hW0 ⊢
 have hlt:∀x∈p,x.block < W.heap.size:=hW0.lt
 refine ⟨_,rfl,ds,[],p,[],p,[],hW0,?_,?_,?_,hbel.frame _,fun hh=>by cases hh⟩
 ·rw [List.append_nil,hsp ds hlen,hres]
  exact ⟨[],[],shut_bool hb true,rfl,rfl⟩
 ·rw [List.append_nil,hsp ds hlen]
  exact Av hl hbel _ _ _ _ hr hA hlt
 ·rw [List.append_nil,hsp ds hlen,hs]
  rfl
end
end Go.Vg

namespace Go.Vg
open Go.RowKit
theorem holds_of {v:VC} {p:Prop} (e:v.holds=p) (h:p):v.holds:=by rw [e];exact h
section
variable {A B:Prop}
theorem iD {p:Prop} [Decidable p] (f:p->A) (g:¬ p->B):(decide p=true->A)/\(decide p=false->B):=⟨fun h=>f (of_decide_eq_true h),fun h=>g (of_decide_eq_false h)⟩
theorem iL {a b:Int} (f:a < b->A) (g:b<=a->B):(decide (a < b)=true->A)/\(decide (a < b)=false->B):=iD f fun h=>g (Int.not_lt.1 h)
theorem iE {a b:Int} (f:a<=b->A) (g:b < a->B):(decide (a<=b)=true->A)/\(decide (a<=b)=false->B):=iD f fun h=>g (Int.not_le.1 h)
theorem iB {b:Bool} (f:b=false->A) (g:b=true->B):((!b)=true->A)/\((!b)=false->B):=⟨fun h=>f (Bool.not_eq_true' b▸h),fun h=>g (Bool.not_eq_false' b▸h)⟩
theorem iQ {α:Type} [BEq α] [LawfulBEq α] {a b:α} (f:a=b->A) (g:¬ a=b->B):((a == b)=true->A)/\((a == b)=false->B):=⟨fun h=>f (eq_of_beq h),fun h=>g fun e=>by rw [e,beq_self_eq_true] at h;cases h⟩
theorem iN {α:Type} [BEq α] [LawfulBEq α] {a b:α} (f:¬ a=b->A) (g:a=b->B):((a != b)=true->A)/\((a != b)=false->B):=
 ⟨fun h=>f fun e=>(by rw [e,bne_self_eq_false] at h;cases h),fun h=>g (by simpa using h)⟩
end
def GK:Ext where
 rel k t x l w:=match k with
  | 0=>eO t x l w
  | 1=>lS t x l w
  | 2=>mK t x l w
  | _=>False
 inside {k t x l w} h:=by
  match k,h with
  | 0,h=>exact eO.inside h
  | 1,h=>exact lS.inside h
  | 2,h=>exact mK.inside h
 ptr {k t x l w} hk h:=by
  match k,hk,h with
  | 0,hk,_=>omega
  | 1,hk,_=>omega
  | 2,_,h=>obtain ⟨rfl,b,p,v,h⟩:=h;exact ⟨_,h.lv⟩
 deep:=Iff.rfl
 map:=Iff.rfl
 ER:=Iff.rfl
 frame {k t x l w w'} h hb:=by
  match k,h with
  | 0,h=>exact eO.frame h hb
  | 1,h=>exact lS.frame h hb
  | 2,h=>exact mK.frame h hb
 nU _:=True
 yy:=[]
 ES _ _ hb:=by cases hb
 u4 _ _:=trivial
def codeOf (fn:Func):Code:=fn.body.getD .skip
def cf (B:Cx) (Γ:List (FuncId × (Bool × bq))) (fn:Func) (anns:ch) (ts rts:List Ty) (post:HL ts->HL rts->Prop) (xs:HL ts):VC:=
 yS B Γ fn.ntmps anns fn.results.toList (codeOf fn) ts rts post xs
def mz (fn:Func) (n:Nat):Bool:=fn.body.isSome && !(fn.name == "runtime.NumGoroutine") && Nat.ble n fn.ntmps
def bF (P:Program) (B:Cx) (X:Ext) (Γ:List (FuncId × (Bool × bq))):Prop:=∀N,ir P (kV B Γ N) X
section
variable {P:Program} {B:Cx} {X:Ext} {Γ:List (FuncId × (Bool × bq))}
theorem bH {f:FuncId} {fn:Func} {ts rts:List Ty} {pre:HL ts->Prop} {post:HL ts->HL rts->Prop} (hok:bF P B X Γ) (hf:P.funcs[f]?=some fn) (hc:mz fn ts.length=true)
  (anns:HL ts->ch) (h:∀xs,dD ts xs->pre xs->(cf B Γ fn (anns xs) ts rts post xs).holds):bu P B.eT X f ts rts pre post:=by
 simp only [mz,Bool.and_eq_true,Bool.not_eq_true'] at hc
 obtain ⟨⟨h1,h2⟩,h3⟩:=hc
 refine As (hok fn.ntmps) hf (c:=codeOf fn) ?_ h2 rfl anns (Nat.le_of_ble_eq_true h3) h
 unfold codeOf
 cases hb:fn.body with
 | none=>rw [hb] at h1;cases h1
 | some c=>rfl
theorem bU (h:TyOK P B):bF P B X []:=fun _=>Ft h
theorem aX {f:FuncId} {q:Bool} {sp:bq} (h:cJ P B.eT X f q sp) (hΓ:bF P B X Γ):bF P B X ((f,q,sp) :: Γ):=fun N=>DS h (hΓ N)
def kB (B:Cx) (l:List Nat):Cx:={B with hint:=l}
theorem bF.hint {l:List Nat} (h:bF P B X Γ):bF P (kB B l) X Γ:=fun N=>
 {fit:=(h N).fit,hE:=(h N).hE,ep:=(h N).ep,mixed:=(h N).mixed,arr:=(h N).arr,mN:=(h N).mN,eqs:=(h N).eqs,ij:=(h N).ij,jX:=(h N).jX,lp:=(h N).lp,calls:=(h N).calls}
def Aw (B:Cx):Cx:={B with wr:=true}
theorem bF.wrap (h:bF P B X Γ):bF P (Aw B) X Γ:=fun N=>
 {fit:=(h N).fit,hE:=(h N).hE,ep:=(h N).ep,mixed:=(h N).mixed,arr:=(h N).arr,mN:=(h N).mN,eqs:=(h N).eqs,ij:=(h N).ij,jX:=(h N).jX,lp:=(h N).lp,calls:=(h N).calls}
theorem kW {α:Type} {l:List (Nat × α)} {n:Nat} {x:α} (h:look l n=some x):(n,x)∈l:=by
 induction l with
 | nil=>cases h
 | cons p r ih=>
  obtain ⟨m,y⟩:=p
  rw [bm] at h
  split at h
  ·rename_i e;subst e;cases h;simp
  ·exact List.mem_cons_of_mem _ (ih h)
def B6 (P:Program) (B:Cx) (n:Nat):Bool:=
 (B.τ.all fun p=>fits P n p.1 p.2) &&
 (match P.underlying B.eT with | some (.int .i64)=>true | _=>false) &&
 (match P.info? B.eT with | some i=>(match i.zero with | some (.int .i64 0)=>true | _=>false) | none=>false) &&
 P.follows .mixedOrders &&
 (B.qg.all fun p=>match P.underlying p.1 with | some (.array m e)=>Nat.beq m p.2.1 && Nat.beq e p.2.2 | _=>false) &&
 (B.qg.all fun p=>match look B.τ p.2.2 with
  | some e=>(match P.info? p.1 with
   | some i=>(match i.zero with
    | some z=>jr e p.2.1 z.cells.toList
    | none=>false)
   | none=>false)
  | none=>true) &&
 B.eqs.all (zX P) && B.ij.all (ve P) &&
 (B.jX.all fun p=>match P.underlying p.1 with
  | some (.map k e)=>Nat.beq k p.2.1 && Nat.beq e p.2.2 && (match P.underlying p.2.1 with | some .string=>true | _=>false) &&
   (match P.info? p.2.2 with
    | some i=>(match i.zero with | some (.agg _)=>true | _=>false)
    | none=>false)
  | _=>false) &&
 (B.lp.all fun p=>match P.info? p.1 with
  | some i=>(match i.zero with
   | some (.agg cs)=>(match cs.toList with
    | [.pointer none, .slice none 0 0]=>true
    | _=>false)
   | _=>false)
  | none=>false)
theorem Fu {n:Nat} (h:B6 P B n=true):TyOK P B:=by
 simp only [B6,Bool.and_eq_true,List.all_eq_true] at h
 obtain ⟨⟨⟨⟨⟨⟨⟨⟨⟨h1,h2⟩,h3⟩,h4⟩,h5⟩,h6⟩,h7⟩,h8⟩,h9⟩,h10⟩:=h
 refine ⟨fun t ty hl=>⟨n,h1 _ (kW hl)⟩,?_,?_,h4,fun t ht=>h7 t (ng ht),fun t ht=>h8 t (ng ht),fun t m e hl => ?_,fun t k e hl => ?_,fun t e hl => ?_,fun t m te e hl he => ?_⟩
 ·split at h2
  ·assumption
  ·cases h2
 ·split at h3
  ·rename_i i hi
   refine ⟨i,hi,?_⟩
   split at h3
   ·assumption
   ·cases h3
  ·cases h3
 ·have:=h5 _ (kW hl)
  simp only at this
  split at this
  ·rename_i m' e' hu
   simp only [Bool.and_eq_true] at this
   rw [hu,Nat.eq_of_beq_eq_true this.1,Nat.eq_of_beq_eq_true this.2]
  ·cases this
 ·have:=h9 _ (kW hl)
  simp only at this
  split at this
  ·rename_i k' e' hu
   simp only [Bool.and_eq_true] at this
   obtain ⟨⟨⟨e1,e2⟩,e3⟩,e4⟩:=this
   rw [hu,Nat.eq_of_beq_eq_true e1,Nat.eq_of_beq_eq_true e2]
   refine ⟨rfl,?_,?_⟩
   ·split at e3
    ·assumption
    ·cases e3
   ·split at e4
    ·rename_i i hi
     split at e4
     ·rename_i cs hz;exact ⟨i,cs,hi,hz⟩
     ·cases e4
    ·cases e4
  ·cases this
 ·have:=h10 _ (kW hl)
  simp only at this
  split at this
  ·rename_i i hi
   split at this
   ·rename_i cs hz
    split at this
    ·rename_i hr
     exact ⟨i,hi,by rw [hz];congr 2;exact Array.toList_inj.1 hr⟩
    ·cases this
   ·cases this
  ·cases this
 ·have:=h6 _ (kW hl)
  simp only [he] at this
  split at this
  ·rename_i i hi
   split at this
   ·rename_i z hz
    exact ⟨i,z,hi,hz,this⟩
   ·cases this
  ·cases this
end
end Go.Vg

namespace Go.Vg
open Go.RowKit
def jy:Nat->List bB->List (Nat × SV)
 | _,[]=>[]
 | k,a :: r=>(k, .s a) :: jy (k + 1) r
def eA (B:Cx) (Γ:List (FuncId × (Bool × bq))) (fn:Func) (anns:ch):bq:=fun args st K=>
 match Nat.ble args.length fn.ntmps with
 | true=>Ar (kV B Γ fn.ntmps) anns fn.results.toList (codeOf fn) {env:=jy 0 args,aC:=st.aC,next:=st.next} fun vs st'=>K (lI vs) {st' with env:=st.env}
 | false => .ff
theorem pY {eT:TypeId} {S:aV}:∀{args:List bB} {vs:List Value} (k:Nat),bI eT S args vs->∀t sv,look (jy k args) t=some sv->k<=t/\∃v,vs[t - k]?=some v/\bQ eT S sv v:=by
 intro args
 induction args with
 | nil=>intro vs k _ t sv h;simp [jy,look] at h
 | cons a r ih=>
  intro vs k hr t sv h
  cases hr with
  | cons h1 h2=>
   simp only [jy,bm] at h
   split at h
   ·rename_i e
    cases h
    subst e
    exact ⟨Nat.le_refl _,_,by simp,h1⟩
   ·rename_i e
    obtain ⟨k1,v,k2,k3⟩:=ih (k + 1) h2 t sv h
    refine ⟨by omega,v,?_,k3⟩
    rw [show t - k=(t - (k + 1)) + 1 by omega]
    simpa using k2
theorem ek {P:Program} {B:Cx} {X:Ext} {Γ:List (FuncId × (Bool × bq))} (hok:bF P B X Γ) {f:FuncId} {fn:Func} (hf:P.funcs[f]?=some fn) (hg:mz fn 0=true) (anns:ch) :
  cJ P B.eT X f false (eA B Γ fn anns):=by
 simp only [mz,Bool.and_eq_true,Bool.not_eq_true'] at hg
 obtain ⟨⟨h1,h2⟩,_⟩:=hg
 obtain ⟨c,hc⟩:=Option.isSome_iff_exists.1 h1
 refine ⟨⟨fn,hf,by rw [hc];rfl,h2⟩,fun O st loc w args vs K hK g hO ha => ?_⟩
 unfold eA at hK
 split at hK
 case h_2=>exact hK.elim
 rename_i hlen
 have hlen:=Nat.le_of_ble_eq_true hlen
 have hcode:codeOf fn=c:=by unfold codeOf;rw [hc];rfl
 rw [hcode] at hK
 have:=l8 (X:=X) (hok fn.ntmps) hf hc (by rfl) anns (O:=O) (loc:=loc) (w:=w) (args:=vs.toArray)
  (st:={env:=jy 0 args,aC:=st.aC,next:=st.next}) (by rw [List.size_toArray,<-ha.len];exact hlen) g hO
  (fun t sv h=>by
   obtain ⟨_,v,k1,k2⟩:=pY 0 ha t sv h
   exact ⟨v,by simpa using k1,k2⟩) hK
 refine this.mono ?_
 rintro e w' ⟨rs,us,st',loc',he,hk,hr,g',tr⟩
 exact ⟨_,_,_,loc',he,hk,rfl,(fun h=>by cases h),g',tr,oL hr⟩
def E0 (st:St) (t k:Nat):Nat:=
 match look st.env t with
 | some (.s (.one (.fn _ caps)))=>caps.getD k 0
 | _=>0
def Gj (ty:Ty) (st:St) (n:Nat):D ty:=
 match look st.aC n with
 | some (.cells _ cs)=>match fG ty cs with
  | some (x,_)=>x
  | none=>bE ty
 | _=>bE ty
end Go.Vg

namespace Go.Vg
open Go.RowKit
def ej:List Cl->St->List bB->List bB × St
 | .d _ :: r,st,v :: vs=>match qE st v with
  | (v',st1)=>match ej r st1 vs with
   | (vs',st2)=>(v' :: vs',st2)
 | .obj _ :: r,st,v :: vs=>match ej r st vs with
  | (vs',st2)=>(v :: vs',st2)
 | .cU :: r,st,v :: vs=>match ej r st vs with
  | (vs',st2)=>(v :: vs',st2)
 | _,st,vs=>(vs,st)
def kd:List (Nat × OC)->List Nat->List (Nat × OC)
 | l,[]=>l
 | l,n :: r=>kd (kN l n) r
def lJ:Ob->Ob->Bool
 | .box T _, .box T' _=>Nat.beq T T'
 | .ext k t, .ext k' t'=>Nat.beq k k' && Ty.beq t t'
 | .row true t, .row true t'=>Ty.beq t t'
 | _,_=>false
def fW:List Ob->List Ob->List Nat->Nat->List Nat
 | o :: os,o' :: os',n :: ns,b=>(match lJ o o' with | true=>n | false=>b) :: fW os os' ns (b + 1)
 | _,_ :: os',_,b=>b :: fW [] os' [] (b + 1)
 | _,[],_,_=>[]
def sO:Nat->List Ob->List Ob->List (Nat × Nat)
 | k,o :: os,o' :: os'=>match lJ o o' with
  | true=>(k,k) :: sO (k + 1) os os'
  | false=>sO (k + 1) os os'
 | _,_,_=>[]
def nu:Nat->List Ob->List Ob->List Nat->Bool
 | k,o :: os,o' :: os',n :: ns=>(match lJ o o' with | true=>Nat.beq n k | false=>true) && nu (k + 1) os os' ns
 | _,_,_,_=>true
structure Alt (aH:List Ob) (args:List Cl):Type 1 where
 cv:Bool:=false
 bp:List Ob
 res:List Cl
 ok:CD args->PD aH->Prop:=fun _ _=>True
 out:CD args->PD aH->PD bp
 ret:CD args->PD aH->CD res
section
variable {aH:List Ob} {args:List Cl}
def uX (al:Alt aH args) (a:CD args) (x:PD aH) (ν:List Nat) (st:St) (K:SV->St->VC):VC:=
 match nodupB (fW aH al.bp ν st.next) && ey (st.next + al.bp.length) (fW aH al.bp ν st.next) with
 | true => .imp (al.ok a x) (K (lI (qA (cX al.bp (al.out a x) (fW aH al.bp ν st.next)) al.res (al.ret a x)))
   {env:=st.env,aC:=fm (cX al.bp (al.out a x) (fW aH al.bp ν st.next)) al.bp (al.out a x) (fW aH al.bp ν st.next)++kd st.aC ν,next:=st.next + al.bp.length})
 | false => .ff
def rQ (a:CD args) (x:PD aH) (ν:List Nat) (st:St) (K:SV->St->VC):List (Alt aH args)->VC
 | [] => .leaf True
 | [al]=>uX al a x ν st K
 | al :: al2 :: r => .both (uX al a x ν st K) (rQ a x ν st K (al2 :: r))
def cH (aH:List Ob) (args:List Cl) (pre:CD args->PD aH->Prop) (alts:List (Alt aH args)):bq:=fun as st K=>
 match ej args st as with
 | (as,st)=>match EX aH args as st.aC [] with
  | some ν=>match nodupB ν,fJ false st.aC aH ν args as,bT false st.aC aH ν aH ν with
   | true,some a,some x=>DO (fR aH x args as++dB aH x st.aC aH ν) (.and (pre a x) (rQ a x ν st K alts))
   | _,_,_ => .ff
  | none => .ff
def kH (aH:List Ob) (args:List Cl) (a:CD args) (x:PD aH):St:=
 {env:=jy 0 (qA (cX aH x (upto 0 aH.length)) args a),aC:=fm (cX aH x (upto 0 aH.length)) aH x (upto 0 aH.length),next:=aH.length}
def pz (a:CD args) (x:PD aH) (vs:List bB) (st:St):List (Alt aH args)->VC
 | [] => .ff
 | al :: r=>match ej al.res st vs with
  | (vs',st')=>match EX al.bp al.res vs' st'.aC (sO 0 aH al.bp) with
   | some ν=>match nodupB ν && (nu 0 aH al.bp ν && (!al.cv || (lD aH && (cw al.bp && dC al.res)))),fJ al.cv st'.aC al.bp ν al.res vs',bT al.cv st'.aC al.bp ν al.bp ν with
    | true,some b,some y => .leaf (Ai (fR al.bp y al.res vs'++dB al.bp y st'.aC al.bp ν++[al.ok a x/\y=al.out a x/\b=al.ret a x]))
    | _,_,_=>pz a x vs st r
   | none=>pz a x vs st r
def fX (B:Cx) (Γ:List (FuncId × (Bool × bq))) (fn:Func) (anns:ch) (aH:List Ob) (args:List Cl) (alts:List (Alt aH args)) (a:CD args) (x:PD aH):VC:=
 Ar (kV B Γ fn.ntmps) anns fn.results.toList (codeOf fn) (kH aH args a x) fun vs st'=>pz a x vs st' alts
def lK:(cls:List Cl)->CD cls->Prop
 | [],_=>True
 | .d t :: r,x=>wf t x.1/\lK r x.2
 | .obj _ :: r,x=>lK r x
 | .cU :: r,x=>lK r x
end
section
variable {eT:TypeId} {X:Ext}
theorem nS {k:Nat}:∀{l:List Nat} {n:Nat},ey k l=true->n∈l->n < k
 | [],_,_,h=>by simp at h
 | m :: r,n,h,hn=>by
  simp only [ey,Bool.and_eq_true] at h
  rcases List.mem_cons.1 hn with e | hn
  ·rw [e];exact gJ h.1
  ·exact nS h.2 hn
theorem fE (m:Nat):∀(ns:List Nat) (l:List (Nat × OC)),look (kd l ns) m=if m∈ns then none else look l m
 | [],l=>by simp [kd]
 | n :: r,l=>by
  simp only [kd]
  rw [fE m r,fO]
  by_cases h1:m∈r
  ·simp [h1]
  ·by_cases h2:n=m
   ·subst h2;simp
   ·have:¬ m=n:=fun e=>h2 e.symm
    simp [h1,h2,this]
theorem lL:∀{aH bp:List Ob} {ν:List Nat} {b i n:Nat},(fW aH bp ν b)[i]?=some n->
  (∃o o',aH[i]?=some o/\bp[i]?=some o'/\lJ o o'=true/\ν[i]?=some n)\/b<=n
 | aH,[],ν,b,i,n,h=>by
  cases aH <;> cases ν <;> simp [fW] at h
 | [],o' :: os',ν,b,i,n,h=>by
  simp only [fW] at h
  cases i with
  | zero=>simp at h;exact .inr (by omega)
  | succ i=>
   rcases lL (aH:=[]) (ν:=[]) (by simpa using h) with ⟨o,_,h1,_⟩ | h1
   ·simp at h1
   ·exact .inr (by omega)
 | o :: os,o' :: os',[],b,i,n,h=>by
  simp only [fW] at h
  cases i with
  | zero=>simp at h;exact .inr (by omega)
  | succ i=>
   rcases lL (aH:=[]) (ν:=[]) (by simpa using h) with ⟨o,_,h1,_⟩ | h1
   ·simp at h1
   ·exact .inr (by omega)
 | o :: os,o' :: os',n0 :: ns,b,i,n,h=>by
  simp only [fW] at h
  cases i with
  | zero=>
   simp only [List.getElem?_cons_zero,Option.some.injEq] at h
   split at h
   ·rename_i hk;exact .inl ⟨o,o',rfl,rfl,hk,by simp [h]⟩
   ·exact .inr (by omega)
  | succ i=>
   rcases lL (by simpa using h) with ⟨a,a',h1,h2,h3⟩ | h1
   ·exact .inl ⟨a,a',by simpa using h1,by simpa using h2,by simpa using h3⟩
   ·exact .inr (by omega)
theorem kX:∀{aH bp:List Ob} {ν:List Nat} {b:Nat},(fW aH bp ν b).length=bp.length
 | aH,[],ν,b=>by cases aH <;> cases ν <;> rfl
 | [],o' :: os',ν,b=>by simp [fW,kX]
 | o :: os,o' :: os',[],b=>by simp [fW,kX]
 | o :: os,o' :: os',n0 :: ns,b=>by simp [fW,kX]
theorem rR:∀{aH bp:List Ob} {ν:List Nat} {k i n:Nat} {o o':Ob},nu k aH bp ν=true->aH[i]?=some o->bp[i]?=some o'->lJ o o'=true->ν[i]?=some n->n=k + i
 | [],_,_,_,_,_,_,_,_,h,_,_,_=>by simp at h
 | _ :: _,[],_,_,_,_,_,_,_,_,h,_,_=>by simp at h
 | _ :: _,_ :: _,[],_,_,_,_,_,_,_,_,_,h=>by simp at h
 | a :: os,a' :: os',m :: ns,k,0,n,o,o',h,h1,h2,h3,h4=>by
  simp at h1 h2 h4
  subst h1;subst h2;subst h4
  simp only [nu,h3,Bool.and_eq_true] at h
  have:=Nat.eq_of_beq_eq_true h.1
  omega
 | a :: os,a' :: os',m :: ns,k,i + 1,n,o,o',h,h1,h2,h3,h4=>by
  simp only [nu,Bool.and_eq_true] at h
  have:=rR h.2 (by simpa using h1) (by simpa using h2) h3 (by simpa using h4)
  omega
theorem tH:∀{l:List Ob} {o:Ob} {t:Ty},lD l=true->o∈l->o≠.tok t
 | [],_,_,_,h=>by simp at h
 | a :: r,o,t,h,ho=>by
  rcases List.mem_cons.1 ho with e | ho
  ·subst e;intro e;subst e;simp [lD] at h
  ·exact tH (by cases a <;> simp_all [lD]) ho
theorem pA {S:aV} {F:Nat->Value->Prop}:∀{cls:List Cl} {x:CD cls} {vs:List Value},lY eT S F cls x vs->lK cls x
 | [],_,_,_=>trivial
 | .d t :: r,x,v :: vs,h=>⟨h.1.wf,pA h.2⟩
 | .obj k :: r,x,v :: vs,h=>pA (cls:=r) h.2
 | .cU :: r,x,v :: vs,h=>pA (cls:=r) h.2
theorem nv {S:aV} {F:Nat->Value->Prop}:∀{cls:List Cl} {x:CD cls} {vs:List Value},lY eT S F cls x vs->vs.length=cls.length
 | [],_,_,h=>by rw [show _ = [] from h];rfl
 | .d t :: r,x,v :: vs,h=>by simp [nv h.2]
 | .obj k :: r,x,v :: vs,h=>by simp [nv (cls:=r) h.2]
 | .cU :: r,x,v :: vs,h=>by simp [nv (cls:=r) h.2]
theorem rS {O:aD} {loc:Nat->Loc} {w:World}:∀(cls:List Cl) (xs:List bB) {st:St},Good eT X (aB O st loc w)->
  Tr (aB O st loc w) (aB O (ej cls st xs).2 loc w)/\Good eT X (aB O (ej cls st xs).2 loc w)/\(ej cls st xs).2.env=st.env/\
   ∀vs,bI eT (aB O st loc w) xs vs->bI eT (aB O (ej cls st xs).2 loc w) (ej cls st xs).1 vs:=by
 intro cls
 induction cls with
 | nil=>intro xs st g;exact ⟨Tr.refl _,g,rfl,fun vs h=>h⟩
 | cons cl r ih=>
  intro xs st g
  cases xs with
  | nil=>cases cl <;> exact ⟨Tr.refl _,g,rfl,fun vs h=>h⟩
  | cons x xs=>
   cases cl with
   | d t=>
    have g':Good (Cx.mk eT [] [] [] 0 [] [] [] false [] []).eT X (aB O st loc w):=g
    obtain ⟨t1,g1,e1,k1⟩:=nt g' x
    obtain ⟨t2,g2,e2,k2⟩:=ih xs g1
    refine ⟨t1.trans t2,g2,e2.trans e1,fun vs h => ?_⟩
    cases h with
    | cons h1 h3=>exact .cons ((k1 _ h1).tr t2) (k2 _ (h3.tr t1))
   | obj k=>
    obtain ⟨t2,g2,e2,k2⟩:=ih xs g
    refine ⟨t2,g2,e2,fun vs h => ?_⟩
    cases h with
    | cons h1 h3=>exact .cons (h1.tr t2) (k2 _ h3)
   | cU=>
    obtain ⟨t2,g2,e2,k2⟩:=ih xs g
    refine ⟨t2,g2,e2,fun vs h => ?_⟩
    cases h with
    | cons h1 h3=>exact .cons (h1.tr t2) (k2 _ h3)
end
end Go.Vg

namespace Go.Vg
open Go.RowKit
section
variable {X:Ext} {P:Program} {aH:List Ob} {args:List Cl}
theorem rT {a:CD args} {x:PD aH} {ν:List Nat} {st:St} {K:SV->St->VC}:∀{alts:List (Alt aH args)},(rQ a x ν st K alts).holds->∀al∈alts,(uX al a x ν st K).holds
 | [],_,al,h=>by simp at h
 | [al0],h,al,ha=>by simp at ha;subst ha;exact h
 | al0 :: al1 :: r,h,al,ha=>by
  rcases List.mem_cons.1 ha with e | ha
  ·subst e;exact h.1
  ·exact rT h.2 al ha
theorem tI {a:CD args} {x:PD aH} {vs:List bB} {st:St}:∀{alts:List (Alt aH args)},(pz a x vs st alts).holds->∃al∈alts,∃ν,
  nodupB ν=true/\nu 0 aH al.bp ν=true/\(al.cv=false\/(lD aH=true/\cw al.bp=true/\dC al.res=true))/\al.ok a x/\
  fJ al.cv (ej al.res st vs).2.aC al.bp ν al.res (ej al.res st vs).1=some (al.ret a x)/\bT al.cv (ej al.res st vs).2.aC al.bp ν al.bp ν=some (al.out a x)/\
  (∀p∈fR al.bp (al.out a x) al.res (ej al.res st vs).1,p)/\(∀p∈dB al.bp (al.out a x) (ej al.res st vs).2.aC al.bp ν,p)
 | [],h=>h.elim
 | al :: r,h=>by
  have rest:(pz a x vs st r).holds->∃al'∈al :: r,∃ν,
    nodupB ν=true/\nu 0 aH al'.bp ν=true/\(al'.cv=false\/(lD aH=true/\cw al'.bp=true/\dC al'.res=true))/\al'.ok a x/\
    fJ al'.cv (ej al'.res st vs).2.aC al'.bp ν al'.res (ej al'.res st vs).1=some (al'.ret a x)/\bT al'.cv (ej al'.res st vs).2.aC al'.bp ν al'.bp ν=some (al'.out a x)/\
    (∀p∈fR al'.bp (al'.out a x) al'.res (ej al'.res st vs).1,p)/\(∀p∈dB al'.bp (al'.out a x) (ej al'.res st vs).2.aC al'.bp ν,p):=fun h=>by
   obtain ⟨al',h1,h2⟩:=tI h
   exact ⟨al',by simp [h1],h2⟩
  simp only [pz] at h
  split at h
  ·rename_i ν hν
   split at h
   ·rename_i b y hc hb hy
    simp only [Bool.and_eq_true,Bool.or_eq_true,Bool.not_eq_true'] at hc
    obtain ⟨h1,h2,h3⟩:=hc
    have hall:=qB h
    have k3:al.ok a x/\y=al.out a x/\b=al.ret a x:=hall _ (List.mem_append_right _ (by simp))
    obtain ⟨k4,k5,k6⟩:=k3
    subst k5;subst k6
    obtain ⟨k1,_⟩:=eH.1 hall
    obtain ⟨k1,k2⟩:=eH.1 k1
    exact ⟨al,by simp,ν,h1,h2,h3,k4,hb,hy,k1,k2⟩
   ·exact rest h
  ·exact rest h
theorem DU {B:Cx} {Γ:List (FuncId × (Bool × bq))} (hok:bF P B X Γ) {f:FuncId} {fn:Func} {c:Code} (hf:P.funcs[f]?=some fn) (hb:fn.body=some c) (hN:args.length<=fn.ntmps) {anns:CD args->PD aH->ch}
  {pre:CD args->PD aH->Prop} {alts:List (Alt aH args)} (h:∀a x,lK args a->pre a x->(fX B Γ fn (anns a x) aH args alts a x).holds)
  {O:aD} {st:St} {loc:Nat->Loc} {w:World} {as:List bB} {vs:List Value} {K:SV->St->VC} (g:Good B.eT X (aB O st loc w)) (hO:ck O w) (ha:bI B.eT (aB O st loc w) as vs)
  {ν:List Nat} {a:CD args} {x:PD aH} (hnd:nodupB ν=true) (hga:fJ false st.aC aH ν args as=some a) (hx:bT false st.aC aH ν aH ν=some x)
  (hp1:∀p∈fR aH x args as,p) (hp2:∀p∈dB aH x st.aC aH ν,p) (hpre:pre a x) (hK:(rQ a x ν st K alts).holds) :
  Calls P f vs.toArray w fun e w'=>∃v sv st' loc',e = .returned v/\(K sv st').holds/\st'.env=st.env/\Good B.eT X (aB O st' loc' w')/\
   Tr (aB O st loc w) (aB O st' loc' w')/\bQ B.eT (aB O st' loc' w') sv v:=by
 have hvals:=tt g hx hga ha hp1
 have hobsl:=kz hx
 let us:=upto 0 aH.length
 have hul:ν.length=us.length:=by rw [ni];exact hobsl.symm
 let O':aD:=fun b off=>O b off\/∃n oc,look st.aC n=some oc/\n∉ν/\b∈(loc n).bs/\oc.lo<=off
 let st0:=kH aH args a x
 have hOin':ck O' w:=by
  rintro b off (h | ⟨n,oc,h1,_,h2,_⟩)
  ·exact hO b off h
  ·exact (g.obj n oc h1).2.inside b h2
 have hlo:∀n∈ν,∀oc,look st.aC n=some oc->lD aH=true->oc.lo=0:=by
  intro n hn oc h1 h2
  obtain ⟨o,oc',y,k1,k2,k3⟩:=fC hx hn
  rw [h1] at k2;cases k2
  have:=(jZ k3 (fun _ => .any)).2.2.2 (fun t=>tH h2 k1) rfl
  cases oc <;> first | rfl | exact (this _ _ rfl).elim
 have hν:∀n∈ν,∃oc,look st.aC n=some oc:=fun n hn=>let ⟨_,oc,_,_,k,_⟩:=fC hx hn;⟨oc,k⟩
 let loc0:=cb us (ν.map loc) loc
 have hf0:∀k oc,look st0.aC k=some oc->∃(i n:Nat) (o:Ob) (y:OD o) (oc0:OC),ν[i]?=some n/\us[i]?=some k/\aH[i]?=some o/\look st.aC n=some oc0/\ed false st.aC aH ν o oc0=some y/\oc=kS (cX aH x us) o y/\loc0 k=loc n:=by
  intro k oc hk
  obtain ⟨i,n,o,y,oc0,k1,k2,k3,k4,k5,k6,_⟩:=ky hx (kx (X:=X) g hx hx hp2) hul hk
  exact ⟨i,n,o,y,oc0,k1,k2,k3,k4,k5,k6,eY (ew _ _) k2 (by simp [k1])⟩
 have hA0:∀b o,(aB O' st0 loc0 w).A b o->(aB O st loc w).A b o:=by
  rintro b off ((h | ⟨n,oc,h1,_,h2,h3⟩) | ⟨k,oc,h1,h2,h3⟩)
  ·exact .inl h
  ·exact .inr ⟨n,oc,h1,h2,h3⟩
  ·obtain ⟨i,n,o,y,oc0,_,_,_,k4,k5,k6,k7⟩:=hf0 k oc h1
   refine .inr ⟨n,oc0,k4,by simp only [aB] at h2;rw [k7] at h2;exact h2,?_⟩
   rcases sM (f:=cX aH x us) k5 with e | e
   ·rw [<-e,<-k6];exact h3
   ·cases e
 have hown0:∀b,(aB O' st0 loc0 w).jo b->∃n∈ν,b∈(loc n).bs:=by
  rintro b ⟨k,oc,h1,h2⟩
  obtain ⟨i,n,o,y,oc0,k1,_,_,_,_,_,k7⟩:=hf0 k oc h1
  exact ⟨n,List.mem_of_getElem? k1,by simp only [aB] at h2;rw [k7] at h2;exact h2⟩
 obtain ⟨g0,laid0⟩:=Al (X:=X) g hx hp2 hnd (O2:=O') (ν2:=us) (rest:=[]) (locR:=loc) (st2:=st0) (ew _ _) hul
  (by simp [st0,kH,us]) (fun n hn=>by have:=nh hn;simp [st0,kH];omega)
  (fun n hn b hb off=>by
   obtain ⟨oc,k⟩:=hν n hn
   rintro (h | ⟨m,oc',h1,h2,h3,_⟩)
   ·exact g.out n oc b off k hb h
   ·exact h2 (by rw [<-g.apart n m oc oc' b k h1 hb h3];exact hn))
  (fun n hn b hb m oc h=>by simp [look] at h) (fun m oc h=>by simp [look] at h) (fun m m' oc oc' b h=>by simp [look] at h) (fun m oc b off h=>by simp [look] at h) (.inr hA0)
  (fun b hb h=>by
   obtain ⟨n,hn,hbn⟩:=hown0 b h
   obtain ⟨oc,k⟩:=hν n hn
   exact g.ig.2 b hb ⟨n,oc,k,hbn⟩)
 have hargs:bI B.eT (aB O' st0 loc0 w) (qA (cX aH x us) args a) vs:=vT (S:=aB O st loc w) (S':=aB O' st0 loc0 w) rfl (fun k v hk=>rD laid0 hk) (.inr hA0) hvals
 have hcode:codeOf fn=c:=by unfold codeOf;rw [hb];rfl
 have hvc:=h a x (pA hvals) hpre
 unfold fX at hvc
 rw [hcode] at hvc
 have hcalls:=l8 (X:=X) (hok fn.ntmps) hf hb (by rfl) (anns a x) (O:=O') (loc:=loc0) (w:=w) (args:=vs.toArray) (st:=st0)
  (by rw [List.size_toArray,nv hvals];exact hN) g0 hOin'
  (fun t sv ht=>by
   obtain ⟨_,v,k1,k2⟩:=pY 0 hargs t sv ht
   exact ⟨v,by simpa using k1,k2⟩) hvc
 refine hcalls.mono ?_
 rintro e w' ⟨rs,us',st',locE,he,hk,hr,gE',trE'⟩
 obtain ⟨al,hal,ν',hnd',hkept,hcv,hokal,hret,hout,hc1,hc2⟩:=tI hk
 obtain ⟨tF,gE,_,kF⟩:=rS al.res rs gE'
 generalize hst2:(ej al.res st' rs).2=st2 at *
 generalize hrs2:(ej al.res st' rs).1=rs2 at *
 have trE:=trE'.trans tF
 have hrE:=kF us' hr
 have hKal:=rT hK al hal
 unfold uX at hKal
 split at hKal
 case h_2=>exact hKal.elim
 rename_i hn1
 simp only [Bool.and_eq_true] at hn1
 obtain ⟨hnd1,hbel⟩:=hn1
 have hKal:=hKal hokal
 generalize hν1:fW aH al.bp ν st.next=ν1 at *
 have hl1:ν'.length=ν1.length:=by rw [<-hν1,kX];exact (kz hout).symm
 generalize hst1:({env:=st.env,aC:=fm (cX al.bp (al.out a x) ν1) al.bp (al.out a x) ν1++kd st.aC ν,next:=st.next + al.bp.length}:St)=st1 at hKal
 have h1env:st1.env=st.env:=by rw [<-hst1]
 have h1objs:st1.aC=fm (cX al.bp (al.out a x) ν1) al.bp (al.out a x) ν1++kd st.aC ν:=by rw [<-hst1]
 have h1next:st1.next=st.next + al.bp.length:=by rw [<-hst1]
 let loc1:=cb ν1 (ν'.map locE) loc
 have hf1:∀m oc,look st1.aC m=some oc->(∃(i n:Nat) (o:Ob) (y:OD o) (oc0:OC),ν'[i]?=some n/\ν1[i]?=some m/\al.bp[i]?=some o/\look st2.aC n=some oc0/\ed al.cv st2.aC al.bp ν' o oc0=some y/\
   oc=kS (cX al.bp (al.out a x) ν1) o y/\loc1 m=locE n)\/(m∉ν1/\m∉ν/\look st.aC m=some oc/\loc1 m=loc m):=by
  intro m oc hm
  rw [h1objs,bY] at hm
  split at hm
  ·rename_i oc' hm'
   cases hm
   obtain ⟨i,n,o,y,oc0,k1,k2,k3,k4,k5,k6,_⟩:=ky hout (kx (X:=X) gE hout hout hc2) hl1 hm'
   exact .inl ⟨i,n,o,y,oc0,k1,k2,k3,k4,k5,k6,eY hnd1 k2 (by simp [k1])⟩
  ·rename_i hm'
   have hnin:m∉ν1:=fun hmem=>by
    obtain ⟨oc1,h2⟩:=j0 (f:=cX al.bp (al.out a x) ν1) (x:=al.out a x) (by rw [<-hν1,kX]) hmem
    rw [h2] at hm';cases hm'
   rw [fE] at hm
   split at hm
   ·cases hm
   ·rename_i hmn
    exact .inr ⟨hnin,hmn,hm,iF hnin⟩
 have hownE:∀n∈ν',∀b∈(locE n).bs,(aB O' st2 locE w').jo b:=by
  intro n hn b hb
  obtain ⟨_,oc,_,_,k,_⟩:=fC hout hn
  exact ⟨n,oc,k,hb⟩
 have hblk:∀m oc,look st.aC m=some oc->m∉ν->∀b∈(loc m).bs,¬ (aB O' st0 loc0 w).jo b:=by
  intro m oc h1 h2 b hb' ho
  obtain ⟨n,hn,hbn⟩:=hown0 b ho
  obtain ⟨oc',k⟩:=hν n hn
  have:=g.apart n m oc' oc b k h1 hbn hb'
  exact h2 (by rw [<-this];exact hn)
 have hA1:al.cv=false->∀b o,(aB O st1 loc1 w').A b o->(aB O' st2 locE w').A b o:=by
  rintro hcv0 b off (h | ⟨m,oc,h1,h2,h3⟩)
  ·exact .inl (.inl h)
  ·rcases hf1 m oc h1 with ⟨i,n,o,y,oc0,k1,k2,k3,k4,k5,k6,k7⟩ | ⟨k1,k2,k3,k4⟩
   ·refine .inr ⟨n,oc0,k4,by simp only [aB] at h2;rw [k7] at h2;exact h2,?_⟩
    rcases sM (f:=cX al.bp (al.out a x) ν1) k5 with e | e
    ·rw [<-e,<-k6];exact h3
    ·rw [hcv0] at e;cases e
   ·exact .inl (.inr ⟨m,oc,k3,k2,by simp only [aB] at h2;rw [k4] at h2;exact h2,h3⟩)
 have hkeep:∀(m i:Nat),ν1[i]?=some m->m < st.next->∃o o',aH[i]?=some o/\al.bp[i]?=some o'/\lJ o o'=true/\ν[i]?=some m:=by
  intro m i h1 h2
  rw [<-hν1] at h1
  rcases lL h1 with h3 | h3
  ·exact h3
  ·omega
 have hT:Tr (aB O st loc w) (aB O st1 loc1 w'):={
  O:=rfl
  next:=by simp only [aB];omega
  os:=trE.os
  output:=trE.output
  size:=trE.size
  own:=by
   rintro b ⟨m,oc,h1,h2⟩
   rcases hf1 m oc h1 with ⟨i,n,o,y,oc0,k1,k2,k3,k4,k5,k6,k7⟩ | ⟨k1,k2,k3,k4⟩
   ·simp only [aB] at h2;rw [k7] at h2
    rcases trE.own b (hownE n (List.mem_of_getElem? k1) b h2) with h3 | h3
    ·obtain ⟨n',hn',hb'⟩:=hown0 b h3
     obtain ⟨oc',k⟩:=hν n' hn'
     exact .inl ⟨n',oc',k,hb'⟩
    ·exact .inr h3
   ·simp only [aB] at h2;rw [k4] at h2;exact .inl ⟨m,oc,k3,h2⟩
  cell:=by
   intro b off v hna hcell
   obtain ⟨h1,h2⟩:=trE.cell b off v (fun h=>hna (hA0 b off h)) hcell
   refine ⟨h1,fun h3 => ?_⟩
   rcases hcv with hcv | ⟨hnt,_,_⟩
   ·exact h2 (hA1 hcv b off h3)
   ·rcases h3 with h3 | ⟨m,oc,h3,h4,h5⟩
    ·exact hna (.inl h3)
    ·rcases hf1 m oc h3 with ⟨i,n,o,y,oc0,k1,k2,k3,k4,k5,k6,k7⟩ | ⟨k1,k2,k3,k4⟩
     ·simp only [aB] at h4;rw [k7] at h4
      rcases trE.own b (hownE n (List.mem_of_getElem? k1) b h4) with h6 | h6
      ·obtain ⟨n',hn',hb'⟩:=hown0 b h6
       obtain ⟨oc',k⟩:=hν n' hn'
       exact hna (.inr ⟨n',oc',k,hb',by rw [hlo n' hn' oc' k hnt];exact Nat.zero_le _⟩)
      ·have:=World.block_lt_of_cell? _ _ hcell
       simp only [aB] at this h6
       omega
     ·simp only [aB] at h4;rw [k4] at h4;exact hna (.inr ⟨m,oc,k3,h4,h5⟩)
  block:=fun b hb' ho=>trE.block b hb' fun h=>ho (by
   obtain ⟨n,hn,hbn⟩:=hown0 b h
   obtain ⟨oc,k⟩:=hν n hn
   exact ⟨n,oc,k,hbn⟩)
  loc:=by
   intro m hm hfix
   by_cases hin:m∈ν1
   ·obtain ⟨i,hi⟩:=List.getElem?_of_mem hin
    obtain ⟨o,o',e1,e2,e3,e4⟩:=hkeep m i hi hm
    have hiE:i < ν'.length:=by rw [hl1];exact aQ hi
    have hn':ν'[i]?=some ν'[i]:=List.getElem?_eq_getElem hiE
    have hni:=rR hkept e1 e2 e3 hn'
    rw [Nat.zero_add] at hni
    have e5:loc1 m=locE i:=by
     have:=eY (d:=loc) hnd1 hi (ls:=ν'.map locE) (l:=locE i) (by simp [hn',hni])
     exact this
    have hui:us[i]?=some i:=by have:=qD aH.length 0 i (aQ e1);simpa using this
    have e6:loc0 i=loc m:=eY (ew _ _) hui (by simp [e4])
    have e7:=trE.loc i (show i < st0.next by simp [st0,kH];exact aQ e1) (fun t ys hy=>by
     obtain ⟨j,n,o2,y,oc0,k1,k2,k3,k4,k5,k6,k7⟩:=hf0 i _ hy
     have hj:j=i:=j9 (ew _ _) k2 hui
     subst hj
     rw [e1] at k3;cases k3
     cases o <;> simp [kS] at k6
     cases o' <;> simp [lJ] at e3)
    show (loc1 m).v=(loc m).v/\(_->loc1 m=loc m)
    rw [e5,<-e6]
    refine ⟨e7.1,fun hr=>e7.2 fun t z hy => ?_⟩
    obtain ⟨j,n,o2,y,oc0,k1,k2,k3,k4,k5,k6,k7⟩:=hf0 i _ hy
    have hj:j=i:=j9 (ew _ _) k2 hui
    subst hj
    rw [e4] at k1;cases k1
    cases o2 <;> simp [kS] at k6
    obtain ⟨rfl,rfl,_⟩:=k6
    obtain ⟨z',rfl⟩:=(jZ k5 (fun _ => .any)).2.1 _ _ rfl
    exact hr _ _ k4
   ·exact gY (iF hin)
  kind:=by
   intro m oc' hm hob
   rcases hf1 m oc' hob with ⟨i,n,o,y,oc0,k1,k2,k3,k4,k5,k6,k7⟩ | ⟨k1,k2,k3,k4⟩
   ·obtain ⟨o0,o',e1,e2,e3,e4⟩:=hkeep m i k2 hm
    rw [k3] at e2;cases e2
    have hui:us[i]?=some i:=by have:=qD aH.length 0 i (aQ e1);simpa using this
    obtain ⟨oc2,h2⟩:=j0 (f:=cX aH x us) (x:=x) (ms:=us) (by rw [ni]) (List.mem_of_getElem? hui)
    obtain ⟨j,n2,o2,y2,oc3,j1,j2,j3,j4,j5,j6,j7⟩:=hf0 i oc2 (by simpa [st0,kH] using h2)
    have hj:j=i:=j9 (ew _ _) j2 hui
    subst hj
    rw [e1] at j3;cases j3
    rw [e4] at j1;cases j1
    refine ⟨oc3,j4,?_⟩
    cases o0 <;> cases o <;> simp [lJ] at e3
    ·subst e3
     obtain ⟨cs,rfl⟩:=(jZ j5 (fun _ => .any)).1 _ _ rfl
     rw [k6]
     rfl
    ·rename_i kp t kp' t'
     cases kp <;> cases kp' <;> simp at e3
     have e3:=Ty.eq_of_beq e3
     subst e3
     obtain ⟨xs,rfl⟩:=(jZ j5 (fun _ => .any)).2.2.1 _ _ rfl rfl
     rw [k6]
     rfl
    ·obtain ⟨e3,e4⟩:=e3
     have e4:=Ty.eq_of_beq e4
     subst e3;subst e4
     obtain ⟨z,rfl⟩:=(jZ j5 (fun _ => .any)).2.1 _ _ rfl
     rw [k6]
     exact ⟨rfl,rfl⟩
   ·refine ⟨oc',k3,?_⟩
    cases oc' <;> simp [aL,aB,k4]}
 obtain ⟨g1,laid1⟩:=Al (X:=X) gE hout hc2 hnd' (O2:=O) (ν2:=ν1) (rest:=kd st.aC ν) (locR:=loc) (st2:=st1) hnd1 hl1 h1objs
  (fun n hn=>by rw [h1next];exact nS hbel hn)
  (fun n hn b hb' off h=>by
   obtain ⟨_,oc,_,_,k,_⟩:=fC hout hn
   exact gE.out n oc b off k hb' (.inl h))
  (fun n hn b hb' m oc h1 h2 h3=>by
   rw [fE] at h1
   split at h1
   ·cases h1
   ·rename_i hmn
    rcases trE.own b (hownE n hn b hb') with h4 | h4
    ·exact hblk m oc h1 hmn b h3 h4
    ·have:=(g.obj m oc h1).2.inside b h3
     simp only [aB] at this h4
     omega)
  (fun m oc h1 h2=>by
   rw [fE] at h1
   split at h1
   ·cases h1
   ·rename_i hmn
    obtain ⟨k1,k2⟩:=g.obj m oc h1
    refine ⟨by rw [h1next];simp only [aB] at k1;omega,k2.tr hT fun b hb' => ?_⟩
    exact trE.block b (k2.inside b hb') (hblk m oc h1 hmn b hb'))
  (fun m m' oc oc' b h1 h2 _ _ h3 h4=>by
   rw [fE] at h1 h2
   split at h1
   ·cases h1
   ·split at h2
    ·cases h2
    ·exact g.apart m m' oc oc' b h1 h2 h3 h4)
  (fun m oc b off h1 _ h2=>by
   rw [fE] at h1
   split at h1
   ·cases h1
   ·exact g.out m oc b off h1 h2)
  (by
   rcases hcv with hcv | ⟨_,hcv,_⟩
   ·exact .inr (hA1 hcv)
   ·exact .inl hcv)
  (g.ig.tr hT).2
 have hres:=tt gE hout hret hrE hc1
 refine ⟨_,_,st1,loc1,he,hKal,h1env,g1,hT,oL (vT (S:=aB O' st2 locE w') (S':=aB O st1 loc1 w') rfl (fun k v hk=>rD laid1 hk) ?_ hres)⟩
 rcases hcv with hcv | ⟨_,_,hcv⟩
 ·exact .inr (hA1 hcv)
 ·exact .inl hcv
theorem da {B:Cx} {Γ:List (FuncId × (Bool × bq))} (hok:bF P B X Γ) {f:FuncId} {fn:Func} (hf:P.funcs[f]?=some fn) (hg:mz fn args.length=true) (anns:CD args->PD aH->ch)
  {pre:CD args->PD aH->Prop} {alts:List (Alt aH args)} (h:∀a x,lK args a->pre a x->(fX B Γ fn (anns a x) aH args alts a x).holds) :
  cJ P B.eT X f false (cH aH args pre alts):=by
 simp only [mz,Bool.and_eq_true,Bool.not_eq_true'] at hg
 obtain ⟨⟨h1,h2⟩,h3⟩:=hg
 obtain ⟨c,hc⟩:=Option.isSome_iff_exists.1 h1
 refine ⟨⟨fn,hf,by rw [hc];rfl,h2⟩,fun O st loc w as vs K hK g hO ha => ?_⟩
 unfold cH at hK
 obtain ⟨t1,g1,e1,k1⟩:=rS args as g
 simp only at hK
 split at hK
 case h_2=>exact hK.elim
 rename_i ν hν
 split at hK
 case h_2=>exact hK.elim
 rename_i a x hnd hga hx
 obtain ⟨hp,hpre,hK⟩:=vR hK
 obtain ⟨hp1,hp2⟩:=eH.1 hp
 refine (DU hok hf hc (Nat.le_of_ble_eq_true h3) h g1 hO (k1 vs ha) hnd hga hx hp1 hp2 hpre hK).mono ?_
 rintro e w' ⟨v,sv,st',loc',q1,q2,q3,q4,q5,q6⟩
 exact ⟨v,sv,st',loc',q1,q2,q3.trans e1,(fun hq=>by cases hq),q4,t1.trans q5,q6⟩
end
end Go.Vg

namespace Go.Vg
@[reducible] def aF:Ty:=.prod .str (.prod (.int .i64) (.prod .bool .unit))
@[reducible] def aO:Ty:=.prod (.int .i64) (.prod (.int .i64) .unit)
@[reducible] def aJ:Ty:=.prod (.int .i64) (.prod (.int .i64) (.prod (.int .i64) (.prod .str (.prod .bool .unit))))
@[reducible] def aT:Ty:=.prod (.int .i64) (.prod (.int .i64) (.prod (.int .i64) .unit))
@[reducible] def nw:Ty:=.prod .str (.prod (.int .i64) (.prod (.int .i64) .unit))
@[reducible] def aA:Ty:=.prod (.slice .str) (.prod (.slice (.int .i64)) (.prod (.slice aF) (.prod (.slice aJ) .unit)))
@[reducible] def gU:Ty:=.prod .str (.prod (.slice nw) (.prod (.slice aT) .unit))
@[reducible] def DV:Ty:=.prod .str (.prod .str (.prod .str (.prod (.int .i64) (.prod (.int .u64) (.prod gU .unit)))))
@[reducible] def eQ:Ty:=.prod .str (.prod (.int .i64) (.prod (.slice (.int .i64)) .unit))
@[reducible] def uY:Ty:=.prod (.int .i64) (.prod .str .unit)
@[reducible] def E1:Ty:=.prod (.slice .str) (.prod (.slice .str) (.prod (.slice uY) (.prod (.int .i64) (.prod .bool .unit))))
theorem bl :
  (∀(p:Prop) [Decidable p],(decide p=true)=p)/\(∀(p:Prop) [Decidable p],(decide p=false)=¬ p)/\
  (∀(α:Type) [BEq α] [LawfulBEq α] (a b:α),((a == b)=true)=(a=b))/\(∀(α:Type) [BEq α] [LawfulBEq α] (a b:α),((a == b)=false)=¬ a=b)/\
  (∀(α:Type) [BEq α] [LawfulBEq α] (a b:α),((a != b)=true)=¬ a=b)/\(∀(α:Type) [BEq α] [LawfulBEq α] (a b:α),((a != b)=false)=(a=b))/\
  (∀b:Bool,((!b)=true)=(b=false))/\(∀b:Bool,((!b)=false)=(b=true))/\(∀b:Bool,(¬ b=true)=(b=false))/\(∀b:Bool,(¬ b=false)=(b=true))/\
  (∀a b:Bool,((a && b)=true)=(a=true/\b=true))/\(∀a b:Bool,((a || b)=true)=(a=true\/b=true))/\
  (∀a b:Bool,((a && b)=false)=(a=false\/b=false))/\(∀a b:Bool,((a || b)=false)=(a=false/\b=false))/\
  (∀a b:Int,(¬ a < b)=(b<=a))/\(∀a b:Int,(¬ a<=b)=(b < a)):=by
 refine ⟨?_,?_,?_,?_,?_,?_,?_,?_,?_,?_,?_,?_,?_,?_,?_,?_⟩ <;> intros <;> first | (simp;done) | (rename_i a b;cases a <;> cases b <;> simp)
end Go.Vg

namespace Go.Vg
open Go.RowKit
theorem Gk {w:World} {b i:Nat} {c:Array Value} {T:TypeId} {v:Value} (hb:w.heap[b]?=some (.cells c T (0,0))):(w.setCell ⟨b,i,none⟩ v).heap[b]?=some (.cells (c.setIfInBounds i v) T (0,0)):=by
 simp [World.setCell,Array.getElem?_modify,hb]
theorem Fv {P:Program} {w:World} {t u ty e:TypeId} {i:TypeInfo} (ht:P.underlying t=some (.slice e)) (hu:P.underlying u=some .string) (hi:P.info? e=some i) (hz:i.zero=some (.int .u8 0))
  (hsize:i.size=1) (hby:i.bytes=1) {v:Value} {xs:List Value} (hown:w.ownsRow 0 e 1 v xs.length xs) (hcap:∀a n c,v = .slice (some a) n c->0 < c) (s:ByteArray) (hlen:xs.length + s.size<=140737488355328) :
  ∃v' w',(Builtin.append_ #[t,u] ty #[v, .string s]).run P w = .ok v' w'/\w'.ownsRow 0 e 1 v' (xs.length + s.size) (xs++Lib.strCells s)/\w.grownBy w' v.ownBlock/\(∀a n c,v' = .slice (some a) n c->0 < c)/\
   (∀g,v'.ownBlock=some g->v.ownBlock=some g\/w.heap.size<=g):=by
 rcases hown.2 with ⟨rfl,h0⟩ | ⟨g,cap,cur,rfl,hbg,hg,hnc,hcm,hcs,htake⟩
 ·have hown':w.ownsRow w.heap.size e 1 (.slice none 0 0) xs.length xs:=⟨hown.1, .inl ⟨rfl,h0⟩⟩
  obtain ⟨v',w',h1,h2,h3,h4⟩:=Lib.run_append_own_string (P:=P) w w.heap.size t u ty e i ht hu hi hz hsize hby _ _ _ hown' s (by unfold maxLen;omega) hlen (Nat.le_refl _)
  rcases h2.2 with ⟨rfl,h6⟩ | ⟨g,cap,cur,rfl,k1,k2,k3,k4⟩
  ·exact ⟨_,w',h1,⟨h2.1, .inl ⟨rfl,h6⟩⟩,h3,(fun a n c hh=>by cases hh),(fun g hh=>by cases hh)⟩
  ·refine ⟨_,w',h1,⟨h2.1, .inr ⟨g,cap,cur,rfl,Nat.zero_le _,k2,k3,k4⟩⟩,h3,fun a n c hh => ?_,fun g' hh=>by cases hh;exact .inr k1⟩
   cases hh
   by_cases hs:s.size=0
   ·have:=h4.2 ⟨rfl,hs⟩;cases this
   ·omega
 ·have hc0:=hcap _ _ _ rfl
  by_cases hroom:xs.length + s.size<=cap
  ·obtain ⟨w',h1,h2,h3⟩:=Lib.run_append_fits_string (P:=P) w 0 t u ty e i ht hu hi hsize _ _ _ _ hown s hc0 hroom
   exact ⟨_,w',h1,h2,h3,(fun a n c hh=>by cases hh;exact hc0),(fun g' hh => .inl hh)⟩
  ·have holds:∀j u,xs[j]?=some u->w.cell? ((⟨g,0,none⟩:Addr).add j)=some u:=hown.cells (g:=g) rfl
   have hr:=Lib.run_append_grow_string (P:=P) w t u ty e i (.int .u8 0) ht hu hi hz ⟨g,0,none⟩ xs.length cap xs (by rw [hsize];simp) holds s (by omega) (by omega) (by rw [hby];exact growslice_fits (by omega) (by omega))
   have hge:=grownCap_ge w (xs.length + s.size) cap e
   have hcm':grownCap w (xs.length + s.size) cap e<=maxLen:=grownCap_le_maxLen w (xs.length + s.size) cap e (by unfold maxLen;omega)
   refine ⟨_,_,hr,⟨by simp [Lib.strCells_length], .inr ⟨w.heap.size,_,_,rfl,Nat.zero_le _,heap_alloc_new w.drew _,hge,hcm',?_,?_⟩⟩,⟨rfl,rfl,rfl,by simp,fun k hk _=>Go.Deep.blk_alloc_lt w.drew _ k hk⟩,(fun a n c hh=>by cases hh;omega),(fun g' hh=>by cases hh;exact .inr (Nat.le_refl _))⟩
   ·have hz1:(Value.int IntKind.u8 0).cells.size=1:=rfl
    simp only [Array.size_append,List.size_toArray,size_zeroCells,hz1,Lib.strCells_length]
    omega
   ·simp only [Array.toList_append,List.append_assoc]
    rw [<-List.append_assoc]
    have:(xs++Lib.strCells s).length=(xs.length + s.size) * 1:=by simp [Lib.strCells_length]
    rw [<-this]
    exact List.take_left
theorem pL {P:Program} {w w':World} {ops:Array Oper} {rest:List Oper} {o:Oper} {a:Act} {Q:Exit->Act->World->Prop} (hgd:o.guard=none) (sl x:Operand) (t u:TypeId)
  (ho:o.op = .call {callee:=.builtin .append,args:=#[sl,x],argTypes:=#[t,u]}) {v v' y:Value} (hs:a.eval sl=v) (hx:a.eval x=y)
  (hr:(Builtin.append_ #[t,u] o.type #[v,y]).run P w = .ok v' w') (h:wpList P ops Q rest (a.put o.dst v') w'):wpList P ops Q (o :: rest) a w:=by
 refine wpList_plain hgd fun K hK => ?_
 unfold Oper.wp execOp
 simp only [ho,resolve,invoke,builtin,Sem.run_bind,Sem.run_pure,Result.andThen_ok,List.map_toArray,List.map_cons,List.map_nil,hs,hx,hr]
 exact hK _ _ h
structure Kept (b:Nat) (v:Value) (w w':World):Prop where
 os:w'.os=w.os
 output:w'.output=w.output
 size:w.heap.size<=w'.heap.size
 block:∀k,k < w.heap.size->k≠b->v.ownBlock≠some k->w'.heap[k]?=w.heap[k]?
structure Ax (v:Value) (w w':World):Prop where
 os:w'.os=w.os
 output:w'.output=w.output
 size:w'.heap.size=w.heap.size
 block:∀k,v.ownBlock≠some k->w'.heap[k]?=w.heap[k]?
theorem xP {w:World} {g n c:Nat} {m:Nat}:Ax (.slice (some ⟨g,0,none⟩) n c) w (w.drew.freeze ⟨g,0,none⟩ m):=by
 unfold World.freeze
 split
 ·exact ⟨rfl,rfl,rfl,fun _ _=>rfl⟩
 ·refine ⟨rfl,rfl,by simp,fun k hk => ?_⟩
  have:k≠g:=fun e=>hk (by rw [e];rfl)
  simp only [Array.getElem?_modify]
  rw [if_neg (fun e=>this e.symm)]
  rfl
def nx (T e:Nat):bq:=fun args st K=>
 match args with
 | [.one (.cA n), .one (.d .str s)]=>match look st.aC n with
  | some (.ext 2 t x)=>match h:Ty.beq t eG with
   | true => .and ((bn h x).2.1=(T:Int)/\(bn h x).2.2.1=(e:Int)/\(bn h x).1.length + s.length<=140737488355328)
     (K (.gA [.one (.d (.int .i64) (s.length:Int)), .one (.d .err .nil)]) (setObj st n (.ext 2 eG ((bn h x).1++bD s,(T:Int),(e:Int),()))))
   | false => .ff
  | _ => .ff
 | _ => .ff
def lM (T e:Nat):bq:=fun args st K=>
 match args with
 | [.one (.cA n)]=>match look st.aC n with
  | some (.ext 2 t x)=>match h:Ty.beq t eG with
   | true => .and ((bn h x).2.1=(T:Int)/\(bn h x).2.2.1=(e:Int)) (K (.s (.one (.d .str (bytesOf (bn h x).1)))) (aS st n))
   | false => .ff
  | _ => .ff
 | _ => .ff
def rU (T e:Nat):bq:=fun args st K=>
 match args with
 | [.one (.cA n)]=>match look st.aC n with
  | some (.ext 2 t x)=>match h:Ty.beq t eG with
   | true => .and ((bn h x).2.1=(T:Int)/\(bn h x).2.2.1=(e:Int)) (K (.s (.one (.d (.int .i64) ((bn h x).1.length:Int)))) st)
   | false => .ff
  | _ => .ff
 | _ => .ff
section
variable {P:Program} {eT:TypeId} {X:Ext} {f:FuncId}
theorem wa {O:aD} {st:St} {loc:Nat->Loc} {w:World} (g:Good eT X (aB O st loc w)) {n:Nat} {x:D eG} (hob:look st.aC n=some (.ext 2 eG x)) {v:Value} (hv:CR eT (aB O st loc w) (.cA n) v) :
  ∃b p u,v = .pointer (some ⟨b,0,none⟩)/\FV x (loc n) w b p u:=by
 obtain ⟨h0,b,p,u,hD⟩:=X.ER.1 (g.obj n _ hob).2
 exact ⟨b,p,u,(hv.2 _ hob rfl).trans hD.lv,hD⟩
theorem Ay (s:List UInt8):bytesOf (bD s)=s:=by
 induction s with
 | nil=>rfl
 | cons c r ih=>
  simp only [bytesOf,bD,List.map_cons,List.map_map] at ih ⊢
  rw [ih]
  simp
theorem Az {xs:List Int} (h:∀y∈xs,0<=(y:Int)/\(y:Int)<=255):bD (bytesOf xs)=xs:=by
 induction xs with
 | nil=>rfl
 | cons y r ih=>
  have h1:=h y (by simp)
  have h2:=ih fun z hz=>h z (by simp [hz])
  simp only [bD,bytesOf,List.map_map,List.map_cons] at h2 ⊢
  rw [h2]
  congr 1
  simp only [UInt8.toNat_ofNat']
  omega
theorem AA (s:List UInt8):∀y∈bD s,0<=(y:Int)/\(y:Int)<=255:=by
 intro y hy
 simp only [bD,List.mem_map] at hy
 obtain ⟨c,_,rfl⟩:=hy
 have:=c.toNat_lt
 omega
theorem DW {xs:List Int} (h:∀y∈xs,0<=(y:Int)/\(y:Int)<=255):xs.map (Value.int .u8)=(bytesOf xs).map fun c=>Value.int .u8 c.toNat:=by
 conv=>lhs;rw [<-Az h]
 simp [bD]
theorem rV {T e:Nat} (hfn:∃fn,P.funcs[f]?=some fn/\fn.body.isNone=false/\(fn.name == "runtime.NumGoroutine")=false)
  (H:∀(b:Nat) (p v:Value) (xs:List Value) (s:ByteArray) (w:World),w.heap[b]?=some (.cells #[p,v] T (0,0))->(p = .pointer none\/p = .pointer (some ⟨b,0,none⟩))->w.ownsRow 0 e 1 v xs.length xs->v.ownBlock≠some b->
   (∀a n c,v = .slice (some a) n c->0 < c)->xs.length + s.size<=140737488355328->
   Calls P f #[.pointer (some ⟨b,0,none⟩), .string s] w fun r w'=>r = .returned (.tuple #[.int .i64 s.size, .nilIface])/\
    ∃v',w'.heap[b]?=some (.cells #[.pointer (some ⟨b,0,none⟩),v'] T (0,0))/\w'.ownsRow 0 e 1 v' (xs.length + s.size) (xs++Lib.strCells s)/\v'.ownBlock≠some b/\Kept b v w w'/\
     (∀a n c,v' = .slice (some a) n c->0 < c)/\(∀g,v'.ownBlock=some g->v.ownBlock=some g\/w.heap.size<=g)) :
  cJ P eT X f false (nx T e):=by
 refine ⟨hfn,fun O st loc w args vs K hs g hO ha => ?_⟩
 unfold nx at hs
 split at hs
 case h_2=>exact hs.elim
 rename_i n s
 split at hs
 case h_2=>exact hs.elim
 rename_i t x hob
 split at hs
 case h_2=>exact hs.elim
 rename_i ht
 have ht':=Ty.eq_of_beq ht
 subst ht'
 rw [dN] at hs
 obtain ⟨⟨hT,he,hlen⟩,hs⟩:=hs
 match vs,ha with
 | [v0,v1], .cons h0 (.cons h1 .nil)=>
 obtain ⟨b,p,u,rfl,hD⟩:=wa g hob h0
 obtain ⟨rfl,hsl⟩:=dS.1 (show CR eT _ (.d .str s) v1 from h1)
 have hsz:(⟨s.toArray⟩:ByteArray).size=s.length:=by simp [ByteArray.size]
 have hT':x.2.1.toNat=T:=by rw [hT];rfl
 have he':x.2.2.1.toNat=e:=by rw [he];rfl
 have hheap:=hD.heap
 have hrow:=hD.row
 rw [hT'] at hheap
 rw [he'] at hrow
 refine (H b p u (x.1.map (Value.int .u8)) ⟨s.toArray⟩ w hheap hD.ptr (by simpa using hrow) hD.ne hD.cap (by simpa [hsz] using hlen)).mono ?_
 rintro r w' ⟨rfl,v',k1,k2,k3,k4,k5,k6⟩
 have hlt:b < w.heap.size:=(Array.getElem?_eq_some_iff.1 hheap).1
 obtain ⟨tr1,g1⟩:=jq (S:=aB O st loc w) (S':=aB O (setObj st n (.ext 2 eG (x.1++bD s,(T:Int),(e:Int),()))) (bc loc n ⟨.pointer (some ⟨b,0,none⟩),b :: v'.ownBlock.toList⟩) w') (n:=n)
  (oc:=.ext 2 eG x) (oc':=.ext 2 eG (x.1++bD s,(T:Int),(e:Int),())) (l':=⟨.pointer (some ⟨b,0,none⟩),b :: v'.ownBlock.toList⟩) g rfl hO hob
  (fun m=>il st n m _) (fun _=>rfl) rfl (fun _=>⟨hD.lv.symm,fun h=>(h _ _ rfl).elim⟩) ⟨rfl,rfl⟩ k4.os k4.output k4.size
  (fun b' h1 h2=>k4.block b' h1 (fun e=>h2 (by simp only [aB];rw [hD.bs,e];simp)) (fun e=>h2 (by simp only [aB];rw [hD.bs,e];simp)))
  (fun b' o v _ ho=>by simp [OC.lo] at ho)
  (fun b' hb'=>by
   rcases List.mem_cons.1 hb' with rfl | hb'
   ·exact .inl ⟨by simp only [aB];rw [hD.bs];simp,Nat.le_refl _⟩
   ·have hb':v'.ownBlock=some b':=by simpa using hb'
    rcases k6 b' hb' with h | h
    ·exact .inl ⟨by simp only [aB];rw [hD.bs,h];simp,Nat.le_refl _⟩
    ·exact .inr h)
 have g1:=g1 (X.ER.2 ⟨rfl,b, .pointer (some ⟨b,0,none⟩),v',rfl, .inr rfl,k1,by
  have e1:x.1.map (Value.int .u8)++Lib.strCells ⟨s.toArray⟩=(x.1++bD s).map (Value.int .u8):=by rw [pR,List.map_append]
  have e2:(x.1.map (Value.int .u8)).length + (⟨s.toArray⟩:ByteArray).size=(x.1++bD s).length:=by simp [hsz,bD]
  rw [e1,e2] at k2
  exact k2,rfl,k3,(fun y hy=>by
   rcases List.mem_append.1 hy with h | h
   ·exact hD.u8 y h
   ·exact AA s y h),k5⟩)
 refine ⟨_,_,_,_,rfl,hs,rfl,(fun hh=>by cases hh),g1,tr1,⟨[.int .i64 (⟨s.toArray⟩:ByteArray).size, .nilIface],rfl, .cons ?_ (.cons ?_ .nil)⟩⟩
 ·refine bC.2 ⟨by rw [hsz],?_⟩
  simp only [IntKind.min,IntKind.max,IntKind.signed,IntKind.bits]
  unfold aI at hsl
  constructor <;> simp <;> omega
 ·exact gl.2 rfl
theorem AB {O:aD} {st:St} {loc:Nat->Loc} {w w':World} (g:Good eT X (aB O st loc w)) {n:Nat} {oc0:OC} (hn:look st.aC n=some oc0) (h0:oc0.lo=0)
  (hos:w'.os=w.os) (hout:w'.output=w.output) (hsz:w.heap.size<=w'.heap.size) (hb:∀b,b < w.heap.size->b∉(loc n).bs->w'.heap[b]?=w.heap[b]?) :
  Tr (aB O st loc w) (aB O (aS st n) loc w')/\Good eT X (aB O (aS st n) loc w'):=by
 have hob:∀m oc,look (aS st n).aC m=some oc->m≠n/\look st.aC m=some oc:=by
  intro m oc h
  simp only [aS] at h
  rw [fO] at h
  split at h
  ·cases h
  ·rename_i hne;exact ⟨fun e=>hne e.symm,h⟩
 have hA:∀b o,(aB O (aS st n) loc w').A b o->(aB O st loc w).A b o:=by
  rintro b o (h | ⟨m,oc,h1,h2⟩)
  ·exact .inl h
  ·exact .inr ⟨m,oc,(hob _ _ h1).2,h2⟩
 have ht:Tr (aB O st loc w) (aB O (aS st n) loc w'):={
  O:=rfl
  next:=Nat.le_refl _
  os:=hos
  output:=hout
  size:=hsz
  own:=fun b h=>by obtain ⟨m,oc,h1,h2⟩:=h;exact .inl ⟨m,oc,(hob _ _ h1).2,h2⟩
  cell:=fun b o v h1 h2=>by
   have hlt:=World.block_lt_of_cell? w _ h2
   refine ⟨?_,fun h=>h1 (hA b o h)⟩
   show w'.cell? _=_
   rw [World.cell?_of_block (w:=w) (w':=w') (a:=⟨b,o,none⟩) (hb b hlt fun hm=>h1 (.inr ⟨n,oc0,hn,hm,by rw [h0];exact Nat.zero_le _⟩))]
   exact h2
  block:=fun b h1 h2=>hb b h1 fun hm=>h2 ⟨n,oc0,hn,hm⟩
  loc:=fun _ _ _=>gY rfl
  kind:=fun m oc _ h=>⟨oc,(hob _ _ h).2,by cases oc <;> simp [aL,aB]⟩}
 refine ⟨ht,⟨fun m oc h => ?_,fun m1 m2 oc1 oc2 b h1 h2 h3 h4 => ?_,fun m oc b off h1 h2 => ?_,g.ig.tr ht⟩⟩
 ·obtain ⟨hne,h⟩:=hob _ _ h
  obtain ⟨h1,h2⟩:=g.obj m oc h
  exact ⟨h1,h2.tr ht fun b hbm=>hb b (h2.inside b hbm) fun hbn=>hne (g.apart m n oc oc0 b h hn hbm hbn)⟩
 ·exact g.apart m1 m2 oc1 oc2 b (hob _ _ h1).2 (hob _ _ h2).2 h3 h4
 ·exact g.out m oc b off (hob _ _ h1).2 h2
theorem qF {T e:Nat} (hfn:∃fn,P.funcs[f]?=some fn/\fn.body.isNone=false/\(fn.name == "runtime.NumGoroutine")=false)
  (H:∀(b:Nat) (p v:Value) (l:List UInt8) (w:World),w.heap[b]?=some (.cells #[p,v] T (0,0))->w.ownsRow 0 e 1 v l.length (l.map fun c=>Value.int .u8 c.toNat)->(∀a n c,v = .slice (some a) n c->0 < c)->
   Calls P f #[.pointer (some ⟨b,0,none⟩)] w fun r w'=>r = .returned (.string ⟨l.toArray⟩)/\Ax v w w') :
  cJ P eT X f false (lM T e):=by
 refine ⟨hfn,fun O st loc w args vs K hs g hO ha => ?_⟩
 unfold lM at hs
 split at hs
 case h_2=>exact hs.elim
 rename_i n
 split at hs
 case h_2=>exact hs.elim
 rename_i t x hob
 split at hs
 case h_2=>exact hs.elim
 rename_i ht
 have ht':=Ty.eq_of_beq ht
 subst ht'
 rw [dN] at hs
 obtain ⟨⟨hT,he⟩,hs⟩:=hs
 match vs,ha with
 | [v0], .cons h0 .nil=>
 obtain ⟨b,p,u,rfl,hD⟩:=wa g hob h0
 have hT':x.2.1.toNat=T:=by rw [hT];rfl
 have he':x.2.2.1.toNat=e:=by rw [he];rfl
 have hheap:=hD.heap
 have hrow:=hD.row
 rw [hT'] at hheap
 rw [he',DW hD.u8,show x.1.length=(bytesOf x.1).length by simp [bytesOf]] at hrow
 refine (H b p u (bytesOf x.1) w hheap hrow hD.cap).mono ?_
 rintro r w' ⟨rfl,k⟩
 obtain ⟨tr1,g1⟩:=AB (w':=w') g hob rfl k.os k.output (by rw [k.size];exact Nat.le_refl _) (fun b' _ h2=>k.block b' fun e=>h2 (by rw [hD.bs,e];simp))
 refine ⟨_,_,_,_,rfl,hs,rfl,(fun hh=>by cases hh),g1,tr1,?_⟩
 refine (dS (eT:=eT) (S:=aB O (aS st n) loc w')).2 ⟨rfl,?_⟩
 rcases hrow.2 with ⟨_,h⟩ | ⟨_,cap,_,_,_,_,h1,h2,_⟩
 ·rw [h];exact Nat.zero_le _
 ·unfold maxLen at h2;unfold aI;omega
theorem uL {T e:Nat} (hfn:∃fn,P.funcs[f]?=some fn/\fn.body.isNone=false/\(fn.name == "runtime.NumGoroutine")=false)
  (H:∀(b:Nat) (p q:Value) (a:Option Addr) (n c:Nat) (w:World),w.heap[b]?=some (.cells #[p, .slice a n c] T (0,0))->
   Calls P f #[.pointer (some ⟨b,0,none⟩)] w fun r w'=>r = .returned (.int .i64 n)/\w'=w) :
  cJ P eT X f true (rU T e):=by
 refine ⟨hfn,fun O st loc w args vs K hs g hO ha => ?_⟩
 unfold rU at hs
 split at hs
 case h_2=>exact hs.elim
 rename_i n
 split at hs
 case h_2=>exact hs.elim
 rename_i t x hob
 split at hs
 case h_2=>exact hs.elim
 rename_i ht
 have ht':=Ty.eq_of_beq ht
 subst ht'
 rw [dN] at hs
 obtain ⟨⟨hT,he⟩,hs⟩:=hs
 match vs,ha with
 | [v0], .cons h0 .nil=>
 obtain ⟨b,p,u,rfl,hD⟩:=wa g hob h0
 have hT':x.2.1.toNat=T:=by rw [hT];rfl
 have hheap:=hD.heap
 rw [hT'] at hheap
 obtain ⟨a,c,rfl,hl⟩:∃a c,u = .slice a x.1.length c/\x.1.length<=aI:=by
  rcases hD.row.2 with ⟨rfl,h⟩ | ⟨g',cap,cur,h,_,_,h1,h2,_⟩
  ·exact ⟨none,0,by rw [h],by rw [h];exact Nat.zero_le _⟩
  ·exact ⟨_,_,h,by unfold maxLen at h2;unfold aI;omega⟩
 refine (H b p p a x.1.length c w hheap).mono ?_
 rintro r w' ⟨rfl,rfl⟩
 refine ⟨_,_,_,loc,rfl,hs,rfl,fun _=>Below.refl _ _,g,Tr.refl _,?_⟩
 refine (bC (eT:=eT) (S:=aB O st loc w')).2 ⟨rfl,?_⟩
 unfold aI at hl
 simp only [IntKind.min,IntKind.max,IntKind.signed,IntKind.bits]
 constructor <;> simp <;> omega
end
end Go.Vg

namespace Go.Mrl
open Go.Vg
def small (c:UInt8):Bool:=decide ((97:Int)<=c.toNat) && decide ((c.toNat:Int)<=122)
def other (c:UInt8):Bool:=(decide ((48:Int)<=c.toNat) && decide ((c.toNat:Int)<=57)) || ((c.toNat:Int) == 95)
def dh (i:Nat) (c:UInt8):Bool:=!small c && ((i:Int) == 0 || !other c)
def mA (s:List UInt8):Bool:=(List.range s.length).any fun i=>dh i (dM s i)
def aK (s:List UInt8):Int:=if s.length < 1\/8 < s.length then 1 else if mA s=true then 3 else 0
def aY (n:Int):aU:=if n=0 then .nil else .no n
def pB:aU->Int->Bool
 | .nil,n=>n == 0
 | .no m,n=>decide (n > 0) && m == n
 | .other,_=>false
def cg:aU->Int
 | .nil=>0
 | .no m=>m
 | .other => -1
theorem dm (s:List UInt8):0<=aK s:=by
 unfold aK;split
 ·decide
 ·split <;> decide
theorem xQ {s:List UInt8} {i:Nat} (h:i < s.length) (hb:dh i (dM s i)=true):mA s=true:=by
 simp only [mA,List.any_eq_true,List.mem_range]
 exact ⟨i,h,hb⟩
theorem wb {s:List UInt8} (h:∀i,i < s.length->dh i (dM s i)=false):mA s=false:=by
 simp only [mA,List.any_eq_false,List.mem_range]
 intro i hi;rw [h i hi];simp
theorem nT {s:List UInt8} (h:s.length < 1\/8 < s.length):aK s=1:=by unfold aK;rw [if_pos h]
theorem cZ {s:List UInt8} {i:Nat} (h:¬ (s.length < 1\/8 < s.length)) (hi:i < s.length) (hb:dh i (dM s i)=true):aK s=3:=by
 unfold aK
 rw [if_neg h,if_pos (xQ hi hb)]
theorem mB {s:List UInt8} (h:¬ (s.length < 1\/8 < s.length)) (hb:∀i,i < s.length->dh i (dM s i)=false):aK s=0:=by
 unfold aK
 rw [if_neg h,if_neg (by rw [wb hb];decide)]
theorem eZ {i:Nat} {c:UInt8}:dh i c=true ↔ ¬ (97<=c.toNat/\c.toNat<=122)/\(i=0\/¬ ((48<=c.toNat/\c.toNat<=57)\/c.toNat=95)):=by
 simp only [dh,small,other,Bool.and_eq_true,Bool.not_eq_true',Bool.and_eq_false_iff,Bool.or_eq_true,Bool.or_eq_false_iff,decide_eq_false_iff_not,beq_iff_eq,beq_eq_false_iff_ne]
 omega
theorem eJ {i:Nat} {c:UInt8}:dh i c=false ↔ ¬ (¬ (97<=c.toNat/\c.toNat<=122)/\(i=0\/¬ ((48<=c.toNat/\c.toNat<=57)\/c.toNat=95))):=by
 rw [<-eZ];simp
theorem iw {s:List UInt8} {i:Nat} (h:∀j,j < i->dh j (dM s j)=false) (hb:dh i (dM s i)=false):∀j,j < i + 1->dh j (dM s j)=false:=by
 intro j hj
 rcases Nat.lt_or_ge j i with hlt | hge
 ·exact h j hlt
 ·obtain rfl:j=i:=by omega
  exact hb
end Go.Mrl

namespace Go.Mrl
open Go.Vg
def cK (p:D aF->Prop) (l:List (D aA)) (i k:Nat):Prop:=
 i < l.length/\k < (nth aA l i).2.2.1.length/\p (nth aF (nth aA l i).2.2.1 k)
def pZ (s:List UInt8) (x:D aF):Prop:=x.1=s
def gu (s:List UInt8) (x:D aF):Prop:=x.1=s/\x.2.2.1=false
def ahead (i k i' k':Nat):Prop:=i < i'\/(i=i'/\k < k')
def oM (p:D aF->Prop) (l:List (D aA)) (i k:Nat):Prop:=∀i' k',ahead i' k' i k->¬ cK p l i' k'
def fv (p:D aF->Prop) (l:List (D aA)) (i k:Nat):Prop:=cK p l i k/\oM p l i k
theorem oN {p:D aF->Prop} {l:List (D aA)} {i k i' k':Nat} (h:fv p l i k) (h':fv p l i' k'):i=i'/\k=k':=by
 have h1:¬ ahead i k i' k':=fun a=>h'.2 i k a h.1
 have h2:¬ ahead i' k' i k:=fun a=>h.2 i' k' a h'.1
 unfold ahead at h1 h2
 omega
theorem oO {p:D aF->Prop} {l:List (D aA)} {i k:Nat} (h:cK p l i k):∃i k,fv p l i k:=by
 have hi:∀n,∀i,i<=n->∀k,cK p l i k->∃i,(∃k,cK p l i k)/\∀j,j < i->∀k,¬ cK p l j k:=by
  intro n
  induction n with
  | zero=>intro i hi k h;exact ⟨i,⟨k,h⟩,fun j hj=>by omega⟩
  | succ n ih=>
   intro i hi k h
   by_cases c:∃j,j < i/\∃k,cK p l j k
   ·obtain ⟨j,hj,k,hk⟩:=c
    exact ih j (by omega) k hk
   ·exact ⟨i,⟨k,h⟩,fun j hj k hk=>c ⟨j,hj,k,hk⟩⟩
 obtain ⟨i0,⟨k0,h0⟩,hmin⟩:=hi i i (Nat.le_refl _) k h
 have hk:∀n,∀k,k<=n->cK p l i0 k->∃k,cK p l i0 k/\∀j,j < k->¬ cK p l i0 j:=by
  intro n
  induction n with
  | zero=>intro k hk h;exact ⟨k,h,fun j hj=>by omega⟩
  | succ n ih=>
   intro k hk h
   by_cases c:∃j,j < k/\cK p l i0 j
   ·obtain ⟨j,hj,h2⟩:=c
    exact ih j (by omega) h2
   ·exact ⟨k,h,fun j hj h2=>c ⟨j,hj,h2⟩⟩
 obtain ⟨k1,h1,h2⟩:=hk k0 k0 (Nat.le_refl _) h0
 refine ⟨i0,k1,h1,fun i' k' ha hp => ?_⟩
 rcases ha with ha | ⟨rfl,ha⟩
 ·exact hmin i' ha k' hp
 ·exact h2 k' ha hp
open Classical in
noncomputable def bo (x:List (D aA) × List UInt8):Int × Int:=
 if h:∃p:Nat × Nat,fv (gu x.2) x.1 p.1 p.2 then (((Classical.choose h).1:Nat),((Classical.choose h).2:Nat))
 else if h:∃p:Nat × Nat,fv (pZ x.2) x.1 p.1 p.2 then (((Classical.choose h).1:Nat),((Classical.choose h).2:Nat))
 else (-1,-1)
theorem kY {l:List (D aA)} {s:List UInt8} {i k:Nat} (h:fv (gu s) l i k):bo (l,s)=((i:Int),(k:Int)):=by
 have hx:∃p:Nat × Nat,fv (gu s) l p.1 p.2:=⟨(i,k),h⟩
 unfold bo
 rw [dif_pos hx]
 have:=oN h (Classical.choose_spec hx)
 rw [<-this.1,<-this.2]
theorem rW {l:List (D aA)} {s:List UInt8} {i k:Nat} (hn:∀i k,¬ cK (gu s) l i k) (h:fv (pZ s) l i k):bo (l,s)=((i:Int),(k:Int)):=by
 have hx:∃p:Nat × Nat,fv (pZ s) l p.1 p.2:=⟨(i,k),h⟩
 unfold bo
 rw [dif_neg (fun ⟨p,h⟩=>hn p.1 p.2 h.1),dif_pos hx]
 have:=oN h (Classical.choose_spec hx)
 rw [<-this.1,<-this.2]
theorem rX {l:List (D aA)} {s:List UInt8} (hn:∀i k,¬ cK (pZ s) l i k):bo (l,s)=(-1,-1):=by
 unfold bo
 rw [dif_neg (fun ⟨p,h⟩=>hn p.1 p.2 ⟨h.1.1,h.1.2.1,h.1.2.2.1⟩),dif_neg (fun ⟨p,h⟩=>hn p.1 p.2 h.1)]
theorem xR (l:List (D aA)) (s:List UInt8):(∃i k:Nat,bo (l,s)=((i:Int),(k:Int))/\fv (gu s) l i k)\/
  (∃i k:Nat,bo (l,s)=((i:Int),(k:Int))/\fv (pZ s) l i k/\∀i k,¬ cK (gu s) l i k)\/
  (bo (l,s)=(-1,-1)/\∀i k,¬ cK (pZ s) l i k):=by
 by_cases h1:∃i k,cK (gu s) l i k
 ·obtain ⟨i,k,h⟩:=h1
  obtain ⟨i,k,h⟩:=oO h
  exact .inl ⟨i,k,kY h,h⟩
 ·have h1':∀i k,¬ cK (gu s) l i k:=fun i k h=>h1 ⟨i,k,h⟩
  by_cases h2:∃i k,cK (pZ s) l i k
  ·obtain ⟨i,k,h⟩:=h2
   obtain ⟨i,k,h⟩:=oO h
   exact .inr (.inl ⟨i,k,rW h1' h,h,h1'⟩)
  ·have h2':∀i k,¬ cK (pZ s) l i k:=fun i k h=>h2 ⟨i,k,h⟩
   exact .inr (.inr ⟨rX h2',h2'⟩)
def de (l:List (D aA)) (s:List UInt8) (i k:Nat) (a b:Int):Prop:=
 oM (gu s) l i k/\((a = -1/\b = -1/\oM (pZ s) l i k)\/∃i0 k0:Nat,a=i0/\b=k0/\fv (pZ s) l i0 k0)
theorem de.start (l:List (D aA)) (s:List UInt8):de l s 0 0 (-1) (-1):=
 ⟨fun i' k' h=>by unfold ahead at h;omega, .inl ⟨rfl,rfl,fun i' k' h=>by unfold ahead at h;omega⟩⟩
theorem oM.next {p:D aF->Prop} {l:List (D aA)} {i k:Nat} (h:oM p l i k) (hn:¬ cK p l i k):oM p l i (k + 1):=by
 intro i' k' ha hp
 by_cases e:i'=i/\k'=k
 ·rw [e.1,e.2] at hp;exact hn hp
 ·exact h i' k' (by unfold ahead at *;omega) hp
theorem de.skip {l:List (D aA)} {s:List UInt8} {i k:Nat} {a b:Int} (h:de l s i k a b) (hn:¬ (nth aF (nth aA l i).2.2.1 k).1=s):de l s i (k + 1) a b:=by
 refine ⟨h.1.next fun hp=>hn hp.2.2.1,?_⟩
 rcases h.2 with ⟨h1,h2,h3⟩ | h3
 ·exact .inl ⟨h1,h2,h3.next fun hp=>hn hp.2.2⟩
 ·exact .inr h3
theorem de.Gl {l:List (D aA)} {s:List UInt8} {i k:Nat} {a b:Int} (h:de l s i k a b) (hi:i < l.length) (hk:k < (nth aA l i).2.2.1.length)
  (hs:(nth aF (nth aA l i).2.2.1 k).1=s) (hw:(nth aF (nth aA l i).2.2.1 k).2.2.1=false):bo (l,s)=((i:Int),(k:Int)):=
 kY ⟨⟨hi,hk,hs,hw⟩,h.1⟩
theorem de.sJ {l:List (D aA)} {s:List UInt8} {i k:Nat} {a b:Int} (h:de l s i k a b) (hi:i < l.length) (hk:k < (nth aA l i).2.2.1.length)
  (hs:(nth aF (nth aA l i).2.2.1 k).1=s) (hw:¬ (nth aF (nth aA l i).2.2.1 k).2.2.1=false) (ha:a < 0):de l s i (k + 1) (i:Int) (k:Int):=by
 refine ⟨h.1.next fun hp=>hw hp.2.2.2, .inr ⟨i,k,rfl,rfl,⟨hi,hk,hs⟩,?_⟩⟩
 rcases h.2 with ⟨_,_,h3⟩ | ⟨i0,k0,h1,_⟩
 ·exact h3
 ·omega
theorem de.more {l:List (D aA)} {s:List UInt8} {i k:Nat} {a b:Int} (h:de l s i k a b)
  (hw:¬ (nth aF (nth aA l i).2.2.1 k).2.2.1=false) (ha:¬ a < 0):de l s i (k + 1) a b:=by
 refine ⟨h.1.next fun hp=>hw hp.2.2.2,?_⟩
 rcases h.2 with ⟨h1,_,_⟩ | h3
 ·omega
 ·exact .inr h3
theorem oM.row {p:D aF->Prop} {l:List (D aA)} {i k:Nat} (h:oM p l i k) (hk:(nth aA l i).2.2.1.length<=k):oM p l (i + 1) 0:=by
 intro i' k' ha hp
 refine h i' k' ?_ hp
 unfold ahead at *
 by_cases e:i'=i
 ·subst e;have:=hp.2.1;omega
 ·omega
theorem de.row {l:List (D aA)} {s:List UInt8} {i k:Nat} {a b:Int} (h:de l s i k a b) (hk:(nth aA l i).2.2.1.length<=k):de l s (i + 1) 0 a b:=by
 refine ⟨h.1.row hk,?_⟩
 rcases h.2 with ⟨h1,h2,h3⟩ | h3
 ·exact .inl ⟨h1,h2,h3.row hk⟩
 ·exact .inr h3
theorem oM.all {p:D aF->Prop} {l:List (D aA)} {i k:Nat} (h:oM p l i k) (hi:l.length<=i):∀i k,¬ cK p l i k:=
 fun i' k' hp=>h i' k' (by have:=hp.1;unfold ahead;omega) hp
theorem de.done {l:List (D aA)} {s:List UInt8} {i k:Nat} {a b:Int} (h:de l s i k a b) (hi:l.length<=i):bo (l,s)=(a,b):=by
 rcases h.2 with ⟨rfl,rfl,h3⟩ | ⟨i0,k0,rfl,rfl,h3⟩
 ·exact rX (h3.all hi)
 ·exact rW (h.1.all hi) h3
theorem jR {p:Nat->Prop} {n:Nat} (h:∀j,j < n->p j) (hn:p n):∀j,j < n + 1->p j:=by
 intro j hj
 by_cases e:j=n
 ·rw [e];exact hn
 ·exact h j (by omega)
def fw (o:D aA):Prop:=o.1.length<=6/\o.2.1.length<=50/\o.2.2.1.length<=10/\o.2.2.2.1.length<=10/\
 (∀i,i < o.1.length->(nth .str o.1 i).length<=20)/\(∀i,i < o.2.2.1.length->(nth aF o.2.2.1 i).1.length<=20)/\(∀i,i < o.2.2.2.1.length->(nth aJ o.2.2.2.1 i).2.2.2.1.length<=20)
def iH (l:List (D aA)):Prop:=l.length<=8/\∀i,i < l.length->fw (nth aA l i)
theorem mC {l:List (D aA)} {s:List UInt8} (h:0<=(bo (l,s)).1):(bo (l,s)).1 < l.length/\0<=(bo (l,s)).2/\(bo (l,s)).2 < (nth aA l (bo (l,s)).1.toNat).2.2.1.length/\
  (nth aF (nth aA l (bo (l,s)).1.toNat).2.2.1 (bo (l,s)).2.toNat).1=s:=by
 rcases xR l s with ⟨i0,k0,e,f⟩ | ⟨i0,k0,e,f,n⟩ | ⟨e,n⟩
 ·rw [e];obtain ⟨h1,h2,h3⟩:=f.1;exact ⟨by simp only;omega,by simp only;omega,by simp only [Int.toNat_natCast];omega,h3.1⟩
 ·rw [e];obtain ⟨h1,h2,h3⟩:=f.1;exact ⟨by simp only;omega,by simp only;omega,by simp only [Int.toNat_natCast];omega,h3⟩
 ·rw [e] at h;simp at h
end Go.Mrl

namespace Go.Mrl
open Go.Vg
end Go.Mrl
namespace Go.Mrl
open Go.Vg
end Go.Mrl
namespace Go.Mrl
open Go.Vg
end Go.Mrl

namespace Go.Mrl
open Go.Vg
end Go.Mrl
namespace Go.Mrl
open Go.Vg
end Go.Mrl
namespace Go.Mrl
open Go.Vg
end Go.Mrl
namespace Go.Mrl
open Go.Vg
end Go.Mrl
namespace Go.Mrl
open Go.Vg
end Go.Mrl
namespace Go.Mrl
open Go.Vg
end Go.Mrl

namespace Go.Mrl
open Go.Vg
def c6 (a b:Int × Int × Unit):Bool:=decide (a.2.1<=0) || (decide (b.2.1<=0) || (decide (a.1 + a.2.1<=b.1) || decide (b.1 + b.2.1<=a.1)))
theorem wc {a b:Int × Int × Unit}:c6 a b=false ↔ 0 < a.2.1/\0 < b.2.1/\b.1 < a.1 + a.2.1/\a.1 < b.1 + b.2.1:=by simp [c6]
def cB (n:Int):Int:=(n + 15) / 16 * 16
def gB (r:Int × Int × Unit):Prop:=-1000000<=r.1/\r.1<=1000000/\-1000000<=r.2.1/\r.2.1<=1000000
def dw (r:D aO) (l:List (D aO)):Bool:=l.all (c6 r)
theorem kZ {t:Ty} {xs:List (D t)} {i:Nat} (h:i < xs.length):xs[i]?=some (nth t xs i):=by
 rw [List.getElem?_eq_getElem h,<-dK (List.getElem?_eq_getElem h)]
theorem en {t:Ty} {xs:List (D t)} {i:Nat} (h:i < xs.length):nth t xs i∈xs:=by
 have:=kZ (t:=t) h
 exact List.mem_of_getElem? this
theorem pC {t:Ty} {xs:List (D t)} {x:D t} (h:x∈xs):∃i,i < xs.length/\nth t xs i=x:=by
 obtain ⟨i,hi,e⟩:=List.getElem_of_mem h
 exact ⟨i,hi,by rw [<-e];exact dK (List.getElem?_eq_getElem hi)⟩
theorem AD {r:D aO} {l:List (D aO)} (h:∀j,j < l.length->c6 r (nth aO l j)=true):dw r l=true:=by
 unfold dw;rw [List.all_eq_true]
 intro x hx
 obtain ⟨i,hi,e⟩:=pC hx
 rw [<-e];exact h i hi
theorem xS {r:D aO} {l:List (D aO)} {j:Nat} (h:j < l.length) (hf:c6 r (nth aO l j)=false):dw r l=false:=by
 unfold dw;rw [List.all_eq_false]
 exact ⟨_,en h,by rw [hf];decide⟩
theorem B7 {r:D aO} {l:List (D aO)} (h:dw r l=false):∃x∈l,c6 r x=false:=by
 unfold dw at h;rw [List.all_eq_false] at h
 obtain ⟨x,hx,e⟩:=h
 exact ⟨x,hx,by simpa using e⟩
def di (l:List (D aO)) (many:Int):Nat->Int->Int
 | 0,at_=>at_
 | n + 1,at_=>if dw (at_,many,()) l=true then at_ else di l many n (at_ + 16)
def eo:List (D aO)->List Int->List Int->Option (List Int)
 | _,[],out=>some out
 | l,n :: r,out=>if 256 < di l (cB n) 40 0 + cB n then none else eo (l++[(di l (cB n) 40 0,cB n,())]) r (out++[di l (cB n) 40 0])
def we (s:List Int):Bool:=s.any fun (n:Int)=>decide (n < 1) || decide (40 < n)
def wg (l:List (D aO)):Bool:=l.any fun (r:Int × Int × Unit)=>decide (r.1 < 0) || (decide (256 < r.1) || (decide (r.2.1 < 0) || decide (256 < r.2.1)))
def bK (x:List Int × List (D aO)):List Int × aU:=
 if 6 < x.1.length\/20 < x.2.length then ([], .no 2) else if we x.1=true\/wg x.2=true then ([], .no 1) else
  match eo x.2 x.1 [] with
  | some o=>(o, .nil)
  | none=>([], .no 8)
theorem yW {t:Ty} {xs:List (D t)} {p:D t->Bool} {i:Nat} (h:i < xs.length) (hp:p (nth t xs i)=true):xs.any p=true:=by
 rw [List.any_eq_true];exact ⟨_,en h,hp⟩
theorem yX {t:Ty} {xs:List (D t)} {p:D t->Bool} (h:∀i,i < xs.length->p (nth t xs i)=false):xs.any p=false:=by
 rw [List.any_eq_false];intro x hx
 obtain ⟨i,hi,e⟩:=pC hx
 rw [<-e,h i hi];decide
theorem oP {l:List (D aO)} {s out:List Int} {k:Nat} (h:k < s.length):eo l (s.drop k) out =
  if 256 < di l (cB (nth (.int .i64) s k)) 40 0 + cB (nth (.int .i64) s k) then none
  else eo (l++[(di l (cB (nth (.int .i64) s k)) 40 0,cB (nth (.int .i64) s k),())]) (s.drop (k + 1)) (out++[di l (cB (nth (.int .i64) s k)) 40 0]):=by
 have e:s.drop k=nth (.int .i64) s k :: s.drop (k + 1):=by
  rw [List.drop_eq_getElem_cons h]
  congr 1
  exact (dK (t:=.int .i64) (List.getElem?_eq_getElem h)).symm
 rw [e];rfl
theorem xT {l:List (D aO)} {s out:List Int} {k:Nat} (h:s.length<=k):eo l (s.drop k) out=some out:=by
 rw [List.drop_eq_nil_of_le h];rfl
def iI (r:Int × Int × Unit):Prop:=0<=r.1/\r.1<=256/\0<=r.2.1/\r.2.1<=256
theorem iI.gB {r:Int × Int × Unit} (h:iI r):Mrl.gB r:=by
 obtain ⟨h1,h2,h3,h4⟩:=h
 refine ⟨?_,?_,?_,?_⟩ <;> omega
theorem B8 {l:List (D aO)} {at_ many:Int} (hl:∀x∈l,iI x) (h:dw (at_,many,()) l=false):at_ < 512:=by
 obtain ⟨x,hx,e⟩:=B7 h
 obtain ⟨h1,h2,h3,h4⟩:=hl x hx
 obtain ⟨h5,h6,h7,h8⟩:=wc.1 e
 have h8:at_ < x.1 + x.2.1:=h8
 omega
theorem l9 {l:List (D aO)} {many at_:Int} {n:Nat} (h:dw (at_,many,()) l=true):di l many n at_=at_:=by
 cases n with
 | zero=>rfl
 | succ n=>rw [di,if_pos h]
theorem B9 {l:List (D aO)} {many at_:Int} {n:Nat} (h:dw (at_,many,()) l=false):di l many (n + 1) at_=di l many n (at_ + 16):=by
 rw [di,if_neg (by rw [h];decide)]
theorem jc {n:Int} (h1:1<=n) (h2:n<=40):16<=cB n/\cB n<=48:=by unfold cB;omega
end Go.Mrl
namespace Go.Mrl
open Go.Vg
theorem xU {s:List Int} {l:List (D aO)} (h:6 < s.length\/20 < l.length):bK (s,l)=([], .no 2):=by
 unfold bK;rw [if_pos h]
theorem xV {s:List Int} {l:List (D aO)} (h:¬ (6 < s.length\/20 < l.length)) {i:Nat} (hi:i < s.length) (hb:¬ (1<=(nth (.int .i64) s i:Int)/\(nth (.int .i64) s i:Int)<=40)):bK (s,l)=([], .no 1):=by
 unfold bK;rw [if_neg h,if_pos]
 refine .inl (yW (t:=.int .i64) hi ?_)
 simp only [Bool.or_eq_true,decide_eq_true_eq]
 generalize nth (.int .i64) s i=x at hb
 have hb:¬ (1<=(x:Int)/\(x:Int)<=40):=hb
 dsimp only [D] at *;omega
theorem wh {s:List Int} {l:List (D aO)} (h:¬ (6 < s.length\/20 < l.length)) {i:Nat} (hi:i < l.length) (hb:¬ iI (nth aO l i)):bK (s,l)=([], .no 1):=by
 unfold bK;rw [if_neg h,if_pos]
 refine .inr (yW (t:=aO) hi ?_)
 simp only [Bool.or_eq_true,decide_eq_true_eq]
 unfold iI at hb
 dsimp only [D] at *;omega
theorem tJ {s:List Int} {l:List (D aO)} (h:¬ (6 < s.length\/20 < l.length)) (hs:∀j,j < s.length->1<=(nth (.int .i64) s j:Int)/\(nth (.int .i64) s j:Int)<=40) (ht:∀j,j < l.length->iI (nth aO l j)) :
  bK (s,l)=match eo l s [] with | some o=>(o, .nil) | none=>([], .no 8):=by
 unfold bK;rw [if_neg h,if_neg]
 rintro (e | e)
 ·have:we s=false:=yX (t:=.int .i64) fun i hi=>by
   have:=hs i hi
   simp only [Bool.or_eq_false_iff,decide_eq_false_iff_not]
   dsimp only [D] at *;omega
  rw [this] at e;cases e
 ·have:wg l=false:=yX (t:=aO) fun i hi=>by
   have:=ht i hi
   unfold iI at this
   simp only [Bool.or_eq_false_iff,decide_eq_false_iff_not]
   dsimp only [D] at *;omega
  rw [this] at e;cases e
end Go.Mrl
namespace Go.Mrl
open Go.Vg
theorem DX {l:List (Int × Int × Unit)} {r:Int × Int × Unit} (h:∀y∈l,iI y) (hr:iI r):∀y∈l++[r],iI y:=by
 intro y hy
 rcases List.mem_append.1 hy with hy | hy
 ·exact h y hy
 ·simp at hy;rw [hy];exact hr
end Go.Mrl
namespace Go.Mrl
open Go.Vg
end Go.Mrl
namespace Go.Mrl
open Go.Vg
end Go.Mrl

namespace Go.Mrl
open Go.Vg
theorem xW {t:Ty} {a b:List (D t)} (hl:a.length=b.length) (h:∀i,i < a.length->nth t a i=nth t b i):a=b:=by
 apply List.ext_getElem hl
 intro i h1 h2
 have:=h i h1
 rwa [show nth t a i=a[i] from dK (List.getElem?_eq_getElem h1),show nth t b i=b[i] from dK (List.getElem?_eq_getElem h2)] at this
def gv (a b:List Int):Bool:=decide (a=b)
theorem AE {a b:List Int} (hl:(a.length:Int)=b.length) (h:∀i,i < a.length->nth (.int .i64) a i=nth (.int .i64) b i):true=gv a b:=by
 rw [xW (t:=.int .i64) (by omega) h];simp [gv]
theorem Ca {a b:List Int} (hl:¬ (a.length:Int)=b.length):false=gv a b:=by
 symm;simp only [gv,decide_eq_false_iff_not];intro e;exact hl (by rw [e])
theorem DY {a b:List Int} {i:Nat} (h:¬ nth (.int .i64) a i=nth (.int .i64) b i):false=gv a b:=by
 symm;simp only [gv,decide_eq_false_iff_not];intro e;exact h (by rw [e])
theorem GV {α:Type} {p:Nat->α->Prop} {f:Nat->α} {k:Nat} (h:∀j,j < k->p j (f j)) (hk:p k (f k)):∀j,j < k + 1->p j (f j):=by
 intro j hj
 by_cases e:j=k
 ·subst e;exact hk
 ·exact h j (by omega)
theorem Cb {p:Nat->Prop} {k:Nat} (h:∀j,j < k->p j) (hk:p k):∀j,j < k + 1->p j:=by
 intro j hj
 by_cases e:j=k
 ·subst e;exact hk
 ·exact h j (by omega)
end Go.Mrl

namespace Go.Mrl
open Go.Vg
theorem kC {t:Ty} {a b:List (D t)} {i:Nat}:nth t (a++b) i=if i < a.length then nth t a i else nth t b (i - a.length):=by
 unfold nth
 simp only [List.getD_eq_getElem?_getD,List.getElem?_append]
 split <;> rfl
theorem wi {t:Ty} {a:List (D t)} {n i:Nat} (h:i < n):nth t (a.take n) i=nth t a i:=by
 unfold nth
 simp only [List.getD_eq_getElem?_getD,List.getElem?_take,if_pos h]
end Go.Mrl

namespace Go.Mrl
open Go.Vg
@[reducible] def dn:Ty:=.slice (.int .i64)
@[reducible] def fy:Ty:=.slice dn
abbrev Pt:=Int × Int × Int × Unit
abbrev Ws:=List (List Int)
def mE (w:Ws) (p:Pt):Prop:=0<=p.1/\p.1 < w.length/\0<=p.2.1/\p.2.1 < (nth dn w p.1.toNat).length
def ma (w:Ws) (p:Pt):Ws:=w.set p.1.toNat ((nth dn w p.1.toNat).set p.2.1.toNat p.2.2.1)
def gG (w:Ws) (l:List Pt):Ws:=l.foldl ma w
open Classical in
noncomputable def dq (x:Ws × List Pt):Ws × aU:=if ∀i,i < x.2.length->mE x.1 (nth aT x.2 i) then (gG x.1 x.2, .nil) else ([], .no 1)
theorem AF {t:Ty} {l:List (D t)} {i j:Nat} {x:D t} (h:¬ i=j):nth t (l.set i x) j=nth t l j:=by
 unfold nth;simp only [List.getD_eq_getElem?_getD];rw [List.getElem?_set_ne h]
theorem AG {t:Ty} {l:List (D t)} {i:Nat} {x:D t} (h:i < l.length):nth t (l.set i x) i=x:=by
 unfold nth;simp only [List.getD_eq_getElem?_getD];rw [List.getElem?_set_self h];rfl
theorem xX (w:Ws) (p:Pt):(ma w p).length=w.length:=by simp [ma]
theorem DZ (w:Ws) (p:Pt) (i:Nat):nth dn (ma w p) i=if i < w.length/\p.1.toNat=i then (nth dn w i).set p.2.1.toNat p.2.2.1 else nth dn w i:=by
 unfold ma
 by_cases c:p.1.toNat=i
 ·subst c
  by_cases c2:p.1.toNat < w.length
  ·rw [if_pos ⟨c2,rfl⟩,AG (t:=dn) c2]
  ·rw [if_neg (fun h=>c2 h.1),List.set_eq_of_length_le (by omega)]
 ·rw [if_neg (fun h=>c h.2),AF (t:=dn) c]
theorem Cc (w:Ws) (p:Pt) (i:Nat):(nth dn (ma w p) i).length=(nth dn w i).length:=by
 rw [DZ];split <;> simp
theorem jS (l:List Pt):∀w:Ws,(gG w l).length=w.length:=by
 induction l with
 | nil=>intro w;rfl
 | cons p l ih=>intro w;show (gG (ma w p) l).length=_;rw [ih,xX]
theorem oQ (l:List Pt):∀(w:Ws) (i:Nat),(nth dn (gG w l) i).length=(nth dn w i).length:=by
 induction l with
 | nil=>intro w i;rfl
 | cons p l ih=>intro w i;show (nth dn (gG (ma w p) l) i).length=_;rw [ih,Cc]
theorem Cd (w:Ws) (l:List Pt) (p:Pt):gG w (l++[p])=ma (gG w l) p:=by simp [gG]
theorem ke {t:Ty} {l:List (D t)} {k:Nat} (h:k < l.length):l.take (k + 1)=l.take k++[nth t l k]:=by
 rw [List.take_add_one,kZ h];rfl
theorem Ce {w:Ws} {l:List Pt} {k:Nat} (h:k < l.length):ma (gG w (l.take k)) (nth aT l k)=gG w (l.take (k + 1)):=by
 rw [ke (t:=aT) h,Cd]
theorem sP {w:Ws} {l:List Pt} (h:∀i,i < l.length->mE w (nth aT l i)):dq (w,l)=(gG w l, .nil):=by unfold dq;rw [if_pos h]
theorem D0 {w:Ws} {l:List Pt} {i:Nat} (hi:i < l.length) (h:¬ mE w (nth aT l i)):dq (w,l)=([], .no 1):=by
 unfold dq;rw [if_neg (fun hh=>h (hh i hi))]
theorem D1 {w:Ws} {l:List Pt} (h:(dq (w,l)).2.isNil=true):∀i,i < l.length->mE w (nth aT l i):=by
 unfold dq at h
 split at h
 ·assumption
 ·cases h
theorem D2 {w:Ws} {l:List Pt} (h:(dq (w,l)).2.isNil=true):(dq (w,l)).1.length=w.length:=by rw [sP (D1 h)];exact jS l w
end Go.Mrl

namespace Go.Mrl
open Go.Vg
def Small (x:Int):Prop:=-1000000<=x/\x<=1000000
def Word (x:Int):Prop:=-2147483648<=x/\x<=2147483647
def E2 (o:D aA):Prop:=o.2.2.2.1.length<=10/\(∀i,i < o.2.2.1.length->Small (nth aF o.2.2.1 i).2.1)/\
 ∀i,i < o.2.2.2.1.length->Small (nth aJ o.2.2.2.1 i).1/\Word (nth aJ o.2.2.2.1 i).2.2.1
def cr (l:List (D aA)):Prop:=l.length<=8/\∀i,i < l.length->E2 (nth aA l i)
def gC (b:List Int):Prop:=∀i,i < b.length->0<=(nth (.int .i64) b i:Int)/\(nth (.int .i64) b i:Int)<=256
def c7 (b:List Int) (i:Nat):Int:=nth (.int .i64) b i
noncomputable def bL (l:List (D aA)) (b:List Int) (t:D aJ):Int × aU:=
 if 0<=(bo (l,t.2.2.2.1)).1 then (c7 b (bo (l,t.2.2.2.1)).1.toNat + (nth aF (nth aA l (bo (l,t.2.2.2.1)).1.toNat).2.2.1 (bo (l,t.2.2.2.1)).2.toNat).2.1, .nil)
 else if t.2.2.2.2.1=true then (0, .nil) else (0, .no 6)
def cR (b:List Int) (i:Int) (t:D aJ) (n:Int):Int × aU:=
 if t.2.1=(3:Int) then
  if n - (c7 b i.toNat + t.1) < -500\/500 < n - (c7 b i.toNat + t.1) then (0, .no 7)
  else (n - (c7 b i.toNat + t.1), .nil)
 else if n < -2147483648\/2147483647 < n then (0, .no 7) else (n, .nil)
noncomputable def bP (l:List (D aA)) (b:List Int) (i:Int) (t:D aJ):Int × aU:=
 if t.2.1=(1:Int) then cR b i t (c7 b i.toNat + t.2.2.1)
 else if (bL l b t).2.isNil=true then cR b i t ((bL l b t).1 + t.2.2.1) else (0,(bL l b t).2)
noncomputable def e8 (l:List (D aA)) (b:List Int) (i:Nat):List (D aJ)->List Pt->List Pt × aU
 | [],out=>(out, .nil)
 | t :: r,out=>if (bP l b i t).2.isNil=true then e8 l b i r (out++[((i:Int),t.1,(bP l b i t).1,())]) else ([],(bP l b i t).2)
noncomputable def gw (f:List Pt->List Pt × aU) (x:List Pt × aU):List Pt × aU:=if x.2.isNil=true then f x.1 else ([],x.2)
noncomputable def e9 (l:List (D aA)) (b:List Int):List (D aA)->Nat->List Pt->List Pt × aU
 | [],_,out=>(out, .nil)
 | o :: r,i,out=>gw (e9 l b r (i + 1)) (e8 l b i o.2.2.2.1 out)
open Classical in
noncomputable def br (x:List (D aA) × List Int):List Pt × aU:=
 if ¬ x.2.length=x.1.length then ([], .no 3) else if gC x.2 then e9 x.1 x.2 x.1 0 [] else ([], .no 1)
theorem c8 {t:Ty} {l:List (D t)} {i:Nat} (h:i < l.length):l.drop i=nth t l i :: l.drop (i + 1):=by
 rw [List.drop_eq_getElem_cons h]
 congr 1
 have:=kZ h
 rw [List.getElem?_eq_getElem h] at this
 exact Option.some.inj this
theorem Cf {l:List (D aA)} {b:List Int} {i:Nat} {out:List Pt} (h:i < l.length) :
  e9 l b (l.drop i) i out=gw (e9 l b (l.drop (i + 1)) (i + 1)) (e8 l b i ((nth aA l i).2.2.2.1.drop 0) out):=by
 rw [c8 (t:=aA) h];rfl
theorem Fw {l:List (D aA)} {b:List Int} {i:Nat} {out:List Pt} (h:l.length<=i):e9 l b (l.drop i) i out=(out, .nil):=by
 rw [List.drop_eq_nil_of_le h];rfl
theorem Gm {l:List (D aA)} {b:List Int} {i k:Nat} {ts:List (D aJ)} {out:List Pt} (h:k < ts.length) (hn:(bP l b i (nth aJ ts k)).2.isNil=true) :
  e8 l b i (ts.drop k) out=e8 l b i (ts.drop (k + 1)) (out++[((i:Int),(nth aJ ts k).1,(bP l b i (nth aJ ts k)).1,())]):=by
 rw [c8 (t:=aJ) h,e8,if_pos hn]
theorem Fx {l:List (D aA)} {b:List Int} {i k:Nat} {ts:List (D aJ)} {out:List Pt} {f:List Pt->List Pt × aU} (h:k < ts.length) (hn:(bP l b i (nth aJ ts k)).2.isNil=false) :
  gw f (e8 l b i (ts.drop k) out)=([],(bP l b i (nth aJ ts k)).2):=by
 rw [c8 (t:=aJ) h,e8,if_neg (by simp [hn])]
 unfold gw
 rw [if_neg (by simp [hn])]
theorem Fy {l:List (D aA)} {b:List Int} {i k:Nat} {ts:List (D aJ)} {out:List Pt} {f:List Pt->List Pt × aU} (h:ts.length<=k):gw f (e8 l b i (ts.drop k) out)=f out:=by
 rw [List.drop_eq_nil_of_le h];rfl
theorem mF {l:List (D aA)} {b:List Int} (h:b.length=l.length) (hb:gC b):br (l,b)=e9 l b l 0 []:=by unfold br;rw [if_neg (by simpa using h),if_pos hb]
theorem D3 {l:List (D aA)} {b:List Int} (h:¬ b.length=l.length):br (l,b)=([], .no 3):=by unfold br;rw [if_pos h]
theorem Cg {l:List (D aA)} {b:List Int} {i:Nat} (h:b.length=l.length) (hi:i < b.length) (hn:¬ (0<=(nth (.int .i64) b i:Int)/\(nth (.int .i64) b i:Int)<=256)):br (l,b)=([], .no 1):=by
 unfold br;rw [if_neg (by simpa using h),if_neg (fun hh=>hn (hh i hi))]
theorem jz {b:List Int} {n:Nat} {i:Int} (hb:gC b) (hl:b.length=n) (h0:0<=i) (h1:i < n):0<=(nth (.int .i64) b i.toNat:Int)/\(nth (.int .i64) b i.toNat:Int)<=256:=hb _ (by omega)
theorem Ch {l:List (D aA)} {s:List UInt8} (hm:cr l) (h:0<=(bo (l,s)).1):Small (nth aF (nth aA l (bo (l,s)).1.toNat).2.2.1 (bo (l,s)).2.toNat).2.1:=by
 have hf:=mC h
 exact (hm.2 _ (by omega)).2.1 _ (by omega)
theorem jd {l:List (D aA)} {b:List Int} {t:D aJ} (h:0<=(bo (l,t.2.2.2.1)).1) :
  bL l b t=(nth (.int .i64) b (bo (l,t.2.2.2.1)).1.toNat + (nth aF (nth aA l (bo (l,t.2.2.2.1)).1.toNat).2.2.1 (bo (l,t.2.2.2.1)).2.toNat).2.1, .nil):=by unfold bL c7;rw [if_pos h]
theorem jU {l:List (D aA)} {b:List Int} {t:D aJ} (h:(bo (l,t.2.2.2.1)).1 < 0) (hw:t.2.2.2.2.1=true):bL l b t=(0, .nil):=by unfold bL;rw [if_neg (by omega),if_pos hw]
theorem je {l:List (D aA)} {b:List Int} {t:D aJ} (h:(bo (l,t.2.2.2.1)).1 < 0) (hw:t.2.2.2.2.1=false):bL l b t=(0, .no 6):=by unfold bL;rw [if_neg (by omega),if_neg (by simp [hw])]
theorem oR {l:List (D aA)} {b:List Int} (t:D aJ) (hm:cr l) (hl:b.length=l.length) (hb:gC b) : -2000000<=(bL l b t).1/\(bL l b t).1<=2000000:=by
 by_cases h:0<=(bo (l,t.2.2.2.1)).1
 ·have h1:=jz hb hl h (mC h).1
  have h2:=Ch hm h
  rw [jd h];unfold Small at h2;dsimp only [D] at *;omega
 ·cases hw:t.2.2.2.2.1 with
  | true=>rw [jU (by omega) hw];simp
  | false=>rw [je (by omega) hw];simp
theorem nz {l:List (D aA)} {b:List Int} {i:Int} {t:D aJ} (h:t.2.1=(1:Int)):bP l b i t=cR b i t (nth (.int .i64) b i.toNat + t.2.2.1):=by unfold bP;rw [if_pos h];rfl
theorem iJ {l:List (D aA)} {b:List Int} {i:Int} {t:D aJ} (h:¬ t.2.1=(1:Int)) (hn:(bL l b t).2.isNil=true):bP l b i t=cR b i t ((bL l b t).1 + t.2.2.1):=by unfold bP;rw [if_neg h,if_pos hn]
theorem sQ {l:List (D aA)} {b:List Int} {i:Int} {t:D aJ} (h:¬ t.2.1=(1:Int)) (hn:(bL l b t).2.isNil=false):bP l b i t=(0,(bL l b t).2):=by unfold bP;rw [if_neg h,if_neg (by simp [hn])]
theorem D4 {b:List Int} {i n:Int} {t:D aJ} (h:t.2.1=(3:Int)) (hr:n - (nth (.int .i64) b i.toNat + t.1) < -500\/500 < n - (nth (.int .i64) b i.toNat + t.1)):cR b i t n=(0, .no 7):=by
 unfold cR c7;rw [if_pos h,if_pos hr]
theorem Fz {b:List Int} {i n m:Int} {t:D aJ} (h:t.2.1=(3:Int)) (e:m=n - (nth (.int .i64) b i.toNat + t.1)) (hr : -500<=m/\m<=500):cR b i t n=(m, .nil):=by
 unfold cR c7;rw [if_pos h,if_neg (by omega),e]
theorem wj {b:List Int} {i n:Int} {t:D aJ} (h:¬ t.2.1=(3:Int)) (hr:n < -2147483648\/2147483647 < n):cR b i t n=(0, .no 7):=by
 unfold cR;rw [if_neg h,if_pos hr]
theorem sR {b:List Int} {i n m:Int} {t:D aJ} (h:¬ t.2.1=(3:Int)) (e:m=n) (hr : -2147483648<=n/\n<=2147483647):cR b i t n=(m, .nil):=by
 unfold cR;rw [if_neg h,if_neg (by omega),e]
def Told (e:aU):Prop:=pB e (cg e)=true
theorem tK (b:List Int) (i n:Int) (t:D aJ):Told (cR b i t n).2:=by
 unfold cR;split <;> split <;> rfl
theorem xY (l:List (D aA)) (b:List Int) (t:D aJ):Told (bL l b t).2:=by
 unfold bL;split
 ·rfl
 ·split <;> rfl
theorem D5 (l:List (D aA)) (b:List Int) (i:Int) (t:D aJ):Told (bP l b i t).2:=by
 unfold bP;split
 ·exact tK _ _ _ _
 ·split
  ·exact tK _ _ _ _
  ·exact xY _ _ _
theorem wk (l:List (D aA)) (b:List Int) (i:Nat):∀(ts:List (D aJ)) (out:List Pt),Told (e8 l b i ts out).2
 | [],_=>rfl
 | t :: r,out=>by
  rw [e8];split
  ·exact wk l b i r _
  ·exact D5 _ _ _ _
theorem wm (l:List (D aA)) (b:List Int):∀(os:List (D aA)) (i:Nat) (out:List Pt),Told (e9 l b os i out).2
 | [],_,_=>rfl
 | o :: r,i,out=>by
  rw [e9];unfold gw;split
  ·exact wm l b r _ _
  ·exact wk _ _ _ _ _
theorem wo (x:List (D aA) × List Int):pB (br x).2 (cg (br x).2)=true:=by
 unfold br;split
 ·rfl
 ·split
  ·exact wm _ _ _ _ _
  ·rfl
end Go.Mrl

namespace Go.Mrl
open Go.Vg
abbrev aG:=List UInt8
end Go.Mrl

namespace Go.Mrl
open Go.Vg
end Go.Mrl

namespace Go.Mrl
open Go.Vg
theorem aZ {n:Int}:(aY n).isNil=true ↔ n=0:=by
 unfold aY;split
 ·rename_i h;simp [h,aU.isNil]
 ·rename_i h;simp [h,aU.isNil]
theorem dX {a:Int} (h0 : -9223372036854775808<=a) (h:a < 9223372036854775808):IntKind.i64.wrap a=a:=
 sk (by rw [kD];unfold aM;omega)
end Go.Mrl
namespace Go.Mrl
open Go.Vg
end Go.Mrl

namespace Go.Mrl
open Go.Vg
@[reducible] def eL:Ty:=.prod .str (.prod (.int .i64) .unit)
abbrev FE:=aG × (aG × Int × Unit) × Int × Unit
abbrev mG:=(Int × Unit) × (List FE × Int × Unit) × Unit
def GW (y:FE):aG:=y.1
def bw (x:mG) (s:aG):aG × Int × Int:=
 if dO eL x.2.1.1 s=true then ((km eL x.2.1.1 s).1,(km eL x.2.1.1 s).2.1,0) else ([],0,5)
def dY (x:mG) (s t:aG):mG × Int:=
 if ¬ aK s=0 then (x,aK s) else if 1200 < t.length then (x,2)
 else if (dO eL x.2.1.1 s=false/\x.2.1.1.length=6)\/x.1.1=1000000 then (x,8)
 else (((x.1.1 + 1,()),(dH eL x.2.1.1 s (t,x.1.1 + 1,()) x.2.1.2.1,gF eL x.2.1.1 s x.2.1.2.1,()),()),0)
def AH:mG:=((0,()),([],0,()),())
theorem tL {x:mG} {s:aG} (h:dO eL x.2.1.1 s=false):bw x s=([],0,5):=by unfold bw;rw [if_neg (by rw [h];simp)]
theorem AI {x:mG} {s:aG} (h:dO eL x.2.1.1 s=true):bw x s=((km eL x.2.1.1 s).1,(km eL x.2.1.1 s).2.1,0):=by unfold bw;rw [if_pos h]
theorem wq {x:mG} {s t:aG} (h:¬ aK s=0):dY x s t=(x,aK s):=by unfold dY;rw [if_pos h]
theorem wu {x:mG} {s t:aG} (h:aK s=0) (h1:1200 < t.length):dY x s t=(x,2):=by unfold dY;rw [if_neg (by simp [h]),if_pos h1]
theorem wv {x:mG} {s t:aG} (h:aK s=0) (h1:¬ 1200 < t.length) (h2:(dO eL x.2.1.1 s=false/\x.2.1.1.length=6)\/x.1.1=1000000):dY x s t=(x,8):=by unfold dY;rw [if_neg (by simp [h]),if_neg h1,if_pos h2]
theorem AJ {x:mG} {s t:aG} (h:aK s=0) (h1:¬ 1200 < t.length) (h2:¬ ((dO eL x.2.1.1 s=false/\x.2.1.1.length=6)\/x.1.1=1000000)) :
  dY x s t=(((x.1.1 + 1,()),(dH eL x.2.1.1 s (t,x.1.1 + 1,()) x.2.1.2.1,gF eL x.2.1.1 s x.2.1.2.1,()),()),0):=by unfold dY;rw [if_neg (by simp [h]),if_neg h1,if_neg h2]
theorem tM {α:Type} [DecidableEq α]:∀{a b:List α},a.Nodup->(∀y∈a,y∈b)->a.length<=b.length
 | [],_,_,_=>by simp
 | x :: a,b,hn,hs=>by
  have hn':=List.nodup_cons.1 hn
  have h1:(b.erase x).length=b.length - 1:=List.length_erase_of_mem (hs x (by simp))
  have h2:0 < b.length:=List.length_pos_of_mem (hs x (by simp))
  have:=tM (b:=b.erase x) hn'.2 fun y hy=>(List.mem_erase_of_ne (fun (e:y=x)=>hn'.1 (by rw [<-e];exact hy))).2 (hs y (by simp [hy]))
  simp only [List.length_cons]
  omega
end Go.Mrl

namespace Go.Mrl
open Go.Vg
def dE (n:Int):Bool:=decide (-2147483648<=n) && decide (n<=2147483647)
def dA:List (List UInt8)->List (List UInt8)->Int
 | _,[]=>0
 | p,s :: r=>if aK s > 0 then aK s else if p.any (· == s)=true then 3 else dA (p++[s]) r
def eB:List Int->Int
 | []=>0
 | n :: r=>if dE n=true then eB r else 1
def cM (n:Nat):List (D aF)->List (D aF)->Int
 | _,[]=>0
 | p,s :: r=>if aK s.1 > 0 then aK s.1 else if s.2.1 < 0\/s.2.1>=(n:Int) then 1 else if p.any (fun x=>x.1 == s.1)=true then 3 else cM n (p++[s]) r
def gV (a:Int):Option Int->Bool
 | some b=>decide (a<=b)
 | none=>false
def fY (n:Nat) (prev:Option Int) (t:D aJ):Int:=
 if t.1 < 0\/t.1>=(n:Int)\/dE t.2.2.1=false then 1
 else if t.2.1 < 1\/t.2.1 > 3\/gV t.1 prev=true then 3
 else if t.2.1=1 then (if t.2.2.2.1≠[]\/t.2.2.2.2.1=true then 3 else 0)
 else aK t.2.2.2.1
def eC (n:Nat):Option Int->List (D aJ)->Int
 | _,[]=>0
 | prev,t :: r=>if fY n prev t≠0 then fY n prev t else eC n (some t.1) r
def fq (o:D aA):Prop:=o.1.length > 4\/o.2.1.length < 1\/o.2.1.length > 40\/o.2.2.1.length > 8\/o.2.2.2.1.length > 6
instance (o:D aA):Decidable (fq o):=by unfold fq;infer_instance
def bk (o:D aA):Int:=
 if fq o then 2 else if dA [] o.1≠0 then dA [] o.1 else if eB o.2.1≠0 then eB o.2.1
 else if cM o.2.1.length [] o.2.2.1≠0 then cM o.2.1.length [] o.2.2.1 else eC o.2.1.length none o.2.2.2.1
theorem fZ {t:Ty} {l:List (D t)} {i:Nat} (h:i < l.length):l.take (i + 1)=l.take i++[nth t l i]:=by
 rw [List.take_add_one];congr 1;unfold nth;simp [h]
theorem oS (n:Nat):∀(l p:List (D aF)),0<=cM n p l
 | [],_=>Int.le_refl _
 | s :: r,p=>by
  unfold cM
  split
  ·omega
  ·split
   ·decide
   ·split
    ·decide
    ·exact oS n r _
structure ee (l:List (List UInt8)) (i:Nat):Prop where
 le:i<=l.length
 eq:dA (l.take i) (l.drop i)=dA [] l
theorem ee.zero (l:List (List UInt8)):ee l 0:=⟨Nat.zero_le _,rfl⟩
theorem ee.fault {l:List (List UInt8)} {i:Nat} (h:ee l i) (hi:i < l.length) (hf:aK (nth .str l i) > 0):dA [] l=aK (nth .str l i):=by
 rw [<-h.eq,c8 (t:=.str) hi];unfold dA;rw [if_pos hf]
theorem ee.dup {l:List (List UInt8)} {i:Nat} (h:ee l i) (hi:i < l.length) (hf:aK (nth .str l i)<=0) (ha:(l.take i).any (· == nth .str l i)=true):dA [] l=3:=by
 rw [<-h.eq,c8 (t:=.str) hi];unfold dA;rw [if_neg (by omega),if_pos ha]
theorem ee.next {l:List (List UInt8)} {i:Nat} (h:ee l i) (hi:i < l.length) (hf:aK (nth .str l i)<=0) (ha:(l.take i).any (· == nth .str l i)=false):ee l (i + 1):=by
 refine ⟨hi,?_⟩
 rw [<-h.eq,c8 (t:=.str) hi,fZ (t:=.str) hi]
 conv=>rhs;unfold dA
 rw [if_neg (by omega),if_neg (by rw [ha];decide)]
theorem ee.done {l:List (List UInt8)} {i:Nat} (h:ee l i) (hi:¬ i < l.length):dA [] l=0:=by
 rw [<-h.eq,List.drop_eq_nil_of_le (by omega)];rfl
structure eV (l:List Int) (i:Nat):Prop where
 le:i<=l.length
 eq:eB (l.drop i)=eB l
theorem eV.zero (l:List Int):eV l 0:=⟨Nat.zero_le _,rfl⟩
theorem eV.fault {l:List Int} {i:Nat} (h:eV l i) (hi:i < l.length) (hf:dE (nth (.int .i64) l i)=false):eB l=1:=by
 rw [<-h.eq,c8 (t:=.int .i64) hi];unfold eB;rw [if_neg (by rw [hf];decide)]
theorem eV.next {l:List Int} {i:Nat} (h:eV l i) (hi:i < l.length) (hf:dE (nth (.int .i64) l i)=true):eV l (i + 1):=by
 refine ⟨hi,?_⟩
 rw [<-h.eq,c8 (t:=.int .i64) hi]
 conv=>rhs;unfold eB
 rw [if_pos hf]
theorem eV.done {l:List Int} {i:Nat} (h:eV l i) (hi:¬ i < l.length):eB l=0:=by
 rw [<-h.eq,List.drop_eq_nil_of_le (by omega)];rfl
structure eD (n:Nat) (l:List (D aF)) (i:Nat):Prop where
 le:i<=l.length
 eq:cM n (l.take i) (l.drop i)=cM n [] l
theorem eD.zero (n:Nat) (l:List (D aF)):eD n l 0:=⟨Nat.zero_le _,rfl⟩
theorem eD.fault {n:Nat} {l:List (D aF)} {i:Nat} (h:eD n l i) (hi:i < l.length) (hf:aK (nth aF l i).1 > 0):cM n [] l=aK (nth aF l i).1:=by
 rw [<-h.eq,c8 (t:=aF) hi];unfold cM;rw [if_pos hf]
theorem eD.out {n:Nat} {l:List (D aF)} {i:Nat} (h:eD n l i) (hi:i < l.length) (hf:aK (nth aF l i).1<=0) (ho:(nth aF l i).2.1 < 0\/(nth aF l i).2.1>=(n:Int)):cM n [] l=1:=by
 rw [<-h.eq,c8 (t:=aF) hi];unfold cM;rw [if_neg (by omega),if_pos ho]
theorem eD.dup {n:Nat} {l:List (D aF)} {i:Nat} (h:eD n l i) (hi:i < l.length) (hf:aK (nth aF l i).1<=0) (ho:¬ ((nth aF l i).2.1 < 0\/(nth aF l i).2.1>=(n:Int)))
  (ha:(l.take i).any (fun x=>x.1 == (nth aF l i).1)=true):cM n [] l=3:=by
 rw [<-h.eq,c8 (t:=aF) hi];unfold cM;rw [if_neg (by omega),if_neg ho,if_pos ha]
theorem eD.next {n:Nat} {l:List (D aF)} {i:Nat} (h:eD n l i) (hi:i < l.length) (hf:aK (nth aF l i).1<=0) (ho:¬ ((nth aF l i).2.1 < 0\/(nth aF l i).2.1>=(n:Int)))
  (ha:(l.take i).any (fun x=>x.1 == (nth aF l i).1)=false):eD n l (i + 1):=by
 refine ⟨hi,?_⟩
 rw [<-h.eq,c8 (t:=aF) hi,fZ (t:=aF) hi]
 conv=>rhs;unfold cM
 rw [if_neg (by omega),if_neg ho,if_neg (by rw [ha];decide)]
theorem eD.done {n:Nat} {l:List (D aF)} {i:Nat} (h:eD n l i) (hi:¬ i < l.length):cM n [] l=0:=by
 rw [<-h.eq,List.drop_eq_nil_of_le (by omega)];rfl
def hZ (l:List (D aJ)) (i:Nat):Option Int:=if i=0 then none else some (nth aJ l (i - 1)).1
structure gx (n:Nat) (l:List (D aJ)) (i:Nat):Prop where
 le:i<=l.length
 eq:eC n (hZ l i) (l.drop i)=eC n none l
theorem gx.zero (n:Nat) (l:List (D aJ)):gx n l 0:=⟨Nat.zero_le _,rfl⟩
theorem gx.fault {n:Nat} {l:List (D aJ)} {i:Nat} (h:gx n l i) (hi:i < l.length) {f:Int} (hf:fY n (hZ l i) (nth aJ l i)=f) (h0:f≠0):eC n none l=f:=by
 rw [<-h.eq,c8 (t:=aJ) hi];unfold eC;rw [if_pos (by rw [hf];exact h0),hf]
theorem gx.next {n:Nat} {l:List (D aJ)} {i:Nat} (h:gx n l i) (hi:i < l.length) (hf:fY n (hZ l i) (nth aJ l i)=0):gx n l (i + 1):=by
 refine ⟨hi,?_⟩
 rw [<-h.eq,c8 (t:=aJ) hi]
 conv=>rhs;unfold eC
 rw [if_neg (by rw [hf];decide)]
 rfl
theorem gx.done {n:Nat} {l:List (D aJ)} {i:Nat} (h:gx n l i) (hi:¬ i < l.length):eC n none l=0:=by
 rw [<-h.eq,List.drop_eq_nil_of_le (by omega)];rfl
theorem wx {t:Ty} {l:List (D t)} {i j:Nat} {f:D t->Bool} (hj:j < i) (hi:i<=l.length) (h:f (nth t l j)=true):(l.take i).any f=true:=by
 rw [List.any_eq_true]
 refine ⟨nth t l j,?_,h⟩
 have:(l.take i)[j]?=some (nth t l j):=by
  rw [List.getElem?_take,if_pos hj]
  unfold nth
  rw [List.getD_eq_getElem?_getD,List.getElem?_eq_getElem (by omega)];rfl
 exact List.mem_of_getElem? this
theorem tN {t:Ty} {l:List (D t)} {i:Nat} {f:D t->Bool} (h:∀j,j < i->f (nth t l j)=false):(l.take i).any f=false:=by
 rw [List.any_eq_false]
 intro x hx
 obtain ⟨j,hj,rfl⟩:=List.getElem_of_mem hx
 rw [List.length_take] at hj
 have:=h j (by omega)
 rw [List.getElem_take]
 have e:nth t l j=l[j]'(by omega):=by unfold nth;simp [show j < l.length by omega]
 rw [e] at this
 rw [this];decide
theorem contains_of {l:List (List UInt8)} {s:List UInt8} {y:Int} (h:(y = -1/\∀j,j < l.length->nth .str l j≠s)\/(0<=y/\y.toNat < l.length/\nth .str l y.toNat=s)):decide (y>=0)=l.any (· == s):=by
 rcases h with ⟨rfl,h⟩ | ⟨h1,h2,h3⟩
 ·have:=tN (t:=.str) (l:=l) (i:=l.length) (f:=(· == s)) fun j hj=>by simpa using h j hj
  rw [List.take_length] at this
  rw [this];rfl
 ·have:=wx (t:=.str) (l:=l) (i:=l.length) (f:=(· == s)) h2 (Nat.le_refl _) (by simpa using h3)
  rw [List.take_length] at this
  rw [this];simpa using h1
theorem xZ {o:D aA} (h:fq o):bk o=2:=by unfold bk;rw [if_pos h]
theorem oT {o:D aA} (h:¬ fq o) {f:Int} (hf:dA [] o.1=f) (h0:f≠0):bk o=f:=by unfold bk;rw [if_neg h,if_pos (by rw [hf];exact h0),hf]
theorem wy {o:D aA} (h:¬ fq o) (h1:dA [] o.1=0) {f:Int} (hf:eB o.2.1=f) (h0:f≠0):bk o=f:=by
 unfold bk;rw [if_neg h,if_neg (by rw [h1];decide),if_pos (by rw [hf];exact h0),hf]
theorem x3 {o:D aA} (h:¬ fq o) (h1:dA [] o.1=0) (h2:eB o.2.1=0) {f:Int} (hf:cM o.2.1.length [] o.2.2.1=f) (h0:f≠0):bk o=f:=by
 unfold bk;rw [if_neg h,if_neg (by rw [h1];decide),if_neg (by rw [h2];decide),if_pos (by rw [hf];exact h0),hf]
theorem x4 {o:D aA} (h:¬ fq o) (h1:dA [] o.1=0) (h2:eB o.2.1=0) (h3:cM o.2.1.length [] o.2.2.1=0) {f:Int} (hf:eC o.2.1.length none o.2.2.2.1=f):bk o=f:=by
 unfold bk;rw [if_neg h,if_neg (by rw [h1];decide),if_neg (by rw [h2];decide),if_neg (by rw [h3];decide),hf]
end Go.Mrl

namespace Go.Mrl
open Go.Vg
theorem wz:∀{es:List FE} {s:aG},dO eL es s=true ↔ ∃y∈es,y.1=s
 | [],_=>by simp [dO]
 | z :: r,s=>by
  unfold dO
  by_cases c:z.1=s
  ·simp [c]
  ·rw [if_neg c,wz];simp [c]
end Go.Mrl

namespace Go.Mrl
open Go.Vg
end Go.Mrl

namespace Go.Mrl
open Go.Vg
end Go.Mrl

namespace Go.Mrl
open Go.Vg
def _root_.Go.Vg.E3:List UInt8->UInt8
 | c :: _=>c
 | []=>0
def pD (c:UInt8):List aG->aG
 | []=>[]
 | [x]=>x
 | x :: y :: r=>x++c :: pD c (y :: r)
def parts (c:UInt8):aG->List aG
 | []=>[[]]
 | b :: r=>if b=c then [] :: parts c r else match parts c r with
  | h :: t=>(b :: h) :: t
  | []=>[[b]]
theorem qG (c:UInt8):∀s:aG,parts c s≠[]
 | []=>by simp [parts]
 | b :: r=>by
  unfold parts
  split
  ·simp
  ·split <;> simp
theorem fz {c b:UInt8} {r:aG} (h:b≠c):∃x t,parts c r=x :: t/\parts c (b :: r)=(b :: x) :: t:=by
 cases hp:parts c r with
 | nil=>exact absurd hp (qG c r)
 | cons x t=>
  refine ⟨x,t,rfl,?_⟩
  conv=>lhs;unfold parts
  rw [if_neg h,hp]
theorem ia {c:UInt8} {r:aG}:parts c (c :: r) = [] :: parts c r:=by
 conv=>lhs;unfold parts
 rw [if_pos rfl]
theorem fc {c:UInt8}:∀{x:aG},c∉x->parts c x = [x]
 | [],_=>rfl
 | b :: r,h=>by
  obtain ⟨x,t,h1,h2⟩:=fz (c:=c) (b:=b) (r:=r) (fun e=>h (by simp [e]))
  rw [fc (x:=r) (fun e=>h (by simp [e]))] at h1
  cases h1
  exact h2
theorem cG {c:UInt8}:∀{x:aG} {s:aG},c∉x->parts c (x++c :: s)=x :: parts c s
 | [],s,_=>ia
 | b :: r,s,h=>by
  obtain ⟨x,t,h1,h2⟩:=fz (c:=c) (b:=b) (r:=r++c :: s) (fun e=>h (by simp [e]))
  rw [cG (x:=r) (fun e=>h (by simp [e]))] at h1
  cases h1
  exact h2
theorem p0 {c:UInt8}:∀{L:List aG},L≠[]->(∀y∈L,c∉y)->parts c (pD c L)=L
 | [],h,_=>absurd rfl h
 | [x],_,h=>fc (h x (by simp))
 | x :: y :: r,_,h=>by
  show parts c (x++c :: pD c (y :: r))=_
  rw [cG (h x (by simp)),p0 (by simp) fun z hz=>h z (List.mem_cons_of_mem _ hz)]
theorem oU (c:UInt8):∀(s:aG),(parts c s).length<=s.length + 1
 | []=>by simp [parts]
 | b :: r=>by
  by_cases h:b=c
  ·subst h;rw [ia];have:=oU b r;simp;omega
  ·obtain ⟨x,t,h1,h2⟩:=fz (c:=c) (b:=b) (r:=r) h
   have:=oU c r
   rw [h1] at this
   rw [h2];simp at this ⊢;omega
theorem jA (c:UInt8):∀(s:aG),∀y∈parts c s,y.length<=s.length
 | [],y,h=>by simp [parts] at h;simp [h]
 | b :: r,y,h=>by
  by_cases hb:b=c
  ·subst hb;rw [ia] at h
   rcases List.mem_cons.1 h with rfl | h
   ·simp
   ·have:=jA b r y h;simp;omega
  ·obtain ⟨x,t,h1,h2⟩:=fz (c:=c) (b:=b) (r:=r) hb
   rw [h2] at h
   rcases List.mem_cons.1 h with rfl | h
   ·have:=jA c r x (by rw [h1];simp);simp;omega
   ·have:=jA c r y (by rw [h1];simp [h]);simp;omega
theorem wA {b c:UInt8} {l:aG} (h:b≠c):Lib.index (b :: l) [c]=if Lib.index l [c] == -1 then -1 else Lib.index l [c] + 1:=by
 rw [Lib.index];simp [List.isPrefixOf,Ne.symm h]
theorem wB {c:UInt8} {l:aG}:Lib.index (c :: l) [c]=0:=by
 rw [Lib.index];simp [List.isPrefixOf]
theorem la (c:UInt8):∀s:aG,Lib.splitK [c] 0 (s.count c) s=parts c s
 | []=>rfl
 | b :: l=>by
  by_cases h:b=c
  ·subst h
   rw [ia,List.count_cons_self,Lib.splitK,wB,if_neg (by decide),<-la b l]
   simp
  ·obtain ⟨x,t,h1,h2⟩:=fz (c:=c) (b:=b) (r:=l) h
   rw [h2,List.count_cons_of_ne h]
   rw [<-la c l] at h1
   cases hk:l.count c with
   | zero=>
    rw [hk] at h1
    simp only [Lib.splitK] at h1 ⊢
    cases h1
    rfl
   | succ k=>
    rw [hk] at h1
    have hi:Lib.index l [c]≠-1:=by
     intro e
     have:=Lib.count_miss (s:=l) (sub:=[c]) e
     rw [Lib.count_one] at this
     omega
    have hge:=Lib.index_ge l [c]
    rw [Lib.splitK,if_neg (by simpa using hi)] at h1
    obtain ⟨i,e⟩:∃i:Nat,Lib.index l [c]=i:=⟨(Lib.index l [c]).toNat,by omega⟩
    have e2:Lib.index (b :: l) [c]=((i + 1:Nat):Int):=by rw [wA h,if_neg (by simpa using hi),e];rfl
    rw [Lib.splitK,e2,if_neg (by simp;omega)]
    rw [e] at h1
    simp only [Int.toNat_natCast,Nat.add_zero,List.length_singleton,List.take_succ_cons,List.drop_succ_cons,List.cons.injEq] at h1 ⊢
    exact ⟨⟨trivial,h1.1⟩,h1.2⟩
def kn (c:UInt8) (L:List aG):aG:=L.flatMap (· ++ [c])
theorem tO (c:UInt8) (x:aG) (L:List aG):kn c (x :: L)=x++c :: kn c L:=by simp [kn]
theorem tP {c:UInt8}:∀{L:List aG},L≠[]->kn c L=pD c L++[c]
 | [],h=>absurd rfl h
 | [x],_=>by simp [kn,pD]
 | x :: y :: r,_=>by
  rw [tO,tP (L:=y :: r) (by simp)];simp [pD]
theorem sU (x:aG) (c:UInt8):Lib.trimSuffix (x++[c]) [c]=x:=by
 have h:Lib.hasSuffix (x++[c]) [c]=true:=by unfold Lib.hasSuffix;simp [List.isSuffixOf_iff_suffix]
 unfold Lib.trimSuffix
 rw [if_pos h];simp
theorem AK {c:UInt8} {L:List aG} (h:L≠[]) (hf:∀y∈L,c∉y):parts c (Lib.trimSuffix (kn c L) [c])=L:=by
 rw [tP h,sU,p0 h hf]
end Go.Mrl

namespace Go.Mrl
open Go.Vg
theorem oV {k:Nat} (h:k < 10):(UInt8.ofNat (48 + k)).toNat=48 + k:=by
 rw [UInt8.toNat_ofNat'];omega
theorem jf:∀(u:Nat),∀c∈Lib.decDigits u,48<=c.toNat/\c.toNat<=57:=by
 intro u
 induction u using Nat.strongRecOn with
 | _ u ih=>
  intro c hc
  by_cases h:u < 10
  ·rw [Lib.decDigits,dif_pos h] at hc
   simp only [List.mem_singleton] at hc
   rw [hc,oV h];omega
  ·rw [Lib.decDigits,dif_neg h] at hc
   rcases List.mem_append.1 hc with hc | hc
   ·exact ih _ (by omega) c hc
   ·simp only [List.mem_singleton] at hc
    rw [hc,oV (Nat.mod_lt _ (by decide))];omega
theorem oW (u:Nat):Lib.decDigits u≠[]:=by
 rw [Lib.decDigits];split <;> simp
theorem ko:∀(k u:Nat),u < 10 ^ (k + 1)->(Lib.decDigits u).length<=k + 1
 | 0,u,h=>by rw [Lib.decDigits,dif_pos (by simpa using h)];simp
 | k + 1,u,h=>by
  rw [Lib.decDigits]
  split
  ·simp
  ·have:=ko k (u / 10) (by rw [Nat.pow_succ] at h;omega)
   simp;exact this
theorem tQ:∀(l:aG) (c:UInt8) (a v:Nat),Lib.parseUint10 a l = .ok v->Lib.parseUint10 a (l++[c])=Lib.parseUint10 v [c]
 | [],c,a,v,h=>by simp [Lib.parseUint10] at h;rw [h];rfl
 | b :: l,c,a,v,h=>by
  rw [List.cons_append,Lib.parseUint10]
  rw [Lib.parseUint10] at h
  split at h
  ·rename_i hb
   rw [if_pos hb]
   split at h
   ·cases h
   ·rename_i h1
    rw [if_neg h1]
    split at h
    ·cases h
    ·rename_i h2
     rw [if_neg h2]
     exact tQ l c _ v h
  ·cases h
theorem wC {v d:Nat} (hd:d < 10) (h:10 * v + d < 18446744073709551616):Lib.parseUint10 v [UInt8.ofNat (48 + d)] = .ok (10 * v + d):=by
 unfold Lib.parseUint10
 rw [oV hd,if_pos (by omega),if_neg (by omega),if_neg (by omega)]
 unfold Lib.parseUint10
 congr 1;omega
theorem D6:∀u:Nat,u < 18446744073709551616->Lib.parseUint10 0 (Lib.decDigits u) = .ok u:=by
 intro u
 induction u using Nat.strongRecOn with
 | _ u ih=>
  intro hu
  by_cases h:u < 10
  ·rw [Lib.decDigits,dif_pos h]
   have:=wC (v:=0) (d:=u) h (by omega)
   simpa using this
  ·rw [Lib.decDigits,dif_neg h,tQ _ _ _ _ (ih _ (by omega) (by omega)),wC (Nat.mod_lt _ (by decide)) (by omega)]
   congr 1;omega
theorem yY {u:Nat} (hu:u < 18446744073709551616):Lib.parseMag (Lib.decDigits u) = .ok u:=by
 unfold Lib.parseMag
 rw [if_neg (oW u),D6 u hu]
theorem Ci {n:Int} (h0 : -9223372036854775808<=n) (h1:n<=9223372036854775807):Lib.atoiAll (Lib.itoa n) = .ok n:=by
 by_cases hn:n < 0
 ·have hm:=yY (u:=n.natAbs) (by omega)
  simp only [Lib.itoa,if_pos hn,Lib.atoiAll]
  rw [if_pos (Or.inr (by decide)),hm]
  simp only
  rw [if_neg (by simp),if_neg (by simp;omega)]
  simp;omega
 ·have hm:=yY (u:=n.toNat) (by omega)
  simp only [Lib.itoa,if_neg hn,Lib.atoiAll]
  cases hd:Lib.decDigits n.toNat with
  | nil=>exact absurd hd (oW _)
  | cons c r=>
   have hc:=jf n.toNat c (by rw [hd];simp)
   rw [hd] at hm
   simp only
   rw [if_neg (by omega),hm]
   simp only
   rw [if_neg (by omega),if_neg (by omega),if_neg (by omega)]
   congr 1;omega
def b6 (s:List UInt8):Int × aU:=match Lib.atoiAll s with
 | .ok n=>(n, .nil)
 | Lib.NumEnd.syntax=>(0, .other)
 | .range=>(Lib.atoiSat s, .other)
def cu (s:aG):Option Int:=match Lib.atoiAll s with
 | .ok n=>if Lib.itoa n=s then some n else none
 | _=>none
theorem Cj {n:Int} (h0 : -9223372036854775808<=n) (h1:n<=9223372036854775807):cu (Lib.itoa n)=some n:=by
 unfold cu;rw [Ci h0 h1];simp
theorem tR {s:aG}:(cu s).isNone=(!(b6 s).2.isNil || !decide (Lib.itoa (b6 s).1=s)):=by
 unfold cu b6
 cases Lib.atoiAll s with
 | ok v=>simp only [aU.isNil];by_cases h:Lib.itoa v=s <;> simp [h]
 | range=>rfl
 | _=>rfl
theorem tS {n:Int} {c:UInt8} (h:c.toNat<=44):c∉Lib.itoa n:=by
 intro hc
 have h45:(45:UInt8).toNat=45:=rfl
 unfold Lib.itoa at hc
 split at hc
 ·rcases List.mem_cons.1 hc with rfl | hc
  ·omega
  ·have:=jf _ c hc;omega
 ·have:=jf _ c hc;omega
theorem qH {n:Int} (h:0<=n) (h':n < 10):Lib.itoa n = [UInt8.ofNat (48 + n).toNat]:=by
 unfold Lib.itoa;rw [if_neg (by omega),Lib.decDigits,dif_pos (by omega)];congr 2;omega
end Go.Mrl

namespace Go.Mrl
open Go.Vg
theorem kf {f:Int} (h0:0<=f) (h:(aY f).isNil=false):f > 0:=by
 have:¬ f=0:=fun e=>by rw [aZ.2 e] at h;cases h
 omega
theorem jB {f:Int} (h:(aY f).isNil=true):f<=0:=by
 have:=aZ.1 h;omega
theorem tT {t:Ty} {l:List (D t)} {i j:Nat} (h:j < i):nth t (List.drop 0 (List.take i l)) j=nth t l j:=by
 rw [List.drop_zero,wi h]
theorem tU {α:Type} {l:List α} {i:Nat} (h:i<=l.length):(List.drop 0 (List.take i l)).length=i:=by
 rw [List.drop_zero,List.length_take];omega
def cS (b:Bool):List UInt8:=if b=true then [119,101,97,107,32] else []
def nA (s:aG):aG:=[110,101,101,100,32]++s++[10]
def lN (n:Int):aG:=[119,111,114,100,32]++Lib.itoa n++[10]
def qI (y:D aF):aG:=cS y.2.2.1++[115,121,109,98,111,108,32]++y.1++[32]++Lib.itoa y.2.1++[10]
def mb (t:D aJ):aG:=
 if t.2.1=1 then [98,97,115,101,32]++Lib.itoa t.1++[32]++Lib.itoa t.2.2.1++[10]
 else if t.2.1=2 then cS t.2.2.2.2.1++[119,104,111,108,101,32]++Lib.itoa t.1++[32]++Lib.itoa t.2.2.1++[32]++t.2.2.2.1++[10]
 else cS t.2.2.2.2.1++[110,101,97,114,32]++Lib.itoa t.1++[32]++Lib.itoa t.2.2.1++[32]++t.2.2.2.1++[10]
def iy (o:D aA) (i:Nat):aG:=(o.1.take i).flatMap nA
def ga (o:D aA) (i:Nat):aG:=iy o o.1.length++(o.2.1.take i).flatMap lN
def gb (o:D aA) (i:Nat):aG:=ga o o.2.1.length++(o.2.2.1.take i).flatMap qI
def dr (o:D aA) (i:Nat):aG:=gb o o.2.2.1.length++(o.2.2.2.1.take i).flatMap mb
def cT (o:D aA):aG:=dr o o.2.2.2.1.length
def eg (o:D aA):aG × aU:=if bk o≠0 then ([],aY (bk o)) else if (cT o).length > 1200 then ([], .no 2) else (cT o, .nil)
theorem Ck {o:D aA} {i:Nat} (h:i < o.1.length):iy o (i + 1)=iy o i++nA (nth .str o.1 i):=by
 unfold iy;rw [fZ (t:=.str) h];simp
theorem Cm {o:D aA} {i:Nat} (h:i < o.2.1.length):ga o (i + 1)=ga o i++lN (nth (.int .i64) o.2.1 i):=by
 unfold ga;rw [fZ (t:=.int .i64) h];simp
theorem Cn {o:D aA} {i:Nat} (h:i < o.2.2.1.length):gb o (i + 1)=gb o i++qI (nth aF o.2.2.1 i):=by
 unfold gb;rw [fZ (t:=aF) h];simp
theorem oX {o:D aA} {i:Nat} (h:i < o.2.2.2.1.length):dr o (i + 1)=dr o i++mb (nth aJ o.2.2.2.1 i):=by
 unfold dr;rw [fZ (t:=aJ) h];simp
theorem Co (o:D aA):ga o 0=iy o o.1.length:=by unfold ga;simp
theorem Cp (o:D aA):gb o 0=ga o o.2.1.length:=by unfold gb;simp
theorem Cq (o:D aA):dr o 0=gb o o.2.2.1.length:=by unfold dr;simp
def Nm (s:aG):Prop:=s≠[]/\s.length<=8/\∀c∈s,c≠10/\c≠32
def jg (a b x:Int):Prop:=a<=x/\x<=b
structure rY (t:D aJ):Prop where
 a:jg 0 39 t.1
 w:jg (-2147483648) 2147483647 t.2.2.1
 k:t.2.1=1\/t.2.1=2\/t.2.1=3
 base:t.2.1=1->t.2.2.2.1 = []/\t.2.2.2.2.1=false
 nm:t.2.1≠1->Nm t.2.2.2.1
structure eM (o:D aA):Prop where
 n4:o.1.length<=4
 w1:1<=o.2.1.length
 GQ:o.2.1.length<=40
 s8:o.2.2.1.length<=8
 t6:o.2.2.2.1.length<=6
 uZ:∀s∈o.1,Nm s
 words:∀n∈o.2.1,jg (-2147483648) 2147483647 n
 syms:∀y∈o.2.2.1,Nm y.1/\jg 0 39 y.2.1
 AL:∀t∈o.2.2.2.1,rY t
end Go.Mrl

