/- A part of the proof that the law TopLineCard holds of the given program: facts that are used there. -/
import Derived.Test.YtgokjhhcfemnhabDoorPart1
import Derived.Deep.LoopGhost
import Derived.ProofKit
import Derived.KernelRfl
import Derived.Deep.Heap
import Derived.Room.AppendFits
import Derived.Lib.UnsafeStr
import Derived.Lib.SplitLaws
import Derived.Lib.ItoaNum
import Derived.Lib.AtoiAll
import Derived.Handed
import Derived.Clock
import Derived.Lib.LaidTab
import Derived.Lib.LaidU8
import Derived.Lay
set_option linter.unusedSimpArgs false
set_option linter.unusedVariables false
namespace Go.Vg
open Go.RowKit
def fe:List Cl->Bool
 | []=>true
 | .d t :: r=>t.flat && fe r
 | _ :: r=>fe r
def bI:List Ob->Bool
 | []=>true
 | .box _ cls :: r=>fe cls && bI r
 | .row _ t :: r=>t.flat && bI r
 | .tok t :: r=>t.flat && bI r
 | .ext _ _ :: r=>bI r
section
variable {eT:TypeId} {X:Ext}
theorem VR.to {t:Ty} {x:D t} {S S':aq} {v:Value} (hw:S'.w=S.w) (hA:t.flat=true\/∀b o,S'.A b o->S.A b o) (h:VR eT t x S.A S.w v):VR eT t x S'.A S'.w v:=by
 rcases hA with hA | hA
 ·exact VR.of_flat hA h
 ·rw [hw];exact VR.tj h fun b o k h'=>k (hA b o h')
def Laid (eT:TypeId) (S:aq):(os:List Ob)->PD os->List Nat->List Loc->Prop
 | [],_,ns,ls=>ns = []/\ls = []
 | o :: r,x,n :: ns,l :: ls=>(S.loc n=l/\n < S.next/\(match o,x.1 with
  | .box _ _,_=>∃b,l.v = .pointer (some ⟨b,0,none⟩)
  | .tok t,y=>VR eT (.slice t) y S.A S.w l.v/\∀ys,S.ob n=some (.tok t ys)->ys=y
  | .row _ _,_=>∃a k c,l.v = .slice a k c
  | .ext 0 _,_=>∃v,∃hs:List Value,l.v = .tuple (v :: hs).toArray
  | .ext (_ + 1) _,_=>km l.v=l.v))/\Laid eT S r x.2 ns ls
 | _,_,_,_=>False
theorem uK {S:aq}:∀{os:List Ob} {x:PD os} {ns:List Nat} {ls:List Loc} {k:Nat} {v:Value},Laid eT S os x ns ls->qt ls k v->CR eT S (fv os x ns k) v:=by
 intro os
 induction os with
 | nil=>intro x ns ls k v h hr;exact trivial
 | cons o r ih=>
  intro x ns ls k v h hr
  match ns,ls,h with
  | n :: ns,l :: ls,⟨⟨h1,h2,h3⟩,h4⟩=>
   obtain ⟨l0,hl,hv⟩:=hr
   cases k with
   | succ k=>exact ih h4 ⟨l0,by simpa using hl,hv⟩
   | zero=>
    simp at hl
    subst hl
    subst hv
    show CR eT S (xI o x.1 n) _
    cases o with
    | box T cls=>
     obtain ⟨b,hb⟩:=h3
     rw [hb]
     exact ⟨h2,fun T cs _=>⟨b,by rw [h1];exact hb,rfl⟩⟩
    | row kp t=>
     obtain ⟨a,k,c,hb⟩:=h3
     rw [hb]
     exact ⟨h2,fun t xs _=>by rw [h1,hb];rfl⟩
    | tok t=>
     obtain ⟨a,c,hb,_⟩:=hZ h3.1
     rw [show km l.v=l.v by rw [hb];rfl]
     exact ⟨h3.1,h2,fun ys hy=>by rw [h3.2 ys hy];exact ⟨Nat.le_refl _,fun _=>by rw [h1]⟩⟩
    | ext k t=>
     cases k with
     | zero=>
      obtain ⟨v,hs,hb⟩:=h3
      rw [hb]
      exact ⟨h2,fun t x _=>⟨hs,by rw [h1,hb];rfl⟩⟩
     | succ k=>
      rw [show km l.v=l.v from h3]
      exact ⟨h2,fun oc _ _=>by rw [h1]⟩
theorem vY {S S':aq} {F:Nat->Value->Prop} {f:Nat->C} (hw:S'.w=S.w) (hF:∀k v,F k v->CR eT S' (f k) v):∀{cls:List Cl} {x:CD cls} {vs:List Value},
  (fe cls=true\/∀b o,S'.A b o->S.A b o)->n2 eT S F cls x vs->(∀v∈vs,v.oneCell'=true)->aU eT S' (qq f cls x) vs:=by
 intro cls
 induction cls with
 | nil=>intro x vs _ h _;rw [show vs = [] from h];exact .nil
 | cons cl r ih=>
  intro x vs hA h h1
  cases vs with
  | nil=>cases cl <;> exact h.elim
  | cons v vs=>
   have hr:fe r=true\/∀b o,S'.A b o->S.A b o:=by
    rcases hA with hA | hA
    ·left;cases cl <;> simp [fe] at hA <;> first | exact hA.2 | exact hA
    ·exact .inr hA
   cases cl with
   | d t=>
    refine .cons (VR.to hw ?_ h.1) (h1 v (by simp)) (ih hr h.2 fun u hu=>h1 u (by simp [hu]))
    rcases hA with hA | hA
    ·left;simp [fe] at hA;exact hA.1
    ·exact .inr hA
   | obj k=>exact .cons (hF k v h.1) (h1 v (by simp)) (ih hr h.2 fun u hu=>h1 u (by simp [hu]))
   | cM=>exact .cons h.1 (h1 v (by simp)) (ih hr h.2 fun u hu=>h1 u (by simp [hu]))
theorem cO.to {S S':aq} {t:Ty} {xs:List (D t)} {vs:Array Value} (hw:S'.w=S.w) (hA:t.flat=true\/∀b o,S'.A b o->S.A b o) (h:cO eT S t xs vs):cO eT S' t xs vs:=by
 intro i y hy
 obtain ⟨us,h1,h2⟩:=h i y hy
 refine ⟨us,?_,h2⟩
 rcases hA with hA | hA
 ·exact h1.of_flat hA
 ·rw [hw];exact h1.frame fun b o v k h'=>⟨h',fun h''=>k (hA b o h'')⟩
theorem qv.to {S S':aq} {t:Ty} {xs:List (D t)} {l:Loc} (hw:S'.w=S.w) (hA:t.flat=true\/∀b o,S'.A b o->S.A b o) (h:OR eT X S l (.ak t xs)):OR eT X S' l (.ak t xs):=by
 rcases h with h | ⟨b,vs,T,cap,h1,h2,h3,h4,h5,h6,h7⟩
 ·exact .inl h
 ·exact .inr ⟨b,vs,T,cap,h1,h2,by rw [hw];exact h3,h4,h5,h6,h7.to hw hA⟩
def gl (o:Ob):Bool:=bI [o]
theorem xL {S S':aq} {F:Nat->Value->Prop} {f:Nat->C} (hw:S'.w=S.w) (hF:∀k v,F k v->CR eT S' (f k) v) {o:Ob} {x:OD o} {l:Loc}
  (hA:gl o=true\/∀b o,S'.A b o->S.A b o) (h:uJ eT X S F o x l):OR eT X S' l (mh f o x):=by
 cases o with
 | box T cls=>
  obtain ⟨b,vs,h1,h2,h3,h4,h5⟩:=h
  refine ⟨b,vs,h1,h2,by rw [hw];exact h3,vY hw hF ?_ h4 h5⟩
  rcases hA with hA | hA
  ·left;simpa [gl,bI] using hA
  ·exact .inr hA
 | row kp t=>
  refine qv.to hw ?_ h
  rcases hA with hA | hA
  ·left;simpa [gl,bI] using hA
  ·exact .inr hA
 | tok t=>
  refine qv.to (X:=X) (l:=l) hw ?_ h
  rcases hA with hA | hA
  ·left;simpa [gl,bI] using hA
  ·exact .inr hA
 | ext k t=>show X.rel _ _ _ _ _;rw [hw];exact h
theorem vZ {S:aq} {t:Ty} {xs:List (D t)} {l:Loc} (h:OR eT X S l (.tok t xs)) (hA:∀b∈l.bs,∀off,off < xs.length * t.size->¬ S.A b off):VR eT (.slice t) xs S.A S.w l.v:=by
 rcases h with ⟨rfl,⟨a,ha⟩,_⟩ | ⟨b,vs,T,cap,h1,h2,h3,h4,h5,h6,he⟩
 ·exact VR.aD rfl ⟨_,rfl,by simp, .inl ⟨rfl,a,0,ha⟩⟩
 ·refine VR.aD rfl ⟨_,rfl,h6, .inr ⟨b,0,cap,h1,h5,fun i y hy => ?_⟩⟩
  obtain ⟨us,r1,r2⟩:=he i y hy
  refine ⟨us,r1,fun j u hj=>⟨?_,?_⟩⟩
  ·rw [Nat.zero_add,cell_of_row S.w b _ vs T (0,0) h3];exact r2 j u hj
  ·rw [Nat.zero_add]
   refine hA b (by rw [h2];simp) _ ?_
   have hi:=al hy
   have hjl:=al hj
   rw [r1.length] at hjl
   have:(i + 1) * t.size<=xs.length * t.size:=Nat.mul_le_mul_right _ hi
   rw [Nat.add_mul] at this
   omega
def bn:List Nat->List Loc->(Nat->Loc)->Nat->Loc
 | n :: ns,l :: ls,d,m=>if n=m then l else bn ns ls d m
 | _,_,d,m=>d m
theorem gG:∀{ns:List Nat} {ls:List Loc} {d:Nat->Loc} {m:Nat},m∉ns->bn ns ls d m=d m
 | [],_,_,_,_=>by cases ‹List Loc› <;> rfl
 | n :: ns,[],_,_,_=>rfl
 | n :: ns,l :: ls,d,m,h=>by
  simp only [List.mem_cons,not_or] at h
  simp only [bn]
  rw [if_neg (fun e=>h.1 e.symm)]
  exact gG h.2
theorem mi {n:Nat} {l:List Nat}:en n l=true ↔ n∈l:=by
 refine ⟨ji,fun h => ?_⟩
 induction l with
 | nil=>simp at h
 | cons m r ih=>
  simp only [en]
  split
  ·rfl
  ·rename_i hb
   rcases List.mem_cons.1 h with h | h
   ·subst h;rw [Nat.beq_refl] at hb;cases hb
   ·exact ih h
theorem dS {n:Nat} {r:List Nat} (h:nodupB (n :: r)=true):n∉r/\nodupB r=true:=by
 simp only [nodupB,Bool.and_eq_true,Bool.not_eq_true'] at h
 exact ⟨fun hm=>by rw [mi.2 hm] at h;exact absurd h.1 (by decide),h.2⟩
theorem gH:∀{ns:List Nat} {ls:List Loc} {d:Nat->Loc} {i n:Nat} {l:Loc},nodupB ns=true->ns[i]?=some n->ls[i]?=some l->bn ns ls d n=l
 | [],_,_,_,_,_,_,h,_=>by simp at h
 | n :: ns,[],_,_,_,_,_,_,h=>by simp at h
 | n :: ns,l :: ls,d,0,m,k,_,h1,h2=>by simp at h1 h2;subst h1;subst h2;simp [bn]
 | n :: ns,l :: ls,d,i + 1,m,k,hn,h1,h2=>by
  obtain ⟨hm,hn⟩:=dS hn
  simp at h1 h2
  simp only [bn]
  rw [if_neg (fun e=>hm (by rw [e];exact List.mem_of_getElem? h1))]
  exact gH hn h1 h2
theorem mY {cv:Bool} {ad:List (Nat × OC)} {ay:List Ob} {ν:List Nat} {f:Nat->C} {S:aq} {F:Nat->Value->Prop} {loc:Nat->Loc}:∀{os:List Ob} {x:PD os} {ns ms:List Nat} {m:Nat} {oc:OC},bx cv ad ay ν os ns=some x->tl eT X S F os x (ns.map loc)->ns.length=ms.length->
  look (eR f os x ms) m=some oc->∃(i n:Nat) (o:Ob) (y:OD o) (oc0:OC),ns[i]?=some n/\ms[i]?=some m/\os[i]?=some o/\look ad n=some oc0/\dL cv ad ay ν o oc0=some y/\oc=mh f o y/\uJ eT X S F o y (loc n):=by
 intro os
 induction os with
 | nil=>intro x ns ms m oc _ _ _ h;simp [eR,look] at h
 | cons o r ih=>
  intro x ns ms m oc hg hR hl h
  cases ns with
  | nil=>simp [bx] at hg
  | cons n ns=>
   cases ms with
   | nil=>simp at hl
   | cons k ms=>
    simp only [bx] at hg
    split at hg
    case h_2=>cases hg
    rename_i oc0 hob
    split at hg
    case h_2=>cases hg
    rename_i x0 y0 h1 h2
    cases hg
    simp only [eR,aA] at h
    split at h
    ·rename_i e
     cases h
     exact ⟨0,n,o,x0,oc0,rfl,by simp [e],rfl,hob,h1,rfl,hR.1⟩
    ·obtain ⟨i,n',o',y',oc',k1,k2,k3,k4⟩:=ih h2 hR.2 (by simpa using hl) h
     exact ⟨i + 1,n',o',y',oc',by simpa using k1,by simpa using k2,by simpa using k3,k4⟩
theorem w4 {cv:Bool} {ad:List (Nat × OC)} {ay:List Ob} {ν:List Nat} {f:Nat->C} {o:Ob} {y:OD o} {oc:OC} (h:dL cv ad ay ν o oc=some y):(mh f o y).lo=oc.lo\/cv=true:=by
 cases o <;> cases oc <;> simp only [dL,reduceCtorEq] at h
 ·exact .inl rfl
 ·exact .inl rfl
 ·split at h
  ·exact .inr rfl
  ·cases h
 ·obtain ⟨e,h3⟩:=fc h
  subst e;simp only at h3;subst h3;exact .inl rfl
 ·exact .inl rfl
theorem mZ {cv:Bool} {ad:List (Nat × OC)} {ay:List Ob} {ν:List Nat}:∀{os:List Ob} {ns:List Nat} {x:PD os},bx cv ad ay ν os ns=some x->os.length=ns.length:=by
 intro os
 induction os with
 | nil=>intro ns x h;cases ns with | nil=>rfl | cons=>simp [bx] at h
 | cons o r ih=>
  intro ns x h
  cases ns with
  | nil=>simp [bx] at h
  | cons n ns=>
   simp only [bx] at h
   split at h
   case h_2=>cases h
   split at h
   case h_2=>cases h
   rename_i h2
   simp [ih h2]
theorem kn {f:Nat->C}:∀{os:List Ob} {x:PD os} {ms:List Nat} {m:Nat},os.length=ms.length->m∈ms->∃oc,look (eR f os x ms) m=some oc:=by
 intro os
 induction os with
 | nil=>intro x ms m h hm;cases ms with | nil=>simp at hm | cons=>simp at h
 | cons o r ih=>
  intro x ms m h hm
  cases ms with
  | nil=>simp at h
  | cons k ms=>
   simp only [eR,aA]
   by_cases e:k=m
   ·exact ⟨_,by rw [if_pos e]⟩
   ·rw [if_neg e]
    rcases List.mem_cons.1 hm with hm | hm
    ·exact (e hm.symm).elim
    ·exact ih (by simpa using h) hm
theorem oI:∀{l:List Nat} {i j n:Nat},nodupB l=true->l[i]?=some n->l[j]?=some n->i=j
 | [],_,_,_,_,h,_=>by simp at h
 | m :: r,0,0,_,_,_,_=>rfl
 | m :: r,0,j + 1,n,hn,h1,h2=>by
  simp at h1 h2;subst h1
  exact ((dS hn).1 (List.mem_of_getElem? h2)).elim
 | m :: r,i + 1,0,n,hn,h1,h2=>by
  simp at h1 h2;subst h2
  exact ((dS hn).1 (List.mem_of_getElem? h1)).elim
 | m :: r,i + 1,j + 1,n,hn,h1,h2=>by
  simp at h1 h2
  rw [oI (dS hn).2 h1 h2]
theorem ko {a:Ob} {r:List Ob} (h:bI (a :: r)=true):gl a=true/\bI r=true:=by
 cases a <;> simp [bI,gl] at h ⊢ <;> exact h
theorem ln:∀{l:List Ob} {i:Nat} {o:Ob},bI l=true->l[i]?=some o->gl o=true
 | [],_,_,_,h=>by simp at h
 | a :: r,0,o,hfl,h=>by simp at h;subst h;exact (ko hfl).1
 | a :: r,i + 1,o,hfl,h=>ln (ko hfl).2 (by simpa using h)
theorem w5 {S S2:aq} {F:Nat->Value->Prop} {f:Nat->C} {loc:Nat->Loc} (hNA:∀m t ys,S2.ob m=some (.tok t ys)->∀b∈(S2.loc m).bs,∀off,off < ys.length * t.size->¬ S2.A b off) (hw:S2.w=S.w) :
  ∀{os:List Ob} {x:PD os} {ns ms:List Nat},(bI os=true\/∀b o,S2.A b o->S.A b o)->tl eT X S F os x (ns.map loc)->nodupB ms=true->ns.length=ms.length->(∀n∈ms,S2.ob n=look (eR f os x ms) n)->
   (∀(i n m:Nat),ns[i]?=some n->ms[i]?=some m->S2.loc m=loc n/\m < S2.next)->Laid eT S2 os x ms (ns.map loc):=by
 intro os
 induction os with
 | nil=>
  intro x ns ms _ h _ hl _ _
  have h:ns.map loc = []:=h
  cases ns with
  | nil=>cases ms with
   | nil=>exact ⟨rfl,rfl⟩
   | cons=>simp at hl
  | cons=>simp at h
 | cons o r ih=>
  intro x ns ms hA h hnd hl hob hloc
  cases ns with
  | nil=>exact h.elim
  | cons n ns=>
   cases ms with
   | nil=>simp at hl
   | cons m ms=>
    obtain ⟨hm,hnd'⟩:=dS hnd
    obtain ⟨h1,h2⟩:=hloc 0 n m rfl rfl
    have hA':bI r=true\/∀b o,S2.A b o->S.A b o:=by
     rcases hA with hA | hA
     ·left;cases o <;> simp [bI] at hA <;> first | exact hA.2 | exact hA
     ·exact .inr hA
    refine ⟨⟨h1,h2,?_⟩,ih hA' h.2 hnd' (by simpa using hl) (fun k hk => ?_) (fun i a b ha hb=>hloc (i + 1) a b (by simpa using ha) (by simpa using hb))⟩
    ·cases o with
     | box T cls=>obtain ⟨b,vs,k1,_⟩:=h.1;exact ⟨b,k1⟩
     | row kp t=>rcases h.1 with ⟨_,⟨a,ha⟩,_⟩ | ⟨b,vs,T,cap,ha,_⟩ <;> exact ⟨_,_,_,ha⟩
     | tok t=>
      have hobm:S2.ob m=some (.tok t x.1):=by rw [hob m (by simp)];simp [eR,aA,mh]
      refine ⟨?_,fun ys hy=>by rw [hobm] at hy;cases hy;rfl⟩
      refine vZ (X:=X) (qv.to (X:=X) (l:=loc n) hw ?_ h.1) fun b hb off ho=>hNA m t x.1 hobm b (by rw [h1];exact hb) off ho
      rcases hA with hA | hA
      ·left;simp [bI] at hA;exact hA.1
      ·exact .inr hA
     | ext k t=>
      cases k with
      | zero=>
       have hd:=X.deep.1 h.1
       obtain ⟨e,s,rfl,_⟩:=gx hd
       obtain ⟨_,_,v,hs,hv,_⟩:=hd
       exact ⟨v,hs,hv⟩
      | succ k=>
       show km (loc n).v=(loc n).v
       cases k with
       | zero=>obtain ⟨e,_,b,es,aX,hm⟩:=X.map.1 h.1;rw [hm.lv];rfl
       | succ k=>obtain ⟨a,ha⟩:=X.ptr (by omega) h.1;rw [ha];rfl
    ·rw [hob k (by simp [hk])]
     simp only [eR,aA]
     rw [if_neg (fun e=>hm (by rw [e];exact hk))]
theorem x6 {cv:Bool} {ay:List Ob} {ν:List Nat} {x:PD ay} {O:ab} {st:St} {loc:Nat->Loc} {w:World} (g:Good eT X (aa O st loc w)) (hx:bx cv st.ad ay ν ay ν=some x)
  (hp:∀p∈dG ay x st.ad ay ν,p) (hnd:nodupB ν=true)
  {O2:ab} {ν2:List Nat} {rest:List (Nat × OC)} {locR:Nat->Loc} {st2:St} (hnd2:nodupB ν2=true) (hlen:ν.length=ν2.length)
  (hobjs:st2.ad=eR (fv ay x ν2) ay x ν2++rest) (hlt:∀n∈ν2,n < st2.next)
  (hO2:∀n∈ν,∀b∈(loc n).bs,∀off,¬ O2 b off)
  (hD:∀n∈ν,∀b∈(loc n).bs,∀m oc,look rest m=some oc->m∉ν2->b∉(locR m).bs)
  (hR:∀m oc,look rest m=some oc->m∉ν2->m < st2.next/\OR eT X (aa O2 st2 (bn ν2 (ν.map loc) locR) w) (locR m) oc)
  (hR2:∀m m' oc oc' b,look rest m=some oc->look rest m'=some oc'->m∉ν2->m'∉ν2->b∈(locR m).bs->b∈(locR m').bs->m=m')
  (hR3:∀m oc b off,look rest m=some oc->m∉ν2->b∈(locR m).bs->¬ O2 b off)
  (hA:bI ay=true\/∀b o,(aa O2 st2 (bn ν2 (ν.map loc) locR) w).A b o->(aa O st loc w).A b o)
  (hGl:∀b∈X.r8,¬ (aa O2 st2 (bn ν2 (ν.map loc) locR) w).gP b) :
  Good eT X (aa O2 st2 (bn ν2 (ν.map loc) locR) w)/\Laid eT (aa O2 st2 (bn ν2 (ν.map loc) locR) w) ay x ν2 (ν.map loc):=by
 have hobs:=mX (X:=X) g hx hx hp
 have hol:=mZ hx
 generalize hf:fv ay x ν2=f at hobjs
 have hob:∀m oc,(aa O2 st2 (bn ν2 (ν.map loc) locR) w).ob m=some oc->
   (∃(i n:Nat) (o:Ob) (y:OD o) (oc0:OC),ν[i]?=some n/\ν2[i]?=some m/\look st.ad n=some oc0/\dL cv st.ad ay ν o oc0=some y/\oc=mh f o y/\uJ eT X (aa O st loc w) (qt (ν.map loc)) o y (loc n)/\
    bn ν2 (ν.map loc) locR m=loc n/\ay[i]?=some o)\/
   (look rest m=some oc/\m∉ν2/\bn ν2 (ν.map loc) locR m=locR m):=by
  intro m oc h
  simp only [aa,hobjs] at h
  rw [bh] at h
  split at h
  ·rename_i oc' h'
   cases h
   obtain ⟨i,n,o,y,oc0,k1,k2,k3,k4,k5,k6,k7⟩:=mY hx hobs hlen h'
   exact .inl ⟨i,n,o,y,oc0,k1,k2,k4,k5,k6,k7,gH hnd2 k2 (by simp [k1]),k3⟩
  ·rename_i h'
   have:m∉ν2:=fun hm=>by
    obtain ⟨oc1,h1⟩:=kn (f:=f) (x:=x) (by omega) hm
    rw [h1] at h';cases h'
   exact .inr ⟨h,this,gG this⟩
 have hap:∀m m' oc oc' b,(aa O2 st2 (bn ν2 (ν.map loc) locR) w).ob m=some oc->(aa O2 st2 (bn ν2 (ν.map loc) locR) w).ob m'=some oc'->
   b∈(bn ν2 (ν.map loc) locR m).bs->b∈(bn ν2 (ν.map loc) locR m').bs->m=m':=by
  intro m m' oc oc' b h1 h2 h3 h4
  rcases hob m oc h1 with ⟨i,n,o,y,oc0,k1,k2,k4,_,_,_,k8,_⟩ | ⟨k1,k2,k3⟩ <;> rcases hob m' oc' h2 with ⟨i',n',o',y',oc0',j1,j2,j4,_,_,_,j8,_⟩ | ⟨j1,j2,j3⟩
  ·rw [k8] at h3;rw [j8] at h4
   have e:=g.apart n n' oc0 oc0' b k4 j4 h3 h4
   subst e
   have:=oI hnd k1 j1
   subst this
   rw [k2] at j2;cases j2;rfl
  ·rw [k8] at h3;rw [j3] at h4
   exact (hD n (List.mem_of_getElem? k1) b h3 m' oc' j1 j2 h4).elim
  ·rw [k3] at h3;rw [j8] at h4
   exact (hD n' (List.mem_of_getElem? j1) b h4 m oc k1 k2 h3).elim
  ·rw [k3] at h3;rw [j3] at h4
   exact hR2 m m' oc oc' b k1 j1 k2 j2 h3 h4
 have hout:∀m oc b off,(aa O2 st2 (bn ν2 (ν.map loc) locR) w).ob m=some oc->b∈(bn ν2 (ν.map loc) locR m).bs->¬ O2 b off:=by
  intro m oc b off h1 h2
  rcases hob m oc h1 with ⟨i,n,o,y,oc0,k1,k2,k4,_,_,_,k8,_⟩ | ⟨k1,k2,k3⟩
  ·rw [k8] at h2;exact hO2 n (List.mem_of_getElem? k1) b h2 off
  ·rw [k3] at h2;exact hR3 m oc b off k1 k2 h2
 have hNA:∀m t ys,(aa O2 st2 (bn ν2 (ν.map loc) locR) w).ob m=some (.tok t ys)->∀b∈((aa O2 st2 (bn ν2 (ν.map loc) locR) w).loc m).bs,∀off,off < ys.length * t.size->¬ (aa O2 st2 (bn ν2 (ν.map loc) locR) w).A b off:=by
  rintro m t ys h1 b hb off ho (h2 | ⟨m',oc',h2,h3,h4⟩)
  ·exact hout m _ b off h1 hb h2
  ·have:=hap m m' _ oc' b h1 h2 hb h3
   subst this
   rw [h1] at h2;cases h2
   simp only [OC.lo] at h4
   omega
 have hlaid:Laid eT (aa O2 st2 (bn ν2 (ν.map loc) locR) w) ay x ν2 (ν.map loc):=by
  refine w5 (X:=X) (S:=aa O st loc w) (f:=f) hNA rfl hA hobs hnd2 hlen (fun n hn => ?_) (fun i n m h1 h2=>⟨gH hnd2 h2 (by simp [h1]),hlt m (List.mem_of_getElem? h2)⟩)
  show look st2.ad n=_
  rw [hobjs,bh]
  obtain ⟨oc1,h1⟩:=kn (f:=f) (x:=x) (by omega) hn
  rw [h1]
 refine ⟨⟨fun m oc h => ?_,fun m m' oc oc' b h1 h2 h3 h4=>hap m m' oc oc' b h1 h2 h3 h4,fun m oc b off h1 h2=>hout m oc b off h1 h2,g.fL.1,hGl⟩,hlaid⟩
 rcases hob m oc h with ⟨i,n,o,y,oc0,k1,k2,k4,k5,k6,k7,k8,k9⟩ | ⟨k1,k2,k3⟩
 ·refine ⟨hlt m (List.mem_of_getElem? k2),?_⟩
  show OR _ _ _ (bn ν2 (ν.map loc) locR m) oc
  rw [k8,k6]
  refine xL (S:=aa O st loc w) (S':=aa O2 st2 (bn ν2 (ν.map loc) locR) w) rfl (fun k v hk=>by rw [<-hf];exact uK hlaid hk) ?_ k7
  rcases hA with hA | hA
  ·left
   exact ln hA k9
  ·exact .inr hA
 ·obtain ⟨h1,h2⟩:=hR m oc k1 k2
  refine ⟨h1,?_⟩
  show OR _ _ _ (bn ν2 (ν.map loc) locR m) oc
  rw [k3];exact h2
def upto:Nat->Nat->List Nat
 | _,0=>[]
 | k,m + 1=>k :: upto (k + 1) m
theorem mj:∀{m k n:Nat},n∈upto k m->k<=n/\n < k + m
 | 0,k,n,h=>by simp [upto] at h
 | m + 1,k,n,h=>by
  simp only [upto,List.mem_cons] at h
  rcases h with h | h
  ·omega
  ·have:=mj h;omega
theorem qw:∀(m k:Nat),(upto k m).length=m
 | 0,_=>rfl
 | m + 1,k=>by simp [upto,qw m]
theorem nc:∀(m k:Nat),nodupB (upto k m)=true
 | 0,_=>rfl
 | m + 1,k=>by
  simp only [upto,nodupB,nc m,Bool.and_true,Bool.not_eq_true']
  rw [Bool.eq_false_iff]
  intro h
  have:=mj (mi.1 h)
  omega
theorem lq {cv:Bool} {ad:List (Nat × OC)} {ay:List Ob} {ν:List Nat}:∀{os:List Ob} {ns:List Nat} {x:PD os} {n:Nat},bx cv ad ay ν os ns=some x->n∈ns->
  ∃o oc y,o∈os/\look ad n=some oc/\dL cv ad ay ν o oc=some y:=by
 intro os
 induction os with
 | nil=>intro ns x n h hn;cases ns with | nil=>simp at hn | cons=>simp [bx] at h
 | cons o r ih=>
  intro ns x n h hn
  cases ns with
  | nil=>simp at hn
  | cons k ns=>
   simp only [bx] at h
   split at h
   case h_2=>cases h
   rename_i oc hob
   split at h
   case h_2=>cases h
   rename_i x0 y0 h1 h2
   rcases List.mem_cons.1 hn with e | hn
   ·subst e;exact ⟨o,oc,x0,by simp,hob,h1⟩
   ·obtain ⟨o',oc',y',k1,k2⟩:=ih h2 hn
    exact ⟨o',oc',y',by simp [k1],k2⟩
end
end Go.Vg

namespace Go.Vg
open Go.RowKit
inductive Ex where
 | normal
 | exit (n:Nat)
 | ret
def pC:(cls:List Cl)->CD cls
 | []=>()
 | .d t :: r=>(a7 t,pC r)
 | .obj _ :: r=>pC r
 | .cM :: r=>pC r
def x7:(o:Ob)->OD o
 | .box _ cls=>pC cls
 | .row _ _=>[]
 | .tok _=>[]
 | .ext _ t=>a7 t
def wF:(os:List Ob)->PD os
 | []=>()
 | o :: r=>(x7 o,wF r)
structure cW:Type 1 where
 X:Type
 inv:X->Prop
 bR:X->Nat
 bm:X->List (Nat × SV)
 ad:X->List (Nat × OC):=fun _=>[]
 aV:List Nat
 cz:List Nat:=[]
 kq:List Nat:=[]
 ay:List Ob:=[]
 refs:List (Nat × Nat):=[]
 pd:X->PD ay:=fun _=>wF ay
@[reducible] def sI (x:Int):SV:=.s (.one (.d (.int .i64) x))
@[reducible] def sB (x:Bool):SV:=.s (.one (.d .bool x))
@[reducible] def sS (x:List UInt8):SV:=.s (.one (.d .str x))
@[reducible] def sD (t:Ty) (x:D t):SV:=.s (.one (.d t x))
abbrev da:=List (Nat × (St->cW))
def jj:C->C->Prop
 | .lit b, .d .bool c=>b=c
 | .d t x, .d t' y=>match h:Ty.beq t t' with
  | true=>aH h x=y
  | false=>False
 | .app t xs n, .app t' ys m=>match h:Ty.beq (.slice t) (.slice t'),Nat.beq n m with
  | true,true=>aH h (a:=.slice t) (b:=.slice t') xs=ys
  | _,_=>False
 | a,b=>a=b
def fF:SV->SV->Prop
 | .s (.one a), .s (.one b)=>jj a b
 | a,b=>a=b
def kr:List C->List C->Prop
 | [],[]=>True
 | a :: yH,b :: bs=>jj a b/\kr yH bs
 | _,_=>False
def dt:OC->OC->Prop
 | .cells T cs, .cells T' cs'=>match Nat.beq T T' with
  | true=>kr cs cs'
  | false=>False
 | .ak t xs, .ak t' ys=>match h:Ty.beq (.slice t) (.slice t') with
  | true=>aH h (a:=.slice t) (b:=.slice t') xs=ys
  | false=>False
 | .arr t xs, .arr t' ys=>match h:Ty.beq (.slice t) (.slice t') with
  | true=>aH h (a:=.slice t) (b:=.slice t') xs=ys
  | false=>False
 | .tok t xs, .tok t' ys=>match h:Ty.beq (.slice t) (.slice t') with
  | true=>aH h (a:=.slice t) (b:=.slice t') xs=ys
  | false=>False
 | .ext k t x, .ext k' t' y=>match Nat.beq k k',h:Ty.beq t t' with
  | true,true=>aH h x=y
  | _,_=>False
 | .iter cs seen cl, .iter cs' seen' cl'=>kr cs cs'/\seen=seen'/\cl=cl'
 | _,_=>False
def dU (st:St):List (Nat × SV)->Prop
 | []=>True
 | (n,v) :: r=>match look st.env n with
  | some u=>fF u v/\dU st r
  | none=>False
def dV (st:St):List (Nat × OC)->Prop
 | []=>True
 | (n,v) :: r=>match look st.ad n with
  | some u=>dt u v/\dV st r
  | none=>False
def fg (st:St):List Nat->List (Nat × SV)
 | []=>[]
 | t :: r=>match look st.env t with
  | some v=>(t,v) :: fg st r
  | none=>fg st r
def ca (st:St):List Nat->List (Nat × OC)
 | []=>[]
 | t :: r=>match look st.ad t with
  | some v=>(t,v) :: ca st r
  | none=>ca st r
def aw (an:cW) (st:St) (x:an.X):St:=
 {env:=an.bm x++fg st an.aV,ad:=an.ad x++ca st an.cz,next:=st.next}
def bJ (l:List Oper):List Nat:=l.filterMap (·.dst)
def writes (anns:da):Nat->Code->List Nat
 | _, .region _ ops _=>bJ ops.toList
 | k, .seq a b=>writes anns k a++writes anns k b
 | k, .cond _ a b=>writes anns k a++writes anns k b
 | _, .block id b=>writes anns id b
 | k, .loop b=>match look anns (k + 200000) with
  | some _=>allM :: writes anns k b
  | none=>writes anns k b
 | _,_=>[]
def jk (n:Nat):List Nat->Bool
 | []=>false
 | m :: r=>match Nat.beq m n with
  | true=>true
  | false=>jk n r
def gI (l:List Nat) (W:List Nat):Bool:=match l with
 | []=>true
 | _ => !(jk allM W) && l.all fun n => !(jk n W)
def ey (k:Nat):List Nat->Bool
 | []=>true
 | n :: r=>Nat.blt n k && ey k r
def fG (k:Nat):C->Bool
 | .app _ _ n | .ak n | .ek n | .bL n | .xd n _ | .ref n _ | .fW n | .cN n _ _ _ | .eC n _ _ _=>Nat.blt n k
 | .fn _ caps=>ey k caps
 | _=>true
def ez (k:Nat):List C->Bool
 | []=>true
 | c :: r=>fG k c && ez k r
def qx (k:Nat):aP->Bool
 | .one c=>fG k c
 | .agg cs=>ez k cs
def cb (k:Nat):List (Nat × SV)->Bool
 | []=>true
 | (_, .s v) :: r=>qx k v && cb k r
 | (_, .dM _) :: _=>false
def sE (k:Nat):OC->Bool
 | .cells _ cs=>ez k cs
 | .iter cs _ _=>ez k cs
 | _=>true
def b4 (k:Nat):List (Nat × OC)->Bool
 | []=>true
 | (n,oc) :: r=>Nat.blt n k && sE k oc && b4 k r
def du (env:List (Nat × SV)):List Nat->Bool
 | []=>true
 | t :: r=>match look env t with
  | some _=>du env r
  | none=>false
def dv (W:List Nat):List (Nat × SV)->Bool
 | []=>true
 | (n,_) :: r=>jk n W && dv W r
def pD (env:List (Nat × SV)):List Nat->List Nat
 | []=>[]
 | t :: r=>match look env t with
  | some (.s _)=>t :: pD env r
  | _=>pD env r
def gJ (kq:List Nat):List (Nat × OC)->List Nat
 | []=>[]
 | (n,_) :: r=>match jk n kq with
  | true=>gJ kq r
  | false=>n :: gJ kq r
def kT (st:St) (an:cW):cW:=
 {an with aV:=pD st.env an.aV,cz:=match an.cz with
  | []=>gJ an.kq st.ad
  | l=>l}
def gm (ty:Ty) (st:St) (t:Nat):D ty:=
 match look st.env t with
 | some (.s c)=>match ga ty c with
  | some x=>x
  | none=>a7 ty
 | _=>a7 ty
def eS (st:St) (t:Nat):Nat:=
 match look st.env t with
 | some (.s (.one (.ak n)))=>n
 | some (.s (.one (.ek n)))=>n
 | some (.s (.one (.bL n)))=>n
 | some (.s (.one (.xd n _)))=>n
 | some (.s (.one (.ref n _)))=>n
 | some (.s (.one (.app _ _ n)))=>n
 | _=>0
def kU (st:St) (n k:Nat):Nat:=
 match look st.ad n with
 | some (.cells _ cs)=>match cs[k]? with
  | some (.ak m)=>m
  | some (.ref m _)=>m
  | some (.app _ _ m)=>m
  | some (.bL m)=>m
  | some (.xd m _)=>m
  | _=>0
 | _=>0
def w6 (_:Nat) (_:St):Prop:=False
def cK (an:cW) (st st':St):VC:=
 match du st'.env an.aV with
 | true => .leaf (∃x',an.inv x'/\dU st' (an.bm x')/\dV st' (an.ad x'++ca st an.cz))
 | false => .ff
def wG (st:St):List (Nat × Nat)->Option (List (Nat × Nat))
 | []=>some []
 | (t,k) :: r=>match look st.env t,wG st r with
  | some (.s (.one c)),some yH=>match wE c with
   | some n=>match look yH k with
    | some _=>some yH
    | none=>some ((k,n) :: yH)
   | none=>none
  | _,_=>none
def uL (st:St) (an:cW):Option (List Nat):=
 match wG st an.refs with
 | some as1=>match n1 st.ad 0 an.ay as1 with
  | some as2=>oH as2 0 an.ay.length
  | none=>none
 | none=>none
def ku (st:St) (an:cW) (ν:List Nat):List (Nat × Nat)->Bool
 | []=>true
 | (t,k) :: r=>(match look st.env t with
  | some (.s (.one c))=>cy false st.ad an.ay ν k c
  | _=>false) && ku st an ν r
def nf (st:St) (an:cW) (y:PD an.ay):List (Nat × Nat)->List Prop
 | []=>[]
 | (t,k) :: r=>(match look st.env t with
  | some (.s (.one c))=>jh an.ay y k c
  | _=>[])++nf st an y r
def kv (an:cW) (y:PD an.ay) (us:List Nat):List (Nat × Nat)->List (Nat × SV)
 | []=>[]
 | (t,k) :: r=>(t, .s (.one (fv an.ay y us k))) :: kv an y us r
def ng (an:cW) (st:St) (x:an.X):List (Nat × SV):=an.bm x++fg st an.aV
def fS (an:cW) (st:St) (x:an.X):List (Nat × OC):=an.ad x++ca st an.cz
def aL (an:cW) (st:St) (x:an.X):St:=
 {env:=kv an (an.pd x) (upto st.next an.ay.length) an.refs++ng an st x,
  ad:=eR (fv an.ay (an.pd x) (upto st.next an.ay.length)) an.ay (an.pd x) (upto st.next an.ay.length)++fS an st x,next:=st.next + an.ay.length}
def fV (ν:List Nat):List (Nat × OC)->Bool
 | []=>true
 | (n,_) :: r => !(en n ν) && fV ν r
def kx (aV:List Nat):List (Nat × Nat)->Bool
 | []=>true
 | (t,_) :: r => !(jk t aV) && kx aV r
def iq (an:cW) (st:St) (W:List Nat) (x:an.X):Bool:=cb st.next (ng an st x) && (b4 st.next (fS an st x) && (dv W (an.bm x) && kx an.aV an.refs))
def qy (st:St) (an:cW):cW:=
 {an with aV:=(pD st.env an.aV).filter (fun t=>kx [t] an.refs),cz:=match an.cz with
  | []=>gJ (an.kq++(match uL st an with | some l=>l | none=>[])) st.ad
  | l=>l}
def nh (an:cW) (st st':St) (more:an.X->Prop):VC:=
 match uL st' an with
 | some ν=>match nodupB ν && (ku st' an ν an.refs),bx false st'.ad an.ay ν an.ay ν with
  | true,some y => .leaf (vW (nf st' an y an.refs++dG an.ay y st'.ad an.ay ν++[∃x',an.inv x'/\more x'/\dU st' (an.bm x')/\dV st' (an.ad x'++ca st an.cz)/\(fV ν (fS an st x')=true/\y=an.pd x')]))
  | _,_ => .ff
 | none => .ff
def pE (cx:Cx) (ops:Array Oper) (draw:Bool) (st:St) (K:St->VC):VC:=
 match draw with
 | false=>py cx ops.toList ops.toList st K
 | true=>match jd ops with
  | true=>xB cx ops st fun st'=>K (canon st.next (bJ ops.toList) st')
  | false => .ff
def dw:Code->Nat->Nat
 | .region id _ _,_=>id
 | .seq a b,d=>dw a (dw b d)
 | .cond _ a b,d=>dw a (dw b d)
 | .block _ b,d=>dw b d
 | .loop b,d=>dw b d
 | _,d=>d
def vc (cx:Cx) (anns:da):Code->Nat->St->(Ex->St->VC)->VC
 | .skip,_,st,K=>K .normal st
 | .region id ops draw,_,st,K=>match (look anns (id + 300000)).map (fun f=>kT st (f st)) with
  | none=>pE cx ops draw st (K .normal)
  | some an=>match gI an.aV (bJ ops.toList) with
   | true => .both (pE cx ops draw st (cK an st))
    (.all an.X fun x => .imp (an.inv x) (match cb st.next (aw an st x).env && (b4 st.next (aw an st x).ad && dv (bJ ops.toList) (an.bm x)) with
     | true=>K .normal (aw an st x)
     | false => .ff))
   | false => .ff
 | .seq a b,cur,st,K=>vc cx anns a cur st fun e st'=>match e with
  | .normal=>vc cx anns b cur st' K
  | e=>K e st'
 | .cond c a b,cur,st,K=>match (look anns (dw a (dw b 0) + 400000)).map (fun f=>kT st (f st)) with
  | none=>match aR st.env c with
   | .lit true=>vc cx anns a cur st K
   | .lit false=>vc cx anns b cur st K
   | .d .bool g => .ite g (vc cx anns a cur st K) (vc cx anns b cur st K)
   | _ => .ff
  | some an=>match gI an.aV (writes anns cur (.cond c a b)) with
   | true => .both (match aR st.env c with
    | .lit true=>vc cx anns a cur st fun e st'=>match e with
     | .normal=>cK an st st'
     | e=>K e st'
    | .lit false=>vc cx anns b cur st fun e st'=>match e with
     | .normal=>cK an st st'
     | e=>K e st'
    | .d .bool g => .ite g (vc cx anns a cur st fun e st'=>match e with
     | .normal=>cK an st st'
     | e=>K e st') (vc cx anns b cur st fun e st'=>match e with
     | .normal=>cK an st st'
     | e=>K e st')
    | _ => .ff)
    (.all an.X fun x => .imp (an.inv x) (match cb st.next (aw an st x).env && (b4 st.next (aw an st x).ad && dv (writes anns cur (.cond c a b)) (an.bm x)) with
     | true=>K .normal (aw an st x)
     | false => .ff))
   | false => .ff
 | .block id b,_,st,K=>match (look anns (id + 100000)).map (fun f=>kT st (f st)) with
  | none=>vc cx anns b id st fun e st'=>match e with
   | .exit i=>match Nat.beq i id with
    | true=>K .normal st'
    | false=>K (.exit i) st'
   | e=>K e st'
  | some an=>match gI an.aV (writes anns id b) with
   | true => .both (vc cx anns b id st fun e st'=>match e with
    | .exit i=>match Nat.beq i id with
     | true=>cK an st st'
     | false=>K (.exit i) st'
    | .normal=>cK an st st'
    | .ret=>K .ret st')
    (.all an.X fun x => .imp (an.inv x) (match cb st.next (aw an st x).env && (b4 st.next (aw an st x).ad && dv (writes anns id b) (an.bm x)) with
     | true=>K .normal (aw an st x)
     | false => .ff))
   | false => .ff
 | .loop b,cur,st,K=>match look anns (cur + 200000) with
  | none=>match (look anns cur).map (fun f=>kT st (f st)) with
   | some an=>match gI an.aV (writes anns cur b) with
    | true => .and (∃x,an.inv x/\dU st (an.bm x)/\dV st (an.ad x))
      (.all an.X fun x => .imp (an.inv x) (match cb st.next (aw an st x).env && (b4 st.next (aw an st x).ad && dv (writes anns cur b) (an.bm x)) with
       | true=>vc cx anns b cur (aw an st x) fun e st'=>match e with
        | .normal=>match du st'.env an.aV with
         | true => .leaf (∃x',an.inv x'/\an.bR x' < an.bR x/\dU st' (an.bm x')/\dV st' (an.ad x'++ca st an.cz))
         | false => .ff
        | e=>K e st'
       | false => .ff))
    | false => .ff
   | none => .leaf (w6 cur st)
  | some f=>match qy st (f st) with
   | an=>match gI an.aV (writes anns cur b) with
    | true => .both (nh an st st fun _=>True)
      (.all an.X fun x => .imp (an.inv x) (match iq an st (writes anns cur b) x with
       | true=>vc cx anns b cur (aL an st x) fun e st'=>match e with
        | .normal=>match du st'.env an.aV with
         | true=>nh an st st' fun x'=>an.bR x' < an.bR x
         | false => .ff
        | e=>K e st'
       | false => .ff))
    | false => .ff
 | .exit id,_,st,K=>K (.exit id) st
 | .ret,_,st,K=>K .ret st
 | _,_,_,_ => .ff
section
variable {X:Ext} {P:Program} {cx:Cx}
theorem oJ {S:aq} {a b:C} {v:Value} (h:jj a b) (hv:CR cx.eT S a v):CR cx.eT S b v:=by
 unfold jj at h
 split at h
 ·subst h;exact aW.2 hv
 ·split at h
  ·rename_i hb
   subst h
   exact cQ hb _ hv
  ·exact h.elim
 ·split at h
  ·rename_i t xs n t' ys m _ hb hn
   have hn:=Nat.eq_of_beq_eq_true hn
   subst hn
   have:t=t':=by have:=Ty.eq_of_beq hb;cases this;rfl
   subst this
   rw [br] at h
   subst h
   exact hv
  ·exact h.elim
 ·subst h;exact hv
theorem ni {S:aq} {a b:SV} {v:Value} (h:fF a b) (hv:aS cx.eT S a v):aS cx.eT S b v:=by
 unfold fF at h
 split at h
 ·exact oJ h hv
 ·subst h;exact hv
theorem nj {S:aq}:∀{yH bs:List C} {vs:List Value},kr yH bs->aU cx.eT S yH vs->aU cx.eT S bs vs:=by
 intro yH
 induction yH with
 | nil=>
  intro bs vs h hv
  cases bs with
  | nil=>exact hv
  | cons=>exact h.elim
 | cons a yH ih=>
  intro bs vs h hv
  cases bs with
  | nil=>exact h.elim
  | cons b bs=>
   cases hv with
   | cons h1 h2 h3=>exact .cons (oJ h.1 h1) h2 (ih h.2 h3)
theorem nk {S:aq} {l:Loc} {a b:OC} (h:dt a b) (hv:OR cx.eT X S l a):OR cx.eT X S l b/\ah l l a b/\a.lo=b.lo:=by
 unfold dt at h
 split at h
 ·split at h
  ·rename_i hT
   have:=Nat.eq_of_beq_eq_true hT
   subst this
   obtain ⟨b,vs,h1,h2,h3,h4⟩:=hv
   exact ⟨⟨b,vs,h1,h2,h3,nj h h4⟩,rfl,rfl⟩
  ·exact h.elim
 ·split at h
  ·rename_i t xs t' ys hb
   have:t=t':=by have:=Ty.eq_of_beq hb;cases this;rfl
   subst this;rw [br] at h;subst h
   exact ⟨hv,rfl,rfl⟩
  ·exact h.elim
 ·split at h
  ·rename_i t xs t' ys hb
   have:t=t':=by have:=Ty.eq_of_beq hb;cases this;rfl
   subst this;rw [br] at h;subst h
   exact ⟨hv,rfl,rfl⟩
  ·exact h.elim
 ·split at h
  ·rename_i t xs t' ys hb
   have:t=t':=by have:=Ty.eq_of_beq hb;cases this;rfl
   subst this;rw [br] at h;subst h
   exact ⟨hv,⟨rfl,Nat.le_refl _,fun _=>rfl⟩,rfl⟩
  ·exact h.elim
 ·split at h
  ·rename_i k t x k' t' y hk hb
   have:=Nat.eq_of_beq_eq_true hk
   subst this
   have:=Ty.eq_of_beq hb
   subst this;rw [dE] at h;subst h
   exact ⟨hv,⟨rfl,rfl⟩,rfl⟩
  ·exact h.elim
 ·obtain ⟨h1,rfl,rfl⟩:=h
  obtain ⟨b,m,c,sn,k1,k2,k3,k4,k5,k6⟩:=hv
  exact ⟨⟨b,m,c,sn,k1,k2,k3,nj h1 k4,k5,k6⟩,trivial,rfl⟩
 ·exact h.elim
theorem jl {n:Nat} {l:List Nat}:jk n l=true ↔ n∈l:=by
 induction l with
 | nil=>simp [jk]
 | cons m r ih=>
  simp only [jk,List.mem_cons]
  by_cases h:m=n
  ·subst h;simp [Nat.beq_refl]
  ·rw [dN h];simp only [ih]
   constructor
   ·exact .inr
   ·rintro (h' | h')
    ·exact absurd h'.symm h
    ·exact h'
theorem gK {l W:List Nat} (h:gI l W=true):∀n∈l,allM∉W/\n∉W:=by
 intro n hn
 unfold gI at h
 split at h
 ·simp at hn
 ·simp only [Bool.and_eq_true,List.all_eq_true,Bool.not_eq_true'] at h
  exact ⟨fun hW=>by rw [jl.2 hW] at h;exact absurd h.1 (by decide),fun hW=>by have:=h.2 n hn;rw [jl.2 hW] at this;cases this⟩
def gL (cx:Cx) (X:Ext) (O:ab) (K:Ex->St->VC) (W:List Nat) (st:St) (S:aq):Exit->Act->World->Prop
 | .normal,a,w=>bw cx X O (K .normal) W st S a w
 | .exit n,a,w=>bw cx X O (K (.exit n)) W st S a w
 | .ret,a,w=>bw cx X O (K .ret) W st S a w
 | _,_,_=>False
theorem gL.mono {O:ab} {K:Ex->St->VC} {W W':List Nat} {st st1:St} {S S1:aq} {e:Exit} {a:Act} {w:World} (h:gL cx X O K W st1 S1 e a w) (ht:Tr S S1) (ha:ed W' st st1) (hW:∀n∈W,n∈W'):gL cx X O K W' st S e a w:=by
 have key:∀K:St->VC,bw cx X O K W st1 S1 a w->bw cx X O K W' st S a w:=by
  rintro K ⟨st',loc',k1,k2,k3,k4,k5⟩
  exact ⟨st',loc',k1,k2,ht.trans k3,k4,ha.trans fun hm t ht=>k5 (fun h=>hm (hW _ h)) t fun h=>ht (hW t h)⟩
 cases e with
 | normal=>exact key _ h
 | exit n=>exact key _ h
 | ret=>exact key _ h
 | goto l=>exact h
 | panic c=>exact h
 | outgrown=>exact h
theorem bN {st:St} {l:List Nat} {n:Nat} {v:SV} (h:look (fg st l) n=some v):n∈l/\look st.env n=some v:=by
 induction l with
 | nil=>simp [fg,look] at h
 | cons t r ih=>
  simp only [fg] at h
  split at h
  ·rename_i u hu
   rw [aA] at h
   by_cases e:t=n
   ·rw [if_pos e] at h;cases h;subst e;exact ⟨by simp,hu⟩
   ·rw [if_neg e] at h;have:=ih h;exact ⟨by simp [this.1],this.2⟩
  ·have:=ih h;exact ⟨by simp [this.1],this.2⟩
theorem pk {st:St} {l:List Nat} {n:Nat} {v:OC} (h:look (ca st l) n=some v):look st.ad n=some v:=by
 induction l with
 | nil=>simp [ca,look] at h
 | cons t r ih=>
  simp only [ca] at h
  split at h
  ·rename_i u hu
   rw [aA] at h
   by_cases e:t=n
   ·rw [if_pos e] at h;cases h;subst e;exact hu
   ·rw [if_neg e] at h;exact ih h
  ·exact ih h
theorem dW {st:St} {l:List (Nat × SV)} (h:dU st l):∀{n v},look l n=some v->∃u,look st.env n=some u/\fF u v:=by
 induction l with
 | nil=>intro n v hl;simp [look] at hl
 | cons p r ih=>
  obtain ⟨m,x⟩:=p
  intro n v hl
  simp only [dU] at h
  split at h
  ·rename_i u hu
   rw [aA] at hl
   by_cases e:m=n
   ·rw [if_pos e] at hl;cases hl;subst e;exact ⟨u,hu,h.1⟩
   ·rw [if_neg e] at hl;exact ih h.2 hl
  ·exact h.elim
theorem dX {st:St} {l:List (Nat × OC)} (h:dV st l):∀{n v},look l n=some v->∃u,look st.ad n=some u/\dt u v:=by
 induction l with
 | nil=>intro n v hl;simp [look] at hl
 | cons p r ih=>
  obtain ⟨m,x⟩:=p
  intro n v hl
  simp only [dV] at h
  split at h
  ·rename_i u hu
   rw [aA] at hl
   by_cases e:m=n
   ·rw [if_pos e] at hl;cases hl;subst e;exact ⟨u,hu,h.1⟩
   ·rw [if_neg e] at hl;exact ih h.2 hl
  ·exact h.elim
theorem aE {a b:Nat} (h:Nat.blt a b=true):a < b:=eH h
theorem tn {S S':aq} (hO:∀b o v,¬ S.A b o->S.w.cell? ⟨b,o,none⟩=some v->S'.w.cell? ⟨b,o,none⟩=some v/\¬ S'.A b o) (hloc:S'.loc=S.loc)
  (hob:∀n oc,S'.ob n=some oc->∃oc0,S.ob n=some oc0/\ah (S.loc n) (S.loc n) oc0 oc) {c:C} {v:Value} (hb:fG S'.next c=true) (hv:CR cx.eT S c v):CR cx.eT S' c v:=by
 cases c with
 | lit b=>exact hv
 | d t x=>exact VR.frame hv hO
 | app t xs n=>
  obtain ⟨h1,h2,h3⟩:=hv
  refine ⟨VR.frame h1 hO,aE hb,fun ys hy => ?_⟩
  obtain ⟨oc0,k1,k2⟩:=hob n _ hy
  cases oc0 <;> simp [ah] at k2
  obtain ⟨rfl,k3⟩:=k2
  obtain ⟨m1,m2⟩:=h3 _ k1
  rw [hloc]
  exact ⟨by omega,fun e=>m2 (by omega)⟩
 | cf=>exact hv
 | cM=>exact hv
 | emp=>exact hv
 | ak n=>
  refine ⟨aE hb,fun t xs e => ?_⟩
  obtain ⟨oc0,k1,k2⟩:=hob n _ e
  cases oc0 <;> simp [ah] at k2
  rw [hloc];exact hv.2 _ _ k1
 | eC n t lo len=>
  refine ⟨aE hb,fun xs e => ?_⟩
  obtain ⟨oc0,k1,k2⟩:=hob n _ e
  cases oc0 <;> simp [ah] at k2
  subst k2
  rw [hloc];exact hv.2 _ k1
 | ek n=>
  refine ⟨aE hb,fun t xs e => ?_⟩
  obtain ⟨oc0,k1,k2⟩:=hob n _ e
  cases oc0 <;> simp [ah] at k2
  rw [hloc];exact hv.2 _ _ k1
 | bL n=>
  refine ⟨aE hb,fun oc e hx => ?_⟩
  obtain ⟨oc0,k1,k2⟩:=hob n _ e
  rw [hloc];exact hv.2 _ k1 (by cases oc0 <;> cases oc <;> first | rfl | exact k2.elim | cases hx)
 | xd n p=>
  refine ⟨aE hb,fun t x e => ?_⟩
  obtain ⟨oc0,k1,k2⟩:=hob n _ e
  cases oc0 <;> simp [ah] at k2
  obtain ⟨rfl,rfl⟩:=k2
  rw [hloc];exact hv.2 _ _ k1
 | ref n off=>
  refine ⟨aE hb,fun T cs e => ?_⟩
  obtain ⟨oc0,k1,k2⟩:=hob n _ e
  cases oc0 <;> simp [ah] at k2
  rw [hloc];exact hv.2 _ _ k1
 | fW n=>
  refine ⟨aE hb,?_⟩
  rcases hv.2 with hn | hn
  ·exact .inl hn
  ·refine .inr fun T cs e => ?_
   obtain ⟨oc0,k1,k2⟩:=hob n _ e
   cases oc0 <;> simp [ah] at k2
   rw [hloc];exact hn _ _ k1
 | cN n t i off=>
  refine ⟨aE hb,fun ⟨xs,e⟩ => ?_⟩
  rw [hloc]
  rcases e with e | e
  ·obtain ⟨oc0,k1,k2⟩:=hob n _ e
   cases oc0 <;> simp [ah] at k2
   subst k2;exact hv.2 ⟨_, .inl k1⟩
  ·obtain ⟨oc0,k1,k2⟩:=hob n _ e
   cases oc0 <;> simp [ah] at k2
   subst k2;exact hv.2 ⟨_, .inr k1⟩
 | eD t x=>
  obtain ⟨b,o,us,rfl,h1,h2⟩:=hv
  exact ⟨b,o,us,rfl,h1.frame hO,h2.frame hO⟩
 | fn f caps=>
  obtain ⟨rfl,h2⟩:=hv
  refine ⟨by rw [hloc],fun n hn=>⟨?_,fun t ys e => ?_⟩⟩
  ·have:∀l:List Nat,ey S'.next l=true->n∈l->n < S'.next:=by
    intro l
    induction l with
    | nil=>intro _ h;simp at h
    | cons m r ih=>
     intro h hm
     simp only [ey,Bool.and_eq_true] at h
     rcases List.mem_cons.1 hm with rfl | hm
     ·exact aE h.1
     ·exact ih h.2 hm
   exact this caps hb hn
  ·obtain ⟨oc0,k1,k2⟩:=hob n _ e
   cases oc0 <;> simp [ah] at k2
   exact (h2 n hn).2 _ _ k1
 | any=>trivial
theorem ir {k:Nat}:∀{l:List Nat} {n:Nat},ey k l=true->n∈l->n < k
 | [],_,_,h=>by simp at h
 | m :: r,n,h,hn=>by
  simp only [ey,Bool.and_eq_true] at h
  rcases List.mem_cons.1 hn with e | hn
  ·rw [e];exact aE h.1
  ·exact ir h.2 hn
theorem gn {S S':aq} {k:Nat} (hrel:∀{c:C} {v:Value},fG k c=true->CR cx.eT S c v->CR cx.eT S' c v):∀{cs:List C} {vs:List Value},ez k cs=true->aU cx.eT S cs vs->aU cx.eT S' cs vs:=by
 intro cs
 induction cs with
 | nil=>intro vs _ h;cases h;exact .nil
 | cons c cs ih=>
  intro vs hb h
  simp only [ez,Bool.and_eq_true] at hb
  cases h with
  | cons h1 h2 h3=>exact .cons (hrel hb.1 h1) h2 (ih hb.2 h3)
theorem rJ {S S':aq} (hO:∀b o v,¬ S.A b o->S.w.cell? ⟨b,o,none⟩=some v->S'.w.cell? ⟨b,o,none⟩=some v/\¬ S'.A b o) {k:Nat} (hk:k<=S'.next) (hloc:∀n,n < k->S'.loc n=S.loc n)
  (hob:∀n oc,n < k->S'.ob n=some oc->∃oc0,S.ob n=some oc0/\ah (S.loc n) (S.loc n) oc0 oc) {c:C} {v:Value} (hb:fG k c=true) (hv:CR cx.eT S c v):CR cx.eT S' c v:=by
 cases c with
 | lit b=>exact hv
 | d t x=>exact VR.frame hv hO
 | app t xs n=>
  obtain ⟨h1,h2,h3⟩:=hv
  refine ⟨VR.frame h1 hO,Nat.lt_of_lt_of_le (aE hb) hk,fun ys hy => ?_⟩
  obtain ⟨oc0,k1,k2⟩:=hob n _ (aE hb) hy
  cases oc0 <;> simp [ah] at k2
  obtain ⟨rfl,k3⟩:=k2
  obtain ⟨m1,m2⟩:=h3 _ k1
  rw [hloc n (aE hb)]
  exact ⟨by omega,fun e=>m2 (by omega)⟩
 | cf=>exact hv
 | cM=>exact hv
 | emp=>exact hv
 | ak n=>
  refine ⟨Nat.lt_of_lt_of_le (aE hb) hk,fun t xs e => ?_⟩
  obtain ⟨oc0,k1,k2⟩:=hob n _ (aE hb) e
  cases oc0 <;> simp [ah] at k2
  rw [hloc n (aE hb)];exact hv.2 _ _ k1
 | eC n t lo len=>
  refine ⟨Nat.lt_of_lt_of_le (aE hb) hk,fun xs e => ?_⟩
  obtain ⟨oc0,k1,k2⟩:=hob n _ (aE hb) e
  cases oc0 <;> simp [ah] at k2
  subst k2
  rw [hloc n (aE hb)];exact hv.2 _ k1
 | ek n=>
  refine ⟨Nat.lt_of_lt_of_le (aE hb) hk,fun t xs e => ?_⟩
  obtain ⟨oc0,k1,k2⟩:=hob n _ (aE hb) e
  cases oc0 <;> simp [ah] at k2
  rw [hloc n (aE hb)];exact hv.2 _ _ k1
 | bL n=>
  refine ⟨Nat.lt_of_lt_of_le (aE hb) hk,fun oc e hx => ?_⟩
  obtain ⟨oc0,k1,k2⟩:=hob n _ (aE hb) e
  rw [hloc n (aE hb)];exact hv.2 _ k1 (by cases oc0 <;> cases oc <;> first | rfl | exact k2.elim | cases hx)
 | xd n p=>
  refine ⟨Nat.lt_of_lt_of_le (aE hb) hk,fun t x e => ?_⟩
  obtain ⟨oc0,k1,k2⟩:=hob n _ (aE hb) e
  cases oc0 <;> simp [ah] at k2
  obtain ⟨rfl,rfl⟩:=k2
  rw [hloc n (aE hb)];exact hv.2 _ _ k1
 | ref n off=>
  refine ⟨Nat.lt_of_lt_of_le (aE hb) hk,fun T cs e => ?_⟩
  obtain ⟨oc0,k1,k2⟩:=hob n _ (aE hb) e
  cases oc0 <;> simp [ah] at k2
  rw [hloc n (aE hb)];exact hv.2 _ _ k1
 | fW n=>
  refine ⟨Nat.lt_of_lt_of_le (aE hb) hk,?_⟩
  rcases hv.2 with hn | hn
  ·exact .inl hn
  ·refine .inr fun T cs e => ?_
   obtain ⟨oc0,k1,k2⟩:=hob n _ (aE hb) e
   cases oc0 <;> simp [ah] at k2
   rw [hloc n (aE hb)];exact hn _ _ k1
 | cN n t i off=>
  refine ⟨Nat.lt_of_lt_of_le (aE hb) hk,fun ⟨xs,e⟩ => ?_⟩
  rw [hloc n (aE hb)]
  rcases e with e | e
  ·obtain ⟨oc0,k1,k2⟩:=hob n _ (aE hb) e
   cases oc0 <;> simp [ah] at k2
   subst k2;exact hv.2 ⟨_, .inl k1⟩
  ·obtain ⟨oc0,k1,k2⟩:=hob n _ (aE hb) e
   cases oc0 <;> simp [ah] at k2
   subst k2;exact hv.2 ⟨_, .inr k1⟩
 | eD t x=>
  obtain ⟨b,o,us,rfl,h1,h2⟩:=hv
  exact ⟨b,o,us,rfl,h1.frame hO,h2.frame hO⟩
 | fn f caps=>
  obtain ⟨rfl,h2⟩:=hv
  have hlt:∀n∈caps,n < k:=fun n hn=>ir hb hn
  refine ⟨by rw [show (caps.map fun n=>(S.loc n).v)=(caps.map fun n=>(S'.loc n).v) from List.map_congr_left fun n hn=>by rw [hloc n (hlt n hn)]],fun n hn=>⟨Nat.lt_of_lt_of_le (hlt n hn) hk,fun t ys e => ?_⟩⟩
  obtain ⟨oc0,k1,k2⟩:=hob n _ (hlt n hn) e
  cases oc0 <;> simp [ah] at k2
  exact (h2 n hn).2 _ _ k1
 | any=>trivial
theorem ah.comp {l1 l2 l3:Loc} {a b c:OC} (h:ah l1 l2 a b) (h':ah l2 l3 b c):ah l1 l3 a c:=by
 cases a <;> cases b <;> simp [ah] at h <;> cases c <;> simp [ah] at h' ⊢
 all_goals (try (simp_all;done))
 obtain ⟨rfl,a1,a2⟩:=h
 obtain ⟨rfl,b1,b2⟩:=h'
 refine ⟨rfl,by omega,fun e => ?_⟩
 rw [b2 (by omega),a2 (by omega)]
theorem gW {S S':aq} (hrel:∀{c:C} {v:Value},fG S'.next c=true->CR cx.eT S c v->CR cx.eT S' c v):∀{cs:List C} {vs:List Value},ez S'.next cs=true->aU cx.eT S cs vs->aU cx.eT S' cs vs:=by
 intro cs
 induction cs with
 | nil=>intro vs _ h;cases h;exact .nil
 | cons c cs ih=>
  intro vs hb h
  simp only [ez,Bool.and_eq_true] at hb
  cases h with
  | cons h1 h2 h3=>exact .cons (hrel hb.1 h1) h2 (ih hb.2 h3)
theorem jE {k:Nat}:∀{l:List (Nat × SV)},cb k l=true->∀{n v},look l n=some v->∃v0,v = .s v0/\qx k v0=true:=by
 intro l
 induction l with
 | nil=>intro _ n v h;simp [look] at h
 | cons p r ih=>
  obtain ⟨m,x⟩:=p
  intro hb n v h
  cases x with
  | dM vs=>simp [cb] at hb
  | s v0=>
   simp only [cb,Bool.and_eq_true] at hb
   rw [aA] at h
   by_cases e:m=n
   ·rw [if_pos e] at h;cases h;exact ⟨v0,rfl,hb.1⟩
   ·rw [if_neg e] at h;exact ih hb.2 h
theorem dH {k:Nat}:∀{l:List (Nat × OC)},b4 k l=true->∀{n v},look l n=some v->n < k/\sE k v=true:=by
 intro l
 induction l with
 | nil=>intro _ n v h;simp [look] at h
 | cons p r ih=>
  obtain ⟨m,x⟩:=p
  intro hb n v h
  simp only [b4,Bool.and_eq_true] at hb
  rw [aA] at h
  by_cases e:m=n
  ·rw [if_pos e] at h;cases h;subst e;exact ⟨aE hb.1.1,hb.1.2⟩
  ·rw [if_neg e] at h;exact ih hb.2 h
theorem jm {an:cW} {O:ab} {st st':St} {loc loc0:Nat->Loc} {w w0:World} {a:Act} (x:an.X) (g:Good cx.eT X (aa O st' loc w)) (hA:bZ cx (aa O st' loc w) st' a) (ht:Tr (aa O st loc0 w0) (aa O st' loc w))
  (he:∀n v,look (aw an st x).env n=some v->∃u,look st'.env n=some u/\fF u v)
  (ho:∀n v,look (aw an st x).ad n=some v->∃u,look st'.ad n=some u/\dt u v)
  (hb1:cb st.next (aw an st x).env=true) (hb2:b4 st.next (aw an st x).ad=true) :
  Good cx.eT X (aa O (aw an st x) loc w)/\bZ cx (aa O (aw an st x) loc w) (aw an st x) a/\Tr (aa O st loc0 w0) (aa O (aw an st x) loc w):=by
 have hob:∀n oc,look (aw an st x).ad n=some oc->∃oc0,look st'.ad n=some oc0/\ah (loc n) (loc n) oc0 oc/\oc0.lo=oc.lo/\OR cx.eT X (aa O st' loc w) (loc n) oc:=by
  intro n oc h
  obtain ⟨u,hu,hs⟩:=ho n oc h
  obtain ⟨h1,h2,h3⟩:=nk hs (g.obj n u hu).2
  exact ⟨u,hu,h2,h3,h1⟩
 have hAsub:∀b o,(aa O (aw an st x) loc w).A b o->(aa O st' loc w).A b o:=by
  rintro b o (h | ⟨n,oc,h1,h2,h3⟩)
  ·exact .inl h
  ·obtain ⟨oc0,k1,_,k3,_⟩:=hob n oc h1
   exact .inr ⟨n,oc0,k1,h2,by rw [k3];exact h3⟩
 have hcell:∀b o v,¬ (aa O st' loc w).A b o->w.cell? ⟨b,o,none⟩=some v->w.cell? ⟨b,o,none⟩=some v/\¬ (aa O (aw an st x) loc w).A b o:=fun b o v h1 h2=>⟨h2,fun h=>h1 (hAsub b o h)⟩
 have hrel:∀{c:C} {v:Value},fG st.next c=true->CR cx.eT (aa O st' loc w) c v->CR cx.eT (aa O (aw an st x) loc w) c v:=fun hb hv=>
  tn (S:=aa O st' loc w) (S':=aa O (aw an st x) loc w) hcell rfl (fun n oc h=>let ⟨oc0,k1,k2,_⟩:=hob n oc h;⟨oc0,k1,k2⟩) hb hv
 have hor:∀n oc,look (aw an st x).ad n=some oc->OR cx.eT X (aa O (aw an st x) loc w) (loc n) oc:=by
  intro n oc h
  obtain ⟨_,_,_,_,k4⟩:=hob n oc h
  have hb:=(dH hb2 h).2
  cases oc with
  | cells T cs=>
   obtain ⟨b,vs,h1,h2,h3,h4⟩:=k4
   exact ⟨b,vs,h1,h2,h3,gW hrel hb h4⟩
  | ak t xs=>
   rcases k4 with k4 | ⟨b,vs,T,cap,h1,h2,h3,h4,h5,h6,h7⟩
   ·exact .inl k4
   ·exact .inr ⟨b,vs,T,cap,h1,h2,h3,h4,h5,h6,fun i y hy=>let ⟨us,r1,r2⟩:=h7 i y hy;⟨us,r1.frame hcell,r2⟩⟩
  | arr t xs=>
   obtain ⟨b,vs,T,h1,h2,h3,h4,h5⟩:=k4
   exact ⟨b,vs,T,h1,h2,h3,h4,fun i y hy=>let ⟨us,r1,r2⟩:=h5 i y hy;⟨us,r1.frame hcell,r2⟩⟩
  | tok t xs=>
   rcases k4 with k4 | ⟨b,vs,T,cap,h1,h2,h3,h4,h5,h6,h7⟩
   ·exact .inl k4
   ·exact .inr ⟨b,vs,T,cap,h1,h2,h3,h4,h5,h6,fun i y hy=>let ⟨us,r1,r2⟩:=h7 i y hy;⟨us,r1.frame hcell,r2⟩⟩
  | ext k t x=>exact k4
  | iter cs seen cl=>obtain ⟨b,m,c,sn,k1,k2,k3,k4,k5⟩:=k4;exact ⟨b,m,c,sn,k1,k2,k3,gW hrel hb k4,k5⟩
 refine ⟨⟨fun n oc h=>⟨(dH hb2 h).1,hor n oc h⟩,fun n m oc oc' b h1 h2 h3 h4 => ?_,fun n oc b off h1 h2 => ?_,g.fL.sub rfl fun b ⟨n,oc,h1,h2⟩=>by obtain ⟨oc0,k1,_⟩:=hob n oc h1;exact ⟨n,oc0,k1,h2⟩⟩,⟨hA.size,hA.defers,fun n v h => ?_⟩,?_⟩
 ·obtain ⟨oc0,k1,_⟩:=hob n oc h1
  obtain ⟨oc0',k1',_⟩:=hob m oc' h2
  exact g.apart n m oc0 oc0' b k1 k1' h3 h4
 ·obtain ⟨oc0,k1,_⟩:=hob n oc h1
  exact g.out n oc0 b off k1 h2
 ·obtain ⟨u,hu,hs⟩:=he n v h
  have hv:=ni hs (hA.env n u hu)
  obtain ⟨v0,rfl,hb⟩:=jE hb1 h
  cases v0 with
  | one c=>exact hrel hb hv
  | agg cs=>obtain ⟨vs,h1,h2⟩:=hv;exact ⟨vs,h1,gW hrel hb h2⟩
 ·refine {O:=ht.O,next:=Nat.le_refl _,os:=ht.os,output:=ht.output,size:=ht.size,own:=fun b hb => ?_,cell:=fun b o v h1 h2 => ?_,block:=ht.block,loc:=ht.loc,kind:=fun n oc hn h => ?_}
  ·obtain ⟨n,oc,h1,h2⟩:=hb
   obtain ⟨oc0,k1,_⟩:=hob n oc h1
   exact ht.own b ⟨n,oc0,k1,h2⟩
  ·obtain ⟨k1,k2⟩:=ht.cell b o v h1 h2
   exact ⟨k1,fun h=>k2 (hAsub b o h)⟩
  ·obtain ⟨oc0,k1,k2,_⟩:=hob n oc h
   obtain ⟨oc1,m1,m2⟩:=ht.kind n oc0 hn k1
   exact ⟨oc1,m1,m2.comp k2⟩
theorem Ty.beq_refl:∀t:Ty,Ty.beq t t=true:=by
 intro t
 induction t with
 | prod a b iha ihb=>simp [Ty.beq,iha,ihb]
 | slice e ih=>simp [Ty.beq,ih]
 | int k=>simp [Ty.beq]
 | _=>rfl
theorem nn (c:C):jj c c:=by
 cases c with
 | d t x=>
  simp only [jj]
  split
  ·rfl
  ·rename_i h;rw [Ty.beq_refl] at h;cases h
 | app t xs n=>
  simp only [jj]
  split
  ·rfl
  ·rename_i h;exact (h (Ty.beq_refl _) (Nat.beq_refl _)).elim
 | _=>rfl
theorem c7 (v:SV):fF v v:=by
 cases v with
 | s v=>
  cases v with
  | one c=>exact nn c
  | agg cs=>rfl
 | dM vs=>rfl
theorem gX:∀cs:List C,kr cs cs
 | []=>trivial
 | c :: cs=>⟨nn c,gX cs⟩
theorem rK (v:OC):dt v v:=by
 cases v with
 | cells T cs=>
  simp only [dt,Nat.beq_refl]
  exact gX cs
 | ak t xs=>
  simp only [dt]
  split
  ·rfl
  ·rename_i h;rw [Ty.beq_refl] at h;cases h
 | arr t xs=>
  simp only [dt]
  split
  ·rfl
  ·rename_i h;rw [Ty.beq_refl] at h;cases h
 | tok t xs=>
  simp only [dt]
  split
  ·rfl
  ·rename_i h;rw [Ty.beq_refl] at h;cases h
 | ext k t x=>
  simp only [dt]
  split
  ·rfl
  ·rename_i h;exact (h (Nat.beq_refl _) (Ty.beq_refl _)).elim
 | iter cs seen cl=>exact ⟨gX cs,rfl,rfl⟩
theorem fw {W:List Nat}:∀{l:List (Nat × SV)},dv W l=true->∀{n v},look l n=some v->n∈W:=by
 intro l
 induction l with
 | nil=>intro _ n v h;simp [look] at h
 | cons p r ih=>
  obtain ⟨m,x⟩:=p
  intro hb n v h
  simp only [dv,Bool.and_eq_true] at hb
  rw [aA] at h
  by_cases e:m=n
  ·subst e;exact jl.1 hb.1
  ·rw [if_neg e] at h;exact ih hb.2 h
theorem ee {env:List (Nat × SV)}:∀{l:List Nat},du env l=true->∀{n},n∈l->∃v,look env n=some v:=by
 intro l
 induction l with
 | nil=>intro _ n h;simp at h
 | cons t r ih=>
  intro hb n h
  simp only [du] at hb
  split at hb
  ·rename_i u hu
   rcases List.mem_cons.1 h with rfl | h
   ·exact ⟨u,hu⟩
   ·exact ih hb h
  ·cases hb
theorem w7 {O:ab} {K:Ex->St->VC} {W:List Nat} {st:St} {S:aq} {next:Act->World->Prop} {Q:Exit->Act->World->Prop} {K':Ex->St->VC}
  (hn:∀a w,bw cx X O (K' .normal) W st S a w->next a w) (hK:∀e,e≠.normal->K' e=K e) (hQ:∀e a w,gL cx X O K W st S e a w->e≠.normal->Q e a w) {e:Exit} {a:Act} {w:World}
  (h:gL cx X O K' W st S e a w):Exit.then next Q e a w:=by
 cases e with
 | normal=>exact hn a w h
 | exit n=>exact hQ _ _ _ (by simpa [gL,hK (.exit n) (by simp)] using h) (by simp)
 | ret=>exact hQ _ _ _ (by simpa [gL,hK .ret (by simp)] using h) (by simp)
 | goto l=>exact h.elim
 | panic c=>exact h.elim
 | outgrown=>exact h.elim
structure xM (an:cW) (st st':St) (x:an.X) (ν:List Nat):Prop where
 nodup:nodupB ν=true
 refs:ku st' an ν an.refs=true
 get:bx false st'.ad an.ay ν an.ay ν=some (an.pd x)
 yp:∀p∈nf st' an (an.pd x) an.refs,p
 conds:∀p∈dG an.ay (an.pd x) st'.ad an.ay ν,p
 env:dU st' (an.bm x)
 ad:dV st' (fS an st x)
 out:fV ν (fS an st x)=true
theorem oK {an:cW} {st st':St} {more:an.X->Prop} (h:(nh an st st' more).holds):∃x,an.inv x/\more x/\∃ν,xM an st st' x ν:=by
 unfold nh at h
 split at h
 ·rename_i ν _
  split at h
  ·rename_i y hc hy
   simp only [Bool.and_eq_true] at hc
   have hall:=qu h
   obtain ⟨x,h1,h2,h3,h4,h5,h6⟩:=hall (∃x',an.inv x'/\more x'/\dU st' (an.bm x')/\dV st' (an.ad x'++ca st an.cz)/\(fV ν (fS an st x')=true/\y=an.pd x')) (List.mem_append_right _ (List.mem_singleton.2 rfl))
   subst h6
   obtain ⟨k1,_⟩:=fb.1 hall
   obtain ⟨k1,k2⟩:=fb.1 k1
   exact ⟨x,h1,h2,ν,hc.1,hc.2,hy,k1,k2,h3,h4,h5⟩
  ·exact h.elim
 ·exact h.elim
theorem ky {ν:List Nat}:∀{l:List (Nat × OC)},fV ν l=true->∀{n v},look l n=some v->n∉ν
 | [],_,n,v,h=>by simp [look] at h
 | (m,u) :: r,hk,n,v,h=>by
  simp only [fV,Bool.and_eq_true,Bool.not_eq_true'] at hk
  rw [aA] at h
  split at h
  ·rename_i e;subst e
   intro hm;rw [mi.2 hm] at hk;exact absurd hk.1 (by decide)
  ·exact ky hk.2 h
theorem gY {an:cW} {y:PD an.ay} {us:List Nat}:∀{l:List (Nat × Nat)} {t:Nat} {v:SV},look (kv an y us l) t=some v->∃k,(t,k)∈l/\v = .s (.one (fv an.ay y us k))
 | [],t,v,h=>by simp [kv,look] at h
 | (m,k) :: r,t,v,h=>by
  simp only [kv,aA] at h
  split at h
  ·rename_i e;subst e;cases h;exact ⟨k,by simp,rfl⟩
  ·obtain ⟨k',h1,h2⟩:=gY h;exact ⟨k',by simp [h1],h2⟩
theorem np {st:St} {an:cW} {ν:List Nat}:∀{l:List (Nat × Nat)} {t k:Nat},ku st an ν l=true->(t,k)∈l->∃c,look st.env t=some (.s (.one c))/\cy false st.ad an.ay ν k c=true
 | [],_,_,_,h=>by simp at h
 | (m,i) :: r,t,k,h,hm=>by
  simp only [ku,Bool.and_eq_true] at h
  rcases List.mem_cons.1 hm with e | hm
  ·cases e
   obtain ⟨h1,_⟩:=h
   split at h1
   ·rename_i c hc;exact ⟨c,hc,h1⟩
   ·cases h1
  ·exact np h.2 hm
theorem oL {st:St} {an:cW} {y:PD an.ay}:∀{l:List (Nat × Nat)} {t k:Nat} {c:C},(∀p∈nf st an y l,p)->(t,k)∈l->look st.env t=some (.s (.one c))->∀p∈jh an.ay y k c,p
 | [],_,_,_,_,h,_=>by simp at h
 | (m,i) :: r,t,k,c,h,hm,hl=>by
  simp only [nf] at h
  obtain ⟨h1,h2⟩:=fb.1 h
  rcases List.mem_cons.1 hm with e | hm
  ·cases e
   rw [hl] at h1
   exact h1
  ·exact oL h2 hm hl
theorem nq {aV:List Nat}:∀{l:List (Nat × Nat)} {t k:Nat},kx aV l=true->(t,k)∈l->t∉aV
 | [],_,_,_,h=>by simp at h
 | (m,i) :: r,t,k,h,hm=>by
  simp only [kx,Bool.and_eq_true,Bool.not_eq_true'] at h
  rcases List.mem_cons.1 hm with e | hm
  ·cases e
   intro hk;rw [jl.2 hk] at h;exact absurd h.1 (by decide)
  ·exact nq h.2 hm
theorem oM {an:cW} {O:ab} {st st':St} {loc loc0:Nat->Loc} {w w0:World} {a:Act} {W:List Nat} (x:an.X) (g:Good cx.eT X (aa O st' loc w)) (hA:bZ cx (aa O st' loc w) st' a) (ht:Tr (aa O st loc0 w0) (aa O st' loc w))
  (hok:iq an st W x=true) (hkeep:∀n∈an.aV,∀v,look st.env n=some v->∃u,look st'.env n=some u/\fF u v) (hf:∃ν,xM an st st' x ν) :
  ∃loc',Good cx.eT X (aa O (aL an st x) loc' w)/\bZ cx (aa O (aL an st x) loc' w) (aL an st x) a/\Tr (aa O st loc0 w0) (aa O (aL an st x) loc' w):=by
 obtain ⟨ν,hf⟩:=hf
 simp only [iq,Bool.and_eq_true] at hok
 obtain ⟨hb1,hb2,hkeys,hnr⟩:=hok
 generalize husd:upto st.next an.ay.length=us
 have husl:us.length=an.ay.length:=by rw [<-husd];exact qw _ _
 have hus:nodupB us=true:=by rw [<-husd];exact nc _ _
 have husm:∀n∈us,st.next<=n/\n < st.next + an.ay.length:=fun n hn=>by rw [<-husd] at hn;exact mj hn
 have hlen:ν.length=us.length:=by rw [husl];exact (mZ hf.get).symm
 let loc':=bn us (ν.map loc) loc
 have hlow:∀n,n < st.next->loc' n=loc n:=fun n hn=>gG fun hm=>by have:=(husm n hm).1;omega
 have hnu:∀n,n < st.next->n∉us:=fun n hn hm=>by have:=(husm n hm).1;omega
 have hrest:∀m oc,look (fS an st x) m=some oc->m < st.next/\m∉ν/\∃u,look st'.ad m=some u/\ah (loc m) (loc m) u oc/\u.lo=oc.lo/\OR cx.eT X (aa O st' loc w) (loc m) oc:=by
  intro m oc hm
  obtain ⟨u,hu,hs⟩:=dX hf.ad hm
  obtain ⟨h1,h2,h3⟩:=nk hs (g.obj m u hu).2
  exact ⟨(dH hb2 hm).1,ky hf.out hm,u,hu,h2,h3,h1⟩
 have hob:∀m oc,look (aL an st x).ad m=some oc->(∃(i n:Nat) (o:Ob) (y:OD o) (oc0:OC),ν[i]?=some n/\us[i]?=some m/\look st'.ad n=some oc0/\dL false st'.ad an.ay ν o oc0=some y/\
   oc=mh (fv an.ay (an.pd x) us) o y/\loc' m=loc n)\/(m∉us/\look (fS an st x) m=some oc/\loc' m=loc m):=by
  intro m oc hm
  simp only [aL,husd,bh] at hm
  split at hm
  ·rename_i oc' hm'
   cases hm
   obtain ⟨i,n,o,y,oc0,k1,k2,k3,k4,k5,k6,_⟩:=mY hf.get (mX (X:=X) g hf.get hf.get hf.conds) hlen hm'
   exact .inl ⟨i,n,o,y,oc0,k1,k2,k4,k5,k6,gH hus k2 (by simp [k1])⟩
  ·rename_i hm'
   have hnin:m∉us:=fun hmem=>by
    obtain ⟨oc1,h2⟩:=kn (f:=fv an.ay (an.pd x) us) (x:=an.pd x) husl.symm hmem
    rw [h2] at hm';cases hm'
   exact .inr ⟨hnin,hm,gG hnin⟩
 have hAsub:∀b o,(aa O (aL an st x) loc' w).A b o->(aa O st' loc w).A b o:=by
  rintro b off (h | ⟨m,oc,h1,h2,h3⟩)
  ·exact .inl h
  ·rcases hob m oc h1 with ⟨i,n,o,y,oc0,k1,k2,k4,k5,k6,k7⟩ | ⟨k1,k2,k3⟩
   ·refine .inr ⟨n,oc0,k4,by simp only [aa] at h2;rw [k7] at h2;exact h2,?_⟩
    rcases w4 (f:=fv an.ay (an.pd x) us) k5 with e | e
    ·rw [<-e,<-k6];exact h3
    ·cases e
   ·obtain ⟨_,_,u,hu,_,hlo,_⟩:=hrest m oc k2
    exact .inr ⟨m,u,hu,by simp only [aa] at h2;rw [k3] at h2;exact h2,by rw [hlo];exact h3⟩
 have hcell:∀b o v,¬ (aa O st' loc w).A b o->w.cell? ⟨b,o,none⟩=some v->w.cell? ⟨b,o,none⟩=some v/\¬ (aa O (aL an st x) loc' w).A b o:=fun b o v h1 h2=>⟨h2,fun h=>h1 (hAsub b o h)⟩
 have hrel:∀{c:C} {v:Value},fG st.next c=true->CR cx.eT (aa O st' loc w) c v->CR cx.eT (aa O (aL an st x) loc' w) c v:=fun hb hv=>
  rJ (S:=aa O st' loc w) (S':=aa O (aL an st x) loc' w) (k:=st.next) hcell (by simp [aa,aL]) (fun n hn=>hlow n hn) (fun n oc hn h=>by
   rcases hob n oc h with ⟨i,n',o,y,oc0,k1,k2,_⟩ | ⟨k1,k2,k3⟩
   ·exact absurd (List.mem_of_getElem? k2) (hnu n hn)
   ·obtain ⟨_,_,u,hu,hk,_,_⟩:=hrest n oc k2
    exact ⟨u,hu,hk⟩) hb hv
 obtain ⟨gN,laid⟩:=x6 (X:=X) g hf.get hf.conds hf.nodup (O2:=O) (ν2:=us) (rest:=fS an st x) (locR:=loc) (st2:=aL an st x) hus hlen (by simp only [aL,husd])
  (fun n hn=>by have:=(husm n hn).2;simp only [aL];exact this)
  (fun n hn b hb off h=>by
   obtain ⟨_,oc,_,_,k,_⟩:=lq hf.get hn
   exact g.out n oc b off k hb h)
  (fun n hn b hb m oc h1 h2 h3=>by
   obtain ⟨_,oc0,_,_,k,_⟩:=lq hf.get hn
   obtain ⟨_,hmν,u,hu,_⟩:=hrest m oc h1
   have:=g.apart n m oc0 u b k hu hb h3
   exact hmν (by rw [<-this];exact hn))
  (fun m oc h1 h2=>by
   obtain ⟨hm,_,u,hu,hk,hlo,hor⟩:=hrest m oc h1
   refine ⟨by simp only [aL];omega,?_⟩
   have hb:=(dH hb2 h1).2
   cases oc with
   | cells T cs=>
    obtain ⟨b,vs,h1,h2,h3,h4⟩:=hor
    exact ⟨b,vs,h1,h2,h3,gn (k:=st.next) hrel hb h4⟩
   | ak t xs=>exact qv.to (S:=aa O st' loc w) (S':=aa O (aL an st x) loc' w) rfl (.inr hAsub) hor
   | tok t xs=>exact qv.to (X:=X) (S:=aa O st' loc w) (S':=aa O (aL an st x) loc' w) (l:=loc m) rfl (.inr hAsub) hor
   | arr t xs=>
    obtain ⟨b,vs,T,h1,h2,h3,h4,h5⟩:=hor
    exact ⟨b,vs,T,h1,h2,h3,h4,fun i y hy=>let ⟨us,r1,r2⟩:=h5 i y hy;⟨us,r1.frame hcell,r2⟩⟩
   | ext k t x=>exact hor
   | iter cs seen cl=>obtain ⟨b,m,c,sn,k1,k2,k3,k4,k5⟩:=hor;exact ⟨b,m,c,sn,k1,k2,k3,gn (k:=st.next) hrel hb k4,k5⟩)
  (fun m m' oc oc' b h1 h2 _ _ h3 h4=>by
   obtain ⟨_,_,u,hu,_⟩:=hrest m oc h1
   obtain ⟨_,_,u',hu',_⟩:=hrest m' oc' h2
   exact g.apart m m' u u' b hu hu' h3 h4)
  (fun m oc b off h1 _ h2=>by
   obtain ⟨_,_,u,hu,_⟩:=hrest m oc h1
   exact g.out m u b off hu h2)
  (.inr hAsub)
  (fun b hb ⟨m,oc,h1,h2⟩=>by
   rcases hob m oc h1 with ⟨i,n,o,y,oc0,k1,k2,k4,k5,k6,k7⟩ | ⟨k1,k2,k3⟩
   ·refine g.fL.2 b hb ⟨n,oc0,k4,?_⟩
    have e:bn us (ν.map loc) loc m=loc n:=k7
    simp only [aa] at h2;rw [e] at h2;exact h2
   ·obtain ⟨_,_,u,hu,_⟩:=hrest m oc k2
    have e:bn us (ν.map loc) loc m=loc m:=k3
    refine g.fL.2 b hb ⟨m,u,hu,?_⟩
    simp only [aa] at h2;rw [e] at h2;exact h2)
 refine ⟨loc',gN,⟨hA.size,hA.defers,fun t sv hl => ?_⟩,?_⟩
 ·simp only [aL,husd,bh] at hl
  split at hl
  ·rename_i v hv
   cases hl
   obtain ⟨k,hk,rfl⟩:=gY hv
   obtain ⟨c,hc,hs⟩:=np hf.refs hk
   have hcv:CR cx.eT (aa O st' loc w) c (a.tmps.getD t undef):=hA.env t _ hc
   exact uK laid (sC g hcv hf.get hs (oL hf.yp hk hc))
  ·have hl2:look (ng an st x) t=some sv:=hl
   have hst:∃u,look st'.env t=some u/\fF u sv:=by
    simp only [ng,bh] at hl2
    split at hl2
    ·rename_i v hv;cases hl2;exact dW hf.env hv
    ·obtain ⟨h1,h2⟩:=bN hl2;exact hkeep t h1 sv h2
   obtain ⟨u,hu,hs⟩:=hst
   have hv:=ni hs (hA.env t u hu)
   obtain ⟨v0,rfl,hb⟩:=jE hb1 hl2
   cases v0 with
   | one c=>exact hrel hb hv
   | agg cs=>obtain ⟨vs,h1,h2⟩:=hv;exact ⟨vs,h1,gn (k:=st.next) hrel hb h2⟩
 ·refine {O:=ht.O,next:=by simp [aa,aL],os:=ht.os,output:=ht.output,size:=ht.size,own:=fun b hb => ?_,cell:=fun b o v h1 h2 => ?_,block:=ht.block,loc:=fun n hn hfx => ?_,kind:=fun n oc hn h => ?_}
  ·obtain ⟨m,oc,h1,h2⟩:=hb
   rcases hob m oc h1 with ⟨i,n,o,y,oc0,k1,k2,k4,k5,k6,k7⟩ | ⟨k1,k2,k3⟩
   ·exact ht.own b ⟨n,oc0,k4,by simp only [aa] at h2;rw [k7] at h2;exact h2⟩
   ·obtain ⟨_,_,u,hu,_⟩:=hrest m oc k2
    exact ht.own b ⟨m,u,hu,by simp only [aa] at h2;rw [k3] at h2;exact h2⟩
  ·obtain ⟨k1,k2⟩:=ht.cell b o v h1 h2
   exact ⟨k1,fun h=>k2 (hAsub b o h)⟩
  ·show (loc' n).v=_/\(_->loc' n=_)
   rw [hlow n hn];exact ht.loc n hn hfx
  ·rcases hob n oc h with ⟨i,n',o,y,oc0,k1,k2,_⟩ | ⟨k1,k2,k3⟩
   ·exact absurd (List.mem_of_getElem? k2) (hnu n hn)
   ·obtain ⟨_,_,u,hu,hk,_,_⟩:=hrest n oc k2
    obtain ⟨oc1,m1,m2⟩:=ht.kind n u hn hu
    refine ⟨oc1,m1,?_⟩
    show ah _ (loc' n) _ _
    rw [hlow n hn]
    exact m2.comp hk
theorem tp {an:cW} {st:St} {W:List Nat} {x:an.X} (hok:iq an st W x=true) {n:Nat} (hn:n∈an.aV) {v:SV} (h:look (aL an st x).env n=some v) (hW:n∉W):look st.env n=some v:=by
 simp only [iq,Bool.and_eq_true] at hok
 obtain ⟨_,_,hkeys,hnr⟩:=hok
 simp only [aL,ng,bh] at h
 split at h
 ·rename_i u hu
  obtain ⟨k,hk,_⟩:=gY hu
  exact absurd hn (nq hnr hk)
 ·split at h
  ·rename_i u hu;exact absurd (fw hkeys hu) hW
  ·exact (bN h).2
theorem oN {O:ab} {st:St} {loc:Nat->Loc} {w:World} {an:cW} {W:List Nat} {K:St->VC} (hdis:gI an.aV W=true)
  (hk:(VC.all an.X fun x => .imp (an.inv x) (match cb st.next (aw an st x).env && (b4 st.next (aw an st x).ad && dv W (an.bm x)) with
     | true=>K (aw an st x)
     | false => .ff)).holds) {a':Act} {w':World}:bw cx X O (cK an st) W st (aa O st loc w) a' w'->bw cx X O K W st (aa O st loc w) a' w':=by
 have hkeepW:=gK hdis
 rintro ⟨st2,loc2,k1,k2,k3,k4,k5⟩
 simp only [cK] at k1
 split at k1
 case h_2=>exact k1.elim
 rename_i hpres
 obtain ⟨x',hx',hs',ho'⟩:=k1
 have hvx:=hk x' hx'
 split at hvx
 case h_2=>exact hvx.elim
 rename_i hbb
 simp only [Bool.and_eq_true] at hbb
 have hhead:∀t,t∉W->∀v,look (aw an st x').env t=some v->look st.env t=some v:=by
  intro t ht v hv
  simp only [aw,bh] at hv
  split at hv
  ·rename_i u hu;exact absurd (fw hbb.2.2 hu) ht
  ·exact (bN hv).2
 obtain ⟨m1,m2,m3⟩:=jm (an:=an) (st:=st) x' k2 k4 k3 (by
   intro n v hv
   simp only [aw,bh] at hv
   split at hv
   ·rename_i u hu;cases hv;exact dW hs' hu
   ·obtain ⟨hmem,hl⟩:=bN hv
    refine ⟨v,?_,c7 v⟩
    obtain ⟨v',hv'⟩:=ee hpres hmem
    have:=k5 (hkeepW n hmem).1 n (hkeepW n hmem).2 v' hv'
    rw [hl] at this
    cases this
    exact hv')
  (by
   intro n v hv
   simp only [aw] at hv
   exact dX ho' hv) hbb.1 hbb.2.1
 exact ⟨aw an st x',loc2,hvx,m1,m3,m2,fun _ t ht v hv=>hhead t ht v hv⟩
theorem oO (hok:ep P cx X) {O:ab} {id:Nat} {ops:Array Oper} {draw:Bool} {st:St} {loc:Nat->Loc} {w:World} {a:Act} {K:Ex->St->VC} (hA:bZ cx (aa O st loc w) st a) (g:Good cx.eT X (aa O st loc w)) (hO:bu O w)
  (h:(pE cx ops draw st (K .normal)).holds):(Code.region id ops draw).wp P (gL cx X O K (bJ ops.toList) st (aa O st loc w)) a w:=by
 have hW:∀(j:Nat) (oj:Oper) (d:Nat),ops[j]?=some oj->oj.dst=some d->d∈bJ ops.toList:=by
  intro j oj d hj hd
  exact List.mem_filterMap.2 ⟨oj,by rw [<-Array.getElem?_toList] at hj;exact List.mem_of_getElem? hj,hd⟩
 have hq:∀st' loc' a' w',(K .normal st').holds->Good cx.eT X (aa O st' loc' w')->Tr (aa O st loc w) (aa O st' loc' w')->bZ cx (aa O st' loc' w') st' a'->ed (bJ ops.toList) st st'->
   gL cx X O K (bJ ops.toList) st (aa O st loc w) .normal a' w':=fun st' loc' a' w' h1 h2 h3 h4 h5=>⟨st',loc',h1,h2,h3,h4,h5⟩
 unfold pE at h
 cases draw with
 | false=>
  refine wp_region_list ?_
  exact rH hok hW ops.toList (fun o ho d hd=>List.mem_filterMap.2 ⟨o,ho,hd⟩) hA g hO h hq
 | true=>
  split at h
  ·rename_i e;cases e
  ·rename_i e
   split at h
   ·rename_i hreg
    rw [wX] at h
    refine wp_region_any hok.mixed (sw (loud:=cB cx ops.toList) _ _ _ _ (aa O st loc {w with drawn:=w.drawn + 1}).A ?_)
    have hdrew:Below w.heap.size w {w with drawn:=w.drawn + 1}:=⟨rfl,rfl,Nat.le_refl _,fun _ _=>rfl⟩
    obtain ⟨tr,g'⟩:=iM (S:=aa O st loc w) (S':=aa O st loc {w with drawn:=w.drawn + 1}) g rfl rfl rfl rfl hdrew
    refine rI hok hW hreg (fun c a w h=>h) ops.size _ ?_ ⟨hA.size,hA.defers,hA.env.tr tr⟩ g' (hO.tr (Nat.le_refl _)) h ?_
    ·intro j o ho hj
     rw [Array.getD_eq_getD_getElem?,Array.getElem?_replicate] at hj
     split at hj <;> simp at hj
    ·intro st' loc' a' w' h1 h2 h3 h4 h5
     obtain ⟨st2,loc2,k1,k2,k3,k4,k5⟩:=bw.yB (K:=K .normal) (f:=canon st.next (bJ ops.toList)) (W:=bJ ops.toList) hA (fun st'=>by
      rcases th st.next (bJ ops.toList) st' with e | ⟨r,q,k1,k2⟩
      ·exact .inl e
      ·exact .inr ⟨r,q,k1,k2⟩) (⟨st',loc',h1,h2,tr.trans h3,h4,h5⟩:bw cx X O (fun st'=>K .normal (canon st.next (bJ ops.toList) st')) (bJ ops.toList) st (aa O st loc w) a' w')
     exact hq st2 loc2 a' w' k1 k2 k3 k4 k5
   ·exact h.elim
theorem v7 (hok:ep P cx X) (anns:da) {O:ab}:∀(c:Code) (cur:Nat) {st:St} {loc:Nat->Loc} {w:World} {a:Act} {K:Ex->St->VC},
  bZ cx (aa O st loc w) st a->Good cx.eT X (aa O st loc w)->bu O w->(vc cx anns c cur st K).holds->c.wp P (gL cx X O K (writes anns cur c) st (aa O st loc w)) a w:=by
 intro c
 induction c with
 | skip=>intro cur st loc w a K hA g hO h;exact wp_skip ⟨st,loc,h,g,Tr.refl _,hA,fun _ _ _ _ h=>h⟩
 | region id ops draw=>
  intro cur st loc w a K hA g hO h
  simp only [vc] at h
  split at h
  ·exact oO hok hA g hO h
  ·rename_i an _
   split at h
   case h_2=>exact h.elim
   rename_i hdis
   obtain ⟨hb,hk⟩:=h
   refine wp_mono (oO (K:=fun e=>match e with | .normal=>cK an st | e=>K e) hok hA g hO hb) ?_
   intro e a' w' hq
   cases e with
   | normal=>exact oN hdis hk hq
   | exit i=>exact hq
   | ret=>exact hq
   | goto l=>exact hq.elim
   | panic c=>exact hq.elim
   | outgrown=>exact hq.elim
 | seq c1 c2 ih1 ih2=>
  intro cur st loc w a K hA g hO h
  refine wp_seq ?_
  refine wp_mono (ih1 cur hA g hO h) ?_
  intro e a' w' hq
  refine w7 (K:=K) (W:=writes anns cur c1) ?_ (fun e he=>by cases e <;> simp_all) ?_ hq
  ·rintro a1 w1 ⟨st',loc',k1,k2,k3,k4,k5⟩
   refine wp_mono (ih2 cur k4 k2 (hO.tr k3.size) k1) ?_
   intro e a2 w2 hq2
   exact hq2.mono k3 (W':=writes anns cur (.seq c1 c2)) (fun hm t ht=>k5 (fun h=>hm (List.mem_append.2 (.inl h))) t fun hm=>ht (List.mem_append.2 (.inl hm))) (fun n hn=>List.mem_append.2 (.inr hn))
  ·intro e a1 w1 hq1 _
   exact hq1.mono (Tr.refl _) (fun _ _ _ _ h=>h) (fun n hn=>List.mem_append.2 (.inl hn))
 | cond x c1 c2 ih1 ih2=>
  intro cur st loc w a K hA g hO h
  have hx:=ao hA.env x
  have h1:∀{K},(vc cx anns c1 cur st K).holds->c1.wp P (gL cx X O K (writes anns cur (.cond x c1 c2)) st (aa O st loc w)) a w:=fun h=>
   wp_mono (ih1 cur hA g hO h) fun e a' w' hq=>hq.mono (Tr.refl _) (fun _ _ _ _ h=>h) (fun n hn=>List.mem_append.2 (.inl hn))
  have h2:∀{K},(vc cx anns c2 cur st K).holds->c2.wp P (gL cx X O K (writes anns cur (.cond x c1 c2)) st (aa O st loc w)) a w:=fun h=>
   wp_mono (ih2 cur hA g hO h) fun e a' w' hq=>hq.mono (Tr.refl _) (fun _ _ _ _ h=>h) (fun n hn=>List.mem_append.2 (.inr hn))
  have base:∀{K:Ex->St->VC},(match aR st.env x with
    | .lit true=>vc cx anns c1 cur st K
    | .lit false=>vc cx anns c2 cur st K
    | .d .bool g => .ite g (vc cx anns c1 cur st K) (vc cx anns c2 cur st K)
    | _ => .ff).holds->(Code.cond x c1 c2).wp P (gL cx X O K (writes anns cur (.cond x c1 c2)) st (aa O st loc w)) a w:=by
   intro K h
   split at h
   ·rename_i hl;rw [hl] at hx;exact wp_cond_true hx (h1 h)
   ·rename_i hl;rw [hl] at hx;exact wp_cond_false hx (h2 h)
   ·rename_i b hl
    rw [hl] at hx
    have hx:=(aW (eT:=cx.eT) (S:=aa O st loc w) (b:=b)).1 hx
    cases b
    ·exact wp_cond_false hx (h2 (h.2 rfl))
    ·exact wp_cond_true hx (h1 (h.1 rfl))
   ·exact h.elim
  simp only [vc] at h
  split at h
  ·exact base h
  ·rename_i an _
   split at h
   case h_2=>exact h.elim
   rename_i hdis
   obtain ⟨hb,hk⟩:=h
   refine wp_mono (base (K:=fun e st'=>match e with | .normal=>cK an st st' | e=>K e st') hb) ?_
   intro e a' w' hq
   cases e with
   | normal=>exact oN hdis hk hq
   | exit i=>exact hq
   | ret=>exact hq
   | goto l=>exact hq.elim
   | panic c=>exact hq.elim
   | outgrown=>exact hq.elim
 | block id b ih=>
  intro cur st loc w a K hA g hO h
  refine wp_block ?_
  simp only [vc] at h
  split at h
  case h_2=>
   rename_i an _
   split at h
   case h_2=>exact h.elim
   rename_i hdis
   have hkeepW:=gK hdis
   obtain ⟨hb,hk⟩:=h
   refine wp_mono (ih id hA g hO hb) ?_
   intro e a' w' hq
   have join:bw cx X O (cK an st) (writes anns id b) st (aa O st loc w) a' w'->gL cx X O K (writes anns cur (.block id b)) st (aa O st loc w) .normal a' w':=by
    rintro ⟨st2,loc2,k1,k2,k3,k4,k5⟩
    simp only [cK] at k1
    split at k1
    case h_2=>exact k1.elim
    rename_i hpres
    obtain ⟨x',hx',hs',ho'⟩:=k1
    have hvx:=hk x' hx'
    split at hvx
    case h_2=>exact hvx.elim
    rename_i hbb
    simp only [Bool.and_eq_true] at hbb
    have hhead:∀t,t∉writes anns id b->∀v,look (aw an st x').env t=some v->look st.env t=some v:=by
     intro t ht v hv
     simp only [aw,bh] at hv
     split at hv
     ·rename_i u hu;exact absurd (fw hbb.2.2 hu) ht
     ·exact (bN hv).2
    obtain ⟨m1,m2,m3⟩:=jm (an:=an) (st:=st) x' k2 k4 k3 (by
      intro n v hv
      simp only [aw,bh] at hv
      split at hv
      ·rename_i u hu;cases hv;exact dW hs' hu
      ·obtain ⟨hmem,hl⟩:=bN hv
       refine ⟨v,?_,c7 v⟩
       obtain ⟨v',hv'⟩:=ee hpres hmem
       have:=k5 (hkeepW n hmem).1 n (hkeepW n hmem).2 v' hv'
       rw [hl] at this
       cases this
       exact hv')
     (by
      intro n v hv
      simp only [aw] at hv
      exact dX ho' hv) hbb.1 hbb.2.1
    exact ⟨aw an st x',loc2,hvx,m1,m3,m2,fun _ t ht v hv=>hhead t ht v hv⟩
   cases e with
   | normal=>exact join hq
   | exit i=>
    show if i=id then _ else _
    by_cases hi:i=id
    ·rw [if_pos hi]
     subst hi
     obtain ⟨st',loc',k1,k2⟩:=hq
     simp only [Nat.beq_refl] at k1
     exact join ⟨st',loc',k1,k2⟩
    ·rw [if_neg hi]
     obtain ⟨st',loc',k1,k2⟩:=hq
     simp only [dN hi] at k1
     exact ⟨st',loc',k1,k2⟩
   | ret=>exact hq
   | goto l=>exact hq.elim
   | panic c=>exact hq.elim
   | outgrown=>exact hq.elim
  refine wp_mono (ih id hA g hO h) ?_
  intro e a' w' hq
  cases e with
  | normal=>exact hq
  | exit i=>
   obtain ⟨st',loc',k1,k2,k3,k4,k5⟩:=hq
   simp only at k1
   show if i=id then _ else _
   split at k1
   ·rename_i hi
    rw [if_pos (Nat.eq_of_beq_eq_true hi)]
    exact ⟨st',loc',k1,k2,k3,k4,k5⟩
   ·rename_i hi
    rw [if_neg (fun e=>by rw [e,Nat.beq_refl] at hi;cases hi)]
    exact ⟨st',loc',k1,k2,k3,k4,k5⟩
  | ret=>exact hq
  | goto l=>exact hq.elim
  | panic c=>exact hq.elim
  | outgrown=>exact hq.elim
 | loop b ih=>
  intro cur st loc w a K hA g hO h
  simp only [vc] at h
  split at h
  ·rename_i hnone
   have hwl:writes anns cur (.loop b)=writes anns cur b:=by simp only [writes,hnone]
   split at h
   case h_2=>exact h.elim
   rename_i an _
   split at h
   ·rename_i hdis
    have hkeepW:=gK hdis
    obtain ⟨⟨x0,hx0,hs0,ho0⟩,h⟩:=h
    have hobk:∀x n v,look (aw an st x).ad n=some v->look (an.ad x) n=some v\/look st.ad n=some v:=by
     intro x n v hv
     simp only [aw,bh] at hv
     split at hv
     ·rename_i u hu;cases hv;exact .inl hu
     ·exact .inr (pk hv)
    have hhead:∀x,dv (writes anns cur b) (an.bm x)=true->∀t,t∉writes anns cur b->∀v,look (aw an st x).env t=some v->look st.env t=some v:=by
     intro x hk t ht v hv
     simp only [aw,bh] at hv
     split at hv
     ·rename_i u hu;exact absurd (fw hk hu) ht
     ·exact (bN hv).2
    refine wp_loop_ghost (fun n a' w'=>∃x loc',an.inv x/\an.bR x=n/\cb st.next (aw an st x).env=true/\(b4 st.next (aw an st x).ad=true/\dv (writes anns cur b) (an.bm x)=true)/\
     (vc cx anns b cur (aw an st x) fun e st'=>match e with
       | .normal=>match du st'.env an.aV with
        | true => .leaf (∃x',an.inv x'/\an.bR x' < an.bR x/\dU st' (an.bm x')/\dV st' (an.ad x'++ca st an.cz))
        | false => .ff
       | e=>K e st').holds/\
     Good cx.eT X (aa O (aw an st x) loc' w')/\bZ cx (aa O (aw an st x) loc' w') (aw an st x) a'/\Tr (aa O st loc w) (aa O (aw an st x) loc' w')) (an.bR x0) ?_ ?_
    ·have hx:=h x0 hx0
     split at hx
     ·rename_i hb
      simp only [Bool.and_eq_true] at hb
      obtain ⟨m1,m2,m3⟩:=jm (an:=an) (st:=st) x0 g hA (Tr.refl _) (by
        intro n v hv
        simp only [aw,bh] at hv
        split at hv
        ·rename_i u hu;cases hv;exact dW hs0 hu
        ·obtain ⟨_,hl⟩:=bN hv
         exact ⟨v,hl,c7 v⟩)
       (by
        intro n v hv
        rcases hobk x0 n v hv with hv | hv
        ·exact dX ho0 hv
        ·exact ⟨v,hv,rK v⟩) hb.1 hb.2.1
      exact ⟨x0,loc,hx0,rfl,hb.1,hb.2,hx,m1,m2,m3⟩
     ·exact hx.elim
    ·rintro n a1 w1 ⟨x,loc1,hx,hn,hb1,hb2,hvc,g1,hA1,tr1⟩
     refine wp_mono (ih cur hA1 g1 (hO.tr tr1.size) hvc) ?_
     intro e a2 w2 hq
     have up:∀Kx:St->VC,bw cx X O Kx (writes anns cur b) (aw an st x) (aa O (aw an st x) loc1 w1) a2 w2->bw cx X O Kx (writes anns cur (.loop b)) st (aa O st loc w) a2 w2:=by
      rintro Kx ⟨st2,loc2,k1,k2,k3,k4,k5⟩
      exact ⟨st2,loc2,k1,k2,tr1.trans k3,k4,fun hm t ht v hv=>by rw [hwl] at hm ht;exact hhead x hb2.2 t ht v (k5 hm t ht v hv)⟩
     cases e with
     | normal=>
      obtain ⟨st2,loc2,k1,k2,k3,k4,k5⟩:=hq
      simp only at k1
      split at k1
      case h_2=>exact k1.elim
      rename_i hpres
      obtain ⟨x',hx',hlt,hs',ho'⟩:=k1
      have hvx:=h x' hx'
      refine ⟨an.bR x',by rw [<-hn];exact hlt,?_⟩
      split at hvx
      ·rename_i hb
       simp only [Bool.and_eq_true] at hb
       obtain ⟨m1,m2,m3⟩:=jm (an:=an) (st:=st) x' k2 k4 (tr1.trans k3) (by
         intro n v hv
         simp only [aw,bh] at hv
         split at hv
         ·rename_i u hu;cases hv;exact dW hs' hu
         ·obtain ⟨hmem,hl⟩:=bN hv
          refine ⟨v,?_,c7 v⟩
          obtain ⟨v',hv'⟩:=ee hpres hmem
          have:=hhead x hb2.2 n (hkeepW n hmem).2 v' (k5 (hkeepW n hmem).1 n (hkeepW n hmem).2 v' hv')
          rw [hl] at this
          cases this
          exact hv')
        (by
         intro n v hv
         simp only [aw] at hv
         exact dX ho' hv) hb.1 hb.2.1
       exact ⟨x',loc2,hx',rfl,hb.1,hb.2,hvx,m1,m2,m3⟩
      ·exact hvx.elim
     | exit i=>exact up _ hq
     | ret=>exact up _ hq
     | goto l=>exact hq.elim
     | panic c=>exact hq.elim
     | outgrown=>exact hq.elim
   ·exact h.elim
  ·rename_i f hsome
   have hwl:writes anns cur (.loop b)=allM :: writes anns cur b:=by simp only [writes,hsome]
   generalize qy st (f st)=an at h
   split at h
   case h_2=>exact h.elim
   rename_i hdis
   have hkeepW:=gK hdis
   obtain ⟨hfit,h⟩:=h
   obtain ⟨x0,hx0,_,hf0⟩:=oK hfit
   refine wp_loop_ghost (fun n a' w'=>∃x loc',an.inv x/\an.bR x=n/\iq an st (writes anns cur b) x=true/\
    (vc cx anns b cur (aL an st x) fun e st'=>match e with
      | .normal=>match du st'.env an.aV with
       | true=>nh an st st' fun x'=>an.bR x' < an.bR x
       | false => .ff
      | e=>K e st').holds/\
    Good cx.eT X (aa O (aL an st x) loc' w')/\bZ cx (aa O (aL an st x) loc' w') (aL an st x) a'/\Tr (aa O st loc w) (aa O (aL an st x) loc' w')) (an.bR x0) ?_ ?_
   ·have hx:=h x0 hx0
    split at hx
    case h_2=>exact hx.elim
    rename_i hok2
    obtain ⟨loc',m1,m2,m3⟩:=oM (an:=an) (st:=st) x0 g hA (Tr.refl _) hok2 (fun n hn v hv=>⟨v,hv,c7 v⟩) hf0
    exact ⟨x0,loc',hx0,rfl,hok2,hx,m1,m2,m3⟩
   ·rintro n a1 w1 ⟨x,loc1,hx,hn,hokx,hvc,g1,hA1,tr1⟩
    refine wp_mono (ih cur hA1 g1 (hO.tr tr1.size) hvc) ?_
    intro e a2 w2 hq
    have up:∀Kx:St->VC,bw cx X O Kx (writes anns cur b) (aL an st x) (aa O (aL an st x) loc1 w1) a2 w2->bw cx X O Kx (writes anns cur (.loop b)) st (aa O st loc w) a2 w2:=by
     rintro Kx ⟨st2,loc2,k1,k2,k3,k4,k5⟩
     exact ⟨st2,loc2,k1,k2,tr1.trans k3,k4,fun hm=>by rw [hwl] at hm;exact absurd (List.mem_cons_self) hm⟩
    cases e with
    | normal=>
     obtain ⟨st2,loc2,k1,k2,k3,k4,k5⟩:=hq
     simp only at k1
     split at k1
     case h_2=>exact k1.elim
     rename_i hpres
     obtain ⟨x',hx',hlt,hf'⟩:=oK k1
     have hvx:=h x' hx'
     split at hvx
     case h_2=>exact hvx.elim
     rename_i hok2
     refine ⟨an.bR x',by rw [<-hn];exact hlt,?_⟩
     obtain ⟨loc',m1,m2,m3⟩:=oM (an:=an) (st:=st) x' k2 k4 (tr1.trans k3) hok2 (fun n hn v hv=>by
      obtain ⟨v',hv'⟩:=ee hpres hn
      have h1:=k5 (hkeepW n hn).1 n (hkeepW n hn).2 v' hv'
      refine ⟨v',hv',?_⟩
      have h2:=tp hokx hn h1 (hkeepW n hn).2
      rw [hv] at h2;cases h2
      exact c7 v) hf'
     exact ⟨x',loc',hx',rfl,hok2,hvx,m1,m2,m3⟩
    | exit i=>exact up _ hq
    | ret=>exact up _ hq
    | goto l=>exact hq.elim
    | panic c=>exact hq.elim
    | outgrown=>exact hq.elim
 | rangeFunc f ps yH b _ _=>intro cur st loc w a K _ _ _ h;exact h.elim
 | exit id=>intro cur st loc w a K hA g hO h;exact wp_exit ⟨st,loc,h,g,Tr.refl _,hA,fun _ _ _ _ h=>h⟩
 | scope b _=>intro cur st loc w a K _ _ _ h;exact h.elim
 | label l=>intro cur st loc w a K _ _ _ h;exact h.elim
 | goto l=>intro cur st loc w a K _ _ _ h;exact h.elim
 | ret=>intro cur st loc w a K hA g hO h;exact wp_ret ⟨st,loc,h,g,Tr.refl _,hA,fun _ _ _ _ h=>h⟩
 | refuse why=>intro cur st loc w a K _ _ _ h;exact h.elim
end
end Go.Vg

namespace Go.Vg
open Go.RowKit
@[reducible] def HL:List Ty->Type
 | []=>Unit
 | [t]=>D t
 | t :: u :: r=>D t × HL (u :: r)
def cD:List Ty->Bool
 | []=>true
 | t :: r=>t.flat && cD r
def pF (st:St) (want:Ty) (n:Nat):Option (D want):=
 match look st.ad n with
 | some (.ext 0 t xs)=>match h:Ty.beq t want with
  | true=>some (aH h (a:=t) xs)
  | false=>none
 | _=>none
def tq (lend:Bool) (st:St) (t:Ty) (a:aP):Option (D t):=
 match lend,t,a with
 | true, .slice e, .one (.ak n)=>jS st e (.ak n)
 | true,t, .one (.xd n .top)=>pF st t n
 | _,t,a=>ga t a
def ef (lend:Bool) (st:St):(ts:List Ty)->List aP->Option (HL ts)
 | [],[]=>some ()
 | [t],[a]=>tq lend st t a
 | t :: u :: r,a :: yH=>match tq lend st t a,ef lend st (u :: r) yH with
  | some x,some xs=>some (x,xs)
  | _,_=>none
 | _,_=>none
def fh:(ts:List Ty)->HL ts->List aP
 | [],_=>[]
 | [t],y=>[.one (.d t y)]
 | t :: u :: r,ys => .one (.d t ys.1) :: fh (u :: r) ys.2
def kV:List aP->SV
 | [v] => .s v
 | vs => .dM vs
def kz (st:St) (c:C):C × St:=
 match c with
 | .ak n=>match look st.ad n with
  | some (.ak t xs)=>(.d (.slice t) xs,ar st n)
  | _=>(c,st)
 | .xd n .top=>match look st.ad n with
  | some (.ext 0 t xs)=>(.d t xs,ar st n)
  | _=>(c,st)
 | c=>(c,st)
def jn:St->List C->List C × St
 | st,[]=>([],st)
 | st,c :: cs=>match kz st c with
  | (c',st1)=>match jn st1 cs with
   | (cs',st2)=>(c' :: cs',st2)
def n5 (st:St) (v:aP):aP × St:=
 match v with
 | .one c=>match kz st c with
  | (c',st')=>(.one c',st')
 | .agg cs=>match jn st cs with
  | (cs',st')=>(.agg cs',st')
def n7 (lend:Bool) (st:St) (v:aP):aP × St:=
 match lend,v with
 | true, .one c=>(.one c,st)
 | _,v=>n5 st v
def gZ (lend:Bool):St->List aP->List aP × St
 | st,[]=>([],st)
 | st,v :: vs=>match n7 lend st v with
  | (v',st1)=>match gZ lend st1 vs with
   | (vs',st2)=>(v' :: vs',st2)
def ml (ts rts:List Ty) (pre:HL ts->Prop) (post:HL ts->HL rts->Prop):b7:=fun args st K=>
 match gZ (cD rts) st args with
 | (args,st)=>match ef (cD rts) st ts args with
  | some xs => .and (pre xs) (.all (HL rts) fun ys => .imp (post xs ys) (K (kV (fh rts ys)) st))
  | none => .ff
def bC (ts rts:List Ty) (pre:HL ts->Prop) (g:HL ts->HL rts):b7:=fun args st K=>
 match gZ (cD rts) st args with
 | (args,st)=>match ef (cD rts) st ts args with
  | some xs => .and (pre xs) (K (kV (fh rts (g xs))) st)
  | none => .ff
inductive xN (α:Type) where
 | ret (a:α)
 | ite (c:Bool) (a b:xN α)
def xN.eval {α:Type}:xN α->α
 | .ret a=>a
 | .ite c a b=>match c with
  | true=>a.eval
  | false=>b.eval
def uM (st:St) (want:Ty) (c:C):Option (D want):=
 match c with
 | .ak n=>match look st.ad n with
  | some (.ak t xs)=>match h:Ty.beq (.slice t) want with
   | true=>some (aH h (a:=.slice t) xs)
   | false=>none
  | _=>none
 | .xd n .top=>pF st want n
 | c=>jL want c
def eg (st:St):(t:Ty)->List C->Option (D t × List C)
 | .prod a b,cs=>match eg st a cs with
  | some (x,cs1)=>match eg st b cs1 with
   | some (y,cs2)=>some ((x,y),cs2)
   | none=>none
  | none=>none
 | .unit,cs=>some ((),cs)
 | t,c :: cs=>match uM st t c with
  | some x=>some (x,cs)
  | none=>none
 | _,[]=>none
def tt (st:St) (want:Ty):aP->Option (D want)
 | .one c=>uM st want c
 | .agg cs=>match want.one with
  | true=>none
  | false=>match eg st want cs with
   | some (x,[])=>some x
   | _=>none
def kA (st:St):(ts:List Ty)->List aP->Option (HL ts)
 | [],[]=>some ()
 | [t],[a]=>tt st t a
 | t :: u :: r,a :: yH=>match tt st t a,kA st (u :: r) yH with
  | some x,some xs=>some (x,xs)
  | _,_=>none
 | _,_=>none
def jo (cx:Cx) (st:St):List ResultVar->(List aP->VC)->VC
 | [],K=>K []
 | .tmp t :: r,K=>match ev st.env (.tmp t) with
  | .s v=>jo cx st r fun vs=>K (v :: vs)
  | _ => .ff
 | .cell a t :: r,K=>jQ cx st t (aR st.env (.tmp a)) fun sv=>match sv with
  | .s v=>jo cx st r fun vs=>K (v :: vs)
  | _ => .ff
def xO (cx:Cx) (anns:da) (res:List ResultVar) (c:Code) (st:St) (K:List aP->St->VC):VC:=
 vc cx anns c 0 st fun e st'=>match e with
  | .exit _ => .ff
  | _=>jo cx st' res fun vs=>K vs st'
def jq (B:Cx) (Γ:List (FuncId × (Bool × b7))) (N:Nat):Cx:={B with Γ:=Γ,N:=N}
def iu:Nat->(ts:List Ty)->HL ts->List (Nat × SV)
 | _,[],_=>[]
 | k,[t],x=>[(k, .s (.one (.d t x)))]
 | k,t :: u :: r,xs=>(k, .s (.one (.d t xs.1))) :: iu (k + 1) (u :: r) xs.2
def fy (ts:List Ty) (xs:HL ts):St:={env:=iu 0 ts xs,ad:=[],next:=0}
def sF (B:Cx) (Γ:List (FuncId × (Bool × b7))) (N:Nat) (anns:da) (res:List ResultVar) (c:Code) (ts rts:List Ty) (post:HL ts->HL rts->Prop) (xs:HL ts):VC:=
 xO (jq B Γ N) anns res c (fy ts xs) fun vs st=>match kA st rts vs with
  | some ys => .leaf (post xs ys)
  | none => .ff
section
variable {eT:TypeId} {X:Ext} {P:Program} {cx:Cx}
def cS (eT:TypeId) (A:ab) (w:World):(ts:List Ty)->HL ts->List Value->Prop
 | [],_,vs=>vs = []
 | [t],x,vs=>∃v,vs = [v]/\VR eT t x A w v
 | t :: u :: r,xs,vs=>∃v vs',vs=v :: vs'/\VR eT t xs.1 A w v/\cS eT A w (u :: r) xs.2 vs'
def qz:List Value->Value
 | [v]=>v
 | vs => .tuple vs.toArray
structure bO (P:Program) (eT:TypeId) (X:Ext) (f:FuncId) (ts rts:List Ty) (pre:HL ts->Prop) (post:HL ts->HL rts->Prop):Prop where
 fn:∃fn,P.funcs[f]?=some fn/\fn.body.isNone=false/\(fn.name == "runtime.NumGoroutine")=false
 ok:∀O w xs vs,X.jK w->bu O w->cS eT O w ts xs vs->pre xs->
  Calls P f vs.toArray w fun e w'=>∃us ys,e = .returned (qz us)/\post xs ys/\cS eT O w' rts ys us/\Below w.heap.size w w'
def kB (tmps:Array Value):ResultVar->Sem Value
 | .tmp t=>pure (tmps.getD t undef)
 | .cell b t=>do loadVar t (<-asAddr (tmps.getD b undef))
theorem rL (hok:TyOK P cx) {O:ab} {st:St} {loc:Nat->Loc} {w:World} {a:Act} (g:Good cx.eT X (aa O st loc w)) (he:bT cx.eT (aa O st loc w) st.env a) :
  ∀{rs:List ResultVar} {K:List aP->VC},(jo cx st rs K).holds->
  ∃vs us,(K vs).holds/\aZ cx.eT (aa O st loc w) vs us/\(rs.mapM (kB a.tmps):Sem (List Value)).run P w = .ok us w:=by
 intro rs
 induction rs with
 | nil=>intro K h;exact ⟨[],[],h, .nil,rfl⟩
 | cons r rs ih=>
  intro K h
  cases r with
  | tmp t=>
   simp only [jo] at h
   split at h
   ·rename_i v hv
    obtain ⟨vs,us,h1,h2,h3⟩:=ih h
    have hr:=dj he (.tmp t)
    rw [hv] at hr
    refine ⟨v :: vs,a.tmps.getD t undef :: us,h1, .cons hr h2,?_⟩
    rw [List.mapM_cons]
    simp only [kB,Sem.run_bind,Sem.run_pure,Result.andThen_ok,h3]
   ·exact h.elim
  | cell b t=>
   simp only [jo] at h
   obtain ⟨sv,u,h1,h2,h3⟩:=iR (P:=P) hok g (ao he (.tmp b)) h
   split at h1
   ·rename_i v
    obtain ⟨vs,us,k1,k2,k3⟩:=ih h1
    have h3:=h3 w (Below.refl _ _)
    refine ⟨v :: vs,u :: us,k1, .cons h2 k2,?_⟩
    rw [List.mapM_cons]
    have h4:(do loadVar t (<-asAddr (a.tmps.getD b undef)):Sem Value).run P w = .ok u w:=by
     have h3:(Instr.loadAt t (a.tmps.getD b undef)).run P w = .ok u w:=h3
     generalize a.tmps.getD b undef=p at h3
     cases p with
     | pointer q=>
      cases q with
      | none=>simp [Instr.loadAt,Instr.sureAddr] at h3
      | some q=>simpa [Instr.loadAt,Instr.sureAddr,asAddr] using h3
     | _=>simp [Instr.loadAt,Instr.sureAddr] at h3
    simp only [kB,Sem.run_bind] at h4 ⊢
    simp only [h4,Sem.run_pure,Result.andThen_ok,k3]
   ·exact h1.elim
theorem uN {S:aq} {vs:List aP} {us:List Value} (h:aZ eT S vs us):aS eT S (kV vs) (qz us):=by
 match vs,us,h with
 | [],[],h=>exact ⟨[],rfl,h⟩
 | [v],[u], .cons h1 .nil=>exact h1
 | _ :: _ :: _,_ :: _ :: _,h=>exact ⟨_,rfl,h⟩
theorem rM (hok:ep P cx X) {f:FuncId} {fn:Func} {c:Code} (hf:P.funcs[f]?=some fn) (hb:fn.body=some c) (hN:cx.N=fn.ntmps) (anns:da) {O:ab} {st:St} {loc:Nat->Loc} {w:World}
  {args:Array Value} {K:List aP->St->VC} (hsz:args.size<=fn.ntmps) (g:Good cx.eT X (aa O st loc w)) (hO:bu O w)
  (henv:∀t sv,look st.env t=some sv->∃v,args[t]?=some v/\aS cx.eT (aa O st loc w) sv v)
  (h:(xO cx anns fn.results.toList c st K).holds) :
  Calls P f args w fun e w'=>∃vs us st' loc',e = .returned (qz us)/\(K vs st').holds/\aZ cx.eT (aa O st' loc' w') vs us/\Good cx.eT X (aa O st' loc' w')/\Tr (aa O st loc w) (aa O st' loc' w'):=by
 refine calls_of_wp hf hb ?_
 have hA:bZ cx (aa O st loc w) st {tmps:=args++Array.replicate (fn.ntmps - args.size) undef,defers:=[]}:=by
  refine ⟨by simp [hN];omega,rfl,fun t sv ht => ?_⟩
  obtain ⟨v,hv,hr⟩:=henv t sv ht
  have hlt:t < args.size:=by
   rcases Nat.lt_or_ge t args.size with hh | hh
   ·exact hh
   ·rw [Array.getElem?_eq_none hh] at hv;cases hv
  rw [Array.getD_eq_getD_getElem?,Array.getElem?_append,if_pos hlt,hv]
  exact hr
 refine wp_mono (v7 hok anns c 0 hA g hO h) ?_
 have fin:∀(a':Act) (w':World),bw cx X O (fun st'=>jo cx st' fn.results.toList fun vs=>K vs st') (writes anns 0 c) st (aa O st loc w) a' w'->a'.defers = []/\∃v,(results fn a'.tmps).run P w' = .ok v w'/\
   ∃vs us st' loc',Ending.returned v = .returned (qz us)/\(K vs st').holds/\aZ cx.eT (aa O st' loc' w') vs us/\Good cx.eT X (aa O st' loc' w')/\Tr (aa O st loc w) (aa O st' loc' w'):=by
  rintro a' w' ⟨st',loc',k1,k2,k3,k4,_⟩
  obtain ⟨vs,us,m1,m2,m3⟩:=rL (P:=P) hok.toTyOK k2 k4.env k1
  refine ⟨k4.defers,qz us,?_,vs,us,st',loc',rfl,m1,m2,k2,k3⟩
  have hm:(fn.results.mapM (kB a'.tmps):Sem (Array Value)).run P w' = .ok us.toArray w':=by
   rw [<-Array.toArray_toList (xs:=fn.results),List.mapM_toArray,Sem.run_map,m3]
   rfl
  have he:results fn a'.tmps=(do
    let xs <-fn.results.mapM (kB a'.tmps)
    return if h:xs.size=1 then xs[0] else .tuple xs):=by
   unfold results
   congr 1
  rw [he,Sem.run_bind,hm]
  simp only [Result.andThen_ok,Sem.run_pure]
  match us with
  | []=>rfl
  | [u]=>rfl
  | _ :: _ :: _=>rfl
 intro e a' w' hq
 cases e with
 | normal=>exact fin a' w' hq
 | ret=>exact fin a' w' hq
 | exit n=>obtain ⟨st',loc',k1,_⟩:=hq;exact k1.elim
 | goto l=>exact hq.elim
 | panic c=>exact hq.elim
 | outgrown=>exact hq.elim
end
end Go.Vg

namespace Go.Vg
open Go.RowKit
section
variable {X:Ext} {P:Program} {cx:Cx}
theorem uO {O:ab} {st:St} {loc:Nat->Loc} {w:World} {b o:Nat} (h:¬ (aa O st loc w).A b o):¬ O b o:=fun k=>h (.inl k)
theorem yq {O:ab} {st:St} {loc:Nat->Loc} {w:World} {t:Ty} {x:D t} {v:Value} {eT:TypeId} (h:VR eT t x (aa O st loc w).A w v):VR eT t x O w v:=
 VR.frame h fun _ _ _ ha hc=>⟨hc,uO ha⟩
theorem sG {O:ab} {st:St} {loc:Nat->Loc} {w:World} (g:Good cx.eT X (aa O st loc w)) {n:Nat} {t:Ty} {xs:List (D t)} (hob:look st.ad n=some (.ak t xs))
  {v:Value} (hx:CR cx.eT (aa O st loc w) (.ak n) v):VR cx.eT (.slice t) xs O w v:=by
 rcases (g.obj _ _ hob).2 with ⟨rfl,⟨a,ha⟩,_⟩ | ⟨b,vs,T,cap,hl,bH,hheap,hvs,hcap,hbig,he⟩
 ·exact VR.aD rfl ⟨_,rfl,by simp, .inl ⟨rfl,a,0,(hx.2 _ _ hob).trans ha⟩⟩
 refine VR.aD rfl ⟨_,rfl,hbig, .inr ⟨b,0,cap,(hx.2 _ _ hob).trans hl,hcap,fun i y hy => ?_⟩⟩
 obtain ⟨us,h1,h2⟩:=he i y hy
 refine ⟨us,h1.frame fun _ _ _ ha hc=>⟨hc,uO ha⟩,fun j u hj=>⟨?_,?_⟩⟩
 ·rw [Nat.zero_add,cell_of_row w b _ vs T (0,0) hheap];exact h2 j u hj
 ·exact g.out n _ b _ hob (by rw [bH];simp)
theorem sH {O:ab} {st:St} {loc:Nat->Loc} {w:World} (g:Good cx.eT X (aa O st loc w)) {n:Nat} {t:Ty} {xs:D t} (hob:look st.ad n=some (.ext 0 t xs))
  {v:Value} (hx:CR cx.eT (aa O st loc w) (.xd n .top) v) {A:ab} (hA:∀b∈(loc n).bs,∀o,¬ A b o):VR cx.eT t xs A w v:=by
 have hd:cG t xs (loc n) w:=X.deep.1 (g.obj _ _ hob).2
 obtain ⟨e,s,rfl,hs⟩:=gx hd
 exact hd.data (hx.2 _ _ hob) hA
theorem oP {O:ab} {st:St} {loc:Nat->Loc} {w:World} (g:Good cx.eT X (aa O st loc w)) {n:Nat} {t:Ty} {xs:D t} (h:pF st t n=some xs)
  {v:Value} (hx:CR cx.eT (aa O st loc w) (.xd n .top) v):VR cx.eT t xs O w v:=by
 unfold pF at h
 split at h
 ·rename_i t' ys hob
  split at h
  ·cases h;rename_i hb
   exact cQ hb _ (sH g hob hx fun b hb o=>g.out n _ b o hob hb)
  ·cases h
 ·cases h
theorem sJ {O:ab} {st:St} {loc:Nat->Loc} {w:World} (g:Good cx.eT X (aa O st loc w)) {want:Ty} {c:C} {x:D want} {v:Value} (h:uM st want c=some x)
  (hc:CR cx.eT (aa O st loc w) c v):VR cx.eT want x O w v:=by
 unfold uM at h
 split at h
 ·rename_i n
  split at h
  ·rename_i t xs hob
   split at h
   ·cases h;rename_i hb;exact cQ hb _ (sG g hob hc)
   ·cases h
  ·cases h
 ·exact oP g h hc
 ·exact yq (hJ h hc)
theorem uP {O:ab} {st:St} {loc:Nat->Loc} {w:World} (g:Good cx.eT X (aa O st loc w)):∀{t:Ty} {cs cs':List C} {x:D t} {vs:List Value},eg st t cs=some (x,cs')->aU cx.eT (aa O st loc w) cs vs->
  ∃us vs',vs=us++vs'/\R cx.eT t x O w us/\aU cx.eT (aa O st loc w) cs' vs':=by
 have one:∀{t:Ty} {c:C} {cs cs':List C} {x:D t} {vs:List Value},(match uM st t c with | some x=>some (x,cs) | none=>none)=some (x,cs')->aU cx.eT (aa O st loc w) (c :: cs) vs->
   ∃us vs',vs=us++vs'/\R cx.eT t x O w us/\aU cx.eT (aa O st loc w) cs' vs':=by
  intro t c cs cs' x vs h hc
  cases hc with
  | cons h1 h2 h3=>
   rename_i v vs0
   split at h
   ·rename_i y hy
    cases h
    exact ⟨[v],vs0,rfl,(la h2 (sJ g hy h1)).2,h3⟩
   ·cases h
 intro t
 induction t with
 | prod a b iha ihb=>
  intro cs cs' x vs h hc
  simp only [eg] at h
  split at h
  ·rename_i y cs1 h1
   split at h
   ·rename_i z cs2 h2
    cases h
    obtain ⟨u1,v1,rfl,r1,k1⟩:=iha h1 hc
    obtain ⟨u2,v2,rfl,r2,k2⟩:=ihb h2 k1
    exact ⟨u1++u2,v2,by simp,⟨u1,u2,rfl,r1,r2⟩,k2⟩
   ·cases h
  ·cases h
 | unit=>
  intro cs cs' x vs h hc
  simp only [eg] at h
  cases h
  exact ⟨[],vs,rfl,rfl,hc⟩
 | bool=>intro cs cs' x vs h hc;cases cs with | nil=>simp [eg] at h | cons c cs=>exact one (t:=.bool) h hc
 | int k=>intro cs cs' x vs h hc;cases cs with | nil=>simp [eg] at h | cons c cs=>exact one (t:=.int k) h hc
 | str=>intro cs cs' x vs h hc;cases cs with | nil=>simp [eg] at h | cons c cs=>exact one (t:=.str) h hc
 | err=>intro cs cs' x vs h hc;cases cs with | nil=>simp [eg] at h | cons c cs=>exact one (t:=.err) h hc
 | cd=>intro cs cs' x vs h hc;cases cs with | nil=>simp [eg] at h | cons c cs=>exact one (t:=.cd) h hc
 | slice e _=>intro cs cs' x vs h hc;cases cs with | nil=>simp [eg] at h | cons c cs=>exact one (t:=.slice e) h hc
theorem qA {O:ab} {st:St} {loc:Nat->Loc} {w:World} (g:Good cx.eT X (aa O st loc w)) {want:Ty} {c:aP} {x:D want} {v:Value} (h:tt st want c=some x)
  (hc:bY cx.eT (aa O st loc w) c v):VR cx.eT want x O w v:=by
 cases c with
 | one c=>exact sJ g h hc
 | agg cs=>
  simp only [tt] at h
  obtain ⟨vs,rfl,hcs⟩:=hc
  split at h
  ·cases h
  ·rename_i ho
   split at h
   ·rename_i y hy
    cases h
    obtain ⟨us,vs',rfl,r,k⟩:=uP g hy hcs
    cases k
    unfold VR
    rw [if_neg (by simp [ho])]
    exact ⟨_,rfl,by simpa using r⟩
   ·cases h
theorem qB {O:ab} {st:St} {loc:Nat->Loc} {w:World} (g:Good cx.eT X (aa O st loc w)):∀{ts:List Ty} {vs:List aP} {ys:HL ts} {us:List Value},kA st ts vs=some ys->
  aZ cx.eT (aa O st loc w) vs us->cS cx.eT O w ts ys us
 | [],[],_,_,_, .nil=>rfl
 | [t],[a],ys,_,h, .cons h1 .nil=>⟨_,rfl,qA g h h1⟩
 | t :: u :: r,a :: yH,ys,_,h, .cons h1 h2=>by
  simp only [kA] at h
  split at h
  ·rename_i x xs k1 k2
   cases h
   exact ⟨_,_,rfl,qA g k1 h1,qB g k2 h2⟩
  ·cases h
 | [],_ :: _,_,_,h,_=>by simp [kA] at h
 | [_],[],_,_,h,_=>by simp [kA] at h
 | [_],_ :: _ :: _,_,_,h,_=>by simp [kA] at h
 | _ :: _ :: _,[],_,_,h,_=>by simp [kA] at h
theorem nr {eT:TypeId} {O:ab} {w:World} {S:aq} (hS:S.w=w) (hA:∀b o,¬ O b o->¬ S.A b o):∀(ts:List Ty) (k:Nat) (xs:HL ts) (vs:List Value),cS eT O w ts xs vs->
  ∀t sv,look (iu k ts xs) t=some sv->k<=t/\∃v,vs[t - k]?=some v/\aS eT S sv v
 | [],k,xs,vs,_,t,sv,h=>by simp [iu,look] at h
 | [ty],k,x,_,⟨v,rfl,hv⟩,t,sv,h=>by
  simp only [iu,aA] at h
  split at h
  ·cases h
   rename_i e;subst e
   exact ⟨Nat.le_refl _,v,by simp,VR.frame hv fun b o _ ha hc=>⟨by rw [hS];exact hc,hA b o ha⟩⟩
  ·simp [look] at h
 | ty :: u :: r,k,xs,_,⟨v,vs',rfl,hv,hr⟩,t,sv,h=>by
  simp only [iu,aA] at h
  split at h
  ·cases h
   rename_i e;subst e
   exact ⟨Nat.le_refl _,v,by simp,VR.frame hv fun b o _ ha hc=>⟨by rw [hS];exact hc,hA b o ha⟩⟩
  ·obtain ⟨h1,v',h2,h3⟩:=nr hS hA (u :: r) (k + 1) xs.2 vs' hr t sv h
   refine ⟨by omega,v',?_,h3⟩
   rw [show t - k=(t - (k + 1)) + 1 from by omega,List.getElem?_cons_succ]
   exact h2
theorem cS.length {eT:TypeId} {O:ab} {w:World}:∀{ts:List Ty} {xs:HL ts} {vs:List Value},cS eT O w ts xs vs->vs.length=ts.length
 | [],_,_,h=>by rw [show _ = [] from h];rfl
 | [_],_,_,⟨_,rfl,_⟩=>rfl
 | _ :: u :: r,_,_,⟨_,_,rfl,_,h⟩=>by simp [cS.length h]
def wf:(t:Ty)->D t->Prop
 | .int k,x=>k.min<=x/\x<=k.max
 | .str,x=>x.length<=au
 | .prod a b,x=>wf a x.1/\wf b x.2
 | .slice e,x=>x.length<=au/\∀(i:Nat) y,x[i]?=some y->wf e y
 | _,_=>True
def iv:(ts:List Ty)->HL ts->Prop
 | [],_=>True
 | [t],x=>wf t x
 | t :: u :: r,xs=>wf t xs.1/\iv (u :: r) xs.2
theorem R.wf {eT:TypeId}:∀{t:Ty} {x:D t} {A:ab} {w:World} {vs:List Value},R eT t x A w vs->Vg.wf t x:=by
 intro t
 induction t with
 | int k=>intro x A w vs h;exact h.2
 | str=>intro x A w vs h;exact h.2
 | prod a b iha ihb=>intro x A w vs h;obtain ⟨_,_,_,h1,h2⟩:=h;exact ⟨iha h1,ihb h2⟩
 | slice e ih=>
  intro x A w vs h
  obtain ⟨v,_,hl,h⟩:=h
  refine ⟨hl,fun i y hy => ?_⟩
  rcases h with ⟨rfl,_⟩ | ⟨b,o,cap,_,_,h⟩
  ·simp at hy
  ·obtain ⟨us,h1,_⟩:=h i y hy;exact ih h1
 | _=>intro x A w vs h;trivial
theorem VR.wf {eT:TypeId} {t:Ty} {x:D t} {A:ab} {w:World} {v:Value} (h:VR eT t x A w v):Vg.wf t x:=(VR.cells h).wf
theorem cS.wf {eT:TypeId} {O:ab} {w:World}:∀{ts:List Ty} {xs:HL ts} {vs:List Value},cS eT O w ts xs vs->iv ts xs
 | [],_,_,_=>trivial
 | [_],_,_,⟨_,_,h⟩=>h.wf
 | _ :: _ :: _,_,_,⟨_,_,_,h,h'⟩=>⟨h.wf,cS.wf h'⟩
theorem tu {B:Cx} {X:Ext} {Γ:List (FuncId × (Bool × b7))} {N:Nat} {f:FuncId} {fn:Func} {c:Code} (hok:ep P (jq B Γ N) X) (hf:P.funcs[f]?=some fn) (hb:fn.body=some c) (hn:(fn.name == "runtime.NumGoroutine")=false)
  (hN:fn.ntmps=N) {ts rts:List Ty} (anns:HL ts->da) (hts:ts.length<=N) {pre:HL ts->Prop} {post:HL ts->HL rts->Prop}
  (h:∀xs,iv ts xs->pre xs->(sF B Γ N (anns xs) fn.results.toList c ts rts post xs).holds) :
  bO P B.eT X f ts rts pre post:=by
 refine ⟨⟨fn,hf,by rw [hb];rfl,hn⟩,fun O w xs vs hG hO ha hp => ?_⟩
 have g0:Good (jq B Γ N).eT X (aa O (fy ts xs) (fun _=>default) w):=
  ⟨fun n oc h=>by simp [aa,fy,look] at h,fun n m oc oc' b h=>by simp [aa,fy,look] at h,fun n oc b off h=>by simp [aa,fy,look] at h,hG,fun b hb ⟨n,oc,h,_⟩=>by simp [aa,fy,look] at h⟩
 have hA0:∀b o,¬ O b o->¬ (aa O (fy ts xs) (fun _=>default) w).A b o:=by
  rintro b o h (k | ⟨n,oc,k,_⟩)
  ·exact h k
  ·simp [aa,fy,look] at k
 refine Calls.mono (rM hok hf hb hN.symm (anns xs) (by simpa [ha.length,hN] using hts) g0 hO ?_ (h xs ha.wf hp)) ?_
 ·intro t sv ht
  obtain ⟨_,v,h1,h2⟩:=nr (eT:=B.eT) (S:=aa O (fy ts xs) (fun _=>default) w) rfl hA0 ts 0 xs vs ha t sv ht
  exact ⟨v,by simpa using h1,h2⟩
 ·rintro e w' ⟨vs',us,st',loc',rfl,h1,h2,h3,h4⟩
  split at h1
  ·rename_i ys hys
   refine ⟨us,ys,rfl,h1,qB h3 hys h2,h4.os,h4.output,h4.size,fun k hk=>h4.block k hk ?_⟩
   rintro ⟨n,oc,k,_⟩
   simp [aa,fy,look] at k
  ·exact h1.elim
def cT:ab:=fun _ _=>False
def outer (lend:Bool) (A:ab):ab:=match lend with
 | true=>cT
 | false=>A
theorem qC {O:ab} {st:St} {loc:Nat->Loc} {w:World} (g:Good cx.eT X (aa O st loc w)) {lend:Bool} {t:Ty} {a:aP} {x:D t} {v:Value} (h:tq lend st t a=some x)
  (ha:bY cx.eT (aa O st loc w) a v):VR cx.eT t x (outer lend (aa O st loc w).A) w v:=by
 have base:ga t a=some x->VR cx.eT t x (outer lend (aa O st loc w).A) w v:=by
  intro h
  refine VR.tj (di h ha) fun b o k => ?_
  cases lend with
  | true=>exact id
  | false=>exact k
 unfold tq at h
 split at h
 ·rename_i e n x' heq
  unfold jS at h
  simp only [nN] at h
  split at h
  ·rename_i e' ys hob
   split at h
   ·cases h;rename_i hb
    exact cQ hb _ (VR.tj (sG g hob ha) fun _ _ _=>id)
   ·cases h
  ·cases h
 ·exact VR.tj (oP g h ha) fun _ _ _=>id
 ·exact base h
theorem oQ {O:ab} {st:St} {loc:Nat->Loc} {w:World} (g:Good cx.eT X (aa O st loc w)) {lend:Bool}:∀{ts:List Ty} {yH:List aP} {xs:HL ts} {vs:List Value},ef lend st ts yH=some xs->
  aZ cx.eT (aa O st loc w) yH vs->cS cx.eT (outer lend (aa O st loc w).A) w ts xs vs
 | [],[],_,_,_, .nil=>rfl
 | [t],[a],xs,_,h, .cons h1 .nil=>⟨_,rfl,qC g h h1⟩
 | t :: u :: r,a :: yH,xs,_,h, .cons h1 h2=>by
  simp only [ef] at h
  split at h
  ·rename_i x xs k1 k2
   cases h
   exact ⟨_,_,rfl,qC g k1 h1,oQ g k2 h2⟩
  ·cases h
 | [],_ :: _,_,_,h,_=>by simp [ef] at h
 | [_],[],_,_,h,_=>by simp [ef] at h
 | [_],_ :: _ :: _,_,_,h,_=>by simp [ef] at h
 | _ :: _ :: _,[],_,_,h,_=>by simp [ef] at h
theorem lr {eT:TypeId} {S:aq} {O:ab} {w:World} (hS:S.w=w):∀{ts:List Ty} {ys:HL ts} {us:List Value},(cD ts=true\/O=S.A)->cS eT O w ts ys us->aZ eT S (fh ts ys) us
 | [],_,_,_,h=>by rw [show _ = [] from h];exact .nil
 | [t],y,_,hl,⟨v,rfl,hv⟩=>by
  refine .cons ?_ .nil
  subst hS
  rcases hl with hl | hl
  ·simp only [cD,Bool.and_true] at hl
   exact VR.of_flat hl hv
  ·subst hl;exact hv
 | t :: u :: r,ys,_,hl,⟨v,vs',rfl,hv,hr⟩=>by
  refine .cons ?_ (lr hS ?_ hr)
  ·subst hS
   rcases hl with hl | hl
   ·simp only [cD,Bool.and_eq_true] at hl
    exact VR.of_flat hl.1 hv
   ·subst hl;exact hv
  ·rcases hl with hl | hl
   ·simp only [cD,Bool.and_eq_true] at hl ⊢;exact .inl hl.2
   ·exact .inr hl
theorem x8 {O:ab} {st:St} {loc:Nat->Loc} {w:World} {eT:TypeId} (g:Good eT X (aa O st loc w)) (hO:bu O w):bu (aa O st loc w).A w:=by
 rintro b off (h | ⟨n,oc,h1,h2,_⟩)
 ·exact hO b off h
 ·exact (g.obj n oc h1).2.inside b h2
theorem oR {eT:TypeId} {f:FuncId} {ts rts:List Ty} {pre:HL ts->Prop} {post:HL ts->HL rts->Prop} (h:bO P eT X f ts rts pre post)
  {O:ab} {st:St} {loc:Nat->Loc} {w:World} {args:List aP} {vs:List Value} {xs:HL ts} (hx:ef (cD rts) st ts args=some xs) (hp:pre xs)
  {K:SV->St->VC} (hK:∀ys,post xs ys->(K (kV (fh rts ys)) st).holds)
  (g:Good eT X (aa O st loc w)) (hO:bu O w) (ha:aZ eT (aa O st loc w) args vs) :
  Calls P f vs.toArray w fun e w'=>∃v sv st' loc',e = .returned v/\(K sv st').holds/\st'.env=st.env/\(true=true->Below w.heap.size w w')/\Good eT X (aa O st' loc' w')/\
   Tr (aa O st loc w) (aa O st' loc' w')/\aS eT (aa O st' loc' w') sv v:=by
 have g':Good (Cx.mk eT [] [] [] 0 [] [] [] false [] []).eT X (aa O st loc w):=g
 have hOut:bu (outer (cD rts) (aa O st loc w).A) w:=by
  intro b off hb
  cases hf:cD rts with
  | true=>rw [hf] at hb;exact hb.elim
  | false=>rw [hf] at hb;exact x8 g hO b off hb
 refine Calls.mono (h.ok _ w xs vs g.fL.1 hOut (oQ g' hx ha) hp) ?_
 rintro e w' ⟨us,ys,rfl,h1,h2,h3⟩
 obtain ⟨t,g2⟩:=iM (S':=aa O st loc w') g rfl rfl rfl rfl h3
 refine ⟨_,_,st,loc,rfl,hK ys h1,rfl,fun _=>h3,g2,t,uN (lr rfl ?_ h2)⟩
 cases hf:cD rts with
 | true=>exact .inl rfl
 | false=>exact .inr (by simp only [outer];funext b off;simp [aq.A,aa])
theorem nt {O:ab} {st:St} {loc:Nat->Loc} {w:World} (g:Good cx.eT X (aa O st loc w)) (c:C) :
  Tr (aa O st loc w) (aa O (kz st c).2 loc w)/\Good cx.eT X (aa O (kz st c).2 loc w)/\(kz st c).2.env=st.env/\
   ∀v,CR cx.eT (aa O st loc w) c v->CR cx.eT (aa O (kz st c).2 loc w) (kz st c).1 v:=by
 unfold kz
 split
 ·rename_i n
  split
  ·rename_i t xs hob
   obtain ⟨h1,h2⟩:=gz g n
   exact ⟨h1,h2,rfl,fun v hv=>rC g hob hv⟩
  ·exact ⟨Tr.refl _,g,rfl,fun v hv=>hv⟩
 ·rename_i n
  split
  ·rename_i t xs hob
   obtain ⟨h1,h2⟩:=gz g n
   refine ⟨h1,h2,rfl,fun v hv=>sH g hob hv fun b hb o => ?_⟩
   rintro (hA' | ⟨m,oc,k1,k2,k3⟩)
   ·exact g.out n _ b o hob hb hA'
   ·simp only [aa,ar] at k1 k2
    rw [e7] at k1
    split at k1
    ·cases k1
    ·rename_i h8;exact h8 (g.apart n m _ _ b hob k1 hb k2)
  ·exact ⟨Tr.refl _,g,rfl,fun v hv=>hv⟩
 ·exact ⟨Tr.refl _,g,rfl,fun v hv=>hv⟩
theorem lu {O:ab} {loc:Nat->Loc} {w:World}:∀(cs:List C) {st:St},Good cx.eT X (aa O st loc w)->
  Tr (aa O st loc w) (aa O (jn st cs).2 loc w)/\Good cx.eT X (aa O (jn st cs).2 loc w)/\(jn st cs).2.env=st.env/\
   ∀vs,aU cx.eT (aa O st loc w) cs vs->aU cx.eT (aa O (jn st cs).2 loc w) (jn st cs).1 vs
 | [],st,g=>⟨Tr.refl _,g,rfl,fun vs h=>h⟩
 | c :: cs,st,g=>by
  obtain ⟨t1,g1,e1,k1⟩:=nt g c
  obtain ⟨t2,g2,e2,k2⟩:=lu cs g1
  refine ⟨t1.trans t2,g2,e2.trans e1,fun vs h => ?_⟩
  cases h with
  | cons h1 h2 h3=>exact .cons ((k1 _ h1).tr t2) h2 (k2 _ (h3.tr t1))
theorem nu {O:ab} {st:St} {loc:Nat->Loc} {w:World} (g:Good cx.eT X (aa O st loc w)) (x:aP) :
  Tr (aa O st loc w) (aa O (n5 st x).2 loc w)/\Good cx.eT X (aa O (n5 st x).2 loc w)/\(n5 st x).2.env=st.env/\
   ∀v,bY cx.eT (aa O st loc w) x v->bY cx.eT (aa O (n5 st x).2 loc w) (n5 st x).1 v:=by
 cases x with
 | one c=>exact nt g c
 | agg cs=>
  obtain ⟨t1,g1,e1,k1⟩:=lu cs g
  exact ⟨t1,g1,e1,fun v ⟨vs,h1,h2⟩=>⟨vs,h1,k1 _ h2⟩⟩
theorem tw {O:ab} {st:St} {loc:Nat->Loc} {w:World} (g:Good cx.eT X (aa O st loc w)) (lend:Bool) (x:aP) :
  Tr (aa O st loc w) (aa O (n7 lend st x).2 loc w)/\Good cx.eT X (aa O (n7 lend st x).2 loc w)/\(n7 lend st x).2.env=st.env/\
   ∀v,bY cx.eT (aa O st loc w) x v->bY cx.eT (aa O (n7 lend st x).2 loc w) (n7 lend st x).1 v:=by
 cases lend with
 | false=>cases x <;> exact nu g _
 | true=>
  cases x with
  | one c=>exact ⟨Tr.refl _,g,rfl,fun v hv=>hv⟩
  | agg cs=>exact nu g _
theorem nv {O:ab} {loc:Nat->Loc} {w:World} (lend:Bool):∀(xs:List aP) {st:St},Good cx.eT X (aa O st loc w)->
  Tr (aa O st loc w) (aa O (gZ lend st xs).2 loc w)/\Good cx.eT X (aa O (gZ lend st xs).2 loc w)/\(gZ lend st xs).2.env=st.env/\
   ∀vs,aZ cx.eT (aa O st loc w) xs vs->aZ cx.eT (aa O (gZ lend st xs).2 loc w) (gZ lend st xs).1 vs
 | [],st,g=>⟨Tr.refl _,g,rfl,fun vs h=>h⟩
 | x :: xs,st,g=>by
  obtain ⟨t1,g1,e1,k1⟩:=tw g lend x
  obtain ⟨t2,g2,e2,k2⟩:=nv lend xs g1
  refine ⟨t1.trans t2,g2,e2.trans e1,fun vs h => ?_⟩
  cases h with
  | cons h1 h3=>exact .cons ((k1 _ h1).tr t2) (k2 _ (h3.tr t1))
theorem oS {eT:TypeId} {f:FuncId} {q:Bool} {sp:b7} {lend:Bool}
  (h:∀O st loc w args vs K,(sp args st K).holds->Good eT X (aa O st loc w)->bu O w->aZ eT (aa O st loc w) args vs->
   Calls P f vs.toArray w fun e w'=>∃v sv st' loc',e = .returned v/\(K sv st').holds/\st'.env=st.env/\(q=true->Below w.heap.size w w')/\Good eT X (aa O st' loc' w')/\
    Tr (aa O st loc w) (aa O st' loc' w')/\aS eT (aa O st' loc' w') sv v)
  (O:ab) (st:St) (loc:Nat->Loc) (w:World) (args:List aP) (vs:List Value) (K:SV->St->VC) (hs:(sp (gZ lend st args).1 (gZ lend st args).2 K).holds)
  (g:Good eT X (aa O st loc w)) (hO:bu O w) (ha:aZ eT (aa O st loc w) args vs) :
  Calls P f vs.toArray w fun e w'=>∃v sv st' loc',e = .returned v/\(K sv st').holds/\st'.env=st.env/\(q=true->Below w.heap.size w w')/\Good eT X (aa O st' loc' w')/\
   Tr (aa O st loc w) (aa O st' loc' w')/\aS eT (aa O st' loc' w') sv v:=by
 have g':Good (Cx.mk eT [] [] [] 0 [] [] [] false [] []).eT X (aa O st loc w):=g
 obtain ⟨t1,g1,e1,k1⟩:=nv lend args g'
 refine Calls.mono (h O _ loc w _ vs K hs g1 hO (k1 _ ha)) ?_
 rintro e w' ⟨v,sv,st',loc',h1,h2,h3,h4,h5,h6,h7⟩
 exact ⟨v,sv,st',loc',h1,h2,h3.trans e1,h4,h5,t1.trans h6,h7⟩
theorem iw {eT:TypeId} {f:FuncId} {ts rts:List Ty} {pre:HL ts->Prop} {post:HL ts->HL rts->Prop} (h:bO P eT X f ts rts pre post) :
  kd P eT X f true (ml ts rts pre post):=by
 refine ⟨h.fn,oS (lend:=cD rts) (sp:=fun args st K=>match ef (cD rts) st ts args with
  | some xs => .and (pre xs) (.all (HL rts) fun ys => .imp (post xs ys) (K (kV (fh rts ys)) st))
  | none => .ff) fun O st loc w args vs K hs g hO ha => ?_⟩
 split at hs
 ·rename_i xs hx
  exact oR h hx hs.1 (fun ys hy=>hs.2 ys hy) g hO ha
 ·exact hs.elim
theorem aC {eT:TypeId} {f:FuncId} {ts rts:List Ty} {pre:HL ts->Prop} {g:HL ts->HL rts} (h:bO P eT X f ts rts pre (fun xs ys=>ys=g xs)) :
  kd P eT X f true (bC ts rts pre g):=by
 refine ⟨h.fn,oS (lend:=cD rts) (sp:=fun args st K=>match ef (cD rts) st ts args with
  | some xs => .and (pre xs) (K (kV (fh rts (g xs))) st)
  | none => .ff) fun O st loc w args vs K hs hg hO ha => ?_⟩
 split at hs
 ·rename_i xs hx
  exact oR h hx hs.1 (fun ys hy=>by rw [hy];exact hs.2) hg hO ha
 ·exact hs.elim
theorem w8 {B:Cx} {N:Nat} (h:TyOK P B):ep P (jq B [] N) X:=
 {fit:=h.fit,fo:=h.fo,dk:=h.dk,mixed:=h.mixed,arr:=h.arr,lS:=h.lS,eqs:=h.eqs,eY:=h.eY,gf:=h.gf,jB:=h.jB,calls:=fun f q sp hl=>by simp [jq,look] at hl}
theorem v8 {B:Cx} {Γ:List (FuncId × (Bool × b7))} {N:Nat} {f:FuncId} {q:Bool} {sp:b7} (h:kd P B.eT X f q sp) (hΓ:ep P (jq B Γ N) X):ep P (jq B ((f,q,sp) :: Γ) N) X:=
 {fit:=hΓ.fit,fo:=hΓ.fo,dk:=hΓ.dk,mixed:=hΓ.mixed,arr:=hΓ.arr,lS:=hΓ.lS,eqs:=hΓ.eqs,eY:=hΓ.eY,gf:=hΓ.gf,jB:=hΓ.jB,calls:=fun f' q' sp' hl=>by
   simp only [jq,aA] at hl
   split at hl
   ·rename_i e;subst e;cases hl;exact h
   ·exact hΓ.calls f' q' sp' hl}
end
end Go.Vg

namespace Go.Vg
open Go.RowKit
def Ty.plain:Ty->Bool
 | .err | .cd=>false
 | .prod a b=>a.plain && b.plain
 | .slice e=>e.plain
 | _=>true
def Ty.low:Ty->Bool
 | .slice e=>Nat.blt 0 e.size && e.low
 | .prod a b=>a.low && b.low
 | _=>true
section
variable {H:Type} {enc:TypeId × Value->H} {P:Program} {w:World} {base:Nat} {sp:Nat->Bool} {held:Bool} {eT:TypeId}
theorem Fit.cellsOf {t:TypeId} {ty:Ty} {i:TypeInfo} {d:TypeDesc} (h:Fit P t ty i d):P.cellsOf t=ty.size:=by
 unfold Program.cellsOf;rw [h.info];exact h.size
theorem rN {f:TypeId->Ty->Bool} {cs:List Value} {fuel:Nat}
  (ih:∀t ty,f t ty=true->P.cellsOf t=ty.size/\∀us d ps,ty.plain=true->ty.low=true->DataW.trod enc P w base sp held fuel t us=some (d,ps)->∃x,R eT ty x cT w us) :
  ∀(gs:List Field) (off:Nat) (ty:Ty) (xs:List (DataW H × List MemPlace)),aM f gs off ty=true->ty.plain=true->ty.low=true->
   gs.mapM (fun f=>DataW.trod enc P w base sp held fuel f.type ((cs.drop f.offset).take (P.cellsOf f.type)))=some xs->cs.length=off + ty.size->∃x,R eT ty x cT w (cs.drop off):=by
 intro gs
 induction gs with
 | nil=>
  intro off ty xs h hp hs hm hl
  cases ty <;> simp [aM] at h
  refine ⟨(),?_⟩
  show cs.drop off = []
  exact List.drop_eq_nil_of_le (by simp [Ty.size] at hl;omega)
 | cons g gs ihg=>
  intro off ty xs h hp hs hm hl
  cases ty <;> simp [aM] at h
  rename_i a b
  obtain ⟨⟨⟨h1,h2⟩,h3⟩,h4⟩:=h
  simp only [Ty.plain,Bool.and_eq_true] at hp
  simp only [Ty.size] at hl
  rw [List.mapM_cons] at hm
  obtain ⟨k1,k2⟩:=ih _ _ h2
  subst h1
  rw [k1] at hm
  cases hx:DataW.trod enc P w base sp held fuel g.type ((cs.drop g.offset).take a.size) with
  | none=>simp [hx] at hm
  | some y=>
   cases hxs:gs.mapM (fun f=>DataW.trod enc P w base sp held fuel f.type ((cs.drop f.offset).take (P.cellsOf f.type))) with
   | none=>simp [hx,hxs] at hm
   | some ys=>
    simp only [Ty.low,Bool.and_eq_true] at hs
    obtain ⟨x,rx⟩:=k2 _ y.1 y.2 hp.1 hs.1 hx
    obtain ⟨z,rz⟩:=ihg _ _ _ h4 hp.2 hs.2 hxs (by omega)
    refine ⟨(x,z),_,_,?_,rx,rz⟩
    rw [<-List.drop_drop,List.take_append_drop]
theorem tx:∀(n:Nat) (t:TypeId) (ty:Ty),fits P n t ty=true->P.cellsOf t=ty.size/\∀fuel us d ps,ty.plain=true->ty.low=true->
  DataW.trod enc P w base sp held fuel t us=some (d,ps)->∃x,R eT ty x cT w us:=by
 intro n
 induction n with
 | zero=>intro t ty h;simp [fits] at h
 | succ n ih=>
  intro t ty h
  obtain ⟨m,i,dsc,hm,fit,hsh⟩:=cP h
  cases hm
  refine ⟨fit.cellsOf,fun fuel us d ps hp hs hd => ?_⟩
  cases fuel with
  | zero=>simp [DataW.trod] at hd
  | succ fuel=>
   unfold DataW.trod at hd
   rw [fit.bW] at hd
   cases ty with
   | bool=>
    cases dsc <;> simp [az] at hsh
    split at hd
    case h_1 _ _ b _=>exact ⟨b,rfl⟩
    all_goals simp_all
   | int k=>
    cases dsc <;> simp [az] at hsh
    subst hsh
    split at hd
    case h_2 _ _ k1 k2 x h0=>
     cases h0
     split at hd
     ·rename_i h1
      obtain ⟨rfl,h1⟩:=h1
      simp only [Lit.wf,Bool.and_eq_true,decide_eq_true_eq] at h1
      exact ⟨x,rfl,h1⟩
     ·cases hd
    all_goals simp_all
   | str=>
    cases dsc <;> simp [az] at hsh
    split at hd
    case h_4 _ _ s _=>
     split at hd
     ·rename_i h1
      refine ⟨s.data.toList,?_,?_⟩
      ·rw [Array.toArray_toList]
      ·unfold maxLen at h1
       unfold au
       rw [Array.length_toList]
       exact h1
     ·cases hd
    all_goals simp_all
   | err=>simp [Ty.plain] at hp
   | cd=>simp [Ty.plain] at hp
   | unit=>
    cases dsc <;> simp [az] at hsh
    rename_i fs
    simp only at hd
    split at hd
    ·rename_i hl
     rw [fit.cellsOf] at hl
     refine ⟨(),?_⟩
     exact List.length_eq_zero_iff.1 hl
    ·cases hd
   | prod a b=>
    cases dsc <;> simp [az] at hsh
    rename_i fs
    simp only at hd
    split at hd
    ·rename_i hl
     rw [fit.cellsOf] at hl
     cases hxs:fs.toList.mapM (fun f=>DataW.trod enc P w base sp held fuel f.type ((us.drop f.offset).take (P.cellsOf f.type))) with
     | none=>rw [hxs] at hd;simp at hd
     | some xs=>
      obtain ⟨x,hx⟩:=rN (fun t ty hf=>⟨(ih t ty hf).1,(ih t ty hf).2 fuel⟩) _ _ _ _ hsh hp hs hxs (by omega)
      exact ⟨x,by simpa using hx⟩
    ·cases hd
   | slice e=>
    cases dsc <;> simp [az] at hsh
    rename_i te
    simp only [Ty.low,Bool.and_eq_true] at hs
    have hpos:=eH hs.1
    obtain ⟨hce,hel⟩:=ih te e hsh
    split at hd
    case h_7=>exact ⟨[],_,rfl,by simp [au], .inl ⟨rfl,_,_,rfl⟩⟩
    case h_8 _ _ te' b l c h0=>
     cases h0
     simp only at hd
     split at hd
     case isFalse=>cases hd
     rename_i hcond
     obtain ⟨hb,hlc,hcm⟩:=hcond
     obtain ⟨es,hes,_⟩:=Option.bind_eq_some_iff.1 hd
     rw [hce] at hes
     have hlen:=mapM_some_length hes
     simp only [List.length_range] at hlen
     by_cases hl0:l=0
     ·subst hl0
      exact ⟨[],_,rfl,by simp [au], .inl ⟨rfl,_,_,rfl⟩⟩
     have hspot:b.spot=none:=by
      have h1:=mapM_some_get hes 0 0 (by rw [List.getElem?_range (by omega)])
      rw [List.getElem?_eq_getElem (by omega)] at h1
      obtain ⟨us,hu,hd1⟩:=Option.bind_eq_some_iff.1 h1
      obtain ⟨_,q1,q2⟩:=World.cells?_some hu
      have q3:=q2 0 hpos
      rw [List.getElem?_eq_getElem (by omega)] at q3
      have e0:(b.add (0 * e.size)).add 0=b:=by simp [Addr.add]
      rw [e0] at q3
      unfold World.cell? at q3
      split at q3
      ·cases hb0:b.spot with
       | none=>rfl
       | some k=>rw [hb0] at q3;simp at q3
      ·cases q3
     obtain ⟨bb,oo,so⟩:=b
     simp only at hspot
     subst hspot
     have hget:∀i,i < l->∃x us,R eT e x cT w us/\Row cT w bb (oo + i * e.size) us:=by
      intro i hi
      have h1:=mapM_some_get hes i i (by simp [hi])
      rw [List.getElem?_eq_getElem (by omega)] at h1
      obtain ⟨us,hu,hd1⟩:=Option.bind_eq_some_iff.1 h1
      obtain ⟨_,q1,q2⟩:=World.cells?_some hu
      obtain ⟨x,hx⟩:=hel fuel us (es[i]'(by omega)).1 (es[i]'(by omega)).2 hp hs.2 hd1
      refine ⟨x,us,hx,fun j u hj=>⟨?_,id⟩⟩
      have hjl:j < us.length:=by
       rcases Nat.lt_or_ge j us.length with h | h
       ·exact h
       ·rw [List.getElem?_eq_none h] at hj;cases hj
      have:=q2 j (by omega)
      rw [Addr.add_lit,Addr.add_lit] at this
      rw [this,hj]
     let xs:List (D e):=(List.range l).map fun i=>if h:i < l then (hget i h).choose else a7 e
     have hxl:xs.length=l:=by simp [xs]
     have hxi:∀i y,xs[i]?=some y->∃us,R eT e y cT w us/\Row cT w bb (oo + i * e.size) us:=by
      intro i y hy
      have hi:i < l:=by
       rcases Nat.lt_or_ge i l with h | h
       ·exact h
       ·rw [List.getElem?_eq_none (by omega)] at hy;cases hy
      have:xs[i]?=some (hget i hi).choose:=by simp [xs,hi]
      rw [this] at hy
      cases hy
      exact (hget i hi).choose_spec
     refine ⟨xs,_,rfl,?_, .inr ⟨bb,oo,c,?_,?_,hxi⟩⟩
     ·rw [hxl];unfold maxLen at hcm;unfold au;omega
     ·rw [hxl]
     ·rw [hxl];exact hlc
    all_goals simp_all
theorem wa {n:Nat} {t:TypeId} {ty:Ty} (hf:fits P n t ty=true) (hp:ty.plain=true) (hlow:ty.low=true) {r:Reach} {b:Nat} {v:Value} (hval:Value.okWide P w r b t v) {d:DataW H} {ps:List MemPlace}
  (hd:DataW.Trod enc P w base sp held t v d ps):∃x,VR eT ty x cT w v:=by
 obtain ⟨m,i,dsc,hm,fit,hsh⟩:=cP hf
 obtain ⟨fuel,hd⟩:=hd
 have key:∃x,R eT ty x cT w v.cells.toList:=(tx (eT:=eT) n t ty hf).2 fuel _ _ _ hp hlow hd
 unfold Value.okWide at hval
 rw [fit.bW] at hval
 have one:ty.one=true->Cell.okWide P w r b t v->(v.cells.toList = [v])->∃x,VR eT ty x cT w v:=by
  intro h1 h2 h3
  rw [h3] at key
  obtain ⟨x,hx⟩:=key
  exact ⟨x,VR.aD h1 hx⟩
 have agg:ty.one=false->(∃cs,v = .agg cs/\cs.size=P.cellsOf t/\Row.okWide P w r b t cs)->∃x,VR eT ty x cT w v:=by
  rintro h1 ⟨cs,rfl,_,ts,_,_,h2⟩
  obtain ⟨x,hx⟩:=key
  refine ⟨x,?_⟩
  unfold VR
  rw [if_neg (by simp [h1])]
  exact ⟨cs,rfl,hx⟩
 cases ty with
 | err=>simp [Ty.plain] at hp
 | cd=>simp [Ty.plain] at hp
 | prod a b=>cases dsc <;> simp [az] at hsh;exact agg rfl hval
 | unit=>cases dsc <;> simp [az] at hsh;exact agg rfl hval
 | bool=>
  cases dsc <;> simp [az] at hsh
  refine one rfl hval ?_
  cases v <;> simp [Cell.okWide,Cell.ok,fit.bW,Value.cells] at hval ⊢
 | int k=>
  cases dsc <;> simp [az] at hsh
  refine one rfl hval ?_
  cases v <;> simp [Cell.okWide,Cell.ok,fit.bW,Value.cells] at hval ⊢
 | str=>
  cases dsc <;> simp [az] at hsh
  refine one rfl hval ?_
  cases v <;> simp [Cell.okWide,Cell.ok,fit.bW,Value.cells] at hval ⊢
 | slice e=>
  cases dsc <;> simp [az] at hsh
  refine one rfl hval ?_
  cases v <;> simp [Cell.okWide,Cell.ok,fit.bW,Value.cells] at hval ⊢
def iy (P:Program) (n:Nat):List TypeId->List Ty->Bool
 | [],[]=>true
 | t :: ts,ty :: tys=>fits P n t ty && ty.plain && ty.low && iy P n ts tys
 | _,_=>false
theorem uQ {n:Nat} {r:Reach} {b:Nat}:∀(ts:List TypeId) (tys:List Ty) (vs:List Value) (ds:List (DataW H)) (ps:List MemPlace),iy P n ts tys=true->
  (∀(j:Nat) t v,ts[j]?=some t->vs[j]?=some v->Value.okWide P w r b t v)->DataW.TrodAll enc P w base sp held ts vs ds ps->∃xs,cS eT cT w tys xs vs:=by
 intro ts
 induction ts with
 | nil=>
  intro tys vs ds ps hf hv h
  cases tys <;> simp [iy] at hf
  cases vs <;> cases ds <;> simp [DataW.TrodAll] at h
  exact ⟨(),rfl⟩
 | cons t ts ih=>
  intro tys vs ds ps hf hv h
  cases tys <;> simp [iy] at hf
  rename_i ty tys
  obtain ⟨⟨⟨h1,h2⟩,h3⟩,h4⟩:=hf
  cases vs <;> cases ds <;> simp [DataW.TrodAll] at h
  rename_i v vs d ds
  obtain ⟨p,hp,q,hq,_⟩:=h
  obtain ⟨x,hx⟩:=wa (eT:=eT) h1 h2 h3 (hv 0 t v rfl rfl) hp
  obtain ⟨xs,hxs⟩:=ih tys vs ds q h4 (fun j t' v' h1 h2=>hv (j + 1) t' v' h1 h2) hq
  cases tys with
  | nil=>exact ⟨x,v,by rw [show vs = [] from hxs],hx⟩
  | cons ty' tys=>exact ⟨(x,xs),v,vs,rfl,hx,hxs⟩
theorem tz (hl:laidOutB P=true) {W W':World} (hb:Below W.heap.size W W'):∀(ts:List TypeId) (vs:List Value) (ds:List (DataW H)) (ps:List MemPlace),(ts.all fun t=>P.readableRec t && Nat.blt t P.types.size)=true->
  DataW.TrodAll enc P W 0 (fun _=>true) true ts vs ds ps->(∀x∈ps,x.block < W.heap.size)->DataW.TrodAll enc P W' 0 (fun b=>decide (b < W.heap.size)) true ts vs ds ps:=by
 intro ts
 induction ts with
 | nil=>intro vs ds ps _ h _;cases vs <;> cases ds <;> simp [DataW.TrodAll] at h ⊢;exact h
 | cons t ts ih=>
  intro vs ds ps hr h hlt
  simp only [List.all_cons,Bool.and_eq_true] at hr
  cases vs <;> cases ds <;> simp only [DataW.TrodAll] at h ⊢
  rename_i v vs d ds
  obtain ⟨p,q,hp,hq,rfl⟩:=h
  exact ⟨p,q,WideElems.Trod_stays hl hr.1.1 (eH hr.1.2) hp (fun x hx=>hb.same (hlt x (by simp [hx]))) (fun x hx=>by simpa using hlt x (by simp [hx])),ih vs ds q hr.2 hq (fun x hx=>hlt x (by simp [hx])),rfl⟩
theorem qD:∀{ts:List TypeId} {vs:List Value} {ds:List (DataW H)} {ps:List MemPlace},DataW.TrodAll enc P w base sp held ts vs ds ps->vs.length=ts.length/\ds.length=ts.length
 | [],[],[],_,_=>⟨rfl,rfl⟩
 | _ :: _,_ :: _,_ :: _,_,⟨_,_,_,h,_⟩=>by simp [qD h]
theorem uR {X:Ext} {C:Checked} {f:FuncId} {fn:Func} {s:ChangeSpec} {tys:List Ty} {pre:HL tys->Prop} (hs:s.vars = []) (hl:laidOutB C.prog=true)
  (hsp:∀ds:List (DataW H),ds.length=tys.length->s.fn H ds = {results:=[.lit (.bool true)],args:=ds})
  {n:Nat} (hf:iy C.prog n fn.params.toList tys=true) (hr:(fn.params.toList.all fun t=>C.prog.readableRec t && Nat.blt t C.prog.types.size)=true)
  {tb:TypeId} (hres:fn.resultTypes = #[tb]) (hb:C.prog.underlying tb=some .bool)
  (h:bO C.prog eT X f tys [.bool] pre (fun _ y=>y=true))
  {W:World} {base:Nat} {args:Array Value} {ds gs:List (DataW H)} {before:List MemPlace}
  (hval:∀(j:Nat) t v,fn.params[j]?=some t->args[j]?=some v->Value.okWide C.prog W .any base t v)
  (hW:DataW.Whole enc C.prog fn.params.toList s.vars false W args.toList ds gs before)
  (hG:X.jK W) (hpre:∀xs,cS eT cT W tys xs args.toList->pre xs) :
  Calls C.prog f args W fun e W'=>∃v,e = .returned v/\s.post enc C.prog fn false true false false W args v W':=by
 have hW0:=hW
 obtain ⟨p,q,hA,hV,rfl,_,_⟩:=hW
 rw [hs] at hV
 obtain ⟨rfl,rfl⟩:gs = []/\q = []:=by cases gs <;> simp [DataW.TrodVars] at hV;exact ⟨rfl,hV⟩
 obtain ⟨xs,hxs⟩:=uQ (eT:=eT) _ _ _ _ _ hf (fun j t v h1 h2=>hval j t v (by rw [<-Array.getElem?_toList];exact h1) (by rw [<-Array.getElem?_toList];exact h2)) hA
 have:=h.ok cT W xs args.toList hG (fun _ _ h=>h.elim) hxs (hpre xs hxs)
 rw [Array.toArray_toList] at this
 refine this.mono ?_
 rintro e W' ⟨us,ys,rfl,rfl,hr',hbel⟩
 obtain ⟨u,rfl,hu⟩:=hr'
 have hu:u = .bool true:=by
  have:=VR.one rfl hu
  simpa [R] using this
 subst hu
 have hlen:ds.length=tys.length:=by
  have h1:=hxs.length
  have h2:=qD hA
  omega
 simp only [List.append_nil] at hW0 ⊢
 have hlt:∀x∈p,x.block < W.heap.size:=hW0.lt
 refine ⟨_,rfl,ds,[],p,[],p,[],hW0,?_,?_,?_,hbel.frame _,fun hh=>by cases hh⟩
 ·rw [List.append_nil,hsp ds hlen,hres]
  exact ⟨[],[],shut_bool hb true,rfl,rfl⟩
 ·rw [List.append_nil,hsp ds hlen]
  exact tz hl hbel _ _ _ _ hr hA hlt
 ·rw [List.append_nil,hsp ds hlen,hs]
  rfl
end
end Go.Vg

namespace Go.Vg
open Go.RowKit
theorem holds_of {v:VC} {p:Prop} (e:v.holds=p) (h:p):v.holds:=by rw [e];exact h
section
variable {A B:Prop}
theorem iD {p:Prop} [Decidable p] (f:p->A) (g:¬ p->B):(decide p=true->A)/\(decide p=false->B):=⟨fun h=>f (of_decide_eq_true h),fun h=>g (of_decide_eq_false h)⟩
theorem iL {a b:Int} (f:a < b->A) (g:b<=a->B):(decide (a < b)=true->A)/\(decide (a < b)=false->B):=iD f fun h=>g (Int.not_lt.1 h)
theorem iE {a b:Int} (f:a<=b->A) (g:b < a->B):(decide (a<=b)=true->A)/\(decide (a<=b)=false->B):=iD f fun h=>g (Int.not_le.1 h)
theorem iB {b:Bool} (f:b=false->A) (g:b=true->B):((!b)=true->A)/\((!b)=false->B):=⟨fun h=>f (Bool.not_eq_true' b▸h),fun h=>g (Bool.not_eq_false' b▸h)⟩
theorem iQ {α:Type} [BEq α] [LawfulBEq α] {a b:α} (f:a=b->A) (g:¬ a=b->B):((a == b)=true->A)/\((a == b)=false->B):=⟨fun h=>f (eq_of_beq h),fun h=>g fun e=>by rw [e,beq_self_eq_true] at h;cases h⟩
theorem iN {α:Type} [BEq α] [LawfulBEq α] {a b:α} (f:¬ a=b->A) (g:a=b->B):((a != b)=true->A)/\((a != b)=false->B):=
 ⟨fun h=>f fun e=>(by rw [e,bne_self_eq_false] at h;cases h),fun h=>g (by simpa using h)⟩
end
def x9:Ext where
 rel k t x l w:=match k with
  | 0=>cG t x l w
  | 1=>gR t x l w
  | 2=>iK t x l w
  | _=>False
 inside {k t x l w} h:=by
  match k,h with
  | 0,h=>exact cG.inside h
  | 1,h=>exact gR.inside h
  | 2,h=>exact iK.inside h
 ptr {k t x l w} hk h:=by
  match k,hk,h with
  | 0,hk,_=>omega
  | 1,hk,_=>omega
  | 2,_,h=>obtain ⟨rfl,b,p,v,h⟩:=h;exact ⟨_,h.lv⟩
 deep:=Iff.rfl
 map:=Iff.rfl
 yi:=Iff.rfl
 frame {k t x l w w'} h hb:=by
  match k,h with
  | 0,h=>exact cG.frame h hb
  | 1,h=>exact gR.frame h hb
  | 2,h=>exact iK.frame h hb
 jK _:=True
 r8:=[]
 wA _ _ hb:=by cases hb
 pK _ _:=trivial
def codeOf (fn:Func):Code:=fn.body.getD .skip
def fz (B:Cx) (Γ:List (FuncId × (Bool × b7))) (fn:Func) (anns:da) (ts rts:List Ty) (post:HL ts->HL rts->Prop) (xs:HL ts):VC:=
 sF B Γ fn.ntmps anns fn.results.toList (codeOf fn) ts rts post xs
def uS (fn:Func) (n:Nat):Bool:=fn.body.isSome && !(fn.name == "runtime.NumGoroutine") && Nat.ble n fn.ntmps
def df (P:Program) (B:Cx) (X:Ext) (Γ:List (FuncId × (Bool × b7))):Prop:=∀N,ep P (jq B Γ N) X
section
variable {P:Program} {B:Cx} {X:Ext} {Γ:List (FuncId × (Bool × b7))}
theorem dI {f:FuncId} {fn:Func} {ts rts:List Ty} {pre:HL ts->Prop} {post:HL ts->HL rts->Prop} (hok:df P B X Γ) (hf:P.funcs[f]?=some fn) (hc:uS fn ts.length=true)
  (anns:HL ts->da) (h:∀xs,iv ts xs->pre xs->(fz B Γ fn (anns xs) ts rts post xs).holds):bO P B.eT X f ts rts pre post:=by
 simp only [uS,Bool.and_eq_true,Bool.not_eq_true'] at hc
 obtain ⟨⟨h1,h2⟩,h3⟩:=hc
 refine tu (hok fn.ntmps) hf (c:=codeOf fn) ?_ h2 rfl anns (Nat.le_of_ble_eq_true h3) h
 unfold codeOf
 cases hb:fn.body with
 | none=>rw [hb] at h1;cases h1
 | some c=>rfl
theorem jr (h:TyOK P B):df P B X []:=fun _=>w8 h
theorem cL {f:FuncId} {q:Bool} {sp:b7} (h:kd P B.eT X f q sp) (hΓ:df P B X Γ):df P B X ((f,q,sp) :: Γ):=fun N=>v8 h (hΓ N)
def tA (B:Cx) (l:List Nat):Cx:={B with hint:=l}
theorem df.hint {l:List Nat} (h:df P B X Γ):df P (tA B l) X Γ:=fun N=>
 {fit:=(h N).fit,fo:=(h N).fo,dk:=(h N).dk,mixed:=(h N).mixed,arr:=(h N).arr,lS:=(h N).lS,eqs:=(h N).eqs,eY:=(h N).eY,gf:=(h N).gf,jB:=(h N).jB,calls:=(h N).calls}
theorem gp {α:Type} {l:List (Nat × α)} {n:Nat} {x:α} (h:look l n=some x):(n,x)∈l:=by
 induction l with
 | nil=>cases h
 | cons p r ih=>
  obtain ⟨m,y⟩:=p
  rw [aA] at h
  split at h
  ·rename_i e;subst e;cases h;simp
  ·exact List.mem_cons_of_mem _ (ih h)
def uT (P:Program) (B:Cx) (n:Nat):Bool:=
 (B.τ.all fun p=>fits P n p.1 p.2) &&
 (match P.underlying B.eT with | some (.int .i64)=>true | _=>false) &&
 (match P.info? B.eT with | some i=>(match i.zero with | some (.int .i64 0)=>true | _=>false) | none=>false) &&
 P.follows .mixedOrders &&
 (B.lR.all fun p=>match P.underlying p.1 with | some (.array m e)=>Nat.beq m p.2.1 && Nat.beq e p.2.2 | _=>false) &&
 (B.lR.all fun p=>match look B.τ p.2.2 with
  | some e=>(match P.info? p.1 with
   | some i=>(match i.zero with
    | some z=>eX e p.2.1 z.cells.toList
    | none=>false)
   | none=>false)
  | none=>true) &&
 B.eqs.all (sX P) && B.eY.all (pQ P) &&
 (B.gf.all fun p=>match P.underlying p.1 with
  | some (.map k e)=>Nat.beq k p.2.1 && Nat.beq e p.2.2 && (match P.underlying p.2.1 with | some .string=>true | _=>false) &&
   (match P.info? p.2.2 with
    | some i=>(match i.zero with | some (.agg _)=>true | _=>false)
    | none=>false)
  | _=>false) &&
 (B.jB.all fun p=>match P.info? p.1 with
  | some i=>(match i.zero with
   | some (.agg cs)=>(match cs.toList with
    | [.pointer none, .slice none 0 0]=>true
    | _=>false)
   | _=>false)
  | none=>false)
theorem w9 {n:Nat} (h:uT P B n=true):TyOK P B:=by
 simp only [uT,Bool.and_eq_true,List.all_eq_true] at h
 obtain ⟨⟨⟨⟨⟨⟨⟨⟨⟨h1,h2⟩,h3⟩,h4⟩,h5⟩,h6⟩,h7⟩,h8⟩,h9⟩,h10⟩:=h
 refine ⟨fun t ty hl=>⟨n,h1 _ (gp hl)⟩,?_,?_,h4,fun t ht=>h7 t (ji ht),fun t ht=>h8 t (ji ht),fun t m e hl => ?_,fun t k e hl => ?_,fun t e hl => ?_,fun t m te e hl he => ?_⟩
 ·split at h2
  ·assumption
  ·cases h2
 ·split at h3
  ·rename_i i hi
   refine ⟨i,hi,?_⟩
   split at h3
   ·assumption
   ·cases h3
  ·cases h3
 ·have:=h5 _ (gp hl)
  simp only at this
  split at this
  ·rename_i m' e' hu
   simp only [Bool.and_eq_true] at this
   rw [hu,Nat.eq_of_beq_eq_true this.1,Nat.eq_of_beq_eq_true this.2]
  ·cases this
 ·have:=h9 _ (gp hl)
  simp only at this
  split at this
  ·rename_i k' e' hu
   simp only [Bool.and_eq_true] at this
   obtain ⟨⟨⟨e1,e2⟩,e3⟩,e4⟩:=this
   rw [hu,Nat.eq_of_beq_eq_true e1,Nat.eq_of_beq_eq_true e2]
   refine ⟨rfl,?_,?_⟩
   ·split at e3
    ·assumption
    ·cases e3
   ·split at e4
    ·rename_i i hi
     split at e4
     ·rename_i cs hz;exact ⟨i,cs,hi,hz⟩
     ·cases e4
    ·cases e4
  ·cases this
 ·have:=h10 _ (gp hl)
  simp only at this
  split at this
  ·rename_i i hi
   split at this
   ·rename_i cs hz
    split at this
    ·rename_i hr
     exact ⟨i,hi,by rw [hz];congr 2;exact Array.toList_inj.1 hr⟩
    ·cases this
   ·cases this
  ·cases this
 ·have:=h6 _ (gp hl)
  simp only [he] at this
  split at this
  ·rename_i i hi
   split at this
   ·rename_i z hz
    exact ⟨i,z,hi,hz,this⟩
   ·cases this
  ·cases this
end
end Go.Vg

namespace Go.Vg
open Go.RowKit
end Go.Vg

namespace Go.Vg
open Go.RowKit
section
variable {ay:List Ob} {args:List Cl}
end
section
variable {eT:TypeId} {X:Ext}
end
end Go.Vg

namespace Go.Vg
open Go.RowKit
section
variable {X:Ext} {P:Program} {ay:List Ob} {args:List Cl}
end
end Go.Vg

namespace Go.Vg
@[reducible] def fj:Ty:=.prod .str (.prod (.int .i64) (.prod .bool .unit))
@[reducible] def kC:Ty:=.prod (.int .i64) (.prod (.int .i64) (.prod (.int .i64) (.prod .str (.prod .bool .unit))))
@[reducible] def ag:Ty:=.prod (.int .i64) (.prod (.int .i64) (.prod (.int .i64) .unit))
@[reducible] def ae:Ty:=.prod .str (.prod (.int .i64) (.prod (.int .i64) .unit))
@[reducible] def aJ:Ty:=.prod (.slice .str) (.prod (.slice (.int .i64)) (.prod (.slice fj) (.prod (.slice kC) .unit)))
@[reducible] def af:Ty:=.prod .str (.prod (.slice ae) (.prod (.slice ag) .unit))
@[reducible] def wH:Ty:=.prod .str (.prod (.int .i64) (.prod (.slice (.int .i64)) .unit))
theorem bl :
  (∀(p:Prop) [Decidable p],(decide p=true)=p)/\(∀(p:Prop) [Decidable p],(decide p=false)=¬ p)/\
  (∀(α:Type) [BEq α] [LawfulBEq α] (a b:α),((a == b)=true)=(a=b))/\(∀(α:Type) [BEq α] [LawfulBEq α] (a b:α),((a == b)=false)=¬ a=b)/\
  (∀(α:Type) [BEq α] [LawfulBEq α] (a b:α),((a != b)=true)=¬ a=b)/\(∀(α:Type) [BEq α] [LawfulBEq α] (a b:α),((a != b)=false)=(a=b))/\
  (∀b:Bool,((!b)=true)=(b=false))/\(∀b:Bool,((!b)=false)=(b=true))/\(∀b:Bool,(¬ b=true)=(b=false))/\(∀b:Bool,(¬ b=false)=(b=true))/\
  (∀a b:Bool,((a && b)=true)=(a=true/\b=true))/\(∀a b:Bool,((a || b)=true)=(a=true\/b=true))/\
  (∀a b:Bool,((a && b)=false)=(a=false\/b=false))/\(∀a b:Bool,((a || b)=false)=(a=false/\b=false))/\
  (∀a b:Int,(¬ a < b)=(b<=a))/\(∀a b:Int,(¬ a<=b)=(b < a)):=by
 refine ⟨?_,?_,?_,?_,?_,?_,?_,?_,?_,?_,?_,?_,?_,?_,?_,?_⟩ <;> intros <;> first | (simp;done) | (rename_i a b;cases a <;> cases b <;> simp)
end Go.Vg

namespace Go.Vg
open Go.RowKit
section
variable {P:Program} {eT:TypeId} {X:Ext} {f:FuncId}
end
end Go.Vg

namespace Go.Mrl
open Go.Vg
def small (c:UInt8):Bool:=decide ((97:Int)<=c.toNat) && decide ((c.toNat:Int)<=122)
def other (c:UInt8):Bool:=(decide ((48:Int)<=c.toNat) && decide ((c.toNat:Int)<=57)) || ((c.toNat:Int) == 95)
def cw (i:Nat) (c:UInt8):Bool:=!small c && ((i:Int) == 0 || !other c)
def iz (s:List UInt8):Bool:=(List.range s.length).any fun i=>cw i (ch s i)
def aj (s:List UInt8):Int:=if s.length < 1\/8 < s.length then 1 else if iz s=true then 3 else 0
def aQ (n:Int):bj:=if n=0 then .nil else .no n
theorem cU (s:List UInt8):0<=aj s:=by
 unfold aj;split
 ·decide
 ·split <;> decide
theorem rO {s:List UInt8} {i:Nat} (h:i < s.length) (hb:cw i (ch s i)=true):iz s=true:=by
 simp only [iz,List.any_eq_true,List.mem_range]
 exact ⟨i,h,hb⟩
theorem qE {s:List UInt8} (h:∀i,i < s.length->cw i (ch s i)=false):iz s=false:=by
 simp only [iz,List.any_eq_false,List.mem_range]
 intro i hi;rw [h i hi];simp
theorem pn {s:List UInt8} (h:s.length < 1\/8 < s.length):aj s=1:=by unfold aj;rw [if_pos h]
theorem nw {s:List UInt8} {i:Nat} (h:¬ (s.length < 1\/8 < s.length)) (hi:i < s.length) (hb:cw i (ch s i)=true):aj s=3:=by
 unfold aj
 rw [if_neg h,if_pos (rO hi hb)]
theorem n8 {s:List UInt8} (h:¬ (s.length < 1\/8 < s.length)) (hb:∀i,i < s.length->cw i (ch s i)=false):aj s=0:=by
 unfold aj
 rw [if_neg h,if_neg (by rw [qE hb];decide)]
theorem oT {i:Nat} {c:UInt8}:cw i c=true ↔ ¬ (97<=c.toNat/\c.toNat<=122)/\(i=0\/¬ ((48<=c.toNat/\c.toNat<=57)\/c.toNat=95)):=by
 simp only [cw,small,other,Bool.and_eq_true,Bool.not_eq_true',Bool.and_eq_false_iff,Bool.or_eq_true,Bool.or_eq_false_iff,decide_eq_false_iff_not,beq_iff_eq,beq_eq_false_iff_ne]
 omega
theorem rP {i:Nat} {c:UInt8}:cw i c=false ↔ ¬ (¬ (97<=c.toNat/\c.toNat<=122)/\(i=0\/¬ ((48<=c.toNat/\c.toNat<=57)\/c.toNat=95))):=by
 rw [<-oT];simp
theorem wb {s:List UInt8} {i:Nat} (h:∀j,j < i->cw j (ch s j)=false) (hb:cw i (ch s i)=false):∀j,j < i + 1->cw j (ch s j)=false:=by
 intro j hj
 rcases Nat.lt_or_ge j i with hlt | hge
 ·exact h j hlt
 ·obtain rfl:j=i:=by omega
  exact hb
end Go.Mrl

namespace Go.Mrl
open Go.Vg
theorem pG {p:Nat->Prop} {n:Nat} (h:∀j,j < n->p j) (hn:p n):∀j,j < n + 1->p j:=by
 intro j hj
 by_cases e:j=n
 ·rw [e];exact hn
 ·exact h j (by omega)
end Go.Mrl

namespace Go.Mrl
open Go.Vg
end Go.Mrl
namespace Go.Mrl
open Go.Vg
end Go.Mrl
namespace Go.Mrl
open Go.Vg
end Go.Mrl

namespace Go.Mrl
open Go.Vg
end Go.Mrl
namespace Go.Mrl
open Go.Vg
end Go.Mrl
namespace Go.Mrl
open Go.Vg
end Go.Mrl
namespace Go.Mrl
open Go.Vg
end Go.Mrl
namespace Go.Mrl
open Go.Vg
end Go.Mrl
namespace Go.Mrl
open Go.Vg
end Go.Mrl

namespace Go.Mrl
open Go.Vg
theorem qF {t:Ty} {xs:List (D t)} {i:Nat} (h:i < xs.length):xs[i]?=some (nth t xs i):=by
 rw [List.getElem?_eq_getElem h,<-ct (List.getElem?_eq_getElem h)]
theorem n9 {t:Ty} {xs:List (D t)} {i:Nat} (h:i < xs.length):nth t xs i∈xs:=by
 have:=qF (t:=t) h
 exact List.mem_of_getElem? this
theorem iA {t:Ty} {xs:List (D t)} {x:D t} (h:x∈xs):∃i,i < xs.length/\nth t xs i=x:=by
 obtain ⟨i,hi,e⟩:=List.getElem_of_mem h
 exact ⟨i,hi,by rw [<-e];exact ct (List.getElem?_eq_getElem hi)⟩
end Go.Mrl
namespace Go.Mrl
open Go.Vg
end Go.Mrl
namespace Go.Mrl
open Go.Vg
end Go.Mrl
namespace Go.Mrl
open Go.Vg
end Go.Mrl
namespace Go.Mrl
open Go.Vg
end Go.Mrl

namespace Go.Mrl
open Go.Vg
theorem ly {t:Ty} {a b:List (D t)} (hl:a.length=b.length) (h:∀i,i < a.length->nth t a i=nth t b i):a=b:=by
 apply List.ext_getElem hl
 intro i h1 h2
 have:=h i h1
 rwa [show nth t a i=a[i] from ct (List.getElem?_eq_getElem h1),show nth t b i=b[i] from ct (List.getElem?_eq_getElem h2)] at this
def eh (a b:List (D ag)):Bool:=decide (a=b)
theorem yr {α:Type} {p:Nat->α->Prop} {f:Nat->α} {k:Nat} (h:∀j,j < k->p j (f j)) (hk:p k (f k)):∀j,j < k + 1->p j (f j):=by
 intro j hj
 by_cases e:j=k
 ·subst e;exact hk
 ·exact h j (by omega)
theorem uU {p:Nat->Prop} {k:Nat} (h:∀j,j < k->p j) (hk:p k):∀j,j < k + 1->p j:=by
 intro j hj
 by_cases e:j=k
 ·subst e;exact hk
 ·exact h j (by omega)
end Go.Mrl

namespace Go.Mrl
open Go.Vg
theorem js {t:Ty} {a b:List (D t)} {i:Nat}:nth t (a++b) i=if i < a.length then nth t a i else nth t b (i - a.length):=by
 unfold nth
 simp only [List.getD_eq_getElem?_getD,List.getElem?_append]
 split <;> rfl
end Go.Mrl

namespace Go.Mrl
open Go.Vg
abbrev Pt:=Int × Int × Int × Unit
end Go.Mrl

namespace Go.Mrl
open Go.Vg
theorem tB {a b:List Pt} (hl:(a.length:Int)=b.length) (h:∀i,i < a.length->nth ag a i=nth ag b i):true=eh a b:=by
 have:a=b:=ly (t:=ag) (by omega) h
 simp [eh,this]
theorem wc {a b:List Pt} {i:Nat} (h:¬ nth ag a i=nth ag b i):false=eh a b:=by
 have:¬ a=b:=fun e=>h (by rw [e])
 simp [eh,this]
theorem uV {a b:List Pt} (h:¬ (a.length:Int)=b.length):false=eh a b:=by
 have:¬ a=b:=fun e=>h (by rw [e])
 simp [eh,this]
end Go.Mrl

namespace Go.Mrl
open Go.Vg
def gM (n:Int):Bool:=decide (-2147483648<=n) && decide (n<=2147483647)
def qG:List (List UInt8)->List (List UInt8)->Int
 | _,[]=>0
 | p,s :: r=>if aj s > 0 then aj s else if p.any (· == s)=true then 3 else qG (p++[s]) r
def qH:List Int->Int
 | []=>0
 | n :: r=>if gM n=true then qH r else 1
def tC (n:Nat):List (D fj)->List (D fj)->Int
 | _,[]=>0
 | p,s :: r=>if aj s.1 > 0 then aj s.1 else if s.2.1 < 0\/s.2.1>=(n:Int) then 1 else if p.any (fun x=>x.1 == s.1)=true then 3 else tC n (p++[s]) r
def xP (a:Int):Option Int->Bool
 | some b=>decide (a<=b)
 | none=>false
def xQ (n:Nat) (prev:Option Int) (t:D kC):Int:=
 if t.1 < 0\/t.1>=(n:Int)\/gM t.2.2.1=false then 1
 else if t.2.1 < 1\/t.2.1 > 3\/xP t.1 prev=true then 3
 else if t.2.1=1 then (if t.2.2.2.1≠[]\/t.2.2.2.2.1=true then 3 else 0)
 else aj t.2.2.2.1
def wI (n:Nat):Option Int->List (D kC)->Int
 | _,[]=>0
 | prev,t :: r=>if xQ n prev t≠0 then xQ n prev t else wI n (some t.1) r
def tD (o:D aJ):Prop:=o.1.length > 4\/o.2.1.length < 1\/o.2.1.length > 40\/o.2.2.1.length > 8\/o.2.2.2.1.length > 6
instance (o:D aJ):Decidable (tD o):=by unfold tD;infer_instance
def xR (o:D aJ):Int:=
 if tD o then 2 else if qG [] o.1≠0 then qG [] o.1 else if qH o.2.1≠0 then qH o.2.1
 else if tC o.2.1.length [] o.2.2.1≠0 then tC o.2.1.length [] o.2.2.1 else wI o.2.1.length none o.2.2.2.1
theorem mm {t:Ty} {l:List (D t)} {i:Nat} (h:i < l.length):l.take (i + 1)=l.take i++[nth t l i]:=by
 rw [List.take_add_one];congr 1;unfold nth;simp [h]
end Go.Mrl

namespace Go.Mrl
open Go.Vg
abbrev ai:=List UInt8
end Go.Mrl

namespace Go.Mrl
open Go.Vg
end Go.Mrl

namespace Go.Mrl
open Go.Vg
theorem cp {n:Int}:(aQ n).isNil=true ↔ n=0:=by
 unfold aQ;split
 ·rename_i h;simp [h,bj.isNil]
 ·rename_i h;simp [h,bj.isNil]
end Go.Mrl
namespace Go.Mrl
open Go.Vg
def iC (e:D af):Prop:=e.1.length<=20/\e.2.1.length<=8/\e.2.2.1.length<=40/\∀i,i < e.2.1.length->(nth ae e.2.1 i).1.length<=20
end Go.Mrl

namespace Go.Mrl
open Go.Vg
end Go.Mrl

namespace Go.Mrl
open Go.Vg
end Go.Mrl

namespace Go.Mrl
open Go.Vg
end Go.Mrl

namespace Go.Mrl
open Go.Vg
end Go.Mrl

namespace Go.Mrl
open Go.Vg
def _root_.Go.Vg.xS:List UInt8->UInt8
 | c :: _=>c
 | []=>0
def fA (c:UInt8):List ai->ai
 | []=>[]
 | [x]=>x
 | x :: y :: r=>x++c :: fA c (y :: r)
def parts (c:UInt8):ai->List ai
 | []=>[[]]
 | b :: r=>if b=c then [] :: parts c r else match parts c r with
  | h :: t=>(b :: h) :: t
  | []=>[[b]]
theorem wg (c:UInt8):∀s:ai,parts c s≠[]
 | []=>by simp [parts]
 | b :: r=>by
  unfold parts
  split
  ·simp
  ·split <;> simp
theorem cX {c b:UInt8} {r:ai} (h:b≠c):∃x t,parts c r=x :: t/\parts c (b :: r)=(b :: x) :: t:=by
 cases hp:parts c r with
 | nil=>exact absurd hp (wg c r)
 | cons x t=>
  refine ⟨x,t,rfl,?_⟩
  conv=>lhs;unfold parts
  rw [if_neg h,hp]
theorem ei {c:UInt8} {r:ai}:parts c (c :: r) = [] :: parts c r:=by
 conv=>lhs;unfold parts
 rw [if_pos rfl]
theorem oU {c:UInt8}:∀{x:ai},c∉x->parts c x = [x]
 | [],_=>rfl
 | b :: r,h=>by
  obtain ⟨x,t,h1,h2⟩:=cX (c:=c) (b:=b) (r:=r) (fun e=>h (by simp [e]))
  rw [oU (x:=r) (fun e=>h (by simp [e]))] at h1
  cases h1
  exact h2
theorem oV {c:UInt8}:∀{x:ai} {s:ai},c∉x->parts c (x++c :: s)=x :: parts c s
 | [],s,_=>ei
 | b :: r,s,h=>by
  obtain ⟨x,t,h1,h2⟩:=cX (c:=c) (b:=b) (r:=r++c :: s) (fun e=>h (by simp [e]))
  rw [oV (x:=r) (fun e=>h (by simp [e]))] at h1
  cases h1
  exact h2
theorem lz {c:UInt8}:∀{L:List ai},L≠[]->(∀y∈L,c∉y)->parts c (fA c L)=L
 | [],h,_=>absurd rfl h
 | [x],_,h=>oU (h x (by simp))
 | x :: y :: r,_,h=>by
  show parts c (x++c :: fA c (y :: r))=_
  rw [oV (h x (by simp)),lz (by simp) fun z hz=>h z (List.mem_cons_of_mem _ hz)]
theorem kD (c:UInt8):∀(s:ai),(parts c s).length<=s.length + 1
 | []=>by simp [parts]
 | b :: r=>by
  by_cases h:b=c
  ·subst h;rw [ei];have:=kD b r;simp;omega
  ·obtain ⟨x,t,h1,h2⟩:=cX (c:=c) (b:=b) (r:=r) h
   have:=kD c r
   rw [h1] at this
   rw [h2];simp at this ⊢;omega
theorem gq (c:UInt8):∀(s:ai),∀y∈parts c s,y.length<=s.length
 | [],y,h=>by simp [parts] at h;simp [h]
 | b :: r,y,h=>by
  by_cases hb:b=c
  ·subst hb;rw [ei] at h
   rcases List.mem_cons.1 h with rfl | h
   ·simp
   ·have:=gq b r y h;simp;omega
  ·obtain ⟨x,t,h1,h2⟩:=cX (c:=c) (b:=b) (r:=r) hb
   rw [h2] at h
   rcases List.mem_cons.1 h with rfl | h
   ·have:=gq c r x (by rw [h1];simp);simp;omega
   ·have:=gq c r y (by rw [h1];simp [h]);simp;omega
theorem qI {b c:UInt8} {l:ai} (h:b≠c):Lib.index (b :: l) [c]=if Lib.index l [c] == -1 then -1 else Lib.index l [c] + 1:=by
 rw [Lib.index];simp [List.isPrefixOf,Ne.symm h]
theorem qJ {c:UInt8} {l:ai}:Lib.index (c :: l) [c]=0:=by
 rw [Lib.index];simp [List.isPrefixOf]
theorem gr (c:UInt8):∀s:ai,Lib.splitK [c] 0 (s.count c) s=parts c s
 | []=>rfl
 | b :: l=>by
  by_cases h:b=c
  ·subst h
   rw [ei,List.count_cons_self,Lib.splitK,qJ,if_neg (by decide),<-gr b l]
   simp
  ·obtain ⟨x,t,h1,h2⟩:=cX (c:=c) (b:=b) (r:=l) h
   rw [h2,List.count_cons_of_ne h]
   rw [<-gr c l] at h1
   cases hk:l.count c with
   | zero=>
    rw [hk] at h1
    simp only [Lib.splitK] at h1 ⊢
    cases h1
    rfl
   | succ k=>
    rw [hk] at h1
    have hi:Lib.index l [c]≠-1:=by
     intro e
     have:=Lib.count_miss (s:=l) (sub:=[c]) e
     rw [Lib.count_one] at this
     omega
    have hge:=Lib.index_ge l [c]
    rw [Lib.splitK,if_neg (by simpa using hi)] at h1
    obtain ⟨i,e⟩:∃i:Nat,Lib.index l [c]=i:=⟨(Lib.index l [c]).toNat,by omega⟩
    have e2:Lib.index (b :: l) [c]=((i + 1:Nat):Int):=by rw [qI h,if_neg (by simpa using hi),e];rfl
    rw [Lib.splitK,e2,if_neg (by simp;omega)]
    rw [e] at h1
    simp only [Int.toNat_natCast,Nat.add_zero,List.length_singleton,List.take_succ_cons,List.drop_succ_cons,List.cons.injEq] at h1 ⊢
    exact ⟨⟨trivial,h1.1⟩,h1.2⟩
theorem oa (x:ai) (c:UInt8):Lib.trimSuffix (x++[c]) [c]=x:=by
 have h:Lib.hasSuffix (x++[c]) [c]=true:=by unfold Lib.hasSuffix;simp [List.isSuffixOf_iff_suffix]
 unfold Lib.trimSuffix
 rw [if_pos h];simp
end Go.Mrl

namespace Go.Mrl
open Go.Vg
theorem kE {k:Nat} (h:k < 10):(UInt8.ofNat (48 + k)).toNat=48 + k:=by
 rw [UInt8.toNat_ofNat'];omega
theorem eU:∀(u:Nat),∀c∈Lib.decDigits u,48<=c.toNat/\c.toNat<=57:=by
 intro u
 induction u using Nat.strongRecOn with
 | _ u ih=>
  intro c hc
  by_cases h:u < 10
  ·rw [Lib.decDigits,dif_pos h] at hc
   simp only [List.mem_singleton] at hc
   rw [hc,kE h];omega
  ·rw [Lib.decDigits,dif_neg h] at hc
   rcases List.mem_append.1 hc with hc | hc
   ·exact ih _ (by omega) c hc
   ·simp only [List.mem_singleton] at hc
    rw [hc,kE (Nat.mod_lt _ (by decide))];omega
theorem kF (u:Nat):Lib.decDigits u≠[]:=by
 rw [Lib.decDigits];split <;> simp
theorem fN:∀(k u:Nat),u < 10 ^ (k + 1)->(Lib.decDigits u).length<=k + 1
 | 0,u,h=>by rw [Lib.decDigits,dif_pos (by simpa using h)];simp
 | k + 1,u,h=>by
  rw [Lib.decDigits]
  split
  ·simp
  ·have:=fN k (u / 10) (by rw [Nat.pow_succ] at h;omega)
   simp;exact this
theorem oW:∀(l:ai) (c:UInt8) (a v:Nat),Lib.parseUint10 a l = .ok v->Lib.parseUint10 a (l++[c])=Lib.parseUint10 v [c]
 | [],c,a,v,h=>by simp [Lib.parseUint10] at h;rw [h];rfl
 | b :: l,c,a,v,h=>by
  rw [List.cons_append,Lib.parseUint10]
  rw [Lib.parseUint10] at h
  split at h
  ·rename_i hb
   rw [if_pos hb]
   split at h
   ·cases h
   ·rename_i h1
    rw [if_neg h1]
    split at h
    ·cases h
    ·rename_i h2
     rw [if_neg h2]
     exact oW l c _ v h
  ·cases h
theorem qK {v d:Nat} (hd:d < 10) (h:10 * v + d < 18446744073709551616):Lib.parseUint10 v [UInt8.ofNat (48 + d)] = .ok (10 * v + d):=by
 unfold Lib.parseUint10
 rw [kE hd,if_pos (by omega),if_neg (by omega),if_neg (by omega)]
 unfold Lib.parseUint10
 congr 1;omega
theorem wh:∀u:Nat,u < 18446744073709551616->Lib.parseUint10 0 (Lib.decDigits u) = .ok u:=by
 intro u
 induction u using Nat.strongRecOn with
 | _ u ih=>
  intro hu
  by_cases h:u < 10
  ·rw [Lib.decDigits,dif_pos h]
   have:=qK (v:=0) (d:=u) h (by omega)
   simpa using this
  ·rw [Lib.decDigits,dif_neg h,oW _ _ _ _ (ih _ (by omega) (by omega)),qK (Nat.mod_lt _ (by decide)) (by omega)]
   congr 1;omega
theorem sK {u:Nat} (hu:u < 18446744073709551616):Lib.parseMag (Lib.decDigits u) = .ok u:=by
 unfold Lib.parseMag
 rw [if_neg (kF u),wh u hu]
theorem uW {n:Int} (h0 : -9223372036854775808<=n) (h1:n<=9223372036854775807):Lib.atoiAll (Lib.itoa n) = .ok n:=by
 by_cases hn:n < 0
 ·have hm:=sK (u:=n.natAbs) (by omega)
  simp only [Lib.itoa,if_pos hn,Lib.atoiAll]
  rw [if_pos (Or.inr (by decide)),hm]
  simp only
  rw [if_neg (by simp),if_neg (by simp;omega)]
  simp;omega
 ·have hm:=sK (u:=n.toNat) (by omega)
  simp only [Lib.itoa,if_neg hn,Lib.atoiAll]
  cases hd:Lib.decDigits n.toNat with
  | nil=>exact absurd hd (kF _)
  | cons c r=>
   have hc:=eU n.toNat c (by rw [hd];simp)
   rw [hd] at hm
   simp only
   rw [if_neg (by omega),hm]
   simp only
   rw [if_neg (by omega),if_neg (by omega),if_neg (by omega)]
   congr 1;omega
def ck (s:List UInt8):Int × bj:=match Lib.atoiAll s with
 | .ok n=>(n, .nil)
 | Lib.NumEnd.syntax=>(0, .other)
 | .range=>(Lib.atoiSat s, .other)
def bD (s:ai):Option Int:=match Lib.atoiAll s with
 | .ok n=>if Lib.itoa n=s then some n else none
 | _=>none
theorem uX {n:Int} (h0 : -9223372036854775808<=n) (h1:n<=9223372036854775807):bD (Lib.itoa n)=some n:=by
 unfold bD;rw [uW h0 h1];simp
theorem kG {s:ai}:(bD s).isNone=(!(ck s).2.isNil || !decide (Lib.itoa (ck s).1=s)):=by
 unfold bD ck
 cases Lib.atoiAll s with
 | ok v=>simp only [bj.isNil];by_cases h:Lib.itoa v=s <;> simp [h]
 | range=>rfl
 | _=>rfl
theorem oX {n:Int} {c:UInt8} (h:c.toNat<=44):c∉Lib.itoa n:=by
 intro hc
 have h45:(45:UInt8).toNat=45:=rfl
 unfold Lib.itoa at hc
 split at hc
 ·rcases List.mem_cons.1 hc with rfl | hc
  ·omega
  ·have:=eU _ c hc;omega
 ·have:=eU _ c hc;omega
end Go.Mrl

namespace Go.Mrl
open Go.Vg
theorem oY {f:Int} (h0:0<=f) (h:(aQ f).isNil=false):f > 0:=by
 have:¬ f=0:=fun e=>by rw [cp.2 e] at h;cases h
 omega
theorem aT {f:Int} (h:(aQ f).isNil=true):f<=0:=by
 have:=cp.1 h;omega
def kW (b:Bool):List UInt8:=if b=true then [119,101,97,107,32] else []
def ya (s:ai):ai:=[110,101,101,100,32]++s++[10]
def yb (n:Int):ai:=[119,111,114,100,32]++Lib.itoa n++[10]
def yt (y:D fj):ai:=kW y.2.2.1++[115,121,109,98,111,108,32]++y.1++[32]++Lib.itoa y.2.1++[10]
def yu (t:D kC):ai:=
 if t.2.1=1 then [98,97,115,101,32]++Lib.itoa t.1++[32]++Lib.itoa t.2.2.1++[10]
 else if t.2.1=2 then kW t.2.2.2.2.1++[119,104,111,108,101,32]++Lib.itoa t.1++[32]++Lib.itoa t.2.2.1++[32]++t.2.2.2.1++[10]
 else kW t.2.2.2.2.1++[110,101,97,114,32]++Lib.itoa t.1++[32]++Lib.itoa t.2.2.1++[32]++t.2.2.2.1++[10]
def yv (o:D aJ) (i:Nat):ai:=(o.1.take i).flatMap ya
def yw (o:D aJ) (i:Nat):ai:=yv o o.1.length++(o.2.1.take i).flatMap yb
def yx (o:D aJ) (i:Nat):ai:=yw o o.2.1.length++(o.2.2.1.take i).flatMap yt
def yy (o:D aJ) (i:Nat):ai:=yx o o.2.2.1.length++(o.2.2.2.1.take i).flatMap yu
def yc (o:D aJ):ai:=yy o o.2.2.2.1.length
def Nm (s:ai):Prop:=s≠[]/\s.length<=8/\∀c∈s,c≠10/\c≠32
def dJ (a b x:Int):Prop:=a<=x/\x<=b
structure yd (t:D kC):Prop where
 a:dJ 0 39 t.1
 w:dJ (-2147483648) 2147483647 t.2.2.1
 k:t.2.1=1\/t.2.1=2\/t.2.1=3
 base:t.2.1=1->t.2.2.2.1 = []/\t.2.2.2.2.1=false
 nm:t.2.1≠1->Nm t.2.2.2.1
end Go.Mrl

namespace Go.Mrl
open Go.Vg
theorem wJ {s:ai} (h:aj s=0):Nm s:=by
 unfold aj at h
 split at h
 ·cases h
 ·rename_i hl
  split at h
  ·cases h
  ·rename_i hb
   refine ⟨by rintro rfl;simp at hl,by omega,fun c hc => ?_⟩
   obtain ⟨i,hi,rfl⟩:=List.getElem_of_mem hc
   have hn:cw i (ch s i)=false:=by
    unfold iz at hb
    rw [Bool.not_eq_true,List.any_eq_false] at hb
    have:=hb i (by simpa using hi)
    simpa using this
   have he:ch s i=s[i]:=by unfold ch;simp [hi]
   rw [he] at hn
   constructor
   ·intro e;rw [e] at hn;unfold cw small other at hn;simp at hn
   ·intro e;rw [e] at hn;unfold cw small other at hn;simp at hn
theorem bt {a b n:Int} (h:dJ a b n) (ha : -999999999999999999<=a) (hb:b<=999999999999999999):(Lib.itoa n).length<=19:=by
 obtain ⟨h0,h1⟩:=h
 unfold Lib.itoa
 split
 ·rw [List.length_cons]
  have:=fN 17 n.natAbs (by omega)
  omega
 ·have:=fN 17 n.toNat (by omega)
  omega
theorem mn {α:Type} {f:α->ai}:∀{l:List α},(∀x∈l,(f x).length<=64)->(l.flatMap f).length<=64 * l.length
 | [],_=>by simp
 | x :: r,h=>by
  have h1:=h x (by simp)
  have h2:=mn (f:=f) (l:=r) fun y hy=>h y (List.mem_cons_of_mem _ hy)
  rw [List.flatMap_cons,List.length_append,List.length_cons];omega
end Go.Mrl

namespace Go.Mrl
open Go.Vg
@[reducible] def xT:ai:=[119,101,97,107,32]
def xa (o:D aJ) (s:ai):D aJ:=(o.1++[s],o.2)
def xb (o:D aJ) (n:Int):D aJ:=(o.1,o.2.1++[n],o.2.2)
def xU (o:D aJ) (y:D fj):D aJ:=(o.1,o.2.1,o.2.2.1++[y],o.2.2.2)
def xV (o:D aJ) (t:D kC):D aJ:=(o.1,o.2.1,o.2.2.1,o.2.2.2.1++[t],())
def ye (s:ai):ai:=[110,101,101,100,32]++s
def yf (n:Int):ai:=[119,111,114,100,32]++Lib.itoa n
def yz (y:D fj):ai:=kW y.2.2.1++([115,121,109,98,111,108,32]++(y.1++32 :: Lib.itoa y.2.1))
def yA (t:D kC):ai:=
 if t.2.1=1 then [98,97,115,101,32]++(Lib.itoa t.1++32 :: Lib.itoa t.2.2.1)
 else if t.2.1=2 then kW t.2.2.2.2.1++([119,104,111,108,101,32]++(Lib.itoa t.1++32 :: (Lib.itoa t.2.2.1++32 :: t.2.2.2.1)))
 else kW t.2.2.2.2.1++([110,101,97,114,32]++(Lib.itoa t.1++32 :: (Lib.itoa t.2.2.1++32 :: t.2.2.2.1)))
structure Reads (f:D aJ->ai->Option (D aJ)):Prop where
 yF:∀(o:D aJ) (s:ai),Nm s->f o (ye s)=some (xa o s)
 word:∀(o:D aJ) (n:Int),dJ (-2147483648) 2147483647 n->f o (yf n)=some (xb o n)
 sym:∀(o:D aJ) (y:D fj),Nm y.1->dJ 0 39 y.2.1->f o (yz y)=some (xU o y)
 tie:∀(o:D aJ) (t:D kC),yd t->f o (yA t)=some (xV o t)
section
variable {f:D aJ->ai->Option (D aJ)} (h:Reads f)
include h
end
theorem sL {s:ai} (h:Nm s):(32:UInt8)∉s/\(10:UInt8)∉s:=⟨fun hc=>(h.2.2 _ hc).2 rfl,fun hc=>(h.2.2 _ hc).1 rfl⟩
theorem jt (n:Int):(32:UInt8)∉Lib.itoa n:=oX (by decide)
theorem ju (n:Int):(10:UInt8)∉Lib.itoa n:=oX (by decide)
theorem sM {a b n:Int} (h:dJ a b n) (ha : -9223372036854775808<=a) (hb:b<=9223372036854775807):bD (Lib.itoa n)=some n:=uX (Int.le_trans ha h.1) (Int.le_trans h.2 hb)
end Go.Mrl

namespace Go.Mrl
open Go.Vg
open Classical in
noncomputable def mo (s:ai):D aJ × Int:=
 if s.length > 1200 then (a7 aJ,2)
 else if h:∃o:D aJ,xR o=0/\yc o=s then (Classical.choose h,0) else (a7 aJ,4)
theorem uY {s:ai} {n:Int} (h:bD s=some n):(ck s).1=n:=by
 unfold bD at h
 unfold ck
 cases ha:Lib.atoiAll s with
 | ok v=>rw [ha] at h;simp only at h ⊢;split at h <;> simp_all
 | range=>rw [ha] at h;cases h
 | _=>rw [ha] at h;cases h
end Go.Mrl

namespace Go.Mrl
open Go.Vg
abbrev Rd:=ai->ai × Int × Int
theorem oZ {t:Ty} {a b:List (D t)} {i:Nat} (h:i < a.length):nth t (a++b) i=nth t a i:=by rw [js,if_pos h]
end Go.Mrl

namespace Go.Mrl
open Go.Vg
end Go.Mrl
namespace Go.Mrl
open Go.Vg
end Go.Mrl

namespace Go.Mrl
open Go.Vg
end Go.Mrl

namespace Go.Mrl
open Go.Vg
end Go.Mrl

namespace Go.Mrl
open Go.Vg
def yC (p:D wH) (a:Int):Prop:=(p.2.1:Int)<=a/\a < (p.2.1:Int) + (p.2.2.1.length:Int)
instance (p:D wH) (a:Int):Decidable (yC p a):=inferInstanceAs (Decidable (_/\_))
end Go.Mrl

namespace Go.Mrl
open Go.Vg
section
variable {o:D aJ} {b:Bool} {s:ai} {w:List ai} (hw:w=parts 32 (Lib.trimPrefix s xT))
include hw
end
end Go.Mrl

namespace Go.Mrl
open Go.Vg
theorem xc {c d:UInt8} {n:Nat} (h:(c.toNat:Int)=n) (hd:d.toNat=n):c=d:=UInt8.toNat_inj.1 (by omega)
end Go.Mrl

namespace Go.Mrl
open Go.Vg
theorem od (s p:ai):(Lib.trimSuffix s p).length<=s.length:=by unfold Lib.trimSuffix;split <;> simp
end Go.Mrl

namespace Go.Mrl
open Go.Vg
section
variable {o:D aJ} {b:Bool} {w:List ai} {k:Nat}
end
theorem eT {k n:Nat} (h:(k:Int) < (n:Int)):(decide ((k:Int) < 3))=true ↔ ((k:Int) < (n:Int)/\(k:Int) < 3):=by
 rw [decide_eq_true_eq];omega
end Go.Mrl

namespace Go.Mrl
open Go.Vg
noncomputable def pH (rd:Rd):List (D ae)->Int
 | []=>0
 | p :: r=>if (mo (rd p.1).1).2=0 then pH rd r else (mo (rd p.1).1).2
theorem wi {rd:Rd}:∀{l:List (D ae)} {i:Nat},(∀j,j < i->(mo (rd (nth ae l j).1).1).2=0)->i < l.length->¬ (mo (rd (nth ae l i).1).1).2=0->pH rd l=(mo (rd (nth ae l i).1).1).2
 | [],i,_,h,_=>by simp at h
 | p :: r,0,_,_,h=>by unfold pH;rw [if_neg (show ¬ (mo (rd p.1).1).2=0 from h)];rfl
 | p :: r,i + 1,h,h1,h2=>by
  unfold pH
  rw [if_pos (show (mo (rd p.1).1).2=0 from h 0 (by omega))]
  exact wi (l:=r) (i:=i) (fun j hj=>h (j + 1) (by omega)) (by simpa using h1) h2
theorem gu {t:Ty} {a b:List (D t)} (hl:a.length=b.length) (h:∀i,i < a.length->nth t a i=nth t b i):a=b:=ly (t:=t) hl h
def aY (p:D ae):Int:=if aj p.1 > 0 then aj p.1 else if p.2.1 < 1\/p.2.1 > 1000000\/p.2.2.1 < 0\/p.2.2.1 > 255\/p.2.2.1 % 16 > 0 then 1 else 0
def eA:List (D ae)->Int
 | []=>0
 | p :: r=>if aY p=0 then eA r else aY p
def bf (n:Nat) (p:Pt):Int:=if p.1 < 0\/p.1>=(n:Int)\/p.2.1 < 0\/p.2.1 > 39\/gM p.2.2.1=false then 1 else 0
def er (n:Nat):List Pt->Int
 | []=>0
 | p :: r=>if bf n p=0 then er n r else bf n p
def fT (e:D af):Prop:=e.2.1.length < 1\/e.2.1.length > 6\/e.2.2.1.length > 36
instance (e:D af):Decidable (fT e):=by unfold fT;infer_instance
def aN (e:D af):Int:=
 if aj e.1 > 0 then aj e.1 else if fT e then 2 else if ¬ eA e.2.1=0 then eA e.2.1 else er e.2.1.length e.2.2.1
theorem nx:∀{l:List (D ae)} {i:Nat},(∀j,j < i->aY (nth ae l j)=0)->i < l.length->¬ aY (nth ae l i)=0->eA l=aY (nth ae l i)
 | [],i,_,h,_=>by simp at h
 | p :: r,0,_,_,h=>by unfold eA;rw [if_neg (show ¬ aY p=0 from h)];rfl
 | p :: r,i + 1,h,h1,h2=>by
  unfold eA
  rw [if_pos (show aY p=0 from h 0 (by omega))]
  exact nx (l:=r) (i:=i) (fun j hj=>h (j + 1) (by omega)) (by simpa using h1) h2
theorem gv:∀{l:List (D ae)},(∀j,j < l.length->aY (nth ae l j)=0)->eA l=0
 | [],_=>rfl
 | p :: r,h=>by
  unfold eA
  rw [if_pos (show aY p=0 from h 0 (by simp))]
  exact gv (l:=r) fun j hj=>h (j + 1) (by simpa using hj)
theorem lA {n:Nat}:∀{l:List Pt} {i:Nat},(∀j,j < i->bf n (nth ag l j)=0)->i < l.length->¬ bf n (nth ag l i)=0->er n l=bf n (nth ag l i)
 | [],i,_,h,_=>by simp at h
 | p :: r,0,_,_,h=>by unfold er;rw [if_neg (show ¬ bf n p=0 from h)];rfl
 | p :: r,i + 1,h,h1,h2=>by
  unfold er
  rw [if_pos (show bf n p=0 from h 0 (by omega))]
  exact lA (l:=r) (i:=i) (fun j hj=>h (j + 1) (by omega)) (by simpa using h1) h2
theorem jG {n:Nat}:∀{l:List Pt},(∀j,j < l.length->bf n (nth ag l j)=0)->er n l=0
 | [],_=>rfl
 | p :: r,h=>by
  unfold er
  rw [if_pos (show bf n p=0 from h 0 (by simp))]
  exact jG (l:=r) fun j hj=>h (j + 1) (by simpa using hj)
theorem lB {e:D af} (h:aj e.1 > 0):aN e=aj e.1:=by unfold aN;rw [if_pos h]
theorem fB {e:D af} (h:aj e.1<=0) (h1:fT e):aN e=2:=by unfold aN;rw [if_neg (by omega),if_pos h1]
theorem b5 {e:D af} (h:aj e.1<=0) (h1:¬ fT e) {i:Nat} (hs:∀j,j < i->aY (nth ae e.2.1 j)=0) (hi:i < e.2.1.length) {f:Int} (hf:aY (nth ae e.2.1 i)=f) (h0:f≠0):aN e=f:=by
 have:=nx hs hi (by rw [hf];exact h0)
 unfold aN;rw [if_neg (by omega),if_neg h1,if_pos (by rw [this,hf];exact h0),this,hf]
theorem b6 {e:D af} (h:aj e.1<=0) (h1:¬ fT e) (h2:∀j,j < e.2.1.length->aY (nth ae e.2.1 j)=0) {i:Nat} (hs:∀j,j < i->bf e.2.1.length (nth ag e.2.2.1 j)=0) (hi:i < e.2.2.1.length)
  (hf:bf e.2.1.length (nth ag e.2.2.1 i)=1):aN e=1:=by
 unfold aN;rw [if_neg (by omega),if_neg h1,if_neg (not_not_intro (gv h2)),lA hs hi (by rw [hf];decide),hf]
theorem uZ {e:D af} (h:aj e.1<=0) (h1:¬ fT e) (h2:∀j,j < e.2.1.length->aY (nth ae e.2.1 j)=0) (h3:∀j,j < e.2.2.1.length->bf e.2.1.length (nth ag e.2.2.1 j)=0):aN e=0:=by
 unfold aN;rw [if_neg (by omega),if_neg h1,if_neg (not_not_intro (gv h2)),jG h3]
end Go.Mrl

namespace Go.Mrl
open Go.Vg
end Go.Mrl

namespace Go.Mrl
open Go.Vg
section
variable {rd:Rd} {root:ai} {i:Nat} {ns:List ai} {os:List (D aJ)}
end
end Go.Mrl

namespace Go.Mrl
open Go.Vg
end Go.Mrl

namespace Go.Mrl
open Go.Vg
end Go.Mrl

namespace Go.Mrl
open Go.Vg
end Go.Mrl

namespace Go.Mrl
open Go.Vg
end Go.Mrl

namespace Go.Mrl
open Go.Vg
end Go.Mrl

namespace Go.Mrl
open Go.Vg
end Go.Mrl

namespace Go.Mrl
open Go.Vg
theorem tE {p:D ae} (h:aj p.1 > 0):aY p=aj p.1:=by unfold aY;rw [if_pos h]
theorem fH {p:D ae} (h:aj p.1<=0) (h2:p.2.1 < (1:Int)\/p.2.1 > (1000000:Int)\/p.2.2.1 < (0:Int)\/p.2.2.1 > (255:Int)\/p.2.2.1 % (16:Int) > 0):aY p=1:=by
 unfold aY;rw [if_neg (by omega),if_pos h2]
theorem wj {p:D ae} (h:aj p.1<=0) (h1:(1:Int)<=p.2.1) (h2:p.2.1<=(1000000:Int)) (h3:(0:Int)<=p.2.2.1) (h4:p.2.2.1<=(255:Int)) (h5:p.2.2.1 % (16:Int)=0):aY p=0:=by
 unfold aY;rw [if_neg (by omega),if_neg]
 rintro (e | e | e | e | e)
 ·exact absurd e (Int.not_lt.2 h1)
 ·exact absurd e (Int.not_lt.2 h2)
 ·exact absurd e (Int.not_lt.2 h3)
 ·exact absurd e (Int.not_lt.2 h4)
 ·exact absurd (show (0:Int) < 0 from h5▸e) (by decide)
theorem qL {b x:Int} (h:0<=b) (e:x=Int.tmod b 16):x=b % 16:=by rw [e,Int.tmod_eq_emod_of_nonneg h]
theorem eB {n:Nat} {p:Pt} (h:p.1 < (0:Int)\/p.1>=(n:Int)\/p.2.1 < (0:Int)\/p.2.1 > (39:Int)\/p.2.2.1 < (-2147483648:Int)\/p.2.2.1 > (2147483647:Int)):bf n p=1:=by
 unfold bf;rw [if_pos]
 rcases h with h | h | h | h | h | h
 ·exact .inl h
 ·exact .inr (.inl h)
 ·exact .inr (.inr (.inl h))
 ·exact .inr (.inr (.inr (.inl h)))
 ·refine .inr (.inr (.inr (.inr ?_)));unfold gM;rw [decide_eq_false (Int.not_le.2 h)];rfl
 ·refine .inr (.inr (.inr (.inr ?_)));unfold gM;rw [decide_eq_false (Int.not_le.2 h),Bool.and_false]
theorem tF {n:Nat} {p:Pt} (h1:(0:Int)<=p.1) (h2:p.1 < (n:Int)) (h3:(0:Int)<=p.2.1) (h4:p.2.1<=(39:Int)) (h5:(-2147483648:Int)<=p.2.2.1) (h6:p.2.2.1<=(2147483647:Int)):bf n p=0:=by
 unfold bf;rw [if_neg]
 rintro (e | e | e | e | e)
 ·exact absurd e (Int.not_lt.2 h1)
 ·exact absurd h2 (Int.not_lt.2 e)
 ·exact absurd e (Int.not_lt.2 h3)
 ·exact absurd e (Int.not_lt.2 h4)
 ·unfold gM at e;rw [decide_eq_true h5,decide_eq_true h6] at e;cases e
theorem bV {e:D af} (h1:(1:Int)<=(e.2.1.length:Int)) (h2:(e.2.1.length:Int)<=6) (h3:(e.2.2.1.length:Int)<=36):¬ fT e:=by
 rintro (k | k | k)
 ·have k:e.2.1.length < 1:=k;omega
 ·have k:e.2.1.length > 6:=k;omega
 ·have k:e.2.2.1.length > 36:=k;omega
end Go.Mrl

namespace Go.Mrl
open Go.Vg
def fI (p:D ae):ai:=[32]++p.1++[32]++Lib.itoa p.2.1++[32]++Lib.itoa p.2.2.1
def fJ (p:D ag):ai:=[32]++Lib.itoa p.1++[32]++Lib.itoa p.2.1++[32]++Lib.itoa p.2.2.1
def nz (e:D af):ai:=e.1++[32]++Lib.itoa (e.2.1.length:Int)++[32]++Lib.itoa (e.2.2.1.length:Int)
def cm (e:D af) (i:Nat):ai:=nz e++(e.2.1.take i).flatMap fI
def b8 (e:D af) (i:Nat):ai:=cm e e.2.1.length++(e.2.2.1.take i).flatMap fJ
def gO (e:D af):ai:=b8 e e.2.2.1.length
def cn (e:D af):ai:=gO e++[10]
def aF (e:D af):ai × bj:=if aN e≠0 then ([],aQ (aN e)) else (cn e, .nil)
theorem tG (e:D af):cm e 0=nz e:=by unfold cm;simp
theorem tH (e:D af):b8 e 0=cm e e.2.1.length:=by unfold b8;simp
theorem tI {e:D af} {i:Nat} (h:i < e.2.1.length):cm e (i + 1)=cm e i++fI (nth ae e.2.1 i):=by
 unfold cm;rw [mm (t:=ae) h];simp
theorem tJ {e:D af} {i:Nat} (h:i < e.2.2.1.length):b8 e (i + 1)=b8 e i++fJ (nth ag e.2.2.1 i):=by
 unfold b8;rw [mm (t:=ag) h];simp
structure cF (e:D af):Prop where
 nm:Nm e.1
 p1:1<=e.2.1.length
 p6:e.2.1.length<=6
 u3:e.2.2.1.length<=36
 parts:∀i,i < e.2.1.length->Nm (nth ae e.2.1 i).1/\dJ 1 1000000 (nth ae e.2.1 i).2.1/\dJ 0 255 (nth ae e.2.1 i).2.2.1
 tK:∀i,i < e.2.2.1.length->dJ 0 5 (nth ag e.2.2.1 i).1/\dJ 0 39 (nth ag e.2.2.1 i).2.1/\dJ (-2147483648) 2147483647 (nth ag e.2.2.1 i).2.2.1
theorem nA {n:Nat} {p:Pt} (h:¬ bf n p=0):bf n p=1:=by
 unfold bf at h ⊢
 split
 ·rfl
 ·rename_i hh;rw [if_neg hh] at h;exact absurd rfl h
theorem eV {e:D af} (h:aN e=0):cF e:=by
 have h0:aj e.1=0:=by
  apply Classical.byContradiction;intro hn
  have:=cU e.1
  rw [lB (by omega)] at h;exact hn h
 have h1:¬ fT e:=by
  intro hm;rw [fB (by omega) hm] at h;cases h
 have h2:∀i,(∀j,j < i->j < e.2.1.length->aY (nth ae e.2.1 j)=0)/\(i < e.2.1.length->aY (nth ae e.2.1 i)=0):=by
  intro i
  induction i with
  | zero=>
   refine ⟨fun j hj=>by omega,fun hi => ?_⟩
   apply Classical.byContradiction;intro hn
   rw [b5 (i:=0) (by omega) h1 (fun j hj=>by omega) hi rfl hn] at h;exact hn h
  | succ i ih=>
   have hs:∀j,j < i + 1->j < e.2.1.length->aY (nth ae e.2.1 j)=0:=fun j hj hl=>by
    rcases Nat.lt_or_ge j i with hh | hh
    ·exact ih.1 j hh hl
    ·obtain rfl:j=i:=by omega
     exact ih.2 hl
   refine ⟨hs,fun hi => ?_⟩
   apply Classical.byContradiction;intro hn
   rw [b5 (i:=i + 1) (by omega) h1 (fun j hj=>hs j hj (by omega)) hi rfl hn] at h;exact hn h
 have h2':∀i,i < e.2.1.length->aY (nth ae e.2.1 i)=0:=fun i=>(h2 i).2
 have h3:∀i,(∀j,j < i->j < e.2.2.1.length->bf e.2.1.length (nth ag e.2.2.1 j)=0)/\(i < e.2.2.1.length->bf e.2.1.length (nth ag e.2.2.1 i)=0):=by
  intro i
  induction i with
  | zero=>
   refine ⟨fun j hj=>by omega,fun hi => ?_⟩
   apply Classical.byContradiction;intro hn
   rw [b6 (i:=0) (by omega) h1 h2' (fun j hj=>by omega) hi (nA hn)] at h;cases h
  | succ i ih=>
   have hs:∀j,j < i + 1->j < e.2.2.1.length->bf e.2.1.length (nth ag e.2.2.1 j)=0:=fun j hj hl=>by
    rcases Nat.lt_or_ge j i with hh | hh
    ·exact ih.1 j hh hl
    ·obtain rfl:j=i:=by omega
     exact ih.2 hl
   refine ⟨hs,fun hi => ?_⟩
   apply Classical.byContradiction;intro hn
   rw [b6 (i:=i + 1) (by omega) h1 h2' (fun j hj=>hs j hj (by omega)) hi (nA hn)] at h;cases h
 have p1:1<=e.2.1.length:=Nat.not_lt.1 fun k=>h1 (.inl k)
 have p6:e.2.1.length<=6:=Nat.not_lt.1 fun k=>h1 (.inr (.inl k))
 refine ⟨wJ h0,p1,p6,Nat.not_lt.1 fun k=>h1 (.inr (.inr k)),fun i hi => ?_,fun i hi => ?_⟩
 ·have k:=h2' i hi
  unfold aY at k
  split at k
  ·rename_i hn;omega
  ·rename_i hn
   split at k
   ·cases k
   ·rename_i hb
    have:=cU (nth ae e.2.1 i).1
    exact ⟨wJ (by omega),⟨Int.not_lt.1 fun k=>hb (.inl k),Int.not_lt.1 fun k=>hb (.inr (.inl k))⟩,⟨Int.not_lt.1 fun k=>hb (.inr (.inr (.inl k))),Int.not_lt.1 fun k=>hb (.inr (.inr (.inr (.inl k))))⟩⟩
 ·have k:=(h3 i).2 hi
  unfold bf at k
  split at k
  ·cases k
  ·rename_i hb
   have hw:gM (nth ag e.2.2.1 i).2.2.1=true:=by
    apply Bool.not_eq_false _ |>.mp
    intro k;exact hb (.inr (.inr (.inr (.inr k))))
   unfold gM at hw
   simp only [Bool.and_eq_true,decide_eq_true_eq] at hw
   have hl:(nth ag e.2.2.1 i).1 < (e.2.1.length:Int):=Int.not_le.1 fun k=>hb (.inr (.inl k))
   exact ⟨⟨Int.not_lt.1 fun k=>hb (.inl k),by omega⟩,⟨Int.not_lt.1 fun k=>hb (.inr (.inr (.inl k))),Int.not_lt.1 fun k=>hb (.inr (.inr (.inr (.inl k))))⟩,hw⟩
theorem tL {p:D ae} (h1:Nm p.1) (h2:dJ 1 1000000 p.2.1) (h3:dJ 0 255 p.2.2.1):(fI p).length<=64:=by
 have a:=h1.2.1;have b:=bt h2 (by decide) (by decide);have c:=bt h3 (by decide) (by decide)
 simp [fI];omega
theorem tM {p:D ag} (h1:dJ 0 5 p.1) (h2:dJ 0 39 p.2.1) (h3:dJ (-2147483648) 2147483647 p.2.2.1):(fJ p).length<=64:=by
 have a:=bt h1 (by decide) (by decide);have b:=bt h2 (by decide) (by decide);have c:=bt h3 (by decide) (by decide)
 simp [fJ];omega
theorem cF.head {e:D af} (h:cF e):(nz e).length<=64:=by
 have a:=h.nm.2.1
 have b:=bt (n:=(e.2.1.length:Int)) (a:=0) (b:=6) ⟨by omega,by have:=h.p6;omega⟩ (by decide) (by decide)
 have c:=bt (n:=(e.2.2.1.length:Int)) (a:=0) (b:=36) ⟨by omega,by have:=h.u3;omega⟩ (by decide) (by decide)
 simp [nz];omega
theorem cF.xW {e:D af} (h:cF e) (i:Nat):(cm e i).length<=448:=by
 have a:=h.head
 have b:=mn (f:=fI) (l:=e.2.1.take i) fun x hx=>by
  obtain ⟨j,hj,rfl⟩:=iA (t:=ae) (List.mem_of_mem_take hx)
  obtain ⟨k1,k2,k3⟩:=h.parts j hj
  exact tL k1 k2 k3
 have c:=h.p6
 have d:(e.2.1.take i).length<=e.2.1.length:=by simp;omega
 unfold cm;rw [List.length_append];omega
theorem cF.wk {e:D af} (h:cF e) (i:Nat):(b8 e i).length<=2752:=by
 have a:=h.xW e.2.1.length
 have b:=mn (f:=fJ) (l:=e.2.2.1.take i) fun x hx=>by
  obtain ⟨j,hj,rfl⟩:=iA (t:=ag) (List.mem_of_mem_take hx)
  obtain ⟨k1,k2,k3⟩:=h.tK j hj
  exact tM k1 k2 k3
 have c:=h.u3
 have d:(e.2.2.1.take i).length<=e.2.2.1.length:=by simp;omega
 unfold b8;rw [List.length_append];omega
theorem cF.lens {e:D af} (h:cF e):e.1.length<=8/\(Lib.itoa (e.2.1.length:Int)).length<=19/\(Lib.itoa (e.2.2.1.length:Int)).length<=19:=
 ⟨h.nm.2.1,bt (a:=0) (b:=6) ⟨by omega,by have:=h.p6;omega⟩ (by decide) (by decide),bt (a:=0) (b:=36) ⟨by omega,by have:=h.u3;omega⟩ (by decide) (by decide)⟩
theorem cF.yg {e:D af} (h:cF e) {i:Nat} (hi:i < e.2.1.length):(nth ae e.2.1 i).1.length<=8/\(Lib.itoa (nth ae e.2.1 i).2.1).length<=19/\(Lib.itoa (nth ae e.2.1 i).2.2.1).length<=19/\(cm e i).length<=448:=by
 obtain ⟨k1,k2,k3⟩:=h.parts i hi
 exact ⟨k1.2.1,bt k2 (by decide) (by decide),bt k3 (by decide) (by decide),h.xW i⟩
theorem cF.yh {e:D af} (h:cF e) {i:Nat} (hi:i < e.2.2.1.length):(Lib.itoa (nth ag e.2.2.1 i).1).length<=19/\(Lib.itoa (nth ag e.2.2.1 i).2.1).length<=19/\(Lib.itoa (nth ag e.2.2.1 i).2.2.1).length<=19/\(b8 e i).length<=2752:=by
 obtain ⟨k1,k2,k3⟩:=h.tK i hi
 exact ⟨bt k1 (by decide) (by decide),bt k2 (by decide) (by decide),bt k3 (by decide) (by decide),h.wk i⟩
theorem tN {e:D af} {i:Nat} (h:i < e.2.1.length):cm e i++fI (nth ae e.2.1 i)=cm e (i + 1):=(tI h).symm
theorem tO {e:D af} {i:Nat} (h:i < e.2.2.1.length):b8 e i++fJ (nth ag e.2.2.1 i)=b8 e (i + 1):=(tJ h).symm
theorem tP {e:D af} (h:aN e≠0):([],aQ (aN e))=aF e:=by unfold aF;rw [if_pos h]
theorem u4 {e:D af} (h:aN e=0) {i:Nat} (hi:i=e.2.2.1.length):(b8 e i++[10],bj.nil)=aF e:=by unfold aF;rw [if_neg (not_not_intro h),hi];rfl
def jH (L:List ai):ai:=L.flatMap fun x=>32 :: x
theorem oe (L M:List ai):jH (L++M)=jH L++jH M:=by simp [jH]
theorem qM:∀(a:ai) (L:List ai),fA 32 (a :: L)=a++jH L
 | a,[]=>by simp [fA,jH]
 | a,b :: r=>by rw [fA,qM b r];simp [jH]
def iF (p:D ae):List ai:=[p.1,Lib.itoa p.2.1,Lib.itoa p.2.2.1]
def iG (p:D ag):List ai:=[Lib.itoa p.1,Lib.itoa p.2.1,Lib.itoa p.2.2.1]
def cE (e:D af):List ai:=e.1 :: ([Lib.itoa (e.2.1.length:Int),Lib.itoa (e.2.2.1.length:Int)]++(e.2.1.flatMap iF++e.2.2.1.flatMap iG))
theorem mq {α:Type} {f:α->List ai} {g:α->ai} (h:∀x,jH (f x)=g x):∀l:List α,jH (l.flatMap f)=l.flatMap g
 | []=>rfl
 | x :: l=>by rw [List.flatMap_cons,oe,h,mq h l,List.flatMap_cons]
theorem lC (e:D af):gO e=fA 32 (cE e):=by
 unfold cE
 rw [qM,oe,oe,mq (g:=fI) (by intro x;simp [iF,fI,jH]),mq (g:=fJ) (by intro x;simp [iG,fJ,jH])]
 unfold gO b8 cm nz
 simp [jH]
theorem lD {e:D af} (h:cF e):∀y∈cE e,(32:UInt8)∉y/\(10:UInt8)∉y:=by
 intro y hy
 unfold cE at hy
 rcases List.mem_cons.1 hy with rfl | hy
 ·exact sL h.nm
 ·rcases List.mem_append.1 hy with hy | hy
  ·simp at hy
   rcases hy with rfl | rfl <;> exact ⟨jt _,ju _⟩
  ·rcases List.mem_append.1 hy with hy | hy
   ·obtain ⟨p,hp,hy⟩:=List.mem_flatMap.1 hy
    obtain ⟨j,hj,rfl⟩:=iA (t:=ae) hp
    simp [iF] at hy
    rcases hy with rfl | rfl | rfl
    ·exact sL (h.parts j hj).1
    ·exact ⟨jt _,ju _⟩
    ·exact ⟨jt _,ju _⟩
   ·obtain ⟨p,hp,hy⟩:=List.mem_flatMap.1 hy
    simp [iG] at hy
    rcases hy with rfl | rfl | rfl <;> exact ⟨jt _,ju _⟩
theorem nB {c:UInt8} (hc:c≠32):∀{L:List ai},(∀y∈L,c∉y)->c∉fA 32 L
 | [],_=>by simp [fA]
 | [x],h=>h x (by simp)
 | x :: y :: r,h=>by
  rw [fA]
  intro hm
  rcases List.mem_append.1 hm with hm | hm
  ·exact h x (by simp) hm
  ·rcases List.mem_cons.1 hm with e | hm
   ·exact hc e
   ·exact nB hc (fun z hz=>h z (by simp [hz])) hm
theorem tQ {e:D af} (h:cF e):(10:UInt8)∉gO e:=by
 rw [lC];exact nB (by decide) fun y hy=>(lD h y hy).2
theorem rQ {e:D af} (h:cF e):parts 32 (gO e)=cE e:=by
 rw [lC];exact lz (by unfold cE;simp) fun y hy=>(lD h y hy).1
theorem hE {e:D af} (h:cF e):parts 32 (Lib.trimSuffix (cn e) [10])=cE e:=by
 unfold cn;rw [oa,rQ h]
theorem kH {α:Type} {f:α->List ai} (hf:∀x,(f x).length=3):∀l:List α,(l.flatMap f).length=3 * l.length
 | []=>rfl
 | x :: l=>by rw [List.flatMap_cons,List.length_append,hf,kH hf l,List.length_cons];omega
theorem kI {α:Type} [Inhabited α] {f:α->List ai} (hf:∀x,(f x).length=3):∀(l:List α) (i k:Nat),i < l.length->k < 3->nth .str (l.flatMap f) (3 * i + k)=nth .str (f (l.getD i default)) k
 | [],i,k,h,_=>by simp at h
 | x :: l,0,k,_,hk=>by
  rw [List.flatMap_cons,oZ (t:=.str) (by rw [hf];omega)];simp
 | x :: l,i + 1,k,h,hk=>by
  rw [List.flatMap_cons,js,if_neg (by rw [hf];omega),hf,show 3 * (i + 1) + k - 3=3 * i + k by omega,kI hf l i k (by simpa using h) hk]
  simp
structure cY (w:List ai) (e:D af):Prop where
 len:w.length=3 + 3 * (e.2.1.length + e.2.2.1.length)
 root:nth .str w 0=e.1
 a:nth .str w 1=Lib.itoa (e.2.1.length:Int)
 b:nth .str w 2=Lib.itoa (e.2.2.1.length:Int)
 p0:∀i,i < e.2.1.length->nth .str w (3 + 3 * i)=(nth ae e.2.1 i).1
 p1:∀i,i < e.2.1.length->nth .str w (4 + 3 * i)=Lib.itoa (nth ae e.2.1 i).2.1
 p2:∀i,i < e.2.1.length->nth .str w (5 + 3 * i)=Lib.itoa (nth ae e.2.1 i).2.2.1
 q0:∀i,i < e.2.2.1.length->nth .str w (3 + 3 * (e.2.1.length + i))=Lib.itoa (nth ag e.2.2.1 i).1
 q1:∀i,i < e.2.2.1.length->nth .str w (4 + 3 * (e.2.1.length + i))=Lib.itoa (nth ag e.2.2.1 i).2.1
 q2:∀i,i < e.2.2.1.length->nth .str w (5 + 3 * (e.2.1.length + i))=Lib.itoa (nth ag e.2.2.1 i).2.2.1
theorem lE {t:Ty} {l:List (D t)} {i:Nat} (d:D t) (h:i < l.length):nth t l i=l.getD i d:=by
 unfold nth;rw [List.getD_eq_getElem?_getD,List.getD_eq_getElem?_getD,List.getElem?_eq_getElem h];rfl
theorem qN (e:D af):cY (cE e) e:=by
 have hs:∀x,(iF x).length=3:=fun _=>rfl
 have hp:∀x,(iG x).length=3:=fun _=>rfl
 have ls:=kH hs e.2.1
 have lp:=kH hp e.2.2.1
 have at3:∀k,nth .str (cE e) (3 + k)=nth .str (e.2.1.flatMap iF++e.2.2.1.flatMap iG) k:=fun k=>by
  rw [show 3 + k=k + 1 + 1 + 1 by omega];rfl
 letI:Inhabited (D ae):=⟨a7 ae⟩
 letI:Inhabited (D ag):=⟨a7 ag⟩
 have hP:∀i k,i < e.2.1.length->k < 3->nth .str (cE e) (3 + (3 * i + k))=nth .str (iF (nth ae e.2.1 i)) k:=fun i k hi hk=>by
  rw [at3,oZ (t:=.str) (by omega),kI hs _ i k hi hk,lE default hi]
 have hQ:∀i k,i < e.2.2.1.length->k < 3->nth .str (cE e) (3 + (3 * (e.2.1.length + i) + k))=nth .str (iG (nth ag e.2.2.1 i)) k:=fun i k hi hk=>by
  rw [at3,js,if_neg (by omega),ls,show 3 * (e.2.1.length + i) + k - 3 * e.2.1.length=3 * i + k by omega,kI hp _ i k hi hk,lE default hi]
 refine ⟨?_,rfl,rfl,rfl,fun i hi => ?_,fun i hi => ?_,fun i hi => ?_,fun i hi => ?_,fun i hi => ?_,fun i hi => ?_⟩
 ·unfold cE;simp only [List.length_cons,List.length_append,List.length_nil,ls,lp];omega
 ·exact hP i 0 hi (by omega)
 ·rw [show 4 + 3 * i=3 + (3 * i + 1) by omega];exact hP i 1 hi (by omega)
 ·rw [show 5 + 3 * i=3 + (3 * i + 2) by omega];exact hP i 2 hi (by omega)
 ·exact hQ i 0 hi (by omega)
 ·rw [show 4 + 3 * (e.2.1.length + i)=3 + (3 * (e.2.1.length + i) + 1) by omega];exact hQ i 1 hi (by omega)
 ·rw [show 5 + 3 * (e.2.1.length + i)=3 + (3 * (e.2.1.length + i) + 2) by omega];exact hQ i 2 hi (by omega)
end Go.Mrl

namespace Go.Mrl
open Go.Vg
def partAt (A:ai->Int) (w:List ai) (i:Nat):D ae:=(nth .str w (3 + 3 * i),A (nth .str w (4 + 3 * i)),A (nth .str w (5 + 3 * i)),())
def iH (A:ai->Int) (w:List ai) (i:Nat):D ag:=(A (nth .str w (3 + 3 * i)),A (nth .str w (4 + 3 * i)),A (nth .str w (5 + 3 * i)),())
def aO (A:ai->Int) (w:List ai) (n:Nat):List (D ae):=(List.range n).map (partAt A w)
def aB (A:ai->Int) (w:List ai) (a n:Nat):List (D ag):=(List.range n).map fun i=>iH A w (a + i)
theorem lF (A:ai->Int) (w:List ai) (n:Nat):(aO A w n).length=n:=by simp [aO]
theorem jI (A:ai->Int) (w:List ai) (a n:Nat):(aB A w a n).length=n:=by simp [aB]
theorem rR {A:ai->Int} {w:List ai} {n i:Nat} (h:i < n):nth ae (aO A w n) i=partAt A w i:=by
 unfold nth aO;rw [List.getD_eq_getElem?_getD,List.getElem?_map,List.getElem?_range h];rfl
theorem po {A:ai->Int} {w:List ai} {a n i:Nat} (h:i < n):nth ag (aB A w a n) i=iH A w (a + i):=by
 unfold nth aB;rw [List.getD_eq_getElem?_getD,List.getElem?_map,List.getElem?_range h];rfl
theorem qO (A:ai->Int) (w:List ai) (n:Nat):aO A w (n + 1)=aO A w n++[partAt A w n]:=by simp [aO,List.range_succ]
theorem og (A:ai->Int) (w:List ai) (a n:Nat):aB A w a (n + 1)=aB A w a n++[iH A w (a + n)]:=by simp [aB,List.range_succ]
def wK (A:ai->Int):Prop:=∀n:Int,dJ (-2147483648) 2147483647 n->A (Lib.itoa n)=n
theorem bE {a b n:Int} (h:dJ a b n) (ha : -2147483648<=a) (hb:b<=2147483647):dJ (-2147483648) 2147483647 n:=⟨Int.le_trans ha h.1,Int.le_trans h.2 hb⟩
theorem cF.na {e:D af} (h:cF e):dJ 0 6 (e.2.1.length:Int):=⟨by omega,by have:=h.p6;omega⟩
theorem cF.nb {e:D af} (h:cF e):dJ 0 36 (e.2.2.1.length:Int):=⟨by omega,by have:=h.u3;omega⟩
theorem cY.eq {A:ai->Int} (hA:wK A) {w:List ai} {e:D af} (r:cY w e) (h:cF e):e=(nth .str w 0,aO A w e.2.1.length,aB A w e.2.1.length e.2.2.1.length,()):=by
 obtain ⟨s,p,q,_⟩:=e
 have e1:p=aO A w p.length:=gu (t:=ae) (by rw [lF]) fun i hi=>by
  rw [rR hi]
  obtain ⟨k1,k2,k3⟩:=h.parts i hi
  unfold partAt
  rw [r.p0 i hi,r.p1 i hi,r.p2 i hi,hA _ (bE k2 (by decide) (by decide)),hA _ (bE k3 (by decide) (by decide))]
 have e2:q=aB A w p.length q.length:=gu (t:=ag) (by rw [jI]) fun i hi=>by
  rw [po hi]
  obtain ⟨k1,k2,k3⟩:=h.tK i hi
  unfold iH
  rw [r.q0 i hi,r.q1 i hi,r.q2 i hi,hA _ (bE k1 (by decide) (by decide)),hA _ (bE k2 (by decide) (by decide)),hA _ k3]
 have e0:nth .str w 0=s:=r.root
 rw [e0]
 exact congrArg (fun z=>(s,z)) (show (p,q,())=(aO A w p.length,aB A w p.length q.length,()) by rw [<-e1,<-e2])
def aG (s:ai):Int:=(ck s).1
theorem bP:wK aG:=fun n h=>by
 have:=sM h (by decide) (by decide)
 exact uY this
theorem u5 {e e':D af} (h:aN e=0) (h':aN e'=0) (ht:cn e=cn e'):e=e':=by
 have k:=eV h
 have k':=eV h'
 have hw:cE e=cE e':=by rw [<-hE k,<-hE k',ht]
 have r:=qN e
 have r':=qN e'
 rw [hw] at r
 have ha:(e.2.1.length:Int)=(e'.2.1.length:Int):=by
  rw [<-bP _ (bE k.na (by decide) (by decide)),<-bP _ (bE k'.na (by decide) (by decide)),<-r.a,<-r'.a]
 have hb:(e.2.2.1.length:Int)=(e'.2.2.1.length:Int):=by
  rw [<-bP _ (bE k.nb (by decide) (by decide)),<-bP _ (bE k'.nb (by decide) (by decide)),<-r.b,<-r'.b]
 refine (r.eq bP k).trans (Eq.trans ?_ (r'.eq bP k').symm)
 rw [Int.ofNat_inj.1 ha,Int.ofNat_inj.1 hb]
open Classical in
noncomputable def jv (s:ai):D af × Int:=if h:∃e:D af,aN e=0/\cn e=s then (Classical.choose h,0) else (a7 af,4)
theorem xe {s:ai} {e:D af} (hf:aN e=0) (ht:cn e=s):jv s=(e,0):=by
 have hx:∃e:D af,aN e=0/\cn e=s:=⟨e,hf,ht⟩
 have hc:=Classical.choose_spec hx
 unfold jv
 rw [dif_pos hx,u5 hc.1 hf (hc.2.trans ht.symm)]
theorem wm {s:ai} (hn:∀e:D af,aN e=0->cn e=s->False):jv s=(a7 af,4):=by
 unfold jv
 rw [dif_neg fun ⟨e,h1,h2⟩=>hn e h1 h2]
noncomputable def cu (s:ai):D af × bj:=((jv s).1,aQ (jv s).2)
theorem eW {s:ai} (hn:∀e:D af,aN e=0->cn e=s->False):(a7 af,bj.no 4)=cu s:=by unfold cu;rw [wm hn];rfl
theorem o0 {s:ai} {e:D af} (h:(aF e).2.isNil=true) (ht:(aF e).1=s):(e,bj.nil)=cu s:=by
 have hf:aN e=0:=by
  apply Classical.byContradiction;intro hf
  unfold aF at h;rw [if_pos hf] at h
  exact hf (cp.1 h)
 unfold aF at ht;rw [if_neg (not_not_intro hf)] at ht
 unfold cu;rw [xe hf ht];rfl
def cV (l:List ai):List Int:=l.map aG
def jw (l:List ai):Bool:=l.all fun s=>(bD s).isSome
def av (l:List ai):List Int × Bool:=if jw l=true then (cV l,true) else ([],false)
theorem wo {l:List ai} {i:Nat} (hi:i < l.length) (h:bD (nth .str l i)=none):jw l=false:=by
 unfold jw
 rw [List.all_eq_false]
 exact ⟨nth .str l i,n9 (t:=.str) hi,by rw [h];decide⟩
theorem lG {l:List ai} {i:Nat} (hi:i < l.length) (h:(bD (nth .str l i)).isNone=true):([],false)=av l:=by
 unfold av;rw [wo hi (Option.isNone_iff_eq_none.1 h)];rfl
theorem jx {l:List ai} (h:∀j,j < l.length->(bD (nth .str l j)).isNone=false):jw l=true:=by
 unfold jw
 rw [List.all_eq_true]
 intro s hs
 obtain ⟨j,hj,rfl⟩:=iA (t:=.str) hs
 have:=h j hj
 cases hh:bD (nth .str l j) with
 | none=>rw [hh] at this;cases this
 | some n=>rfl
theorem tR {l:List ai} {i:Nat} (hi:¬ i < l.length) (h:∀j,j < i->j < l.length->(bD (nth .str l j)).isNone=false):(cV (l.take i),true)=av l:=by
 unfold av;rw [jx fun j hj=>h j (by omega) hj,if_pos rfl,List.take_of_length_le (by omega)]
theorem nC {l:List ai} {i:Nat} (h:i < l.length):cV (l.take (i + 1))=cV (l.take i)++[(ck (nth .str l i)).1]:=by
 rw [mm (t:=.str) h];simp [cV,aG]
theorem dx {l:List ai}:(av l).2=jw l:=by
 unfold av;split
 ·rename_i h;rw [h]
 ·rename_i h;rw [Bool.not_eq_true _ |>.mp h]
theorem lH {l:List ai} (h:(av l).2=true) {i:Nat} (hi:i < l.length):nth (.int .i64) (av l).1 i=aG (nth .str l i)/\(bD (nth .str l i)).isNone=false:=by
 have hk:=h
 rw [dx] at hk
 constructor
 ·unfold av;rw [if_pos hk]
  unfold nth cV;rw [List.getD_eq_getElem?_getD,List.getD_eq_getElem?_getD,List.getElem?_map,List.getElem?_eq_getElem hi];rfl
 ·unfold jw at hk
  rw [List.all_eq_true] at hk
  have:=hk _ (n9 (t:=.str) hi)
  cases hh:bD (nth .str l i) with
  | none=>rw [hh] at this;cases this
  | some n=>rfl
theorem rS {l:List ai} (h:(av l).2=true):(av l).1.length=l.length:=by
 rw [dx] at h
 unfold av;rw [if_pos h];simp [cV]
end Go.Mrl

namespace Go.Mrl
open Go.Vg
structure fk (w:List ai):Prop where
 ka:(bD (nth .str w 1)).isNone=false
 kb:(bD (nth .str w 2)).isNone=false
 a0:(0:Int)<=aG (nth .str w 1)
 a6:aG (nth .str w 1)<=(6:Int)
 b0:(0:Int)<=aG (nth .str w 2)
 bg:aG (nth .str w 2)<=(36:Int)
 len:(w.length:Int)=3 + 3 * (aG (nth .str w 1) + aG (nth .str w 2))
theorem nD {t:Ty} {l:List (D t)} {i j k:Nat} (h:i + k < j):nth t (List.drop i (List.take j l)) k=nth t l (i + k):=by
 unfold nth;rw [List.getD_eq_getElem?_getD,List.getD_eq_getElem?_getD,List.getElem?_drop,List.getElem?_take,if_pos h]
theorem qP {α:Type} {l:List α} {i j:Nat} (h:j<=l.length):(List.drop i (List.take j l)).length=j - i:=by simp;omega
theorem u6 (s:ai) (c:UInt8) (h:s.length<=100000):(parts c (Lib.trimSuffix s [10])).length<=100001:=by
 have a:=kD c (Lib.trimSuffix s [10]);have b:=od s [10];omega
theorem fK {l:List ai} {n:Nat} (h:∀y∈l,y.length<=n) (i:Nat):(nth .str l i).length<=n:=by
 by_cases hi:i < l.length
 ·exact h _ (n9 (t:=.str) hi)
 ·unfold nth;rw [List.getD_eq_getElem?_getD,List.getElem?_eq_none (by omega)];exact Nat.zero_le _
theorem hH {s:ai} {c:UInt8} (h:s.length<=100000):∀y∈parts c (Lib.trimSuffix s [10]),y.length<=1000000:=fun y hy=>by
 have a:=gq c _ y hy;have b:=od s [10];omega
theorem qQ {l:List ai} {n:Nat} (h:∀y∈l,y.length<=n) (i j:Nat):∀y∈List.drop i (List.take j l),y.length<=n:=fun y hy=>h y (List.mem_of_mem_take (List.mem_of_mem_drop hy))
theorem xf {s:ai} {c:UInt8} (h:s.length<=100000) (i j:Nat):(List.drop i (List.take j (parts c (Lib.trimSuffix s [10])))).length<=1000000/\∀k,(nth .str (List.drop i (List.take j (parts c (Lib.trimSuffix s [10])))) k).length<=1000000:=
 ⟨by have:=u6 s c h;simp;omega,fK (qQ (hH h) i j)⟩
theorem xg {w:List ai} (h:3<=w.length) (hk:(av (List.drop 1 (List.take 3 w))).2=true) :
  (av (List.drop 1 (List.take 3 w))).1 = [aG (nth .str w 1),aG (nth .str w 2)]/\(bD (nth .str w 1)).isNone=false/\(bD (nth .str w 2)).isNone=false:=by
 have hl:(List.drop 1 (List.take 3 w)).length=2:=qP h
 obtain ⟨a1,a2⟩:=lH hk (i:=0) (by omega)
 obtain ⟨b1,b2⟩:=lH hk (i:=1) (by omega)
 have hn:=rS hk
 rw [nD (t:=.str) (by omega)] at a1 a2 b1 b2
 refine ⟨gu (t:=.int .i64) (by rw [hn,hl];rfl) fun i hi => ?_,a2,b2⟩
 rw [hn,hl] at hi
 rcases (show i=0\/i=1 by omega) with rfl | rfl
 ·rw [a1];rfl
 ·rw [b1];rfl
theorem rT {w:List ai} (h:3<=w.length) (hk:(av (List.drop 1 (List.take 3 w))).2=false):¬ fk w:=by
 intro hd
 have hl:(List.drop 1 (List.take 3 w)).length=2:=qP h
 rw [dx,jx fun j hj => ?_] at hk
 ·cases hk
 ·rw [hl] at hj
  rcases (show j=0\/j=1 by omega) with rfl | rfl
  ·rw [nD (t:=.str) (by omega)];exact hd.ka
  ·rw [nD (t:=.str) (by omega)];exact hd.kb
theorem qR {w:List ai} (h:¬ fk w):(true=false ↔ fk w):=⟨fun e=>Bool.noConfusion e,fun e=>absurd e h⟩
theorem xX {w:List ai} (ka:(bD (nth .str w 1)).isNone=false) (kb:(bD (nth .str w 2)).isNone=false) {a b x:Int} (ha:a=aG (nth .str w 1)) (hb:b=aG (nth .str w 2))
  (a0:0<=a) (a6:a<=6) (b0:0<=b) (bg:b<=36) (hx:x=3 * (a + b)):(((w.length:Int) != 3 + x)=false ↔ fk w):=by
 subst ha;subst hb;subst hx
 constructor
 ·intro h;exact ⟨ka,kb,a0,a6,b0,bg,by simpa using h⟩
 ·intro h;simpa using h.len
theorem fl {s:ai} {e:D af} (hf:aN e=0) (ht:cn e=s):cY (parts 32 (Lib.trimSuffix s [10])) e/\cF e:=by
 have k:=eV hf
 rw [<-ht,hE k];exact ⟨qN e,k⟩
theorem cY.na {A:ai->Int} (hA:wK A) {w:List ai} {e:D af} (r:cY w e) (k:cF e):A (nth .str w 1)=(e.2.1.length:Int):=by rw [r.a,hA _ (bE k.na (by decide) (by decide))]
theorem cY.nb {A:ai->Int} (hA:wK A) {w:List ai} {e:D af} (r:cY w e) (k:cF e):A (nth .str w 2)=(e.2.2.1.length:Int):=by rw [r.b,hA _ (bE k.nb (by decide) (by decide))]
theorem dy {n:Int} (h:dJ (-2147483648) 2147483647 n):(bD (Lib.itoa n)).isNone=false:=by rw [sM h (by decide) (by decide)];rfl
theorem cY.hd {w:List ai} {e:D af} (r:cY w e) (k:cF e):fk w:=by
 have a:=r.na bP k;have b:=r.nb bP k
 have c:=k.p6;have d:=k.u3;have l:=r.len
 refine ⟨by rw [r.a];exact dy (bE k.na (by decide) (by decide)),by rw [r.b];exact dy (bE k.nb (by decide) (by decide)),?_,?_,?_,?_,?_⟩ <;> (try rw [a]) <;> (try rw [b]) <;> omega
section
variable {s:ai}
theorem qS (h:(parts 32 (Lib.trimSuffix s [10])).length < 3):(a7 af,bj.no 4)=cu s:=eW fun e hf ht=>by
 have:=(fl hf ht).1.len;omega
theorem rU (h:¬ fk (parts 32 (Lib.trimSuffix s [10]))):(a7 af,bj.no 4)=cu s:=eW fun e hf ht=>h ((fl hf ht).1.hd (fl hf ht).2)
theorem wq {w:List ai} {e:D af} (r:cY w e) (k:cF e) {i:Nat} (hi:i < e.2.1.length):(bD (nth .str w (4 + 3 * i))).isNone=false/\(bD (nth .str w (5 + 3 * i))).isNone=false:=by
 obtain ⟨_,k2,k3⟩:=k.parts i hi
 rw [r.p1 i hi,r.p2 i hi]
 exact ⟨dy (bE k2 (by decide) (by decide)),dy (bE k3 (by decide) (by decide))⟩
theorem u7 {w:List ai} {e:D af} (r:cY w e) (k:cF e) {i:Nat} (hi:e.2.1.length<=i) (hi2:i < e.2.1.length + e.2.2.1.length) :
  (bD (nth .str w (3 + 3 * i))).isNone=false/\(bD (nth .str w (4 + 3 * i))).isNone=false/\(bD (nth .str w (5 + 3 * i))).isNone=false:=by
 obtain ⟨j,rfl⟩:∃j,i=e.2.1.length + j:=⟨i - e.2.1.length,by omega⟩
 obtain ⟨k1,k2,k3⟩:=k.tK j (by omega)
 rw [r.q0 j (by omega),r.q1 j (by omega),r.q2 j (by omega)]
 exact ⟨dy (bE k1 (by decide) (by decide)),dy (bE k2 (by decide) (by decide)),dy k3⟩
structure cI (w x:List ai) (i:Nat):Prop where
 len:x.length=3
 a:nth .str x 0=nth .str w (3 + 3 * i)
 b:nth .str x 1=nth .str w (4 + 3 * i)
 c:nth .str x 2=nth .str w (5 + 3 * i)
theorem u9 {w:List ai} {i:Nat} {p q:Int} (hp:p=3 * (i:Int)) (hq:q=3 * (i:Int)) (h:3 + 3 * (i + 1)<=w.length):cI w (List.drop (Int.toNat (3 + p)) (List.take (Int.toNat (6 + q)) w)) i:=by
 subst hp;subst hq
 rw [show Int.toNat (3 + 3 * (i:Int))=3 + 3 * i by omega,show Int.toNat (6 + 3 * (i:Int))=6 + 3 * i by omega]
 refine ⟨by rw [qP (by omega)];omega,?_,?_,?_⟩ <;> rw [nD (t:=.str) (by omega)] <;> congr 1 <;> omega
theorem lI {n:Nat} {w x:List ai} {i:Nat} (h:cI w x i) (hw:∀y∈w,y.length<=n) (k:Nat):(nth .str x k).length<=n:=by
 rcases Nat.lt_or_ge k 3 with hk | hk
 ·rcases (show k=0\/k=1\/k=2 by omega) with rfl | rfl | rfl
  ·rw [h.a];exact fK hw _
  ·rw [h.b];exact fK hw _
  ·rw [h.c];exact fK hw _
 ·unfold nth;rw [List.getD_eq_getElem?_getD,List.getElem?_eq_none (by rw [h.len];omega)];exact Nat.zero_le _
theorem nE {w x:List ai} {i:Nat} (h:cI w x i):List.drop 1 (List.take (List.length x) x) = [nth .str w (4 + 3 * i),nth .str w (5 + 3 * i)]:=by
 match x,h with
 | [p,q,r],h=>rw [<-h.b,<-h.c];rfl
theorem qT {w x:List ai} {i:Nat} (h:cI w x i):x = [nth .str w (3 + 3 * i),nth .str w (4 + 3 * i),nth .str w (5 + 3 * i)]:=by
 match x,h with
 | [p,q,r],h=>rw [<-h.a,<-h.b,<-h.c];rfl
theorem o1 {w x:List ai} {i:Nat} (h:cI w x i) (hk:(av (List.drop 1 (List.take (List.length x) x))).2=true) :
  (av (List.drop 1 (List.take (List.length x) x))).1 = [aG (nth .str w (4 + 3 * i)),aG (nth .str w (5 + 3 * i))]:=by
 rw [dx] at hk
 unfold av;rw [if_pos hk,nE h];rfl
theorem qU {w x:List ai} {i:Nat} (h:cI w x i) (hk:(av x).2=true):(av x).1 = [aG (nth .str w (3 + 3 * i)),aG (nth .str w (4 + 3 * i)),aG (nth .str w (5 + 3 * i))]:=by
 rw [dx] at hk
 unfold av;rw [if_pos hk];conv=>lhs;rw [qT h]
 rfl
theorem rV {x:List ai} {i:Nat} (h:cI (parts 32 (Lib.trimSuffix s [10])) x i) (hi:(i:Int) < aG (nth .str (parts 32 (Lib.trimSuffix s [10])) 1)) (hk:(av (List.drop 1 (List.take (List.length x) x))).2=false):(a7 af,bj.no 4)=cu s:=
 eW fun e hf ht=>by
  obtain ⟨r,k⟩:=fl hf ht
  rw [r.na bP k] at hi
  obtain ⟨a,b⟩:=wq r k (i:=i) (by omega)
  rw [dx,nE h,jx fun j hj => ?_] at hk
  ·cases hk
  ·rcases (show j=0\/j=1 by simp at hj;omega) with rfl | rfl
   ·exact a
   ·exact b
theorem qV {x:List ai} {i:Nat} (h:cI (parts 32 (Lib.trimSuffix s [10])) x i) (hi:aG (nth .str (parts 32 (Lib.trimSuffix s [10])) 1)<=(i:Int)) (hi2:(i:Int) < aG (nth .str (parts 32 (Lib.trimSuffix s [10])) 1) + aG (nth .str (parts 32 (Lib.trimSuffix s [10])) 2)) (hk:(av x).2=false):(a7 af,bj.no 4)=cu s:=
 eW fun e hf ht=>by
  obtain ⟨r,k⟩:=fl hf ht
  rw [r.na bP k] at hi hi2
  rw [r.nb bP k] at hi2
  obtain ⟨a,b,c⟩:=u7 r k (i:=i) (by omega) (by omega)
  rw [qT h] at hk
  rw [dx,jx fun j hj => ?_] at hk
  ·cases hk
  ·rcases (show j=0\/j=1\/j=2 by simp at hj;omega) with rfl | rfl | rfl
   ·exact a
   ·exact b
   ·exact c
def pI (A:ai->Int) (w:List ai) (a b:Nat):D af:=(nth .str w 0,aO A w a,aB A w a b,())
theorem lJ {a b:Nat} (ha:aG (nth .str (parts 32 (Lib.trimSuffix s [10])) 1)=(a:Int)) (hb:aG (nth .str (parts 32 (Lib.trimSuffix s [10])) 2)=(b:Int))
  (h:(aF (pI aG (parts 32 (Lib.trimSuffix s [10])) a b)).2.isNil=false\/¬ (aF (pI aG (parts 32 (Lib.trimSuffix s [10])) a b)).1=s):(a7 af,bj.no 4)=cu s:=
 eW fun e hf ht=>by
  obtain ⟨r,k⟩:=fl hf ht
  rw [r.na bP k] at ha
  rw [r.nb bP k] at hb
  have he:pI aG (parts 32 (Lib.trimSuffix s [10])) a b=e:=by
   rw [<-Int.ofNat_inj.1 ha,<-Int.ofNat_inj.1 hb];exact (r.eq bP k).symm
  rw [he] at h
  unfold aF at h;rw [if_neg (not_not_intro hf)] at h
  rcases h with h | h
  ·cases h
  ·exact h ht
end
def fP (w:List ai) (y:List Int × Bool):Prop:=(y.2=true->y.1 = [aG (nth .str w 1),aG (nth .str w 2)]/\(bD (nth .str w 1)).isNone=false/\(bD (nth .str w 2)).isNone=false)/\(y.2=false->¬ fk w)
theorem xh {w:List ai} (h:3<=w.length):fP w (av (List.drop 1 (List.take 3 w))):=⟨fun hk=>xg h hk,fun hk=>rT h hk⟩
theorem fP.ok {w:List ai} {y:List Int × Bool} (h:fP w y) (hd:fk w):y.2=true:=by
 cases hy:y.2 with
 | true=>rfl
 | false=>exact absurd hd (h.2 hy)
theorem fP.get {w:List ai} {y:List Int × Bool} (h:fP w y) (hd:fk w):y.1 = [aG (nth .str w 1),aG (nth .str w 2)]:=(h.1 (h.ok hd)).1
theorem fP.l0 {w:List ai} {y:List Int × Bool} (h:fP w y) (hy:y.2=true):@Eq Int (nth (.int .i64) y.1 0) (aG (nth .str w 1)):=by rw [(h.1 hy).1];rfl
theorem fP.l1 {w:List ai} {y:List Int × Bool} (h:fP w y) (hy:y.2=true):@Eq Int (nth (.int .i64) y.1 1) (aG (nth .str w 2)):=by rw [(h.1 hy).1];rfl
theorem fP.k0 {w:List ai} {y:List Int × Bool} (h:fP w y) (hd:fk w):@Eq Int (nth (.int .i64) y.1 0) (aG (nth .str w 1)):=h.l0 (h.ok hd)
theorem fP.k1 {w:List ai} {y:List Int × Bool} (h:fP w y) (hd:fk w):@Eq Int (nth (.int .i64) y.1 1) (aG (nth .str w 2)):=h.l1 (h.ok hd)
theorem va {w x:List ai} {i:Nat} (h:cI w x i) (hw:∀y∈w,y.length<=1000000):x.length<=1000000/\∀k,(nth .str x k).length<=1000000:=⟨by rw [h.len];decide,lI h hw⟩
theorem vb {w x:List ai} {i:Nat} (h:cI w x i) {n:Nat} (hw:∀y∈w,y.length<=n):∀y∈x,y.length<=n:=fun y hy=>by
 obtain ⟨k,hk,rfl⟩:=iA (t:=.str) hy
 exact lI h hw k
theorem tS {w x:List ai} {i:Nat} (h:cI w x i) (hw:∀y∈w,y.length<=1000000):(List.drop 1 (List.take (List.length x) x)).length<=1000000/\∀k,(nth .str (List.drop 1 (List.take (List.length x) x)) k).length<=1000000:=
 ⟨by have:=h.len;simp;omega,fK (qQ (vb h hw) _ _)⟩
theorem ve (A:ai->Int) (w:List ai) (k:Nat):([]:List (D ae))=aO A w (Nat.min 0 k):=by rw [show Nat.min 0 k=0 from Nat.zero_min k];rfl
theorem wL (A:ai->Int) (w:List ai) (k:Nat):([]:List (D ag))=aB A w k (0 - k):=by rw [Nat.zero_sub];rfl
theorem vf {i k:Nat} (h:i < k):Nat.min i k=i/\Nat.min (i + 1) k=i + 1:=⟨Nat.min_eq_left (by omega),Nat.min_eq_left h⟩
theorem qW {i k:Nat} (h:k<=i):Nat.min i k=k/\Nat.min (i + 1) k=k:=⟨Nat.min_eq_right h,Nat.min_eq_right (by omega)⟩
theorem o3 {w x:List ai} {i k:Nat} (h:cI w x i) (hk:(av (List.drop 1 (List.take (List.length x) x))).2=true) (hi:i < k) :
  aO aG w (Nat.min i k)++[(nth .str x 0,nth (.int .i64) (av (List.drop 1 (List.take (List.length x) x))).1 0,nth (.int .i64) (av (List.drop 1 (List.take (List.length x) x))).1 1,())]=aO aG w (Nat.min (i + 1) k):=by
 rw [(vf hi).1,(vf hi).2,qO,o1 h hk,h.a];rfl
theorem o4 {A:ai->Int} {w:List ai} {i k:Nat} (hi:i < k):aB A w k (i - k)=aB A w k (i + 1 - k):=by congr 1;omega
theorem nF {A:ai->Int} {w:List ai} {i k:Nat} (hi:k<=i):aO A w (Nat.min i k)=aO A w (Nat.min (i + 1) k):=by rw [(qW hi).1,(qW hi).2]
theorem qX {w x:List ai} {i k:Nat} (h:cI w x i) (hk:(av x).2=true) (hi:k<=i) :
  aB aG w k (i - k)++[(nth (.int .i64) (av x).1 0,nth (.int .i64) (av x).1 1,nth (.int .i64) (av x).1 2,())]=aB aG w k (i + 1 - k):=by
 rw [show i + 1 - k=(i - k) + 1 by omega,og,qU h hk]
 unfold iH
 rw [show k + (i - k)=i by omega];rfl
theorem qY {A:ai->Int} {w:List ai} {i a b:Nat} (h:i=a + b):(((nth .str w 0,aO A w (Nat.min i a),aB A w a (i - a),())):D af)=pI A w a b:=by
 rw [(qW (i:=i) (k:=a) (by omega)).1,show i - a=b by omega];rfl
theorem tT {A:ai->Int} {w:List ai} {n:Nat} {x:D ae} (h:n<=100):(aO A w n).length + [x].length<=1000000000:=by rw [lF,List.length_singleton];omega
theorem vg {A:ai->Int} {w:List ai} {k n:Nat} {x:D ag} (h:n<=100):(aB A w k n).length + [x].length<=1000000000:=by rw [jI,List.length_singleton];omega
theorem rW {A:ai->Int} {w:List ai} {i k:Nat} {x:D ae} (h:k<=100):(aO A w (Nat.min i k)).length + [x].length<=1000000000:=tT (Nat.le_trans (Nat.min_le_right i k) h)
end Go.Mrl

namespace Go.Vg
open Go
theorem rX {H:Type} {enc:TypeId × Value->H} {a:Assume} {C:Checked} {os:Os} {f:FuncId} {fn:Func} {s:ChangeSpec} {conds:List PathCond} {apart fresh handsOn again:Bool} {X:World->Array Value->Prop}
  (hX:∀(w w':World) (args:Array Value),w.heap=w'.heap->X w args->X w' args)
  (own:ownKnob C.prog.godebug=none) (started:os.Started) (noInit:C.prog.inits.idxOf? f=none) (hfn:C.prog.funcs[f]?=some fn)
  (witness:∃(w:World) (tape:Tape) (i:Input),w.os=os/\(w.forCall tape i).Shaped C.prog/\i.vars = []/\Input.okWide C.prog (w.forCall tape i) .any w.heap.size f i/\
   ((s.pre enc C.prog fn conds apart (w.forCall tape i).memory i.args/\X (w.forCall tape i).memory i.args)/\sizedMet enc C.prog fn (OpenSpec.ofChange s) apart (w.forCall tape i).memory i.args)/\a.holds C.prog (lone (Frame.enter C.prog f i.args .normal) [] (w.forCall tape i)))
  (contract:∀(W:World) (base:Nat) (args:Array Value) (ds gs:List (DataW H)) (before:List MemPlace),
   (∀(j:Nat) t v,fn.params[j]?=some t->args[j]?=some v->Value.okWide C.prog W .any base t v)->
   DataW.Whole enc C.prog fn.params.toList s.vars apart W args.toList ds gs before->
   X W args->W.ShapedOpen C.prog->
   Calls C.prog f args W fun e W'=>∃v,e = .returned v/\s.post enc C.prog fn apart fresh handsOn again W args v W') :
  ReturnsInHanded a C os f .any (fun w args=>(s.pre enc C.prog fn conds apart w args/\X w args)/\sizedMet enc C.prog fn (OpenSpec.ofChange s) apart w args) (s.post enc C.prog fn apart fresh handsOn again):=by
 refine returnsInHanded_of_calls own started noInit witness ?_
 intro w tape i _ hsh _ hok hpre hholds
 obtain ⟨_,_,_,fn',hfn',_,_,_,_,hval⟩:=hok
 have e:fn'=fn:=Option.some.inj (hfn'.symm.trans hfn)
 subst e
 obtain ⟨⟨⟨ds,gs,before,hw,hc⟩,hx⟩,hz⟩:=hpre
 have hw':=DataW.Whole.of_heap (w':=w.forCall tape i) (by rfl) hw
 refine (contract (w.forCall tape i) w.heap.size i.args ds gs before hval hw' (hX _ _ _ (by rfl) hx) hsh).mono fun e W' ⟨v,he,hp⟩ => ?_
 subst he
 exact ChangeSpec.post_blind hp
theorem qZ {P:Program} {w:World} {g:Nat} {t:TypeId} {zero:Array Value} (h:w.ShapedOpen P) (hg:g < P.globals.size)
  (h0:((begin P (fun _ _=>0) default).world.heap[g]?).bind Obj.row?=some (zero,t)) (hz:zero.size=1)
  (hb:P.buildable t=true) (hc:P.cellTypes P.depth t=some [t]) (hu:P.underlying t=some (.int .i64)):∃m,w.cell? ⟨g,0,none⟩=some (.int .i64 m):=by
 obtain ⟨cs,hh,hs,hr⟩:=h.1 g zero t hg h0
 obtain ⟨ts,hts,_,hall⟩:=hr hb
 rw [hc] at hts
 cases hts
 have h1:0 < cs.size:=by omega
 obtain ⟨u,hu',hok⟩:=hall 0 cs[0] (by simp [h1])
 have:u=t:=by simpa using hu'.symm
 subst this
 have hcell:w.cell? ⟨g,0,none⟩=some cs[0]:=by simp [World.cell?,hh,h1]
 rw [hcell]
 unfold Cell.ok at hok
 rw [hu] at hok
 cases hv:cs[0] <;> rw [hv] at hok <;> first | exact hok.elim | (obtain ⟨rfl,_⟩:=hok;exact ⟨_,rfl⟩) | simp at hok
def wM:Option TypeDesc->Bool
 | some (.interface _)=>true
 | _=>false
theorem iI {P:Program} {W:World} {name nm:String} {d:DataW Unit} {g:Nat} {t:TypeId}
  (hg:P.globalNamed name=some g) (hty:(P.globals[g]?).map (·.type)=some t) (hi:wM (P.underlying t)=true)
  (h:Lib.VarReads P W name (.iface nm d)):∃ev,W.cell? ⟨g,0,none⟩=some ev/\(ev = .nilIface\/∃te pe,ev = .iface te pe):=by
 obtain ⟨g',t',cs,fuel,p,hg',ht',hvar,hd⟩:=h
 obtain rfl:=Option.some.inj (hg.symm.trans hg')
 obtain rfl:=Option.some.inj (hty.symm.trans ht')
 have hc:=World.var?_cell hg hvar 0
 obtain ⟨ms,hu⟩:∃ms,P.underlying t=some (.interface ms):=by
  unfold wM at hi
  split at hi
  ·rename_i ms hm;exact ⟨ms,hm⟩
  ·cases hi
 cases fuel with
 | zero=>simp [DataW.trod] at hd
 | succ n=>
  cases hl:cs.toList with
  | nil=>rw [hl] at hd;simp [DataW.trod,hu] at hd
  | cons v r=>
   have h0:cs[0]?=some v:=by rw [<-Array.getElem?_toList,hl];rfl
   rw [h0] at hc
   refine ⟨v,hc,?_⟩
   rw [hl] at hd
   cases v <;> first | exact .inl rfl | exact .inr ⟨_,_,rfl⟩ | (simp [DataW.trod,hu] at hd)
theorem q7 {P:Program} {W:World} {name:String} {k:IntKind} {zs:List Int} {g:Nat} {t e:TypeId} {n:Nat}
  (hg:P.globalNamed name=some g) (hty:(P.globals[g]?).map (·.type)=some t) (ht:P.underlying t=some (.array n e)) (he:P.underlying e=some (.int k)) (hce:P.cellsOf e=1) (hct:P.cellsOf t=n)
  (h:Lib.VarReads P W name (Lib.tabData k zs)):Lib.TabIs P W name k zs:=by
 obtain ⟨g',t',cs,fuel,p,hg',ht',hvar,hd⟩:=h
 obtain rfl:=Option.some.inj (hg.symm.trans hg')
 obtain rfl:=Option.some.inj (hty.symm.trans ht')
 unfold Lib.TabIs
 rw [hvar,<-Lib.cells_of_tab ht he hce hct hd]
end Go.Vg

namespace Go.Mrl
open Go.Vg
theorem nG {e:D af} (h:(aF e).2.isNil=true):aN e=0/\(aF e).1=cn e:=by
 have hf:aN e=0:=by
  apply Classical.byContradiction;intro hf
  unfold aF at h;rw [if_pos hf] at h
  exact hf (cp.1 h)
 exact ⟨hf,by unfold aF;rw [if_neg (not_not_intro hf)]⟩
theorem tU {e:D af} (h:(aF e).2.isNil=false):(aF e).1 = []:=by
 by_cases hf:aN e=0
 ·unfold aF at h;rw [if_neg (not_not_intro hf)] at h;cases h
 ·unfold aF;rw [if_pos hf]
theorem lK {e:D af} (h:(aF e).2.isNil=true):cu (aF e).1=(e, .nil):=(o0 h rfl).symm
theorem tV {e:D af} (h:(aF e).2.isNil=true):(aF e).1.length<=2753:=by
 obtain ⟨hf,ht⟩:=nG h
 rw [ht];unfold cn
 have:=(eV hf).wk e.2.2.1.length
 rw [List.length_append];unfold gO
 simp;omega
theorem vh {e:D af} (h:(aF e).2.isNil=true) {i:Nat} (hi:i + 1 < (aF e).1.length):¬ ((ch (aF e).1 i).toNat:Int)=10:=by
 obtain ⟨hf,ht⟩:=nG h
 rw [ht] at hi ⊢
 intro hc
 have hl:i < (gO e).length:=by unfold cn at hi;simp at hi;exact hi
 refine tQ (eV hf) ?_
 have e1:ch (cn e) i=(gO e)[i]:=sf (by unfold cn;rw [List.getElem?_append_left hl,List.getElem?_eq_getElem hl])
 rw [show (10:UInt8)=ch (cn e) i from (xc (n:=10) hc rfl).symm,e1]
 exact List.getElem_mem hl
end Go.Mrl

