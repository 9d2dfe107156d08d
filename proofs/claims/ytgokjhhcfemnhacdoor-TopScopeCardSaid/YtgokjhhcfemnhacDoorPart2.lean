/- A part of the proof that the law TopScopeCard holds of the given program: facts that are used there. -/
import Derived.Test.YtgokjhhcfemnhacDoorPart1
import Derived.Deep.LoopGhost
import Derived.ProofKit
import Derived.KernelRfl
import Derived.Deep.Heap
import Derived.Room.AppendFits
import Derived.Lib.UnsafeStr
import Derived.Lib.SplitLaws
import Derived.Lib.ItoaNum
import Derived.Lib.AtoiAll
set_option linter.unusedSimpArgs false
set_option linter.unusedVariables false
namespace Go.Vg
open Go.RowKit
def di:List Cl->Bool
 | []=>true
 | .d t :: r=>t.flat && di r
 | _ :: r=>di r
def cm:List Ob->Bool
 | []=>true
 | .box _ cls :: r=>di cls && cm r
 | .row _ t :: r=>t.flat && cm r
 | .tok t :: r=>t.flat && cm r
 | .ext _ _ :: r=>cm r
def kJ:List Ob->Bool
 | []=>true
 | .tok _ :: _=>false
 | _ :: r=>kJ r
section
variable {eT:TypeId} {X:Ext}
theorem VR.to {t:Ty} {x:D t} {S S':aP} {v:Value} (hw:S'.w=S.w) (hA:t.flat=true\/∀b o,S'.A b o->S.A b o) (h:VR eT t x S.A S.w v):VR eT t x S'.A S'.w v:=by
 rcases hA with hA | hA
 ·exact VR.of_flat hA h
 ·rw [hw];exact VR.x4 h fun b o k h'=>k (hA b o h')
def Laid (eT:TypeId) (S:aP):(os:List Ob)->PD os->List Nat->List Loc->Prop
 | [],_,ns,ls=>ns = []/\ls = []
 | o :: r,x,n :: ns,l :: ls=>(S.loc n=l/\n < S.next/\(match o,x.1 with
  | .box _ _,_=>∃b,l.v = .pointer (some ⟨b,0,none⟩)
  | .tok t,y=>VR eT (.slice t) y S.A S.w l.v/\∀ys,S.ob n=some (.tok t ys)->ys=y
  | .row _ _,_=>∃a k c,l.v = .slice a k c
  | .ext 0 _,_=>∃v,∃hs:List Value,l.v = .tuple (v :: hs).toArray
  | .ext (_ + 1) _,_=>nG l.v=l.v))/\Laid eT S r x.2 ns ls
 | _,_,_,_=>False
theorem qA {S:aP}:∀{os:List Ob} {x:PD os} {ns:List Nat} {ls:List Loc} {k:Nat} {v:Value},Laid eT S os x ns ls->rD ls k v->CR eT S (cJ os x ns k) v:=by
 intro os
 induction os with
 | nil=>intro x ns ls k v h hr;exact trivial
 | cons o r ih=>
  intro x ns ls k v h hr
  match ns,ls,h with
  | n :: ns,l :: ls,⟨⟨h1,h2,h3⟩,h4⟩=>
   obtain ⟨l0,hl,hv⟩:=hr
   cases k with
   | succ k=>exact ih h4 ⟨l0,by simpa using hl,hv⟩
   | zero=>
    simp at hl
    subst hl
    subst hv
    show CR eT S (Dz o x.1 n) _
    cases o with
    | box T cls=>
     obtain ⟨b,hb⟩:=h3
     rw [hb]
     exact ⟨h2,fun T cs _=>⟨b,by rw [h1];exact hb,rfl⟩⟩
    | row kp t=>
     obtain ⟨a,k,c,hb⟩:=h3
     rw [hb]
     exact ⟨h2,fun t xs _=>by rw [h1,hb];rfl⟩
    | tok t=>
     obtain ⟨a,c,hb,_⟩:=lE h3.1
     rw [show nG l.v=l.v by rw [hb];rfl]
     exact ⟨h3.1,h2,fun ys hy=>by rw [h3.2 ys hy];exact ⟨Nat.le_refl _,fun _=>by rw [h1]⟩⟩
    | ext k t=>
     cases k with
     | zero=>
      obtain ⟨v,hs,hb⟩:=h3
      rw [hb]
      exact ⟨h2,fun t x _=>⟨hs,by rw [h1,hb];rfl⟩⟩
     | succ k=>
      rw [show nG l.v=l.v from h3]
      exact ⟨h2,fun oc _ _=>by rw [h1]⟩
theorem BE {S S':aP} {F:Nat->Value->Prop} {f:Nat->C} (hw:S'.w=S.w) (hF:∀k v,F k v->CR eT S' (f k) v):∀{cls:List Cl} {x:CD cls} {vs:List Value},
  (di cls=true\/∀b o,S'.A b o->S.A b o)->lk eT S F cls x vs->(∀v∈vs,v.oneCell'=true)->bK eT S' (uI f cls x) vs:=by
 intro cls
 induction cls with
 | nil=>intro x vs _ h _;rw [show vs = [] from h];exact .nil
 | cons cl r ih=>
  intro x vs hA h h1
  cases vs with
  | nil=>cases cl <;> exact h.elim
  | cons v vs=>
   have hr:di r=true\/∀b o,S'.A b o->S.A b o:=by
    rcases hA with hA | hA
    ·left;cases cl <;> simp [di] at hA <;> first | exact hA.2 | exact hA
    ·exact .inr hA
   cases cl with
   | d t=>
    refine .cons (VR.to hw ?_ h.1) (h1 v (by simp)) (ih hr h.2 fun u hu=>h1 u (by simp [hu]))
    rcases hA with hA | hA
    ·left;simp [di] at hA;exact hA.1
    ·exact .inr hA
   | obj k=>exact .cons (hF k v h.1) (h1 v (by simp)) (ih hr h.2 fun u hu=>h1 u (by simp [hu]))
   | cG=>exact .cons h.1 (h1 v (by simp)) (ih hr h.2 fun u hu=>h1 u (by simp [hu]))
theorem uL {S S':aP} {F:Nat->Value->Prop} {f:Nat->C} (hw:S'.w=S.w) (hF:∀k v,F k v->CR eT S' (f k) v):∀{cls:List Cl} {x:CD cls} {vs:List Value},
  (di cls=true\/∀b o,S'.A b o->S.A b o)->lk eT S F cls x vs->bu eT S' (pO f cls x) vs:=by
 intro cls
 induction cls with
 | nil=>intro x vs _ h;rw [show vs = [] from h];exact .nil
 | cons cl r ih=>
  intro x vs hA h
  cases vs with
  | nil=>cases cl <;> exact h.elim
  | cons v vs=>
   have hr:di r=true\/∀b o,S'.A b o->S.A b o:=by
    rcases hA with hA | hA
    ·left;cases cl <;> simp [di] at hA <;> first | exact hA.2 | exact hA
    ·exact .inr hA
   cases cl with
   | d t=>
    refine .cons (show VR eT t x.1 S'.A S'.w v from VR.to hw ?_ h.1) (ih hr h.2)
    rcases hA with hA | hA
    ·left;simp [di] at hA;exact hA.1
    ·exact .inr hA
   | obj k=>exact .cons (hF k v h.1) (ih hr h.2)
   | cG=>exact .cons h.1 (ih hr h.2)
theorem eD.to {S S':aP} {t:Ty} {xs:List (D t)} {vs:Array Value} (hw:S'.w=S.w) (hA:t.flat=true\/∀b o,S'.A b o->S.A b o) (h:eD eT S t xs vs):eD eT S' t xs vs:=by
 intro i y hy
 obtain ⟨us,h1,h2⟩:=h i y hy
 refine ⟨us,?_,h2⟩
 rcases hA with hA | hA
 ·exact h1.of_flat hA
 ·rw [hw];exact h1.frame fun b o v k h'=>⟨h',fun h''=>k (hA b o h'')⟩
theorem uM.to {S S':aP} {t:Ty} {xs:List (D t)} {l:Loc} (hw:S'.w=S.w) (hA:t.flat=true\/∀b o,S'.A b o->S.A b o) (h:OR eT X S l (.aL t xs)):OR eT X S' l (.aL t xs):=by
 rcases h with h | ⟨b,vs,T,cap,h1,h2,h3,h4,h5,h6,h7⟩
 ·exact .inl h
 ·exact .inr ⟨b,vs,T,cap,h1,h2,by rw [hw];exact h3,h4,h5,h6,h7.to hw hA⟩
def kb (o:Ob):Bool:=cm [o]
theorem DB {S S':aP} {F:Nat->Value->Prop} {f:Nat->C} (hw:S'.w=S.w) (hF:∀k v,F k v->CR eT S' (f k) v) {o:Ob} {x:OD o} {l:Loc}
  (hA:kb o=true\/∀b o,S'.A b o->S.A b o) (h:Ag eT X S F o x l):OR eT X S' l (ka f o x):=by
 cases o with
 | box T cls=>
  obtain ⟨b,vs,h1,h2,h3,h4,h5⟩:=h
  refine ⟨b,vs,h1,h2,by rw [hw];exact h3,BE hw hF ?_ h4 h5⟩
  rcases hA with hA | hA
  ·left;simpa [kb,cm] using hA
  ·exact .inr hA
 | row kp t=>
  refine uM.to hw ?_ h
  rcases hA with hA | hA
  ·left;simpa [kb,cm] using hA
  ·exact .inr hA
 | tok t=>
  refine uM.to (X:=X) (l:=l) hw ?_ h
  rcases hA with hA | hA
  ·left;simpa [kb,cm] using hA
  ·exact .inr hA
 | ext k t=>show X.rel _ _ _ _ _;rw [hw];exact h
theorem BF {S:aP} {t:Ty} {xs:List (D t)} {l:Loc} (h:OR eT X S l (.tok t xs)) (hA:∀b∈l.bs,∀off,off < xs.length * t.size->¬ S.A b off):VR eT (.slice t) xs S.A S.w l.v:=by
 rcases h with ⟨rfl,⟨a,ha⟩,_⟩ | ⟨b,vs,T,cap,h1,h2,h3,h4,h5,h6,he⟩
 ·exact VR.bh rfl ⟨_,rfl,by simp, .inl ⟨rfl,a,0,ha⟩⟩
 ·refine VR.bh rfl ⟨_,rfl,h6, .inr ⟨b,0,cap,h1,h5,fun i y hy => ?_⟩⟩
  obtain ⟨us,r1,r2⟩:=he i y hy
  refine ⟨us,r1,fun j u hj=>⟨?_,?_⟩⟩
  ·rw [Nat.zero_add,cell_of_row S.w b _ vs T (0,0) h3];exact r2 j u hj
  ·rw [Nat.zero_add]
   refine hA b (by rw [h2];simp) _ ?_
   have hi:=aM hy
   have hjl:=aM hj
   rw [r1.length] at hjl
   have:(i + 1) * t.size<=xs.length * t.size:=Nat.mul_le_mul_right _ hi
   rw [Nat.add_mul] at this
   omega
def bV:List Nat->List Loc->(Nat->Loc)->Nat->Loc
 | n :: ns,l :: ls,d,m=>if n=m then l else bV ns ls d m
 | _,_,d,m=>d m
theorem gJ:∀{ns:List Nat} {ls:List Loc} {d:Nat->Loc} {m:Nat},m∉ns->bV ns ls d m=d m
 | [],_,_,_,_=>by cases ‹List Loc› <;> rfl
 | n :: ns,[],_,_,_=>rfl
 | n :: ns,l :: ls,d,m,h=>by
  simp only [List.mem_cons,not_or] at h
  simp only [bV]
  rw [if_neg (fun e=>h.1 e.symm)]
  exact gJ h.2
theorem pQ {n:Nat} {l:List Nat}:gy n l=true ↔ n∈l:=by
 refine ⟨mr,fun h => ?_⟩
 induction l with
 | nil=>simp at h
 | cons m r ih=>
  simp only [gy]
  split
  ·rfl
  ·rename_i hb
   rcases List.mem_cons.1 h with h | h
   ·subst h;rw [Nat.beq_refl] at hb;cases hb
   ·exact ih h
theorem fV {n:Nat} {r:List Nat} (h:nodupB (n :: r)=true):n∉r/\nodupB r=true:=by
 simp only [nodupB,Bool.and_eq_true,Bool.not_eq_true'] at h
 exact ⟨fun hm=>by rw [pQ.2 hm] at h;exact absurd h.1 (by decide),h.2⟩
theorem ez:∀{ns:List Nat} {ls:List Loc} {d:Nat->Loc} {i n:Nat} {l:Loc},nodupB ns=true->ns[i]?=some n->ls[i]?=some l->bV ns ls d n=l
 | [],_,_,_,_,_,_,h,_=>by simp at h
 | n :: ns,[],_,_,_,_,_,_,h=>by simp at h
 | n :: ns,l :: ls,d,0,m,k,_,h1,h2=>by simp at h1 h2;subst h1;subst h2;simp [bV]
 | n :: ns,l :: ls,d,i + 1,m,k,hn,h1,h2=>by
  obtain ⟨hm,hn⟩:=fV hn
  simp at h1 h2
  simp only [bV]
  rw [if_neg (fun e=>hm (by rw [e];exact List.mem_of_getElem? h1))]
  exact ez hn h1 h2
theorem jI {cv:Bool} {aC:List (Nat × OC)} {aG:List Ob} {ν:List Nat} {f:Nat->C} {S:aP} {F:Nat->Value->Prop} {loc:Nat->Loc}:∀{os:List Ob} {x:PD os} {ns ms:List Nat} {m:Nat} {oc:OC},bL cv aC aG ν os ns=some x->x6 eT X S F os x (ns.map loc)->ns.length=ms.length->
  look (eK f os x ms) m=some oc->∃(i n:Nat) (o:Ob) (y:OD o) (oc0:OC),ns[i]?=some n/\ms[i]?=some m/\os[i]?=some o/\look aC n=some oc0/\dE cv aC aG ν o oc0=some y/\oc=ka f o y/\Ag eT X S F o y (loc n):=by
 intro os
 induction os with
 | nil=>intro x ns ms m oc _ _ _ h;simp [eK,look] at h
 | cons o r ih=>
  intro x ns ms m oc hg hR hl h
  cases ns with
  | nil=>simp [bL] at hg
  | cons n ns=>
   cases ms with
   | nil=>simp at hl
   | cons k ms=>
    simp only [bL] at hg
    split at hg
    case h_2=>cases hg
    rename_i oc0 hob
    split at hg
    case h_2=>cases hg
    rename_i x0 y0 h1 h2
    cases hg
    simp only [eK,ba] at h
    split at h
    ·rename_i e
     cases h
     exact ⟨0,n,o,x0,oc0,rfl,by simp [e],rfl,hob,h1,rfl,hR.1⟩
    ·obtain ⟨i,n',o',y',oc',k1,k2,k3,k4⟩:=ih h2 hR.2 (by simpa using hl) h
     exact ⟨i + 1,n',o',y',oc',by simpa using k1,by simpa using k2,by simpa using k3,k4⟩
theorem rF {cv:Bool} {aC:List (Nat × OC)} {aG:List Ob} {ν:List Nat} {f:Nat->C} {o:Ob} {y:OD o} {oc:OC} (h:dE cv aC aG ν o oc=some y):(ka f o y).lo=oc.lo\/cv=true:=by
 cases o <;> cases oc <;> simp only [dE,reduceCtorEq] at h
 ·exact .inl rfl
 ·exact .inl rfl
 ·split at h
  ·exact .inr rfl
  ·cases h
 ·obtain ⟨e,h3⟩:=gC h
  subst e;simp only at h3;subst h3;exact .inl rfl
 ·exact .inl rfl
theorem jj {cv:Bool} {aC:List (Nat × OC)} {aG:List Ob} {ν:List Nat} {o:Ob} {y:OD o} {oc:OC} (h:dE cv aC aG ν o oc=some y) (f:Nat->C):(∀T cls,o = .box T cls->∃cs,oc = .cells T cs)/\
  (∀k t,o = .ext k t->∃x,oc = .ext k t x)/\(∀k t,o = .row k t->cv=false->∃xs,oc = .aL t xs)/\((∀t,o≠.tok t)->cv=false->∀t xs,oc≠.tok t xs):=by
 refine ⟨fun T cls e => ?_,fun k t e => ?_,fun k t e e2 => ?_,fun h1 h2 t xs e => ?_⟩
 ·subst e
  cases oc <;> simp only [dE,reduceCtorEq] at h
  split at h
  ·rename_i hT;rw [Nat.eq_of_beq_eq_true hT];exact ⟨_,rfl⟩
  ·cases h
 ·subst e
  cases oc <;> simp only [dE,reduceCtorEq] at h
  split at h
  ·rename_i hT
   obtain ⟨e,_⟩:=uK h
   subst e
   rw [Nat.eq_of_beq_eq_true hT];exact ⟨_,rfl⟩
  ·cases h
 ·subst e;subst e2
  cases oc <;> simp only [dE,reduceCtorEq] at h
  ·obtain ⟨e,_⟩:=gC h
   subst e
   exact ⟨_,rfl⟩
 ·subst e;subst h2
  cases o <;> simp only [dE,reduceCtorEq] at h
  exact h1 _ rfl
theorem jJ {cv:Bool} {aC:List (Nat × OC)} {aG:List Ob} {ν:List Nat}:∀{os:List Ob} {ns:List Nat} {x:PD os},bL cv aC aG ν os ns=some x->os.length=ns.length:=by
 intro os
 induction os with
 | nil=>intro ns x h;cases ns with | nil=>rfl | cons=>simp [bL] at h
 | cons o r ih=>
  intro ns x h
  cases ns with
  | nil=>simp [bL] at h
  | cons n ns=>
   simp only [bL] at h
   split at h
   case h_2=>cases h
   split at h
   case h_2=>cases h
   rename_i h2
   simp [ih h2]
theorem jk {f:Nat->C}:∀{os:List Ob} {x:PD os} {ms:List Nat} {m:Nat},os.length=ms.length->m∈ms->∃oc,look (eK f os x ms) m=some oc:=by
 intro os
 induction os with
 | nil=>intro x ms m h hm;cases ms with | nil=>simp at hm | cons=>simp at h
 | cons o r ih=>
  intro x ms m h hm
  cases ms with
  | nil=>simp at h
  | cons k ms=>
   simp only [eK,ba]
   by_cases e:k=m
   ·exact ⟨_,by rw [if_pos e]⟩
   ·rw [if_neg e]
    rcases List.mem_cons.1 hm with hm | hm
    ·exact (e hm.symm).elim
    ·exact ih (by simpa using h) hm
theorem jl:∀{l:List Nat} {i j n:Nat},nodupB l=true->l[i]?=some n->l[j]?=some n->i=j
 | [],_,_,_,_,h,_=>by simp at h
 | m :: r,0,0,_,_,_,_=>rfl
 | m :: r,0,j + 1,n,hn,h1,h2=>by
  simp at h1 h2;subst h1
  exact ((fV hn).1 (List.mem_of_getElem? h2)).elim
 | m :: r,i + 1,0,n,hn,h1,h2=>by
  simp at h1 h2;subst h2
  exact ((fV hn).1 (List.mem_of_getElem? h1)).elim
 | m :: r,i + 1,j + 1,n,hn,h1,h2=>by
  simp at h1 h2
  rw [jl (fV hn).2 h1 h2]
theorem nH {a:Ob} {r:List Ob} (h:cm (a :: r)=true):kb a=true/\cm r=true:=by
 cases a <;> simp [cm,kb] at h ⊢ <;> exact h
theorem o7:∀{l:List Ob} {i:Nat} {o:Ob},cm l=true->l[i]?=some o->kb o=true
 | [],_,_,_,h=>by simp at h
 | a :: r,0,o,hfl,h=>by simp at h;subst h;exact (nH hfl).1
 | a :: r,i + 1,o,hfl,h=>o7 (nH hfl).2 (by simpa using h)
theorem CM {S S2:aP} {F:Nat->Value->Prop} {f:Nat->C} {loc:Nat->Loc} (hNA:∀m t ys,S2.ob m=some (.tok t ys)->∀b∈(S2.loc m).bs,∀off,off < ys.length * t.size->¬ S2.A b off) (hw:S2.w=S.w) :
  ∀{os:List Ob} {x:PD os} {ns ms:List Nat},(cm os=true\/∀b o,S2.A b o->S.A b o)->x6 eT X S F os x (ns.map loc)->nodupB ms=true->ns.length=ms.length->(∀n∈ms,S2.ob n=look (eK f os x ms) n)->
   (∀(i n m:Nat),ns[i]?=some n->ms[i]?=some m->S2.loc m=loc n/\m < S2.next)->Laid eT S2 os x ms (ns.map loc):=by
 intro os
 induction os with
 | nil=>
  intro x ns ms _ h _ hl _ _
  have h:ns.map loc = []:=h
  cases ns with
  | nil=>cases ms with
   | nil=>exact ⟨rfl,rfl⟩
   | cons=>simp at hl
  | cons=>simp at h
 | cons o r ih=>
  intro x ns ms hA h hnd hl hob hloc
  cases ns with
  | nil=>exact h.elim
  | cons n ns=>
   cases ms with
   | nil=>simp at hl
   | cons m ms=>
    obtain ⟨hm,hnd'⟩:=fV hnd
    obtain ⟨h1,h2⟩:=hloc 0 n m rfl rfl
    have hA':cm r=true\/∀b o,S2.A b o->S.A b o:=by
     rcases hA with hA | hA
     ·left;cases o <;> simp [cm] at hA <;> first | exact hA.2 | exact hA
     ·exact .inr hA
    refine ⟨⟨h1,h2,?_⟩,ih hA' h.2 hnd' (by simpa using hl) (fun k hk => ?_) (fun i a b ha hb=>hloc (i + 1) a b (by simpa using ha) (by simpa using hb))⟩
    ·cases o with
     | box T cls=>obtain ⟨b,vs,k1,_⟩:=h.1;exact ⟨b,k1⟩
     | row kp t=>rcases h.1 with ⟨_,⟨a,ha⟩,_⟩ | ⟨b,vs,T,cap,ha,_⟩ <;> exact ⟨_,_,_,ha⟩
     | tok t=>
      have hobm:S2.ob m=some (.tok t x.1):=by rw [hob m (by simp)];simp [eK,ba,ka]
      refine ⟨?_,fun ys hy=>by rw [hobm] at hy;cases hy;rfl⟩
      refine BF (X:=X) (uM.to (X:=X) (l:=loc n) hw ?_ h.1) fun b hb off ho=>hNA m t x.1 hobm b (by rw [h1];exact hb) off ho
      rcases hA with hA | hA
      ·left;simp [cm] at hA;exact hA.1
      ·exact .inr hA
     | ext k t=>
      cases k with
      | zero=>
       have hd:=X.deep.1 h.1
       obtain ⟨e,s,rfl,_⟩:=ky hd
       obtain ⟨_,_,v,hs,hv,_⟩:=hd
       exact ⟨v,hs,hv⟩
      | succ k=>
       show nG (loc n).v=(loc n).v
       cases k with
       | zero=>obtain ⟨e,_,b,es,bO,hm⟩:=X.map.1 h.1;rw [hm.lv];rfl
       | succ k=>obtain ⟨a,ha⟩:=X.ptr (by omega) h.1;rw [ha];rfl
    ·rw [hob k (by simp [hk])]
     simp only [eK,ba]
     rw [if_neg (fun e=>hm (by rw [e];exact hk))]
theorem x8 {cv:Bool} {aG:List Ob} {ν:List Nat} {x:PD aG} {O:aD} {st:St} {loc:Nat->Loc} {w:World} (g:Good eT X (aA O st loc w)) (hx:bL cv st.aC aG ν aG ν=some x)
  (hp:∀p∈dh aG x st.aC aG ν,p) (hnd:nodupB ν=true)
  {O2:aD} {ν2:List Nat} {rest:List (Nat × OC)} {locR:Nat->Loc} {st2:St} (hnd2:nodupB ν2=true) (hlen:ν.length=ν2.length)
  (hobjs:st2.aC=eK (cJ aG x ν2) aG x ν2++rest) (hlt:∀n∈ν2,n < st2.next)
  (hO2:∀n∈ν,∀b∈(loc n).bs,∀off,¬ O2 b off)
  (hD:∀n∈ν,∀b∈(loc n).bs,∀m oc,look rest m=some oc->m∉ν2->b∉(locR m).bs)
  (hR:∀m oc,look rest m=some oc->m∉ν2->m < st2.next/\OR eT X (aA O2 st2 (bV ν2 (ν.map loc) locR) w) (locR m) oc)
  (hR2:∀m m' oc oc' b,look rest m=some oc->look rest m'=some oc'->m∉ν2->m'∉ν2->b∈(locR m).bs->b∈(locR m').bs->m=m')
  (hR3:∀m oc b off,look rest m=some oc->m∉ν2->b∈(locR m).bs->¬ O2 b off)
  (hA:cm aG=true\/∀b o,(aA O2 st2 (bV ν2 (ν.map loc) locR) w).A b o->(aA O st loc w).A b o)
  (hGl:∀b∈X.wW,¬ (aA O2 st2 (bV ν2 (ν.map loc) locR) w).im b) :
  Good eT X (aA O2 st2 (bV ν2 (ν.map loc) locR) w)/\Laid eT (aA O2 st2 (bV ν2 (ν.map loc) locR) w) aG x ν2 (ν.map loc):=by
 have hobs:=jH (X:=X) g hx hx hp
 have hol:=jJ hx
 generalize hf:cJ aG x ν2=f at hobjs
 have hob:∀m oc,(aA O2 st2 (bV ν2 (ν.map loc) locR) w).ob m=some oc->
   (∃(i n:Nat) (o:Ob) (y:OD o) (oc0:OC),ν[i]?=some n/\ν2[i]?=some m/\look st.aC n=some oc0/\dE cv st.aC aG ν o oc0=some y/\oc=ka f o y/\Ag eT X (aA O st loc w) (rD (ν.map loc)) o y (loc n)/\
    bV ν2 (ν.map loc) locR m=loc n/\aG[i]?=some o)\/
   (look rest m=some oc/\m∉ν2/\bV ν2 (ν.map loc) locR m=locR m):=by
  intro m oc h
  simp only [aA,hobjs] at h
  rw [bN] at h
  split at h
  ·rename_i oc' h'
   cases h
   obtain ⟨i,n,o,y,oc0,k1,k2,k3,k4,k5,k6,k7⟩:=jI hx hobs hlen h'
   exact .inl ⟨i,n,o,y,oc0,k1,k2,k4,k5,k6,k7,ez hnd2 k2 (by simp [k1]),k3⟩
  ·rename_i h'
   have:m∉ν2:=fun hm=>by
    obtain ⟨oc1,h1⟩:=jk (f:=f) (x:=x) (by omega) hm
    rw [h1] at h';cases h'
   exact .inr ⟨h,this,gJ this⟩
 have hap:∀m m' oc oc' b,(aA O2 st2 (bV ν2 (ν.map loc) locR) w).ob m=some oc->(aA O2 st2 (bV ν2 (ν.map loc) locR) w).ob m'=some oc'->
   b∈(bV ν2 (ν.map loc) locR m).bs->b∈(bV ν2 (ν.map loc) locR m').bs->m=m':=by
  intro m m' oc oc' b h1 h2 h3 h4
  rcases hob m oc h1 with ⟨i,n,o,y,oc0,k1,k2,k4,_,_,_,k8,_⟩ | ⟨k1,k2,k3⟩ <;> rcases hob m' oc' h2 with ⟨i',n',o',y',oc0',j1,j2,j4,_,_,_,j8,_⟩ | ⟨j1,j2,j3⟩
  ·rw [k8] at h3;rw [j8] at h4
   have e:=g.apart n n' oc0 oc0' b k4 j4 h3 h4
   subst e
   have:=jl hnd k1 j1
   subst this
   rw [k2] at j2;cases j2;rfl
  ·rw [k8] at h3;rw [j3] at h4
   exact (hD n (List.mem_of_getElem? k1) b h3 m' oc' j1 j2 h4).elim
  ·rw [k3] at h3;rw [j8] at h4
   exact (hD n' (List.mem_of_getElem? j1) b h4 m oc k1 k2 h3).elim
  ·rw [k3] at h3;rw [j3] at h4
   exact hR2 m m' oc oc' b k1 j1 k2 j2 h3 h4
 have hout:∀m oc b off,(aA O2 st2 (bV ν2 (ν.map loc) locR) w).ob m=some oc->b∈(bV ν2 (ν.map loc) locR m).bs->¬ O2 b off:=by
  intro m oc b off h1 h2
  rcases hob m oc h1 with ⟨i,n,o,y,oc0,k1,k2,k4,_,_,_,k8,_⟩ | ⟨k1,k2,k3⟩
  ·rw [k8] at h2;exact hO2 n (List.mem_of_getElem? k1) b h2 off
  ·rw [k3] at h2;exact hR3 m oc b off k1 k2 h2
 have hNA:∀m t ys,(aA O2 st2 (bV ν2 (ν.map loc) locR) w).ob m=some (.tok t ys)->∀b∈((aA O2 st2 (bV ν2 (ν.map loc) locR) w).loc m).bs,∀off,off < ys.length * t.size->¬ (aA O2 st2 (bV ν2 (ν.map loc) locR) w).A b off:=by
  rintro m t ys h1 b hb off ho (h2 | ⟨m',oc',h2,h3,h4⟩)
  ·exact hout m _ b off h1 hb h2
  ·have:=hap m m' _ oc' b h1 h2 hb h3
   subst this
   rw [h1] at h2;cases h2
   simp only [OC.lo] at h4
   omega
 have hlaid:Laid eT (aA O2 st2 (bV ν2 (ν.map loc) locR) w) aG x ν2 (ν.map loc):=by
  refine CM (X:=X) (S:=aA O st loc w) (f:=f) hNA rfl hA hobs hnd2 hlen (fun n hn => ?_) (fun i n m h1 h2=>⟨ez hnd2 h2 (by simp [h1]),hlt m (List.mem_of_getElem? h2)⟩)
  show look st2.aC n=_
  rw [hobjs,bN]
  obtain ⟨oc1,h1⟩:=jk (f:=f) (x:=x) (by omega) hn
  rw [h1]
 refine ⟨⟨fun m oc h => ?_,fun m m' oc oc' b h1 h2 h3 h4=>hap m m' oc oc' b h1 h2 h3 h4,fun m oc b off h1 h2=>hout m oc b off h1 h2,g.gw.1,hGl⟩,hlaid⟩
 rcases hob m oc h with ⟨i,n,o,y,oc0,k1,k2,k4,k5,k6,k7,k8,k9⟩ | ⟨k1,k2,k3⟩
 ·refine ⟨hlt m (List.mem_of_getElem? k2),?_⟩
  show OR _ _ _ (bV ν2 (ν.map loc) locR m) oc
  rw [k8,k6]
  refine DB (S:=aA O st loc w) (S':=aA O2 st2 (bV ν2 (ν.map loc) locR) w) rfl (fun k v hk=>by rw [<-hf];exact qA hlaid hk) ?_ k7
  rcases hA with hA | hA
  ·left
   exact o7 hA k9
  ·exact .inr hA
 ·obtain ⟨h1,h2⟩:=hR m oc k1 k2
  refine ⟨h1,?_⟩
  show OR _ _ _ (bV ν2 (ν.map loc) locR m) oc
  rw [k3];exact h2
def upto:Nat->Nat->List Nat
 | _,0=>[]
 | k,m + 1=>k :: upto (k + 1) m
def Cm (aG:List Ob) (cls:List Cl) (vs:List bm) (aC:List (Nat × OC)) (Ej:List (Nat × Nat)):Option (List Nat):=
 match Ae cls vs Ej with
 | some as1=>match oF aC 0 aG as1 with
  | some as2=>nE as2 0 aG.length
  | none=>none
 | none=>none
theorem pR:∀(m k i:Nat),i < m->(upto k m)[i]?=some (k + i)
 | m + 1,k,0,_=>by simp [upto]
 | m + 1,k,i + 1,h=>by
  simp only [upto,List.getElem?_cons_succ]
  rw [pR m (k + 1) i (by omega)]
  congr 1;omega
theorem mu:∀{m k n:Nat},n∈upto k m->k<=n/\n < k + m
 | 0,k,n,h=>by simp [upto] at h
 | m + 1,k,n,h=>by
  simp only [upto,List.mem_cons] at h
  rcases h with h | h
  ·omega
  ·have:=mu h;omega
theorem mv:∀(m k:Nat),(upto k m).length=m
 | 0,_=>rfl
 | m + 1,k=>by simp [upto,mv m]
theorem dS:∀(m k:Nat),nodupB (upto k m)=true
 | 0,_=>rfl
 | m + 1,k=>by
  simp only [upto,nodupB,dS m,Bool.and_true,Bool.not_eq_true']
  rw [Bool.eq_false_iff]
  intro h
  have:=mu (pQ.1 h)
  omega
theorem eX {cv:Bool} {aC:List (Nat × OC)} {aG:List Ob} {ν:List Nat}:∀{os:List Ob} {ns:List Nat} {x:PD os} {n:Nat},bL cv aC aG ν os ns=some x->n∈ns->
  ∃o oc y,o∈os/\look aC n=some oc/\dE cv aC aG ν o oc=some y:=by
 intro os
 induction os with
 | nil=>intro ns x n h hn;cases ns with | nil=>simp at hn | cons=>simp [bL] at h
 | cons o r ih=>
  intro ns x n h hn
  cases ns with
  | nil=>simp at hn
  | cons k ns=>
   simp only [bL] at h
   split at h
   case h_2=>cases h
   rename_i oc hob
   split at h
   case h_2=>cases h
   rename_i x0 y0 h1 h2
   rcases List.mem_cons.1 hn with e | hn
   ·subst e;exact ⟨o,oc,x0,by simp,hob,h1⟩
   ·obtain ⟨o',oc',y',k1,k2⟩:=ih h2 hn
    exact ⟨o',oc',y',by simp [k1],k2⟩
end
end Go.Vg

namespace Go.Vg
open Go.RowKit
inductive Ex where
 | normal
 | exit (n:Nat)
 | ret
def tJ:(cls:List Cl)->CD cls
 | []=>()
 | .d t :: r=>(bw t,tJ r)
 | .obj _ :: r=>tJ r
 | .cG :: r=>tJ r
def DQ:(o:Ob)->OD o
 | .box _ cls=>tJ cls
 | .row _ _=>[]
 | .tok _=>[]
 | .ext _ t=>bw t
def Cn:(os:List Ob)->PD os
 | []=>()
 | o :: r=>(DQ o,Cn r)
structure eR:Type 1 where
 X:Type
 inv:X->Prop
 bF:X->Nat
 bg:X->List (Nat × SV)
 aC:X->List (Nat × OC):=fun _=>[]
 bf:List Nat
 dN:List Nat:=[]
 iz:List Nat:=[]
 aG:List Ob:=[]
 refs:List (Nat × Nat):=[]
 pd:X->PD aG:=fun _=>Cn aG
@[reducible] def sI (x:Int):SV:=.s (.one (.d (.int .i64) x))
@[reducible] def sB (x:Bool):SV:=.s (.one (.d .bool x))
@[reducible] def sD (t:Ty) (x:D t):SV:=.s (.one (.d t x))
abbrev cA:=List (Nat × (St->eR))
def mw:C->C->Prop
 | .lit b, .d .bool c=>b=c
 | .d t x, .d t' y=>match h:Ty.beq t t' with
  | true=>bc h x=y
  | false=>False
 | .app t xs n, .app t' ys m=>match h:Ty.beq (.slice t) (.slice t'),Nat.beq n m with
  | true,true=>bc h (a:=.slice t) (b:=.slice t') xs=ys
  | _,_=>False
 | a,b=>a=b
def jm:SV->SV->Prop
 | .s (.one a), .s (.one b)=>mw a b
 | a,b=>a=b
def nI:List C->List C->Prop
 | [],[]=>True
 | a :: Ej,b :: bs=>mw a b/\nI Ej bs
 | _,_=>False
def fp:OC->OC->Prop
 | .cells T cs, .cells T' cs'=>match Nat.beq T T' with
  | true=>nI cs cs'
  | false=>False
 | .aL t xs, .aL t' ys=>match h:Ty.beq (.slice t) (.slice t') with
  | true=>bc h (a:=.slice t) (b:=.slice t') xs=ys
  | false=>False
 | .arr t xs, .arr t' ys=>match h:Ty.beq (.slice t) (.slice t') with
  | true=>bc h (a:=.slice t) (b:=.slice t') xs=ys
  | false=>False
 | .tok t xs, .tok t' ys=>match h:Ty.beq (.slice t) (.slice t') with
  | true=>bc h (a:=.slice t) (b:=.slice t') xs=ys
  | false=>False
 | .ext k t x, .ext k' t' y=>match Nat.beq k k',h:Ty.beq t t' with
  | true,true=>bc h x=y
  | _,_=>False
 | .iter cs seen cl, .iter cs' seen' cl'=>nI cs cs'/\seen=seen'/\cl=cl'
 | _,_=>False
def fW (st:St):List (Nat × SV)->Prop
 | []=>True
 | (n,v) :: r=>match look st.env n with
  | some u=>jm u v/\fW st r
  | none=>False
def fX (st:St):List (Nat × OC)->Prop
 | []=>True
 | (n,v) :: r=>match look st.aC n with
  | some u=>fp u v/\fX st r
  | none=>False
def iA (st:St):List Nat->List (Nat × SV)
 | []=>[]
 | t :: r=>match look st.env t with
  | some v=>(t,v) :: iA st r
  | none=>iA st r
def dq (st:St):List Nat->List (Nat × OC)
 | []=>[]
 | t :: r=>match look st.aC t with
  | some v=>(t,v) :: dq st r
  | none=>dq st r
def aT (an:eR) (st:St) (x:an.X):St:=
 {env:=an.bg x++iA st an.bf,aC:=an.aC x++dq st an.dN,next:=st.next}
def cE (l:List Oper):List Nat:=l.filterMap (·.dst)
def writes (anns:cA):Nat->Code->List Nat
 | _, .region _ ops _=>cE ops.toList
 | k, .seq a b=>writes anns k a++writes anns k b
 | k, .cond _ a b=>writes anns k a++writes anns k b
 | _, .block id b=>writes anns id b
 | k, .loop b=>match look anns (k + 200000) with
  | some _=>allM :: writes anns k b
  | none=>writes anns k b
 | _,_=>[]
def my (n:Nat):List Nat->Bool
 | []=>false
 | m :: r=>match Nat.beq m n with
  | true=>true
  | false=>my n r
def kK (l:List Nat) (W:List Nat):Bool:=match l with
 | []=>true
 | _ => !(my allM W) && l.all fun n => !(my n W)
def dU (k:Nat):List Nat->Bool
 | []=>true
 | n :: r=>Nat.blt n k && dU k r
def jn (k:Nat):C->Bool
 | .app _ _ n | .aL n | .gv n | .bX n | .xd n _ | .ref n _ | .jR n | .eC n _ _ _ | .gQ n _ _ _=>Nat.blt n k
 | .fn _ caps=>dU k caps
 | _=>true
def gK (k:Nat):List C->Bool
 | []=>true
 | c :: r=>jn k c && gK k r
def uN (k:Nat):bm->Bool
 | .one c=>jn k c
 | .agg cs=>gK k cs
def dr (k:Nat):List (Nat × SV)->Bool
 | []=>true
 | (_, .s v) :: r=>uN k v && dr k r
 | (_, .fK _) :: _=>false
def xk (k:Nat):OC->Bool
 | .cells _ cs=>gK k cs
 | .iter cs _ _=>gK k cs
 | _=>true
def db (k:Nat):List (Nat × OC)->Bool
 | []=>true
 | (n,oc) :: r=>Nat.blt n k && xk k oc && db k r
def fq (env:List (Nat × SV)):List Nat->Bool
 | []=>true
 | t :: r=>match look env t with
  | some _=>fq env r
  | none=>false
def fr (W:List Nat):List (Nat × SV)->Bool
 | []=>true
 | (n,_) :: r=>my n W && fr W r
def tK (env:List (Nat × SV)):List Nat->List Nat
 | []=>[]
 | t :: r=>match look env t with
  | some (.s _)=>t :: tK env r
  | _=>tK env r
def kL (iz:List Nat):List (Nat × OC)->List Nat
 | []=>[]
 | (n,_) :: r=>match my n iz with
  | true=>kL iz r
  | false=>n :: kL iz r
def oG (st:St) (an:eR):eR:=
 {an with bf:=tK st.env an.bf,dN:=match an.dN with
  | []=>kL an.iz st.aC
  | l=>l}
def b7 (ty:Ty) (st:St) (t:Nat):D ty:=
 match look st.env t with
 | some (.s c)=>match jw ty c with
  | some x=>x
  | none=>bw ty
 | _=>bw ty
def dj (st:St) (t:Nat):Nat:=
 match look st.env t with
 | some (.s (.one (.aL n)))=>n
 | some (.s (.one (.gv n)))=>n
 | some (.s (.one (.bX n)))=>n
 | some (.s (.one (.xd n _)))=>n
 | some (.s (.one (.ref n _)))=>n
 | some (.s (.one (.app _ _ n)))=>n
 | _=>0
def CN (_:Nat) (_:St):Prop:=False
def et (an:eR) (st st':St):VC:=
 match fq st'.env an.bf with
 | true => .leaf (∃x',an.inv x'/\fW st' (an.bg x')/\fX st' (an.aC x'++dq st an.dN))
 | false => .ff
def Co (st:St):List (Nat × Nat)->Option (List (Nat × Nat))
 | []=>some []
 | (t,k) :: r=>match look st.env t,Co st r with
  | some (.s (.one c)),some Ej=>match Ck c with
   | some n=>match look Ej k with
    | some _=>some Ej
    | none=>some ((k,n) :: Ej)
   | none=>none
  | _,_=>none
def Ah (st:St) (an:eR):Option (List Nat):=
 match Co st an.refs with
 | some as1=>match oF st.aC 0 an.aG as1 with
  | some as2=>nE as2 0 an.aG.length
  | none=>none
 | none=>none
def nJ (st:St) (an:eR) (ν:List Nat):List (Nat × Nat)->Bool
 | []=>true
 | (t,k) :: r=>(match look st.env t with
  | some (.s (.one c))=>dz false st.aC an.aG ν k c
  | _=>false) && nJ st an ν r
def qB (st:St) (an:eR) (y:PD an.aG):List (Nat × Nat)->List Prop
 | []=>[]
 | (t,k) :: r=>(match look st.env t with
  | some (.s (.one c))=>lj an.aG y k c
  | _=>[])++qB st an y r
def nK (an:eR) (y:PD an.aG) (us:List Nat):List (Nat × Nat)->List (Nat × SV)
 | []=>[]
 | (t,k) :: r=>(t, .s (.one (cJ an.aG y us k))) :: nK an y us r
def qC (an:eR) (st:St) (x:an.X):List (Nat × SV):=an.bg x++iA st an.bf
def jK (an:eR) (st:St) (x:an.X):List (Nat × OC):=an.aC x++dq st an.dN
def bx (an:eR) (st:St) (x:an.X):St:=
 {env:=nK an (an.pd x) (upto st.next an.aG.length) an.refs++qC an st x,
  aC:=eK (cJ an.aG (an.pd x) (upto st.next an.aG.length)) an.aG (an.pd x) (upto st.next an.aG.length)++jK an st x,next:=st.next + an.aG.length}
def jP (ν:List Nat):List (Nat × OC)->Bool
 | []=>true
 | (n,_) :: r => !(gy n ν) && jP ν r
def nL (bf:List Nat):List (Nat × Nat)->Bool
 | []=>true
 | (t,_) :: r => !(my t bf) && nL bf r
def lN (an:eR) (st:St) (W:List Nat) (x:an.X):Bool:=dr st.next (qC an st x) && (db st.next (jK an st x) && (fr W (an.bg x) && nL an.bf an.refs))
def uO (st:St) (an:eR):eR:=
 {an with bf:=(tK st.env an.bf).filter (fun t=>nL [t] an.refs),dN:=match an.dN with
  | []=>kL (an.iz++(match Ah st an with | some l=>l | none=>[])) st.aC
  | l=>l}
def qD (an:eR) (st st':St) (more:an.X->Prop):VC:=
 match Ah st' an with
 | some ν=>match nodupB ν && (nJ st' an ν an.refs),bL false st'.aC an.aG ν an.aG ν with
  | true,some y => .leaf (x5 (qB st' an y an.refs++dh an.aG y st'.aC an.aG ν++[∃x',an.inv x'/\more x'/\fW st' (an.bg x')/\fX st' (an.aC x'++dq st an.dN)/\(jP ν (jK an st x')=true/\y=an.pd x')]))
  | _,_ => .ff
 | none => .ff
def tL (cx:Cx) (ops:Array Oper) (draw:Bool) (st:St) (K:St->VC):VC:=
 match draw with
 | false=>tE cx ops.toList ops.toList st K
 | true=>match mm ops with
  | true=>Ds cx ops st fun st'=>K (canon st.next (cE ops.toList) st')
  | false => .ff
def ft:Code->Nat->Nat
 | .region id _ _,_=>id
 | .seq a b,d=>ft a (ft b d)
 | .cond _ a b,d=>ft a (ft b d)
 | .block _ b,d=>ft b d
 | .loop b,d=>ft b d
 | _,d=>d
def vc (cx:Cx) (anns:cA):Code->Nat->St->(Ex->St->VC)->VC
 | .skip,_,st,K=>K .normal st
 | .region id ops draw,_,st,K=>match (look anns (id + 300000)).map (fun f=>oG st (f st)) with
  | none=>tL cx ops draw st (K .normal)
  | some an=>match kK an.bf (cE ops.toList) with
   | true => .both (tL cx ops draw st (et an st))
    (.all an.X fun x => .imp (an.inv x) (match dr st.next (aT an st x).env && (db st.next (aT an st x).aC && fr (cE ops.toList) (an.bg x)) with
     | true=>K .normal (aT an st x)
     | false => .ff))
   | false => .ff
 | .seq a b,cur,st,K=>vc cx anns a cur st fun e st'=>match e with
  | .normal=>vc cx anns b cur st' K
  | e=>K e st'
 | .cond c a b,cur,st,K=>match (look anns (ft a (ft b 0) + 400000)).map (fun f=>oG st (f st)) with
  | none=>match bH st.env c with
   | .lit true=>vc cx anns a cur st K
   | .lit false=>vc cx anns b cur st K
   | .d .bool g => .ite g (vc cx anns a cur st K) (vc cx anns b cur st K)
   | _ => .ff
  | some an=>match kK an.bf (writes anns cur (.cond c a b)) with
   | true => .both (match bH st.env c with
    | .lit true=>vc cx anns a cur st fun e st'=>match e with
     | .normal=>et an st st'
     | e=>K e st'
    | .lit false=>vc cx anns b cur st fun e st'=>match e with
     | .normal=>et an st st'
     | e=>K e st'
    | .d .bool g => .ite g (vc cx anns a cur st fun e st'=>match e with
     | .normal=>et an st st'
     | e=>K e st') (vc cx anns b cur st fun e st'=>match e with
     | .normal=>et an st st'
     | e=>K e st')
    | _ => .ff)
    (.all an.X fun x => .imp (an.inv x) (match dr st.next (aT an st x).env && (db st.next (aT an st x).aC && fr (writes anns cur (.cond c a b)) (an.bg x)) with
     | true=>K .normal (aT an st x)
     | false => .ff))
   | false => .ff
 | .block id b,_,st,K=>match (look anns (id + 100000)).map (fun f=>oG st (f st)) with
  | none=>vc cx anns b id st fun e st'=>match e with
   | .exit i=>match Nat.beq i id with
    | true=>K .normal st'
    | false=>K (.exit i) st'
   | e=>K e st'
  | some an=>match kK an.bf (writes anns id b) with
   | true => .both (vc cx anns b id st fun e st'=>match e with
    | .exit i=>match Nat.beq i id with
     | true=>et an st st'
     | false=>K (.exit i) st'
    | .normal=>et an st st'
    | .ret=>K .ret st')
    (.all an.X fun x => .imp (an.inv x) (match dr st.next (aT an st x).env && (db st.next (aT an st x).aC && fr (writes anns id b) (an.bg x)) with
     | true=>K .normal (aT an st x)
     | false => .ff))
   | false => .ff
 | .loop b,cur,st,K=>match look anns (cur + 200000) with
  | none=>match (look anns cur).map (fun f=>oG st (f st)) with
   | some an=>match kK an.bf (writes anns cur b) with
    | true => .and (∃x,an.inv x/\fW st (an.bg x)/\fX st (an.aC x))
      (.all an.X fun x => .imp (an.inv x) (match dr st.next (aT an st x).env && (db st.next (aT an st x).aC && fr (writes anns cur b) (an.bg x)) with
       | true=>vc cx anns b cur (aT an st x) fun e st'=>match e with
        | .normal=>match fq st'.env an.bf with
         | true => .leaf (∃x',an.inv x'/\an.bF x' < an.bF x/\fW st' (an.bg x')/\fX st' (an.aC x'++dq st an.dN))
         | false => .ff
        | e=>K e st'
       | false => .ff))
    | false => .ff
   | none => .leaf (CN cur st)
  | some f=>match uO st (f st) with
   | an=>match kK an.bf (writes anns cur b) with
    | true => .both (qD an st st fun _=>True)
      (.all an.X fun x => .imp (an.inv x) (match lN an st (writes anns cur b) x with
       | true=>vc cx anns b cur (bx an st x) fun e st'=>match e with
        | .normal=>match fq st'.env an.bf with
         | true=>qD an st st' fun x'=>an.bF x' < an.bF x
         | false => .ff
        | e=>K e st'
       | false => .ff))
    | false => .ff
 | .exit id,_,st,K=>K (.exit id) st
 | .ret,_,st,K=>K .ret st
 | _,_,_,_ => .ff
section
variable {X:Ext} {P:Program} {cx:Cx}
theorem sa {S:aP} {a b:C} {v:Value} (h:mw a b) (hv:CR cx.eT S a v):CR cx.eT S b v:=by
 unfold mw at h
 split at h
 ·subst h;exact bM.2 hv
 ·split at h
  ·rename_i hb
   subst h
   exact eG hb _ hv
  ·exact h.elim
 ·split at h
  ·rename_i t xs n t' ys m _ hb hn
   have hn:=Nat.eq_of_beq_eq_true hn
   subst hn
   have:t=t':=by have:=Ty.eq_of_beq hb;cases this;rfl
   subst this
   rw [cg] at h
   subst h
   exact hv
  ·exact h.elim
 ·subst h;exact hv
theorem qE {S:aP} {a b:SV} {v:Value} (h:jm a b) (hv:bE cx.eT S a v):bE cx.eT S b v:=by
 unfold jm at h
 split at h
 ·exact sa h hv
 ·subst h;exact hv
theorem qF {S:aP}:∀{Ej bs:List C} {vs:List Value},nI Ej bs->bK cx.eT S Ej vs->bK cx.eT S bs vs:=by
 intro Ej
 induction Ej with
 | nil=>
  intro bs vs h hv
  cases bs with
  | nil=>exact hv
  | cons=>exact h.elim
 | cons a Ej ih=>
  intro bs vs h hv
  cases bs with
  | nil=>exact h.elim
  | cons b bs=>
   cases hv with
   | cons h1 h2 h3=>exact .cons (sa h.1 h1) h2 (ih h.2 h3)
theorem qG {S:aP} {l:Loc} {a b:OC} (h:fp a b) (hv:OR cx.eT X S l a):OR cx.eT X S l b/\aH l l a b/\a.lo=b.lo:=by
 unfold fp at h
 split at h
 ·split at h
  ·rename_i hT
   have:=Nat.eq_of_beq_eq_true hT
   subst this
   obtain ⟨b,vs,h1,h2,h3,h4⟩:=hv
   exact ⟨⟨b,vs,h1,h2,h3,qF h h4⟩,rfl,rfl⟩
  ·exact h.elim
 ·split at h
  ·rename_i t xs t' ys hb
   have:t=t':=by have:=Ty.eq_of_beq hb;cases this;rfl
   subst this;rw [cg] at h;subst h
   exact ⟨hv,rfl,rfl⟩
  ·exact h.elim
 ·split at h
  ·rename_i t xs t' ys hb
   have:t=t':=by have:=Ty.eq_of_beq hb;cases this;rfl
   subst this;rw [cg] at h;subst h
   exact ⟨hv,rfl,rfl⟩
  ·exact h.elim
 ·split at h
  ·rename_i t xs t' ys hb
   have:t=t':=by have:=Ty.eq_of_beq hb;cases this;rfl
   subst this;rw [cg] at h;subst h
   exact ⟨hv,⟨rfl,Nat.le_refl _,fun _=>rfl⟩,rfl⟩
  ·exact h.elim
 ·split at h
  ·rename_i k t x k' t' y hk hb
   have:=Nat.eq_of_beq_eq_true hk
   subst this
   have:=Ty.eq_of_beq hb
   subst this;rw [du] at h;subst h
   exact ⟨hv,⟨rfl,rfl⟩,rfl⟩
  ·exact h.elim
 ·obtain ⟨h1,rfl,rfl⟩:=h
  obtain ⟨b,m,c,sn,k1,k2,k3,k4,k5,k6⟩:=hv
  exact ⟨⟨b,m,c,sn,k1,k2,k3,qF h1 k4,k5,k6⟩,trivial,rfl⟩
 ·exact h.elim
theorem mz {n:Nat} {l:List Nat}:my n l=true ↔ n∈l:=by
 induction l with
 | nil=>simp [my]
 | cons m r ih=>
  simp only [my,List.mem_cons]
  by_cases h:m=n
  ·subst h;simp [Nat.beq_refl]
  ·rw [fP h];simp only [ih]
   constructor
   ·exact .inr
   ·rintro (h' | h')
    ·exact absurd h'.symm h
    ·exact h'
theorem kM {l W:List Nat} (h:kK l W=true):∀n∈l,allM∉W/\n∉W:=by
 intro n hn
 unfold kK at h
 split at h
 ·simp at hn
 ·simp only [Bool.and_eq_true,List.all_eq_true,Bool.not_eq_true'] at h
  exact ⟨fun hW=>by rw [mz.2 hW] at h;exact absurd h.1 (by decide),fun hW=>by have:=h.2 n hn;rw [mz.2 hW] at this;cases this⟩
def kN (cx:Cx) (X:Ext) (O:aD) (K:Ex->St->VC) (W:List Nat) (st:St) (S:aP):Exit->Act->World->Prop
 | .normal,a,w=>cp cx X O (K .normal) W st S a w
 | .exit n,a,w=>cp cx X O (K (.exit n)) W st S a w
 | .ret,a,w=>cp cx X O (K .ret) W st S a w
 | _,_,_=>False
theorem kN.mono {O:aD} {K:Ex->St->VC} {W W':List Nat} {st st1:St} {S S1:aP} {e:Exit} {a:Act} {w:World} (h:kN cx X O K W st1 S1 e a w) (ht:Tr S S1) (ha:gk W' st st1) (hW:∀n∈W,n∈W'):kN cx X O K W' st S e a w:=by
 have key:∀K:St->VC,cp cx X O K W st1 S1 a w->cp cx X O K W' st S a w:=by
  rintro K ⟨st',loc',k1,k2,k3,k4,k5⟩
  exact ⟨st',loc',k1,k2,ht.trans k3,k4,ha.trans fun hm t ht=>k5 (fun h=>hm (hW _ h)) t fun h=>ht (hW t h)⟩
 cases e with
 | normal=>exact key _ h
 | exit n=>exact key _ h
 | ret=>exact key _ h
 | goto l=>exact h
 | panic c=>exact h
 | outgrown=>exact h
theorem cK {st:St} {l:List Nat} {n:Nat} {v:SV} (h:look (iA st l) n=some v):n∈l/\look st.env n=some v:=by
 induction l with
 | nil=>simp [iA,look] at h
 | cons t r ih=>
  simp only [iA] at h
  split at h
  ·rename_i u hu
   rw [ba] at h
   by_cases e:t=n
   ·rw [if_pos e] at h;cases h;subst e;exact ⟨by simp,hu⟩
   ·rw [if_neg e] at h;have:=ih h;exact ⟨by simp [this.1],this.2⟩
  ·have:=ih h;exact ⟨by simp [this.1],this.2⟩
theorem tt {st:St} {l:List Nat} {n:Nat} {v:OC} (h:look (dq st l) n=some v):look st.aC n=some v:=by
 induction l with
 | nil=>simp [dq,look] at h
 | cons t r ih=>
  simp only [dq] at h
  split at h
  ·rename_i u hu
   rw [ba] at h
   by_cases e:t=n
   ·rw [if_pos e] at h;cases h;subst e;exact hu
   ·rw [if_neg e] at h;exact ih h
  ·exact ih h
theorem fY {st:St} {l:List (Nat × SV)} (h:fW st l):∀{n v},look l n=some v->∃u,look st.env n=some u/\jm u v:=by
 induction l with
 | nil=>intro n v hl;simp [look] at hl
 | cons p r ih=>
  obtain ⟨m,x⟩:=p
  intro n v hl
  simp only [fW] at h
  split at h
  ·rename_i u hu
   rw [ba] at hl
   by_cases e:m=n
   ·rw [if_pos e] at hl;cases hl;subst e;exact ⟨u,hu,h.1⟩
   ·rw [if_neg e] at hl;exact ih h.2 hl
  ·exact h.elim
theorem fZ {st:St} {l:List (Nat × OC)} (h:fX st l):∀{n v},look l n=some v->∃u,look st.aC n=some u/\fp u v:=by
 induction l with
 | nil=>intro n v hl;simp [look] at hl
 | cons p r ih=>
  obtain ⟨m,x⟩:=p
  intro n v hl
  simp only [fX] at h
  split at h
  ·rename_i u hu
   rw [ba] at hl
   by_cases e:m=n
   ·rw [if_pos e] at hl;cases hl;subst e;exact ⟨u,hu,h.1⟩
   ·rw [if_neg e] at hl;exact ih h.2 hl
  ·exact h.elim
theorem bk {a b:Nat} (h:Nat.blt a b=true):a < b:=fQ h
theorem x9 {S S':aP} (hO:∀b o v,¬ S.A b o->S.w.cell? ⟨b,o,none⟩=some v->S'.w.cell? ⟨b,o,none⟩=some v/\¬ S'.A b o) (hloc:S'.loc=S.loc)
  (hob:∀n oc,S'.ob n=some oc->∃oc0,S.ob n=some oc0/\aH (S.loc n) (S.loc n) oc0 oc) {c:C} {v:Value} (hb:jn S'.next c=true) (hv:CR cx.eT S c v):CR cx.eT S' c v:=by
 cases c with
 | lit b=>exact hv
 | d t x=>exact VR.frame hv hO
 | app t xs n=>
  obtain ⟨h1,h2,h3⟩:=hv
  refine ⟨VR.frame h1 hO,bk hb,fun ys hy => ?_⟩
  obtain ⟨oc0,k1,k2⟩:=hob n _ hy
  cases oc0 <;> simp [aH] at k2
  obtain ⟨rfl,k3⟩:=k2
  obtain ⟨m1,m2⟩:=h3 _ k1
  rw [hloc]
  exact ⟨by omega,fun e=>m2 (by omega)⟩
 | dt=>exact hv
 | cG=>exact hv
 | emp=>exact hv
 | aL n=>
  refine ⟨bk hb,fun t xs e => ?_⟩
  obtain ⟨oc0,k1,k2⟩:=hob n _ e
  cases oc0 <;> simp [aH] at k2
  rw [hloc];exact hv.2 _ _ k1
 | gQ n t lo len=>
  refine ⟨bk hb,fun xs e => ?_⟩
  obtain ⟨oc0,k1,k2⟩:=hob n _ e
  cases oc0 <;> simp [aH] at k2
  subst k2
  rw [hloc];exact hv.2 _ k1
 | gv n=>
  refine ⟨bk hb,fun t xs e => ?_⟩
  obtain ⟨oc0,k1,k2⟩:=hob n _ e
  cases oc0 <;> simp [aH] at k2
  rw [hloc];exact hv.2 _ _ k1
 | bX n=>
  refine ⟨bk hb,fun oc e hx => ?_⟩
  obtain ⟨oc0,k1,k2⟩:=hob n _ e
  rw [hloc];exact hv.2 _ k1 (by cases oc0 <;> cases oc <;> first | rfl | exact k2.elim | cases hx)
 | xd n p=>
  refine ⟨bk hb,fun t x e => ?_⟩
  obtain ⟨oc0,k1,k2⟩:=hob n _ e
  cases oc0 <;> simp [aH] at k2
  obtain ⟨rfl,rfl⟩:=k2
  rw [hloc];exact hv.2 _ _ k1
 | ref n off=>
  refine ⟨bk hb,fun T cs e => ?_⟩
  obtain ⟨oc0,k1,k2⟩:=hob n _ e
  cases oc0 <;> simp [aH] at k2
  rw [hloc];exact hv.2 _ _ k1
 | jR n=>
  refine ⟨bk hb,?_⟩
  rcases hv.2 with hn | hn
  ·exact .inl hn
  ·refine .inr fun T cs e => ?_
   obtain ⟨oc0,k1,k2⟩:=hob n _ e
   cases oc0 <;> simp [aH] at k2
   rw [hloc];exact hn _ _ k1
 | eC n t i off=>
  refine ⟨bk hb,fun ⟨xs,e⟩ => ?_⟩
  rw [hloc]
  rcases e with e | e
  ·obtain ⟨oc0,k1,k2⟩:=hob n _ e
   cases oc0 <;> simp [aH] at k2
   subst k2;exact hv.2 ⟨_, .inl k1⟩
  ·obtain ⟨oc0,k1,k2⟩:=hob n _ e
   cases oc0 <;> simp [aH] at k2
   subst k2;exact hv.2 ⟨_, .inr k1⟩
 | gR t x=>
  obtain ⟨b,o,us,rfl,h1,h2⟩:=hv
  exact ⟨b,o,us,rfl,h1.frame hO,h2.frame hO⟩
 | fn f caps=>
  obtain ⟨rfl,h2⟩:=hv
  refine ⟨by rw [hloc],fun n hn=>⟨?_,fun t ys e => ?_⟩⟩
  ·have:∀l:List Nat,dU S'.next l=true->n∈l->n < S'.next:=by
    intro l
    induction l with
    | nil=>intro _ h;simp at h
    | cons m r ih=>
     intro h hm
     simp only [dU,Bool.and_eq_true] at h
     rcases List.mem_cons.1 hm with rfl | hm
     ·exact bk h.1
     ·exact ih h.2 hm
   exact this caps hb hn
  ·obtain ⟨oc0,k1,k2⟩:=hob n _ e
   cases oc0 <;> simp [aH] at k2
   exact (h2 n hn).2 _ _ k1
 | any=>trivial
theorem lO {k:Nat}:∀{l:List Nat} {n:Nat},dU k l=true->n∈l->n < k
 | [],_,_,h=>by simp at h
 | m :: r,n,h,hn=>by
  simp only [dU,Bool.and_eq_true] at h
  rcases List.mem_cons.1 hn with e | hn
  ·rw [e];exact bk h.1
  ·exact lO h.2 hn
theorem kd {S S':aP} {k:Nat} (hrel:∀{c:C} {v:Value},jn k c=true->CR cx.eT S c v->CR cx.eT S' c v):∀{cs:List C} {vs:List Value},gK k cs=true->bK cx.eT S cs vs->bK cx.eT S' cs vs:=by
 intro cs
 induction cs with
 | nil=>intro vs _ h;cases h;exact .nil
 | cons c cs ih=>
  intro vs hb h
  simp only [gK,Bool.and_eq_true] at hb
  cases h with
  | cons h1 h2 h3=>exact .cons (hrel hb.1 h1) h2 (ih hb.2 h3)
theorem wi {S S':aP} (hO:∀b o v,¬ S.A b o->S.w.cell? ⟨b,o,none⟩=some v->S'.w.cell? ⟨b,o,none⟩=some v/\¬ S'.A b o) {k:Nat} (hk:k<=S'.next) (hloc:∀n,n < k->S'.loc n=S.loc n)
  (hob:∀n oc,n < k->S'.ob n=some oc->∃oc0,S.ob n=some oc0/\aH (S.loc n) (S.loc n) oc0 oc) {c:C} {v:Value} (hb:jn k c=true) (hv:CR cx.eT S c v):CR cx.eT S' c v:=by
 cases c with
 | lit b=>exact hv
 | d t x=>exact VR.frame hv hO
 | app t xs n=>
  obtain ⟨h1,h2,h3⟩:=hv
  refine ⟨VR.frame h1 hO,Nat.lt_of_lt_of_le (bk hb) hk,fun ys hy => ?_⟩
  obtain ⟨oc0,k1,k2⟩:=hob n _ (bk hb) hy
  cases oc0 <;> simp [aH] at k2
  obtain ⟨rfl,k3⟩:=k2
  obtain ⟨m1,m2⟩:=h3 _ k1
  rw [hloc n (bk hb)]
  exact ⟨by omega,fun e=>m2 (by omega)⟩
 | dt=>exact hv
 | cG=>exact hv
 | emp=>exact hv
 | aL n=>
  refine ⟨Nat.lt_of_lt_of_le (bk hb) hk,fun t xs e => ?_⟩
  obtain ⟨oc0,k1,k2⟩:=hob n _ (bk hb) e
  cases oc0 <;> simp [aH] at k2
  rw [hloc n (bk hb)];exact hv.2 _ _ k1
 | gQ n t lo len=>
  refine ⟨Nat.lt_of_lt_of_le (bk hb) hk,fun xs e => ?_⟩
  obtain ⟨oc0,k1,k2⟩:=hob n _ (bk hb) e
  cases oc0 <;> simp [aH] at k2
  subst k2
  rw [hloc n (bk hb)];exact hv.2 _ k1
 | gv n=>
  refine ⟨Nat.lt_of_lt_of_le (bk hb) hk,fun t xs e => ?_⟩
  obtain ⟨oc0,k1,k2⟩:=hob n _ (bk hb) e
  cases oc0 <;> simp [aH] at k2
  rw [hloc n (bk hb)];exact hv.2 _ _ k1
 | bX n=>
  refine ⟨Nat.lt_of_lt_of_le (bk hb) hk,fun oc e hx => ?_⟩
  obtain ⟨oc0,k1,k2⟩:=hob n _ (bk hb) e
  rw [hloc n (bk hb)];exact hv.2 _ k1 (by cases oc0 <;> cases oc <;> first | rfl | exact k2.elim | cases hx)
 | xd n p=>
  refine ⟨Nat.lt_of_lt_of_le (bk hb) hk,fun t x e => ?_⟩
  obtain ⟨oc0,k1,k2⟩:=hob n _ (bk hb) e
  cases oc0 <;> simp [aH] at k2
  obtain ⟨rfl,rfl⟩:=k2
  rw [hloc n (bk hb)];exact hv.2 _ _ k1
 | ref n off=>
  refine ⟨Nat.lt_of_lt_of_le (bk hb) hk,fun T cs e => ?_⟩
  obtain ⟨oc0,k1,k2⟩:=hob n _ (bk hb) e
  cases oc0 <;> simp [aH] at k2
  rw [hloc n (bk hb)];exact hv.2 _ _ k1
 | jR n=>
  refine ⟨Nat.lt_of_lt_of_le (bk hb) hk,?_⟩
  rcases hv.2 with hn | hn
  ·exact .inl hn
  ·refine .inr fun T cs e => ?_
   obtain ⟨oc0,k1,k2⟩:=hob n _ (bk hb) e
   cases oc0 <;> simp [aH] at k2
   rw [hloc n (bk hb)];exact hn _ _ k1
 | eC n t i off=>
  refine ⟨Nat.lt_of_lt_of_le (bk hb) hk,fun ⟨xs,e⟩ => ?_⟩
  rw [hloc n (bk hb)]
  rcases e with e | e
  ·obtain ⟨oc0,k1,k2⟩:=hob n _ (bk hb) e
   cases oc0 <;> simp [aH] at k2
   subst k2;exact hv.2 ⟨_, .inl k1⟩
  ·obtain ⟨oc0,k1,k2⟩:=hob n _ (bk hb) e
   cases oc0 <;> simp [aH] at k2
   subst k2;exact hv.2 ⟨_, .inr k1⟩
 | gR t x=>
  obtain ⟨b,o,us,rfl,h1,h2⟩:=hv
  exact ⟨b,o,us,rfl,h1.frame hO,h2.frame hO⟩
 | fn f caps=>
  obtain ⟨rfl,h2⟩:=hv
  have hlt:∀n∈caps,n < k:=fun n hn=>lO hb hn
  refine ⟨by rw [show (caps.map fun n=>(S.loc n).v)=(caps.map fun n=>(S'.loc n).v) from List.map_congr_left fun n hn=>by rw [hloc n (hlt n hn)]],fun n hn=>⟨Nat.lt_of_lt_of_le (hlt n hn) hk,fun t ys e => ?_⟩⟩
  obtain ⟨oc0,k1,k2⟩:=hob n _ (hlt n hn) e
  cases oc0 <;> simp [aH] at k2
  exact (h2 n hn).2 _ _ k1
 | any=>trivial
theorem aH.comp {l1 l2 l3:Loc} {a b c:OC} (h:aH l1 l2 a b) (h':aH l2 l3 b c):aH l1 l3 a c:=by
 cases a <;> cases b <;> simp [aH] at h <;> cases c <;> simp [aH] at h' ⊢
 all_goals (try (simp_all;done))
 obtain ⟨rfl,a1,a2⟩:=h
 obtain ⟨rfl,b1,b2⟩:=h'
 refine ⟨rfl,by omega,fun e => ?_⟩
 rw [b2 (by omega),a2 (by omega)]
theorem ll {S S':aP} (hrel:∀{c:C} {v:Value},jn S'.next c=true->CR cx.eT S c v->CR cx.eT S' c v):∀{cs:List C} {vs:List Value},gK S'.next cs=true->bK cx.eT S cs vs->bK cx.eT S' cs vs:=by
 intro cs
 induction cs with
 | nil=>intro vs _ h;cases h;exact .nil
 | cons c cs ih=>
  intro vs hb h
  simp only [gK,Bool.and_eq_true] at hb
  cases h with
  | cons h1 h2 h3=>exact .cons (hrel hb.1 h1) h2 (ih hb.2 h3)
theorem mX {k:Nat}:∀{l:List (Nat × SV)},dr k l=true->∀{n v},look l n=some v->∃v0,v = .s v0/\uN k v0=true:=by
 intro l
 induction l with
 | nil=>intro _ n v h;simp [look] at h
 | cons p r ih=>
  obtain ⟨m,x⟩:=p
  intro hb n v h
  cases x with
  | fK vs=>simp [dr] at hb
  | s v0=>
   simp only [dr,Bool.and_eq_true] at hb
   rw [ba] at h
   by_cases e:m=n
   ·rw [if_pos e] at h;cases h;exact ⟨v0,rfl,hb.1⟩
   ·rw [if_neg e] at h;exact ih hb.2 h
theorem fH {k:Nat}:∀{l:List (Nat × OC)},db k l=true->∀{n v},look l n=some v->n < k/\xk k v=true:=by
 intro l
 induction l with
 | nil=>intro _ n v h;simp [look] at h
 | cons p r ih=>
  obtain ⟨m,x⟩:=p
  intro hb n v h
  simp only [db,Bool.and_eq_true] at hb
  rw [ba] at h
  by_cases e:m=n
  ·rw [if_pos e] at h;cases h;subst e;exact ⟨bk hb.1.1,hb.1.2⟩
  ·rw [if_neg e] at h;exact ih hb.2 h
theorem mA {an:eR} {O:aD} {st st':St} {loc loc0:Nat->Loc} {w w0:World} {a:Act} (x:an.X) (g:Good cx.eT X (aA O st' loc w)) (hA:da cx (aA O st' loc w) st' a) (ht:Tr (aA O st loc0 w0) (aA O st' loc w))
  (he:∀n v,look (aT an st x).env n=some v->∃u,look st'.env n=some u/\jm u v)
  (ho:∀n v,look (aT an st x).aC n=some v->∃u,look st'.aC n=some u/\fp u v)
  (hb1:dr st.next (aT an st x).env=true) (hb2:db st.next (aT an st x).aC=true) :
  Good cx.eT X (aA O (aT an st x) loc w)/\da cx (aA O (aT an st x) loc w) (aT an st x) a/\Tr (aA O st loc0 w0) (aA O (aT an st x) loc w):=by
 have hob:∀n oc,look (aT an st x).aC n=some oc->∃oc0,look st'.aC n=some oc0/\aH (loc n) (loc n) oc0 oc/\oc0.lo=oc.lo/\OR cx.eT X (aA O st' loc w) (loc n) oc:=by
  intro n oc h
  obtain ⟨u,hu,hs⟩:=ho n oc h
  obtain ⟨h1,h2,h3⟩:=qG hs (g.obj n u hu).2
  exact ⟨u,hu,h2,h3,h1⟩
 have hAsub:∀b o,(aA O (aT an st x) loc w).A b o->(aA O st' loc w).A b o:=by
  rintro b o (h | ⟨n,oc,h1,h2,h3⟩)
  ·exact .inl h
  ·obtain ⟨oc0,k1,_,k3,_⟩:=hob n oc h1
   exact .inr ⟨n,oc0,k1,h2,by rw [k3];exact h3⟩
 have hcell:∀b o v,¬ (aA O st' loc w).A b o->w.cell? ⟨b,o,none⟩=some v->w.cell? ⟨b,o,none⟩=some v/\¬ (aA O (aT an st x) loc w).A b o:=fun b o v h1 h2=>⟨h2,fun h=>h1 (hAsub b o h)⟩
 have hrel:∀{c:C} {v:Value},jn st.next c=true->CR cx.eT (aA O st' loc w) c v->CR cx.eT (aA O (aT an st x) loc w) c v:=fun hb hv=>
  x9 (S:=aA O st' loc w) (S':=aA O (aT an st x) loc w) hcell rfl (fun n oc h=>let ⟨oc0,k1,k2,_⟩:=hob n oc h;⟨oc0,k1,k2⟩) hb hv
 have hor:∀n oc,look (aT an st x).aC n=some oc->OR cx.eT X (aA O (aT an st x) loc w) (loc n) oc:=by
  intro n oc h
  obtain ⟨_,_,_,_,k4⟩:=hob n oc h
  have hb:=(fH hb2 h).2
  cases oc with
  | cells T cs=>
   obtain ⟨b,vs,h1,h2,h3,h4⟩:=k4
   exact ⟨b,vs,h1,h2,h3,ll hrel hb h4⟩
  | aL t xs=>
   rcases k4 with k4 | ⟨b,vs,T,cap,h1,h2,h3,h4,h5,h6,h7⟩
   ·exact .inl k4
   ·exact .inr ⟨b,vs,T,cap,h1,h2,h3,h4,h5,h6,fun i y hy=>let ⟨us,r1,r2⟩:=h7 i y hy;⟨us,r1.frame hcell,r2⟩⟩
  | arr t xs=>
   obtain ⟨b,vs,T,h1,h2,h3,h4,h5⟩:=k4
   exact ⟨b,vs,T,h1,h2,h3,h4,fun i y hy=>let ⟨us,r1,r2⟩:=h5 i y hy;⟨us,r1.frame hcell,r2⟩⟩
  | tok t xs=>
   rcases k4 with k4 | ⟨b,vs,T,cap,h1,h2,h3,h4,h5,h6,h7⟩
   ·exact .inl k4
   ·exact .inr ⟨b,vs,T,cap,h1,h2,h3,h4,h5,h6,fun i y hy=>let ⟨us,r1,r2⟩:=h7 i y hy;⟨us,r1.frame hcell,r2⟩⟩
  | ext k t x=>exact k4
  | iter cs seen cl=>obtain ⟨b,m,c,sn,k1,k2,k3,k4,k5⟩:=k4;exact ⟨b,m,c,sn,k1,k2,k3,ll hrel hb k4,k5⟩
 refine ⟨⟨fun n oc h=>⟨(fH hb2 h).1,hor n oc h⟩,fun n m oc oc' b h1 h2 h3 h4 => ?_,fun n oc b off h1 h2 => ?_,g.gw.sub rfl fun b ⟨n,oc,h1,h2⟩=>by obtain ⟨oc0,k1,_⟩:=hob n oc h1;exact ⟨n,oc0,k1,h2⟩⟩,⟨hA.size,hA.defers,fun n v h => ?_⟩,?_⟩
 ·obtain ⟨oc0,k1,_⟩:=hob n oc h1
  obtain ⟨oc0',k1',_⟩:=hob m oc' h2
  exact g.apart n m oc0 oc0' b k1 k1' h3 h4
 ·obtain ⟨oc0,k1,_⟩:=hob n oc h1
  exact g.out n oc0 b off k1 h2
 ·obtain ⟨u,hu,hs⟩:=he n v h
  have hv:=qE hs (hA.env n u hu)
  obtain ⟨v0,rfl,hb⟩:=mX hb1 h
  cases v0 with
  | one c=>exact hrel hb hv
  | agg cs=>obtain ⟨vs,h1,h2⟩:=hv;exact ⟨vs,h1,ll hrel hb h2⟩
 ·refine {O:=ht.O,next:=Nat.le_refl _,os:=ht.os,output:=ht.output,size:=ht.size,own:=fun b hb => ?_,cell:=fun b o v h1 h2 => ?_,block:=ht.block,loc:=ht.loc,kind:=fun n oc hn h => ?_}
  ·obtain ⟨n,oc,h1,h2⟩:=hb
   obtain ⟨oc0,k1,_⟩:=hob n oc h1
   exact ht.own b ⟨n,oc0,k1,h2⟩
  ·obtain ⟨k1,k2⟩:=ht.cell b o v h1 h2
   exact ⟨k1,fun h=>k2 (hAsub b o h)⟩
  ·obtain ⟨oc0,k1,k2,_⟩:=hob n oc h
   obtain ⟨oc1,m1,m2⟩:=ht.kind n oc0 hn k1
   exact ⟨oc1,m1,m2.comp k2⟩
theorem Ty.beq_refl:∀t:Ty,Ty.beq t t=true:=by
 intro t
 induction t with
 | prod a b iha ihb=>simp [Ty.beq,iha,ihb]
 | slice e ih=>simp [Ty.beq,ih]
 | int k=>simp [Ty.beq]
 | _=>rfl
theorem qH (c:C):mw c c:=by
 cases c with
 | d t x=>
  simp only [mw]
  split
  ·rfl
  ·rename_i h;rw [Ty.beq_refl] at h;cases h
 | app t xs n=>
  simp only [mw]
  split
  ·rfl
  ·rename_i h;exact (h (Ty.beq_refl _) (Nat.beq_refl _)).elim
 | _=>rfl
theorem eY (v:SV):jm v v:=by
 cases v with
 | s v=>
  cases v with
  | one c=>exact qH c
  | agg cs=>rfl
 | fK vs=>rfl
theorem ln:∀cs:List C,nI cs cs
 | []=>trivial
 | c :: cs=>⟨qH c,ln cs⟩
theorem wj (v:OC):fp v v:=by
 cases v with
 | cells T cs=>
  simp only [fp,Nat.beq_refl]
  exact ln cs
 | aL t xs=>
  simp only [fp]
  split
  ·rfl
  ·rename_i h;rw [Ty.beq_refl] at h;cases h
 | arr t xs=>
  simp only [fp]
  split
  ·rfl
  ·rename_i h;rw [Ty.beq_refl] at h;cases h
 | tok t xs=>
  simp only [fp]
  split
  ·rfl
  ·rename_i h;rw [Ty.beq_refl] at h;cases h
 | ext k t x=>
  simp only [fp]
  split
  ·rfl
  ·rename_i h;exact (h (Nat.beq_refl _) (Ty.beq_refl _)).elim
 | iter cs seen cl=>exact ⟨ln cs,rfl,rfl⟩
theorem ja {W:List Nat}:∀{l:List (Nat × SV)},fr W l=true->∀{n v},look l n=some v->n∈W:=by
 intro l
 induction l with
 | nil=>intro _ n v h;simp [look] at h
 | cons p r ih=>
  obtain ⟨m,x⟩:=p
  intro hb n v h
  simp only [fr,Bool.and_eq_true] at hb
  rw [ba] at h
  by_cases e:m=n
  ·subst e;exact mz.1 hb.1
  ·rw [if_neg e] at h;exact ih hb.2 h
theorem gl {env:List (Nat × SV)}:∀{l:List Nat},fq env l=true->∀{n},n∈l->∃v,look env n=some v:=by
 intro l
 induction l with
 | nil=>intro _ n h;simp at h
 | cons t r ih=>
  intro hb n h
  simp only [fq] at hb
  split at hb
  ·rename_i u hu
   rcases List.mem_cons.1 h with rfl | h
   ·exact ⟨u,hu⟩
   ·exact ih hb h
  ·cases hb
theorem CO {O:aD} {K:Ex->St->VC} {W:List Nat} {st:St} {S:aP} {next:Act->World->Prop} {Q:Exit->Act->World->Prop} {K':Ex->St->VC}
  (hn:∀a w,cp cx X O (K' .normal) W st S a w->next a w) (hK:∀e,e≠.normal->K' e=K e) (hQ:∀e a w,kN cx X O K W st S e a w->e≠.normal->Q e a w) {e:Exit} {a:Act} {w:World}
  (h:kN cx X O K' W st S e a w):Exit.then next Q e a w:=by
 cases e with
 | normal=>exact hn a w h
 | exit n=>exact hQ _ _ _ (by simpa [kN,hK (.exit n) (by simp)] using h) (by simp)
 | ret=>exact hQ _ _ _ (by simpa [kN,hK .ret (by simp)] using h) (by simp)
 | goto l=>exact h.elim
 | panic c=>exact h.elim
 | outgrown=>exact h.elim
structure DC (an:eR) (st st':St) (x:an.X) (ν:List Nat):Prop where
 nodup:nodupB ν=true
 refs:nJ st' an ν an.refs=true
 get:bL false st'.aC an.aG ν an.aG ν=some (an.pd x)
 D3:∀p∈qB st' an (an.pd x) an.refs,p
 conds:∀p∈dh an.aG (an.pd x) st'.aC an.aG ν,p
 env:fW st' (an.bg x)
 aC:fX st' (jK an st x)
 out:jP ν (jK an st x)=true
theorem sb {an:eR} {st st':St} {more:an.X->Prop} (h:(qD an st st' more).holds):∃x,an.inv x/\more x/\∃ν,DC an st st' x ν:=by
 unfold qD at h
 split at h
 ·rename_i ν _
  split at h
  ·rename_i y hc hy
   simp only [Bool.and_eq_true] at hc
   have hall:=pP h
   obtain ⟨x,h1,h2,h3,h4,h5,h6⟩:=hall (∃x',an.inv x'/\more x'/\fW st' (an.bg x')/\fX st' (an.aC x'++dq st an.dN)/\(jP ν (jK an st x')=true/\y=an.pd x')) (List.mem_append_right _ (List.mem_singleton.2 rfl))
   subst h6
   obtain ⟨k1,_⟩:=ef.1 hall
   obtain ⟨k1,k2⟩:=ef.1 k1
   exact ⟨x,h1,h2,ν,hc.1,hc.2,hy,k1,k2,h3,h4,h5⟩
  ·exact h.elim
 ·exact h.elim
theorem nM {ν:List Nat}:∀{l:List (Nat × OC)},jP ν l=true->∀{n v},look l n=some v->n∉ν
 | [],_,n,v,h=>by simp [look] at h
 | (m,u) :: r,hk,n,v,h=>by
  simp only [jP,Bool.and_eq_true,Bool.not_eq_true'] at hk
  rw [ba] at h
  split at h
  ·rename_i e;subst e
   intro hm;rw [pQ.2 hm] at hk;exact absurd hk.1 (by decide)
  ·exact nM hk.2 h
theorem lp {an:eR} {y:PD an.aG} {us:List Nat}:∀{l:List (Nat × Nat)} {t:Nat} {v:SV},look (nK an y us l) t=some v->∃k,(t,k)∈l/\v = .s (.one (cJ an.aG y us k))
 | [],t,v,h=>by simp [nK,look] at h
 | (m,k) :: r,t,v,h=>by
  simp only [nK,ba] at h
  split at h
  ·rename_i e;subst e;cases h;exact ⟨k,by simp,rfl⟩
  ·obtain ⟨k',h1,h2⟩:=lp h;exact ⟨k',by simp [h1],h2⟩
theorem qI {st:St} {an:eR} {ν:List Nat}:∀{l:List (Nat × Nat)} {t k:Nat},nJ st an ν l=true->(t,k)∈l->∃c,look st.env t=some (.s (.one c))/\dz false st.aC an.aG ν k c=true
 | [],_,_,_,h=>by simp at h
 | (m,i) :: r,t,k,h,hm=>by
  simp only [nJ,Bool.and_eq_true] at h
  rcases List.mem_cons.1 hm with e | hm
  ·cases e
   obtain ⟨h1,_⟩:=h
   split at h1
   ·rename_i c hc;exact ⟨c,hc,h1⟩
   ·cases h1
  ·exact qI h.2 hm
theorem sd {st:St} {an:eR} {y:PD an.aG}:∀{l:List (Nat × Nat)} {t k:Nat} {c:C},(∀p∈qB st an y l,p)->(t,k)∈l->look st.env t=some (.s (.one c))->∀p∈lj an.aG y k c,p
 | [],_,_,_,_,h,_=>by simp at h
 | (m,i) :: r,t,k,c,h,hm,hl=>by
  simp only [qB] at h
  obtain ⟨h1,h2⟩:=ef.1 h
  rcases List.mem_cons.1 hm with e | hm
  ·cases e
   rw [hl] at h1
   exact h1
  ·exact sd h2 hm hl
theorem qJ {bf:List Nat}:∀{l:List (Nat × Nat)} {t k:Nat},nL bf l=true->(t,k)∈l->t∉bf
 | [],_,_,_,h=>by simp at h
 | (m,i) :: r,t,k,h,hm=>by
  simp only [nL,Bool.and_eq_true,Bool.not_eq_true'] at h
  rcases List.mem_cons.1 hm with e | hm
  ·cases e
   intro hk;rw [mz.2 hk] at h;exact absurd h.1 (by decide)
  ·exact qJ h.2 hm
theorem se {an:eR} {O:aD} {st st':St} {loc loc0:Nat->Loc} {w w0:World} {a:Act} {W:List Nat} (x:an.X) (g:Good cx.eT X (aA O st' loc w)) (hA:da cx (aA O st' loc w) st' a) (ht:Tr (aA O st loc0 w0) (aA O st' loc w))
  (hok:lN an st W x=true) (hkeep:∀n∈an.bf,∀v,look st.env n=some v->∃u,look st'.env n=some u/\jm u v) (hf:∃ν,DC an st st' x ν) :
  ∃loc',Good cx.eT X (aA O (bx an st x) loc' w)/\da cx (aA O (bx an st x) loc' w) (bx an st x) a/\Tr (aA O st loc0 w0) (aA O (bx an st x) loc' w):=by
 obtain ⟨ν,hf⟩:=hf
 simp only [lN,Bool.and_eq_true] at hok
 obtain ⟨hb1,hb2,hkeys,hnr⟩:=hok
 generalize husd:upto st.next an.aG.length=us
 have husl:us.length=an.aG.length:=by rw [<-husd];exact mv _ _
 have hus:nodupB us=true:=by rw [<-husd];exact dS _ _
 have husm:∀n∈us,st.next<=n/\n < st.next + an.aG.length:=fun n hn=>by rw [<-husd] at hn;exact mu hn
 have hlen:ν.length=us.length:=by rw [husl];exact (jJ hf.get).symm
 let loc':=bV us (ν.map loc) loc
 have hlow:∀n,n < st.next->loc' n=loc n:=fun n hn=>gJ fun hm=>by have:=(husm n hm).1;omega
 have hnu:∀n,n < st.next->n∉us:=fun n hn hm=>by have:=(husm n hm).1;omega
 have hrest:∀m oc,look (jK an st x) m=some oc->m < st.next/\m∉ν/\∃u,look st'.aC m=some u/\aH (loc m) (loc m) u oc/\u.lo=oc.lo/\OR cx.eT X (aA O st' loc w) (loc m) oc:=by
  intro m oc hm
  obtain ⟨u,hu,hs⟩:=fZ hf.aC hm
  obtain ⟨h1,h2,h3⟩:=qG hs (g.obj m u hu).2
  exact ⟨(fH hb2 hm).1,nM hf.out hm,u,hu,h2,h3,h1⟩
 have hob:∀m oc,look (bx an st x).aC m=some oc->(∃(i n:Nat) (o:Ob) (y:OD o) (oc0:OC),ν[i]?=some n/\us[i]?=some m/\look st'.aC n=some oc0/\dE false st'.aC an.aG ν o oc0=some y/\
   oc=ka (cJ an.aG (an.pd x) us) o y/\loc' m=loc n)\/(m∉us/\look (jK an st x) m=some oc/\loc' m=loc m):=by
  intro m oc hm
  simp only [bx,husd,bN] at hm
  split at hm
  ·rename_i oc' hm'
   cases hm
   obtain ⟨i,n,o,y,oc0,k1,k2,k3,k4,k5,k6,_⟩:=jI hf.get (jH (X:=X) g hf.get hf.get hf.conds) hlen hm'
   exact .inl ⟨i,n,o,y,oc0,k1,k2,k4,k5,k6,ez hus k2 (by simp [k1])⟩
  ·rename_i hm'
   have hnin:m∉us:=fun hmem=>by
    obtain ⟨oc1,h2⟩:=jk (f:=cJ an.aG (an.pd x) us) (x:=an.pd x) husl.symm hmem
    rw [h2] at hm';cases hm'
   exact .inr ⟨hnin,hm,gJ hnin⟩
 have hAsub:∀b o,(aA O (bx an st x) loc' w).A b o->(aA O st' loc w).A b o:=by
  rintro b off (h | ⟨m,oc,h1,h2,h3⟩)
  ·exact .inl h
  ·rcases hob m oc h1 with ⟨i,n,o,y,oc0,k1,k2,k4,k5,k6,k7⟩ | ⟨k1,k2,k3⟩
   ·refine .inr ⟨n,oc0,k4,by simp only [aA] at h2;rw [k7] at h2;exact h2,?_⟩
    rcases rF (f:=cJ an.aG (an.pd x) us) k5 with e | e
    ·rw [<-e,<-k6];exact h3
    ·cases e
   ·obtain ⟨_,_,u,hu,_,hlo,_⟩:=hrest m oc k2
    exact .inr ⟨m,u,hu,by simp only [aA] at h2;rw [k3] at h2;exact h2,by rw [hlo];exact h3⟩
 have hcell:∀b o v,¬ (aA O st' loc w).A b o->w.cell? ⟨b,o,none⟩=some v->w.cell? ⟨b,o,none⟩=some v/\¬ (aA O (bx an st x) loc' w).A b o:=fun b o v h1 h2=>⟨h2,fun h=>h1 (hAsub b o h)⟩
 have hrel:∀{c:C} {v:Value},jn st.next c=true->CR cx.eT (aA O st' loc w) c v->CR cx.eT (aA O (bx an st x) loc' w) c v:=fun hb hv=>
  wi (S:=aA O st' loc w) (S':=aA O (bx an st x) loc' w) (k:=st.next) hcell (by simp [aA,bx]) (fun n hn=>hlow n hn) (fun n oc hn h=>by
   rcases hob n oc h with ⟨i,n',o,y,oc0,k1,k2,_⟩ | ⟨k1,k2,k3⟩
   ·exact absurd (List.mem_of_getElem? k2) (hnu n hn)
   ·obtain ⟨_,_,u,hu,hk,_,_⟩:=hrest n oc k2
    exact ⟨u,hu,hk⟩) hb hv
 obtain ⟨gN,laid⟩:=x8 (X:=X) g hf.get hf.conds hf.nodup (O2:=O) (ν2:=us) (rest:=jK an st x) (locR:=loc) (st2:=bx an st x) hus hlen (by simp only [bx,husd])
  (fun n hn=>by have:=(husm n hn).2;simp only [bx];exact this)
  (fun n hn b hb off h=>by
   obtain ⟨_,oc,_,_,k,_⟩:=eX hf.get hn
   exact g.out n oc b off k hb h)
  (fun n hn b hb m oc h1 h2 h3=>by
   obtain ⟨_,oc0,_,_,k,_⟩:=eX hf.get hn
   obtain ⟨_,hmν,u,hu,_⟩:=hrest m oc h1
   have:=g.apart n m oc0 u b k hu hb h3
   exact hmν (by rw [<-this];exact hn))
  (fun m oc h1 h2=>by
   obtain ⟨hm,_,u,hu,hk,hlo,hor⟩:=hrest m oc h1
   refine ⟨by simp only [bx];omega,?_⟩
   have hb:=(fH hb2 h1).2
   cases oc with
   | cells T cs=>
    obtain ⟨b,vs,h1,h2,h3,h4⟩:=hor
    exact ⟨b,vs,h1,h2,h3,kd (k:=st.next) hrel hb h4⟩
   | aL t xs=>exact uM.to (S:=aA O st' loc w) (S':=aA O (bx an st x) loc' w) rfl (.inr hAsub) hor
   | tok t xs=>exact uM.to (X:=X) (S:=aA O st' loc w) (S':=aA O (bx an st x) loc' w) (l:=loc m) rfl (.inr hAsub) hor
   | arr t xs=>
    obtain ⟨b,vs,T,h1,h2,h3,h4,h5⟩:=hor
    exact ⟨b,vs,T,h1,h2,h3,h4,fun i y hy=>let ⟨us,r1,r2⟩:=h5 i y hy;⟨us,r1.frame hcell,r2⟩⟩
   | ext k t x=>exact hor
   | iter cs seen cl=>obtain ⟨b,m,c,sn,k1,k2,k3,k4,k5⟩:=hor;exact ⟨b,m,c,sn,k1,k2,k3,kd (k:=st.next) hrel hb k4,k5⟩)
  (fun m m' oc oc' b h1 h2 _ _ h3 h4=>by
   obtain ⟨_,_,u,hu,_⟩:=hrest m oc h1
   obtain ⟨_,_,u',hu',_⟩:=hrest m' oc' h2
   exact g.apart m m' u u' b hu hu' h3 h4)
  (fun m oc b off h1 _ h2=>by
   obtain ⟨_,_,u,hu,_⟩:=hrest m oc h1
   exact g.out m u b off hu h2)
  (.inr hAsub)
  (fun b hb ⟨m,oc,h1,h2⟩=>by
   rcases hob m oc h1 with ⟨i,n,o,y,oc0,k1,k2,k4,k5,k6,k7⟩ | ⟨k1,k2,k3⟩
   ·refine g.gw.2 b hb ⟨n,oc0,k4,?_⟩
    have e:bV us (ν.map loc) loc m=loc n:=k7
    simp only [aA] at h2;rw [e] at h2;exact h2
   ·obtain ⟨_,_,u,hu,_⟩:=hrest m oc k2
    have e:bV us (ν.map loc) loc m=loc m:=k3
    refine g.gw.2 b hb ⟨m,u,hu,?_⟩
    simp only [aA] at h2;rw [e] at h2;exact h2)
 refine ⟨loc',gN,⟨hA.size,hA.defers,fun t sv hl => ?_⟩,?_⟩
 ·simp only [bx,husd,bN] at hl
  split at hl
  ·rename_i v hv
   cases hl
   obtain ⟨k,hk,rfl⟩:=lp hv
   obtain ⟨c,hc,hs⟩:=qI hf.refs hk
   have hcv:CR cx.eT (aA O st' loc w) c (a.tmps.getD t undef):=hA.env t _ hc
   exact qA laid (rE g hcv hf.get hs (sd hf.D3 hk hc))
  ·have hl2:look (qC an st x) t=some sv:=hl
   have hst:∃u,look st'.env t=some u/\jm u sv:=by
    simp only [qC,bN] at hl2
    split at hl2
    ·rename_i v hv;cases hl2;exact fY hf.env hv
    ·obtain ⟨h1,h2⟩:=cK hl2;exact hkeep t h1 sv h2
   obtain ⟨u,hu,hs⟩:=hst
   have hv:=qE hs (hA.env t u hu)
   obtain ⟨v0,rfl,hb⟩:=mX hb1 hl2
   cases v0 with
   | one c=>exact hrel hb hv
   | agg cs=>obtain ⟨vs,h1,h2⟩:=hv;exact ⟨vs,h1,kd (k:=st.next) hrel hb h2⟩
 ·refine {O:=ht.O,next:=by simp [aA,bx],os:=ht.os,output:=ht.output,size:=ht.size,own:=fun b hb => ?_,cell:=fun b o v h1 h2 => ?_,block:=ht.block,loc:=fun n hn hfx => ?_,kind:=fun n oc hn h => ?_}
  ·obtain ⟨m,oc,h1,h2⟩:=hb
   rcases hob m oc h1 with ⟨i,n,o,y,oc0,k1,k2,k4,k5,k6,k7⟩ | ⟨k1,k2,k3⟩
   ·exact ht.own b ⟨n,oc0,k4,by simp only [aA] at h2;rw [k7] at h2;exact h2⟩
   ·obtain ⟨_,_,u,hu,_⟩:=hrest m oc k2
    exact ht.own b ⟨m,u,hu,by simp only [aA] at h2;rw [k3] at h2;exact h2⟩
  ·obtain ⟨k1,k2⟩:=ht.cell b o v h1 h2
   exact ⟨k1,fun h=>k2 (hAsub b o h)⟩
  ·show (loc' n).v=_/\(_->loc' n=_)
   rw [hlow n hn];exact ht.loc n hn hfx
  ·rcases hob n oc h with ⟨i,n',o,y,oc0,k1,k2,_⟩ | ⟨k1,k2,k3⟩
   ·exact absurd (List.mem_of_getElem? k2) (hnu n hn)
   ·obtain ⟨_,_,u,hu,hk,_,_⟩:=hrest n oc k2
    obtain ⟨oc1,m1,m2⟩:=ht.kind n u hn hu
    refine ⟨oc1,m1,?_⟩
    show aH _ (loc' n) _ _
    rw [hlow n hn]
    exact m2.comp hk
theorem ya {an:eR} {st:St} {W:List Nat} {x:an.X} (hok:lN an st W x=true) {n:Nat} (hn:n∈an.bf) {v:SV} (h:look (bx an st x).env n=some v) (hW:n∉W):look st.env n=some v:=by
 simp only [lN,Bool.and_eq_true] at hok
 obtain ⟨_,_,hkeys,hnr⟩:=hok
 simp only [bx,qC,bN] at h
 split at h
 ·rename_i u hu
  obtain ⟨k,hk,_⟩:=lp hu
  exact absurd hn (qJ hnr hk)
 ·split at h
  ·rename_i u hu;exact absurd (ja hkeys hu) hW
  ·exact (cK h).2
theorem sf {O:aD} {st:St} {loc:Nat->Loc} {w:World} {an:eR} {W:List Nat} {K:St->VC} (hdis:kK an.bf W=true)
  (hk:(VC.all an.X fun x => .imp (an.inv x) (match dr st.next (aT an st x).env && (db st.next (aT an st x).aC && fr W (an.bg x)) with
     | true=>K (aT an st x)
     | false => .ff)).holds) {a':Act} {w':World}:cp cx X O (et an st) W st (aA O st loc w) a' w'->cp cx X O K W st (aA O st loc w) a' w':=by
 have hkeepW:=kM hdis
 rintro ⟨st2,loc2,k1,k2,k3,k4,k5⟩
 simp only [et] at k1
 split at k1
 case h_2=>exact k1.elim
 rename_i hpres
 obtain ⟨x',hx',hs',ho'⟩:=k1
 have hvx:=hk x' hx'
 split at hvx
 case h_2=>exact hvx.elim
 rename_i hbb
 simp only [Bool.and_eq_true] at hbb
 have hhead:∀t,t∉W->∀v,look (aT an st x').env t=some v->look st.env t=some v:=by
  intro t ht v hv
  simp only [aT,bN] at hv
  split at hv
  ·rename_i u hu;exact absurd (ja hbb.2.2 hu) ht
  ·exact (cK hv).2
 obtain ⟨m1,m2,m3⟩:=mA (an:=an) (st:=st) x' k2 k4 k3 (by
   intro n v hv
   simp only [aT,bN] at hv
   split at hv
   ·rename_i u hu;cases hv;exact fY hs' hu
   ·obtain ⟨hmem,hl⟩:=cK hv
    refine ⟨v,?_,eY v⟩
    obtain ⟨v',hv'⟩:=gl hpres hmem
    have:=k5 (hkeepW n hmem).1 n (hkeepW n hmem).2 v' hv'
    rw [hl] at this
    cases this
    exact hv')
  (by
   intro n v hv
   simp only [aT] at hv
   exact fZ ho' hv) hbb.1 hbb.2.1
 exact ⟨aT an st x',loc2,hvx,m1,m3,m2,fun _ t ht v hv=>hhead t ht v hv⟩
theorem sg (hok:gB P cx X) {O:aD} {id:Nat} {ops:Array Oper} {draw:Bool} {st:St} {loc:Nat->Loc} {w:World} {a:Act} {K:Ex->St->VC} (hA:da cx (aA O st loc w) st a) (g:Good cx.eT X (aA O st loc w)) (hO:b9 O w)
  (h:(tL cx ops draw st (K .normal)).holds):(Code.region id ops draw).wp P (kN cx X O K (cE ops.toList) st (aA O st loc w)) a w:=by
 have hW:∀(j:Nat) (oj:Oper) (d:Nat),ops[j]?=some oj->oj.dst=some d->d∈cE ops.toList:=by
  intro j oj d hj hd
  exact List.mem_filterMap.2 ⟨oj,by rw [<-Array.getElem?_toList] at hj;exact List.mem_of_getElem? hj,hd⟩
 have hq:∀st' loc' a' w',(K .normal st').holds->Good cx.eT X (aA O st' loc' w')->Tr (aA O st loc w) (aA O st' loc' w')->da cx (aA O st' loc' w') st' a'->gk (cE ops.toList) st st'->
   kN cx X O K (cE ops.toList) st (aA O st loc w) .normal a' w':=fun st' loc' a' w' h1 h2 h3 h4 h5=>⟨st',loc',h1,h2,h3,h4,h5⟩
 unfold tL at h
 cases draw with
 | false=>
  refine wp_region_list ?_
  exact wg hok hW ops.toList (fun o ho d hd=>List.mem_filterMap.2 ⟨o,ho,hd⟩) hA g hO h hq
 | true=>
  split at h
  ·rename_i e;cases e
  ·rename_i e
   split at h
   ·rename_i hreg
    rw [CJ] at h
    refine wp_region_any hok.mixed (xf (loud:=dQ cx ops.toList) _ _ _ _ (aA O st loc {w with drawn:=w.drawn + 1}).A ?_)
    have hdrew:Below w.heap.size w {w with drawn:=w.drawn + 1}:=⟨rfl,rfl,Nat.le_refl _,fun _ _=>rfl⟩
    obtain ⟨tr,g'⟩:=l5 (S:=aA O st loc w) (S':=aA O st loc {w with drawn:=w.drawn + 1}) g rfl rfl rfl rfl hdrew
    refine wh hok hW hreg (fun c a w h=>h) ops.size _ ?_ ⟨hA.size,hA.defers,hA.env.tr tr⟩ g' (hO.tr (Nat.le_refl _)) h ?_
    ·intro j o ho hj
     rw [Array.getD_eq_getD_getElem?,Array.getElem?_replicate] at hj
     split at hj <;> simp at hj
    ·intro st' loc' a' w' h1 h2 h3 h4 h5
     obtain ⟨st2,loc2,k1,k2,k3,k4,k5⟩:=cp.D9 (K:=K .normal) (f:=canon st.next (cE ops.toList)) (W:=cE ops.toList) hA (fun st'=>by
      rcases x3 st.next (cE ops.toList) st' with e | ⟨r,q,k1,k2⟩
      ·exact .inl e
      ·exact .inr ⟨r,q,k1,k2⟩) (⟨st',loc',h1,h2,tr.trans h3,h4,h5⟩:cp cx X O (fun st'=>K .normal (canon st.next (cE ops.toList) st')) (cE ops.toList) st (aA O st loc w) a' w')
     exact hq st2 loc2 a' w' k1 k2 k3 k4 k5
   ·exact h.elim
theorem BG (hok:gB P cx X) (anns:cA) {O:aD}:∀(c:Code) (cur:Nat) {st:St} {loc:Nat->Loc} {w:World} {a:Act} {K:Ex->St->VC},
  da cx (aA O st loc w) st a->Good cx.eT X (aA O st loc w)->b9 O w->(vc cx anns c cur st K).holds->c.wp P (kN cx X O K (writes anns cur c) st (aA O st loc w)) a w:=by
 intro c
 induction c with
 | skip=>intro cur st loc w a K hA g hO h;exact wp_skip ⟨st,loc,h,g,Tr.refl _,hA,fun _ _ _ _ h=>h⟩
 | region id ops draw=>
  intro cur st loc w a K hA g hO h
  simp only [vc] at h
  split at h
  ·exact sg hok hA g hO h
  ·rename_i an _
   split at h
   case h_2=>exact h.elim
   rename_i hdis
   obtain ⟨hb,hk⟩:=h
   refine wp_mono (sg (K:=fun e=>match e with | .normal=>et an st | e=>K e) hok hA g hO hb) ?_
   intro e a' w' hq
   cases e with
   | normal=>exact sf hdis hk hq
   | exit i=>exact hq
   | ret=>exact hq
   | goto l=>exact hq.elim
   | panic c=>exact hq.elim
   | outgrown=>exact hq.elim
 | seq c1 c2 ih1 ih2=>
  intro cur st loc w a K hA g hO h
  refine wp_seq ?_
  refine wp_mono (ih1 cur hA g hO h) ?_
  intro e a' w' hq
  refine CO (K:=K) (W:=writes anns cur c1) ?_ (fun e he=>by cases e <;> simp_all) ?_ hq
  ·rintro a1 w1 ⟨st',loc',k1,k2,k3,k4,k5⟩
   refine wp_mono (ih2 cur k4 k2 (hO.tr k3.size) k1) ?_
   intro e a2 w2 hq2
   exact hq2.mono k3 (W':=writes anns cur (.seq c1 c2)) (fun hm t ht=>k5 (fun h=>hm (List.mem_append.2 (.inl h))) t fun hm=>ht (List.mem_append.2 (.inl hm))) (fun n hn=>List.mem_append.2 (.inr hn))
  ·intro e a1 w1 hq1 _
   exact hq1.mono (Tr.refl _) (fun _ _ _ _ h=>h) (fun n hn=>List.mem_append.2 (.inl hn))
 | cond x c1 c2 ih1 ih2=>
  intro cur st loc w a K hA g hO h
  have hx:=aQ hA.env x
  have h1:∀{K},(vc cx anns c1 cur st K).holds->c1.wp P (kN cx X O K (writes anns cur (.cond x c1 c2)) st (aA O st loc w)) a w:=fun h=>
   wp_mono (ih1 cur hA g hO h) fun e a' w' hq=>hq.mono (Tr.refl _) (fun _ _ _ _ h=>h) (fun n hn=>List.mem_append.2 (.inl hn))
  have h2:∀{K},(vc cx anns c2 cur st K).holds->c2.wp P (kN cx X O K (writes anns cur (.cond x c1 c2)) st (aA O st loc w)) a w:=fun h=>
   wp_mono (ih2 cur hA g hO h) fun e a' w' hq=>hq.mono (Tr.refl _) (fun _ _ _ _ h=>h) (fun n hn=>List.mem_append.2 (.inr hn))
  have base:∀{K:Ex->St->VC},(match bH st.env x with
    | .lit true=>vc cx anns c1 cur st K
    | .lit false=>vc cx anns c2 cur st K
    | .d .bool g => .ite g (vc cx anns c1 cur st K) (vc cx anns c2 cur st K)
    | _ => .ff).holds->(Code.cond x c1 c2).wp P (kN cx X O K (writes anns cur (.cond x c1 c2)) st (aA O st loc w)) a w:=by
   intro K h
   split at h
   ·rename_i hl;rw [hl] at hx;exact wp_cond_true hx (h1 h)
   ·rename_i hl;rw [hl] at hx;exact wp_cond_false hx (h2 h)
   ·rename_i b hl
    rw [hl] at hx
    have hx:=(bM (eT:=cx.eT) (S:=aA O st loc w) (b:=b)).1 hx
    cases b
    ·exact wp_cond_false hx (h2 (h.2 rfl))
    ·exact wp_cond_true hx (h1 (h.1 rfl))
   ·exact h.elim
  simp only [vc] at h
  split at h
  ·exact base h
  ·rename_i an _
   split at h
   case h_2=>exact h.elim
   rename_i hdis
   obtain ⟨hb,hk⟩:=h
   refine wp_mono (base (K:=fun e st'=>match e with | .normal=>et an st st' | e=>K e st') hb) ?_
   intro e a' w' hq
   cases e with
   | normal=>exact sf hdis hk hq
   | exit i=>exact hq
   | ret=>exact hq
   | goto l=>exact hq.elim
   | panic c=>exact hq.elim
   | outgrown=>exact hq.elim
 | block id b ih=>
  intro cur st loc w a K hA g hO h
  refine wp_block ?_
  simp only [vc] at h
  split at h
  case h_2=>
   rename_i an _
   split at h
   case h_2=>exact h.elim
   rename_i hdis
   have hkeepW:=kM hdis
   obtain ⟨hb,hk⟩:=h
   refine wp_mono (ih id hA g hO hb) ?_
   intro e a' w' hq
   have join:cp cx X O (et an st) (writes anns id b) st (aA O st loc w) a' w'->kN cx X O K (writes anns cur (.block id b)) st (aA O st loc w) .normal a' w':=by
    rintro ⟨st2,loc2,k1,k2,k3,k4,k5⟩
    simp only [et] at k1
    split at k1
    case h_2=>exact k1.elim
    rename_i hpres
    obtain ⟨x',hx',hs',ho'⟩:=k1
    have hvx:=hk x' hx'
    split at hvx
    case h_2=>exact hvx.elim
    rename_i hbb
    simp only [Bool.and_eq_true] at hbb
    have hhead:∀t,t∉writes anns id b->∀v,look (aT an st x').env t=some v->look st.env t=some v:=by
     intro t ht v hv
     simp only [aT,bN] at hv
     split at hv
     ·rename_i u hu;exact absurd (ja hbb.2.2 hu) ht
     ·exact (cK hv).2
    obtain ⟨m1,m2,m3⟩:=mA (an:=an) (st:=st) x' k2 k4 k3 (by
      intro n v hv
      simp only [aT,bN] at hv
      split at hv
      ·rename_i u hu;cases hv;exact fY hs' hu
      ·obtain ⟨hmem,hl⟩:=cK hv
       refine ⟨v,?_,eY v⟩
       obtain ⟨v',hv'⟩:=gl hpres hmem
       have:=k5 (hkeepW n hmem).1 n (hkeepW n hmem).2 v' hv'
       rw [hl] at this
       cases this
       exact hv')
     (by
      intro n v hv
      simp only [aT] at hv
      exact fZ ho' hv) hbb.1 hbb.2.1
    exact ⟨aT an st x',loc2,hvx,m1,m3,m2,fun _ t ht v hv=>hhead t ht v hv⟩
   cases e with
   | normal=>exact join hq
   | exit i=>
    show if i=id then _ else _
    by_cases hi:i=id
    ·rw [if_pos hi]
     subst hi
     obtain ⟨st',loc',k1,k2⟩:=hq
     simp only [Nat.beq_refl] at k1
     exact join ⟨st',loc',k1,k2⟩
    ·rw [if_neg hi]
     obtain ⟨st',loc',k1,k2⟩:=hq
     simp only [fP hi] at k1
     exact ⟨st',loc',k1,k2⟩
   | ret=>exact hq
   | goto l=>exact hq.elim
   | panic c=>exact hq.elim
   | outgrown=>exact hq.elim
  refine wp_mono (ih id hA g hO h) ?_
  intro e a' w' hq
  cases e with
  | normal=>exact hq
  | exit i=>
   obtain ⟨st',loc',k1,k2,k3,k4,k5⟩:=hq
   simp only at k1
   show if i=id then _ else _
   split at k1
   ·rename_i hi
    rw [if_pos (Nat.eq_of_beq_eq_true hi)]
    exact ⟨st',loc',k1,k2,k3,k4,k5⟩
   ·rename_i hi
    rw [if_neg (fun e=>by rw [e,Nat.beq_refl] at hi;cases hi)]
    exact ⟨st',loc',k1,k2,k3,k4,k5⟩
  | ret=>exact hq
  | goto l=>exact hq.elim
  | panic c=>exact hq.elim
  | outgrown=>exact hq.elim
 | loop b ih=>
  intro cur st loc w a K hA g hO h
  simp only [vc] at h
  split at h
  ·rename_i hnone
   have hwl:writes anns cur (.loop b)=writes anns cur b:=by simp only [writes,hnone]
   split at h
   case h_2=>exact h.elim
   rename_i an _
   split at h
   ·rename_i hdis
    have hkeepW:=kM hdis
    obtain ⟨⟨x0,hx0,hs0,ho0⟩,h⟩:=h
    have hobk:∀x n v,look (aT an st x).aC n=some v->look (an.aC x) n=some v\/look st.aC n=some v:=by
     intro x n v hv
     simp only [aT,bN] at hv
     split at hv
     ·rename_i u hu;cases hv;exact .inl hu
     ·exact .inr (tt hv)
    have hhead:∀x,fr (writes anns cur b) (an.bg x)=true->∀t,t∉writes anns cur b->∀v,look (aT an st x).env t=some v->look st.env t=some v:=by
     intro x hk t ht v hv
     simp only [aT,bN] at hv
     split at hv
     ·rename_i u hu;exact absurd (ja hk hu) ht
     ·exact (cK hv).2
    refine wp_loop_ghost (fun n a' w'=>∃x loc',an.inv x/\an.bF x=n/\dr st.next (aT an st x).env=true/\(db st.next (aT an st x).aC=true/\fr (writes anns cur b) (an.bg x)=true)/\
     (vc cx anns b cur (aT an st x) fun e st'=>match e with
       | .normal=>match fq st'.env an.bf with
        | true => .leaf (∃x',an.inv x'/\an.bF x' < an.bF x/\fW st' (an.bg x')/\fX st' (an.aC x'++dq st an.dN))
        | false => .ff
       | e=>K e st').holds/\
     Good cx.eT X (aA O (aT an st x) loc' w')/\da cx (aA O (aT an st x) loc' w') (aT an st x) a'/\Tr (aA O st loc w) (aA O (aT an st x) loc' w')) (an.bF x0) ?_ ?_
    ·have hx:=h x0 hx0
     split at hx
     ·rename_i hb
      simp only [Bool.and_eq_true] at hb
      obtain ⟨m1,m2,m3⟩:=mA (an:=an) (st:=st) x0 g hA (Tr.refl _) (by
        intro n v hv
        simp only [aT,bN] at hv
        split at hv
        ·rename_i u hu;cases hv;exact fY hs0 hu
        ·obtain ⟨_,hl⟩:=cK hv
         exact ⟨v,hl,eY v⟩)
       (by
        intro n v hv
        rcases hobk x0 n v hv with hv | hv
        ·exact fZ ho0 hv
        ·exact ⟨v,hv,wj v⟩) hb.1 hb.2.1
      exact ⟨x0,loc,hx0,rfl,hb.1,hb.2,hx,m1,m2,m3⟩
     ·exact hx.elim
    ·rintro n a1 w1 ⟨x,loc1,hx,hn,hb1,hb2,hvc,g1,hA1,tr1⟩
     refine wp_mono (ih cur hA1 g1 (hO.tr tr1.size) hvc) ?_
     intro e a2 w2 hq
     have up:∀Kx:St->VC,cp cx X O Kx (writes anns cur b) (aT an st x) (aA O (aT an st x) loc1 w1) a2 w2->cp cx X O Kx (writes anns cur (.loop b)) st (aA O st loc w) a2 w2:=by
      rintro Kx ⟨st2,loc2,k1,k2,k3,k4,k5⟩
      exact ⟨st2,loc2,k1,k2,tr1.trans k3,k4,fun hm t ht v hv=>by rw [hwl] at hm ht;exact hhead x hb2.2 t ht v (k5 hm t ht v hv)⟩
     cases e with
     | normal=>
      obtain ⟨st2,loc2,k1,k2,k3,k4,k5⟩:=hq
      simp only at k1
      split at k1
      case h_2=>exact k1.elim
      rename_i hpres
      obtain ⟨x',hx',hlt,hs',ho'⟩:=k1
      have hvx:=h x' hx'
      refine ⟨an.bF x',by rw [<-hn];exact hlt,?_⟩
      split at hvx
      ·rename_i hb
       simp only [Bool.and_eq_true] at hb
       obtain ⟨m1,m2,m3⟩:=mA (an:=an) (st:=st) x' k2 k4 (tr1.trans k3) (by
         intro n v hv
         simp only [aT,bN] at hv
         split at hv
         ·rename_i u hu;cases hv;exact fY hs' hu
         ·obtain ⟨hmem,hl⟩:=cK hv
          refine ⟨v,?_,eY v⟩
          obtain ⟨v',hv'⟩:=gl hpres hmem
          have:=hhead x hb2.2 n (hkeepW n hmem).2 v' (k5 (hkeepW n hmem).1 n (hkeepW n hmem).2 v' hv')
          rw [hl] at this
          cases this
          exact hv')
        (by
         intro n v hv
         simp only [aT] at hv
         exact fZ ho' hv) hb.1 hb.2.1
       exact ⟨x',loc2,hx',rfl,hb.1,hb.2,hvx,m1,m2,m3⟩
      ·exact hvx.elim
     | exit i=>exact up _ hq
     | ret=>exact up _ hq
     | goto l=>exact hq.elim
     | panic c=>exact hq.elim
     | outgrown=>exact hq.elim
   ·exact h.elim
  ·rename_i f hsome
   have hwl:writes anns cur (.loop b)=allM :: writes anns cur b:=by simp only [writes,hsome]
   generalize uO st (f st)=an at h
   split at h
   case h_2=>exact h.elim
   rename_i hdis
   have hkeepW:=kM hdis
   obtain ⟨hfit,h⟩:=h
   obtain ⟨x0,hx0,_,hf0⟩:=sb hfit
   refine wp_loop_ghost (fun n a' w'=>∃x loc',an.inv x/\an.bF x=n/\lN an st (writes anns cur b) x=true/\
    (vc cx anns b cur (bx an st x) fun e st'=>match e with
      | .normal=>match fq st'.env an.bf with
       | true=>qD an st st' fun x'=>an.bF x' < an.bF x
       | false => .ff
      | e=>K e st').holds/\
    Good cx.eT X (aA O (bx an st x) loc' w')/\da cx (aA O (bx an st x) loc' w') (bx an st x) a'/\Tr (aA O st loc w) (aA O (bx an st x) loc' w')) (an.bF x0) ?_ ?_
   ·have hx:=h x0 hx0
    split at hx
    case h_2=>exact hx.elim
    rename_i hok2
    obtain ⟨loc',m1,m2,m3⟩:=se (an:=an) (st:=st) x0 g hA (Tr.refl _) hok2 (fun n hn v hv=>⟨v,hv,eY v⟩) hf0
    exact ⟨x0,loc',hx0,rfl,hok2,hx,m1,m2,m3⟩
   ·rintro n a1 w1 ⟨x,loc1,hx,hn,hokx,hvc,g1,hA1,tr1⟩
    refine wp_mono (ih cur hA1 g1 (hO.tr tr1.size) hvc) ?_
    intro e a2 w2 hq
    have up:∀Kx:St->VC,cp cx X O Kx (writes anns cur b) (bx an st x) (aA O (bx an st x) loc1 w1) a2 w2->cp cx X O Kx (writes anns cur (.loop b)) st (aA O st loc w) a2 w2:=by
     rintro Kx ⟨st2,loc2,k1,k2,k3,k4,k5⟩
     exact ⟨st2,loc2,k1,k2,tr1.trans k3,k4,fun hm=>by rw [hwl] at hm;exact absurd (List.mem_cons_self) hm⟩
    cases e with
    | normal=>
     obtain ⟨st2,loc2,k1,k2,k3,k4,k5⟩:=hq
     simp only at k1
     split at k1
     case h_2=>exact k1.elim
     rename_i hpres
     obtain ⟨x',hx',hlt,hf'⟩:=sb k1
     have hvx:=h x' hx'
     split at hvx
     case h_2=>exact hvx.elim
     rename_i hok2
     refine ⟨an.bF x',by rw [<-hn];exact hlt,?_⟩
     obtain ⟨loc',m1,m2,m3⟩:=se (an:=an) (st:=st) x' k2 k4 (tr1.trans k3) hok2 (fun n hn v hv=>by
      obtain ⟨v',hv'⟩:=gl hpres hn
      have h1:=k5 (hkeepW n hn).1 n (hkeepW n hn).2 v' hv'
      refine ⟨v',hv',?_⟩
      have h2:=ya hokx hn h1 (hkeepW n hn).2
      rw [hv] at h2;cases h2
      exact eY v) hf'
     exact ⟨x',loc',hx',rfl,hok2,hvx,m1,m2,m3⟩
    | exit i=>exact up _ hq
    | ret=>exact up _ hq
    | goto l=>exact hq.elim
    | panic c=>exact hq.elim
    | outgrown=>exact hq.elim
 | rangeFunc f ps Ej b _ _=>intro cur st loc w a K _ _ _ h;exact h.elim
 | exit id=>intro cur st loc w a K hA g hO h;exact wp_exit ⟨st,loc,h,g,Tr.refl _,hA,fun _ _ _ _ h=>h⟩
 | scope b _=>intro cur st loc w a K _ _ _ h;exact h.elim
 | label l=>intro cur st loc w a K _ _ _ h;exact h.elim
 | goto l=>intro cur st loc w a K _ _ _ h;exact h.elim
 | ret=>intro cur st loc w a K hA g hO h;exact wp_ret ⟨st,loc,h,g,Tr.refl _,hA,fun _ _ _ _ h=>h⟩
 | refuse why=>intro cur st loc w a K _ _ _ h;exact h.elim
end
end Go.Vg

namespace Go.Vg
open Go.RowKit
@[reducible] def HL:List Ty->Type
 | []=>Unit
 | [t]=>D t
 | t :: u :: r=>D t × HL (u :: r)
def dV:List Ty->Bool
 | []=>true
 | t :: r=>t.flat && dV r
def tM (st:St) (want:Ty) (n:Nat):Option (D want):=
 match look st.aC n with
 | some (.ext 0 t xs)=>match h:Ty.beq t want with
  | true=>some (bc h (a:=t) xs)
  | false=>none
 | _=>none
def yb (lend:Bool) (st:St) (t:Ty) (a:bm):Option (D t):=
 match lend,t,a with
 | true, .slice e, .one (.aL n)=>nk st e (.aL n)
 | true,t, .one (.xd n .top)=>tM st t n
 | _,t,a=>jw t a
def gm (lend:Bool) (st:St):(ts:List Ty)->List bm->Option (HL ts)
 | [],[]=>some ()
 | [t],[a]=>yb lend st t a
 | t :: u :: r,a :: Ej=>match yb lend st t a,gm lend st (u :: r) Ej with
  | some x,some xs=>some (x,xs)
  | _,_=>none
 | _,_=>none
def iC:(ts:List Ty)->HL ts->List bm
 | [],_=>[]
 | [t],y=>[.one (.d t y)]
 | t :: u :: r,ys => .one (.d t ys.1) :: iC (u :: r) ys.2
def kO:List bm->SV
 | [v] => .s v
 | vs => .fK vs
def nN (st:St) (c:C):C × St:=
 match c with
 | .aL n=>match look st.aC n with
  | some (.aL t xs)=>(.d (.slice t) xs,aO st n)
  | _=>(c,st)
 | .xd n .top=>match look st.aC n with
  | some (.ext 0 t xs)=>(.d t xs,aO st n)
  | _=>(c,st)
 | c=>(c,st)
def mB:St->List C->List C × St
 | st,[]=>([],st)
 | st,c :: cs=>match nN st c with
  | (c',st1)=>match mB st1 cs with
   | (cs',st2)=>(c' :: cs',st2)
def pS (st:St) (v:bm):bm × St:=
 match v with
 | .one c=>match nN st c with
  | (c',st')=>(.one c',st')
 | .agg cs=>match mB st cs with
  | (cs',st')=>(.agg cs',st')
def rG (lend:Bool) (st:St) (v:bm):bm × St:=
 match lend,v with
 | true, .one c=>(.one c,st)
 | _,v=>pS st v
def lq (lend:Bool):St->List bm->List bm × St
 | st,[]=>([],st)
 | st,v :: vs=>match rG lend st v with
  | (v',st1)=>match lq lend st1 vs with
   | (vs',st2)=>(v' :: vs',st2)
def gD (ts rts:List Ty) (pre:HL ts->Prop) (post:HL ts->HL rts->Prop):bB:=fun args st K=>
 match lq (dV rts) st args with
 | (args,st)=>match gm (dV rts) st ts args with
  | some xs => .and (pre xs) (.all (HL rts) fun ys => .imp (post xs ys) (K (kO (iC rts ys)) st))
  | none => .ff
def aZ (ts rts:List Ty) (pre:HL ts->Prop) (g:HL ts->HL rts):bB:=fun args st K=>
 match lq (dV rts) st args with
 | (args,st)=>match gm (dV rts) st ts args with
  | some xs => .and (pre xs) (K (kO (iC rts (g xs))) st)
  | none => .ff
inductive DD (α:Type) where
 | ret (a:α)
 | ite (c:Bool) (a b:DD α)
def DD.eval {α:Type}:DD α->α
 | .ret a=>a
 | .ite c a b=>match c with
  | true=>a.eval
  | false=>b.eval
def Ai (st:St) (want:Ty) (c:C):Option (D want):=
 match c with
 | .aL n=>match look st.aC n with
  | some (.aL t xs)=>match h:Ty.beq (.slice t) want with
   | true=>some (bc h (a:=.slice t) xs)
   | false=>none
  | _=>none
 | .xd n .top=>tM st want n
 | c=>nb want c
def gn (st:St):(t:Ty)->List C->Option (D t × List C)
 | .prod a b,cs=>match gn st a cs with
  | some (x,cs1)=>match gn st b cs1 with
   | some (y,cs2)=>some ((x,y),cs2)
   | none=>none
  | none=>none
 | .unit,cs=>some ((),cs)
 | t,c :: cs=>match Ai st t c with
  | some x=>some (x,cs)
  | none=>none
 | _,[]=>none
def yc (st:St) (want:Ty):bm->Option (D want)
 | .one c=>Ai st want c
 | .agg cs=>match want.one with
  | true=>none
  | false=>match gn st want cs with
   | some (x,[])=>some x
   | _=>none
def nO (st:St):(ts:List Ty)->List bm->Option (HL ts)
 | [],[]=>some ()
 | [t],[a]=>yc st t a
 | t :: u :: r,a :: Ej=>match yc st t a,nO st (u :: r) Ej with
  | some x,some xs=>some (x,xs)
  | _,_=>none
 | _,_=>none
def mC (cx:Cx) (st:St):List ResultVar->(List bm->VC)->VC
 | [],K=>K []
 | .tmp t :: r,K=>match ev st.env (.tmp t) with
  | .s v=>mC cx st r fun vs=>K (v :: vs)
  | _ => .ff
 | .cell a t :: r,K=>ni cx st t (bH st.env (.tmp a)) fun sv=>match sv with
  | .s v=>mC cx st r fun vs=>K (v :: vs)
  | _ => .ff
def yd (cx:Cx) (anns:cA) (res:List ResultVar) (c:Code) (st:St) (K:List bm->St->VC):VC:=
 vc cx anns c 0 st fun e st'=>match e with
  | .exit _ => .ff
  | _=>mC cx st' res fun vs=>K vs st'
def ke (B:Cx) (Γ:List (FuncId × (Bool × bB))) (N:Nat):Cx:={B with Γ:=Γ,N:=N}
def lP:Nat->(ts:List Ty)->HL ts->List (Nat × SV)
 | _,[],_=>[]
 | k,[t],x=>[(k, .s (.one (.d t x)))]
 | k,t :: u :: r,xs=>(k, .s (.one (.d t xs.1))) :: lP (k + 1) (u :: r) xs.2
def jb (ts:List Ty) (xs:HL ts):St:={env:=lP 0 ts xs,aC:=[],next:=0}
def xl (B:Cx) (Γ:List (FuncId × (Bool × bB))) (N:Nat) (anns:cA) (res:List ResultVar) (c:Code) (ts rts:List Ty) (post:HL ts->HL rts->Prop) (xs:HL ts):VC:=
 yd (ke B Γ N) anns res c (jb ts xs) fun vs st=>match nO st rts vs with
  | some ys => .leaf (post xs ys)
  | none => .ff
section
variable {eT:TypeId} {X:Ext} {P:Program} {cx:Cx}
def eL (eT:TypeId) (A:aD) (w:World):(ts:List Ty)->HL ts->List Value->Prop
 | [],_,vs=>vs = []
 | [t],x,vs=>∃v,vs = [v]/\VR eT t x A w v
 | t :: u :: r,xs,vs=>∃v vs',vs=v :: vs'/\VR eT t xs.1 A w v/\eL eT A w (u :: r) xs.2 vs'
def uP:List Value->Value
 | [v]=>v
 | vs => .tuple vs.toArray
structure bU (P:Program) (eT:TypeId) (X:Ext) (f:FuncId) (ts rts:List Ty) (pre:HL ts->Prop) (post:HL ts->HL rts->Prop):Prop where
 fn:∃fn,P.funcs[f]?=some fn/\fn.body.isNone=false/\(fn.name == "runtime.NumGoroutine")=false
 ok:∀O w xs vs,X.na w->b9 O w->eL eT O w ts xs vs->pre xs->
  Calls P f vs.toArray w fun e w'=>∃us ys,e = .returned (uP us)/\post xs ys/\eL eT O w' rts ys us/\Below w.heap.size w w'
def nP (tmps:Array Value):ResultVar->Sem Value
 | .tmp t=>pure (tmps.getD t undef)
 | .cell b t=>do loadVar t (<-asAddr (tmps.getD b undef))
theorem wk (hok:TyOK P cx) {O:aD} {st:St} {loc:Nat->Loc} {w:World} {a:Act} (g:Good cx.eT X (aA O st loc w)) (he:cS cx.eT (aA O st loc w) st.env a) :
  ∀{rs:List ResultVar} {K:List bm->VC},(mC cx st rs K).holds->
  ∃vs us,(K vs).holds/\bu cx.eT (aA O st loc w) vs us/\(rs.mapM (nP a.tmps):Sem (List Value)).run P w = .ok us w:=by
 intro rs
 induction rs with
 | nil=>intro K h;exact ⟨[],[],h, .nil,rfl⟩
 | cons r rs ih=>
  intro K h
  cases r with
  | tmp t=>
   simp only [mC] at h
   split at h
   ·rename_i v hv
    obtain ⟨vs,us,h1,h2,h3⟩:=ih h
    have hr:=fj he (.tmp t)
    rw [hv] at hr
    refine ⟨v :: vs,a.tmps.getD t undef :: us,h1, .cons hr h2,?_⟩
    rw [List.mapM_cons]
    simp only [nP,Sem.run_bind,Sem.run_pure,Result.andThen_ok,h3]
   ·exact h.elim
  | cell b t=>
   simp only [mC] at h
   obtain ⟨sv,u,h1,h2,h3⟩:=l9 (P:=P) hok g (aQ he (.tmp b)) h
   split at h1
   ·rename_i v
    obtain ⟨vs,us,k1,k2,k3⟩:=ih h1
    have h3:=h3 w (Below.refl _ _)
    refine ⟨v :: vs,u :: us,k1, .cons h2 k2,?_⟩
    rw [List.mapM_cons]
    have h4:(do loadVar t (<-asAddr (a.tmps.getD b undef)):Sem Value).run P w = .ok u w:=by
     have h3:(Instr.loadAt t (a.tmps.getD b undef)).run P w = .ok u w:=h3
     generalize a.tmps.getD b undef=p at h3
     cases p with
     | pointer q=>
      cases q with
      | none=>simp [Instr.loadAt,Instr.sureAddr] at h3
      | some q=>simpa [Instr.loadAt,Instr.sureAddr,asAddr] using h3
     | _=>simp [Instr.loadAt,Instr.sureAddr] at h3
    simp only [nP,Sem.run_bind] at h4 ⊢
    simp only [h4,Sem.run_pure,Result.andThen_ok,k3]
   ·exact h1.elim
theorem bu.len {S:aP} {xs:List bm} {us:List Value} (h:bu eT S xs us):xs.length=us.length:=by
 induction h with
 | nil=>rfl
 | cons _ _ ih=>simp [ih]
theorem nQ {S:aP} {vs:List bm} {us:List Value} (h:bu eT S vs us):bE eT S (kO vs) (uP us):=by
 match vs,us,h with
 | [],[],h=>exact ⟨[],rfl,h⟩
 | [v],[u], .cons h1 .nil=>exact h1
 | _ :: _ :: _,_ :: _ :: _,h=>exact ⟨_,rfl,h⟩
theorem lr (hok:gB P cx X) {f:FuncId} {fn:Func} {c:Code} (hf:P.funcs[f]?=some fn) (hb:fn.body=some c) (hN:cx.N=fn.ntmps) (anns:cA) {O:aD} {st:St} {loc:Nat->Loc} {w:World}
  {args:Array Value} {K:List bm->St->VC} (hsz:args.size<=fn.ntmps) (g:Good cx.eT X (aA O st loc w)) (hO:b9 O w)
  (henv:∀t sv,look st.env t=some sv->∃v,args[t]?=some v/\bE cx.eT (aA O st loc w) sv v)
  (h:(yd cx anns fn.results.toList c st K).holds) :
  Calls P f args w fun e w'=>∃vs us st' loc',e = .returned (uP us)/\(K vs st').holds/\bu cx.eT (aA O st' loc' w') vs us/\Good cx.eT X (aA O st' loc' w')/\Tr (aA O st loc w) (aA O st' loc' w'):=by
 refine calls_of_wp hf hb ?_
 have hA:da cx (aA O st loc w) st {tmps:=args++Array.replicate (fn.ntmps - args.size) undef,defers:=[]}:=by
  refine ⟨by simp [hN];omega,rfl,fun t sv ht => ?_⟩
  obtain ⟨v,hv,hr⟩:=henv t sv ht
  have hlt:t < args.size:=by
   rcases Nat.lt_or_ge t args.size with hh | hh
   ·exact hh
   ·rw [Array.getElem?_eq_none hh] at hv;cases hv
  rw [Array.getD_eq_getD_getElem?,Array.getElem?_append,if_pos hlt,hv]
  exact hr
 refine wp_mono (BG hok anns c 0 hA g hO h) ?_
 have fin:∀(a':Act) (w':World),cp cx X O (fun st'=>mC cx st' fn.results.toList fun vs=>K vs st') (writes anns 0 c) st (aA O st loc w) a' w'->a'.defers = []/\∃v,(results fn a'.tmps).run P w' = .ok v w'/\
   ∃vs us st' loc',Ending.returned v = .returned (uP us)/\(K vs st').holds/\bu cx.eT (aA O st' loc' w') vs us/\Good cx.eT X (aA O st' loc' w')/\Tr (aA O st loc w) (aA O st' loc' w'):=by
  rintro a' w' ⟨st',loc',k1,k2,k3,k4,_⟩
  obtain ⟨vs,us,m1,m2,m3⟩:=wk (P:=P) hok.toTyOK k2 k4.env k1
  refine ⟨k4.defers,uP us,?_,vs,us,st',loc',rfl,m1,m2,k2,k3⟩
  have hm:(fn.results.mapM (nP a'.tmps):Sem (Array Value)).run P w' = .ok us.toArray w':=by
   rw [<-Array.toArray_toList (xs:=fn.results),List.mapM_toArray,Sem.run_map,m3]
   rfl
  have he:results fn a'.tmps=(do
    let xs <-fn.results.mapM (nP a'.tmps)
    return if h:xs.size=1 then xs[0] else .tuple xs):=by
   unfold results
   congr 1
  rw [he,Sem.run_bind,hm]
  simp only [Result.andThen_ok,Sem.run_pure]
  match us with
  | []=>rfl
  | [u]=>rfl
  | _ :: _ :: _=>rfl
 intro e a' w' hq
 cases e with
 | normal=>exact fin a' w' hq
 | ret=>exact fin a' w' hq
 | exit n=>obtain ⟨st',loc',k1,_⟩:=hq;exact k1.elim
 | goto l=>exact hq.elim
 | panic c=>exact hq.elim
 | outgrown=>exact hq.elim
end
end Go.Vg

namespace Go.Vg
open Go.RowKit
section
variable {X:Ext} {P:Program} {cx:Cx}
theorem Aj {O:aD} {st:St} {loc:Nat->Loc} {w:World} {b o:Nat} (h:¬ (aA O st loc w).A b o):¬ O b o:=fun k=>h (.inl k)
theorem D4 {O:aD} {st:St} {loc:Nat->Loc} {w:World} {t:Ty} {x:D t} {v:Value} {eT:TypeId} (h:VR eT t x (aA O st loc w).A w v):VR eT t x O w v:=
 VR.frame h fun _ _ _ ha hc=>⟨hc,Aj ha⟩
theorem xm {O:aD} {st:St} {loc:Nat->Loc} {w:World} (g:Good cx.eT X (aA O st loc w)) {n:Nat} {t:Ty} {xs:List (D t)} (hob:look st.aC n=some (.aL t xs))
  {v:Value} (hx:CR cx.eT (aA O st loc w) (.aL n) v):VR cx.eT (.slice t) xs O w v:=by
 rcases (g.obj _ _ hob).2 with ⟨rfl,⟨a,ha⟩,_⟩ | ⟨b,vs,T,cap,hl,cD,hheap,hvs,hcap,hbig,he⟩
 ·exact VR.bh rfl ⟨_,rfl,by simp, .inl ⟨rfl,a,0,(hx.2 _ _ hob).trans ha⟩⟩
 refine VR.bh rfl ⟨_,rfl,hbig, .inr ⟨b,0,cap,(hx.2 _ _ hob).trans hl,hcap,fun i y hy => ?_⟩⟩
 obtain ⟨us,h1,h2⟩:=he i y hy
 refine ⟨us,h1.frame fun _ _ _ ha hc=>⟨hc,Aj ha⟩,fun j u hj=>⟨?_,?_⟩⟩
 ·rw [Nat.zero_add,cell_of_row w b _ vs T (0,0) hheap];exact h2 j u hj
 ·exact g.out n _ b _ hob (by rw [cD];simp)
theorem xn {O:aD} {st:St} {loc:Nat->Loc} {w:World} (g:Good cx.eT X (aA O st loc w)) {n:Nat} {t:Ty} {xs:D t} (hob:look st.aC n=some (.ext 0 t xs))
  {v:Value} (hx:CR cx.eT (aA O st loc w) (.xd n .top) v) {A:aD} (hA:∀b∈(loc n).bs,∀o,¬ A b o):VR cx.eT t xs A w v:=by
 have hd:ej t xs (loc n) w:=X.deep.1 (g.obj _ _ hob).2
 obtain ⟨e,s,rfl,hs⟩:=ky hd
 exact hd.data (hx.2 _ _ hob) hA
theorem sh {O:aD} {st:St} {loc:Nat->Loc} {w:World} (g:Good cx.eT X (aA O st loc w)) {n:Nat} {t:Ty} {xs:D t} (h:tM st t n=some xs)
  {v:Value} (hx:CR cx.eT (aA O st loc w) (.xd n .top) v):VR cx.eT t xs O w v:=by
 unfold tM at h
 split at h
 ·rename_i t' ys hob
  split at h
  ·cases h;rename_i hb
   exact eG hb _ (xn g hob hx fun b hb o=>g.out n _ b o hob hb)
  ·cases h
 ·cases h
theorem xp {O:aD} {st:St} {loc:Nat->Loc} {w:World} (g:Good cx.eT X (aA O st loc w)) {want:Ty} {c:C} {x:D want} {v:Value} (h:Ai st want c=some x)
  (hc:CR cx.eT (aA O st loc w) c v):VR cx.eT want x O w v:=by
 unfold Ai at h
 split at h
 ·rename_i n
  split at h
  ·rename_i t xs hob
   split at h
   ·cases h;rename_i hb;exact eG hb _ (xm g hob hc)
   ·cases h
  ·cases h
 ·exact sh g h hc
 ·exact D4 (lB h hc)
theorem Ak {O:aD} {st:St} {loc:Nat->Loc} {w:World} (g:Good cx.eT X (aA O st loc w)):∀{t:Ty} {cs cs':List C} {x:D t} {vs:List Value},gn st t cs=some (x,cs')->bK cx.eT (aA O st loc w) cs vs->
  ∃us vs',vs=us++vs'/\R cx.eT t x O w us/\bK cx.eT (aA O st loc w) cs' vs':=by
 have one:∀{t:Ty} {c:C} {cs cs':List C} {x:D t} {vs:List Value},(match Ai st t c with | some x=>some (x,cs) | none=>none)=some (x,cs')->bK cx.eT (aA O st loc w) (c :: cs) vs->
   ∃us vs',vs=us++vs'/\R cx.eT t x O w us/\bK cx.eT (aA O st loc w) cs' vs':=by
  intro t c cs cs' x vs h hc
  cases hc with
  | cons h1 h2 h3=>
   rename_i v vs0
   split at h
   ·rename_i y hy
    cases h
    exact ⟨[v],vs0,rfl,(oW h2 (xp g hy h1)).2,h3⟩
   ·cases h
 intro t
 induction t with
 | prod a b iha ihb=>
  intro cs cs' x vs h hc
  simp only [gn] at h
  split at h
  ·rename_i y cs1 h1
   split at h
   ·rename_i z cs2 h2
    cases h
    obtain ⟨u1,v1,rfl,r1,k1⟩:=iha h1 hc
    obtain ⟨u2,v2,rfl,r2,k2⟩:=ihb h2 k1
    exact ⟨u1++u2,v2,by simp,⟨u1,u2,rfl,r1,r2⟩,k2⟩
   ·cases h
  ·cases h
 | unit=>
  intro cs cs' x vs h hc
  simp only [gn] at h
  cases h
  exact ⟨[],vs,rfl,rfl,hc⟩
 | bool=>intro cs cs' x vs h hc;cases cs with | nil=>simp [gn] at h | cons c cs=>exact one (t:=.bool) h hc
 | int k=>intro cs cs' x vs h hc;cases cs with | nil=>simp [gn] at h | cons c cs=>exact one (t:=.int k) h hc
 | str=>intro cs cs' x vs h hc;cases cs with | nil=>simp [gn] at h | cons c cs=>exact one (t:=.str) h hc
 | err=>intro cs cs' x vs h hc;cases cs with | nil=>simp [gn] at h | cons c cs=>exact one (t:=.err) h hc
 | cN=>intro cs cs' x vs h hc;cases cs with | nil=>simp [gn] at h | cons c cs=>exact one (t:=.cN) h hc
 | slice e _=>intro cs cs' x vs h hc;cases cs with | nil=>simp [gn] at h | cons c cs=>exact one (t:=.slice e) h hc
theorem uQ {O:aD} {st:St} {loc:Nat->Loc} {w:World} (g:Good cx.eT X (aA O st loc w)) {want:Ty} {c:bm} {x:D want} {v:Value} (h:yc st want c=some x)
  (hc:c8 cx.eT (aA O st loc w) c v):VR cx.eT want x O w v:=by
 cases c with
 | one c=>exact xp g h hc
 | agg cs=>
  simp only [yc] at h
  obtain ⟨vs,rfl,hcs⟩:=hc
  split at h
  ·cases h
  ·rename_i ho
   split at h
   ·rename_i y hy
    cases h
    obtain ⟨us,vs',rfl,r,k⟩:=Ak g hy hcs
    cases k
    unfold VR
    rw [if_neg (by simp [ho])]
    exact ⟨_,rfl,by simpa using r⟩
   ·cases h
theorem uR {O:aD} {st:St} {loc:Nat->Loc} {w:World} (g:Good cx.eT X (aA O st loc w)):∀{ts:List Ty} {vs:List bm} {ys:HL ts} {us:List Value},nO st ts vs=some ys->
  bu cx.eT (aA O st loc w) vs us->eL cx.eT O w ts ys us
 | [],[],_,_,_, .nil=>rfl
 | [t],[a],ys,_,h, .cons h1 .nil=>⟨_,rfl,uQ g h h1⟩
 | t :: u :: r,a :: Ej,ys,_,h, .cons h1 h2=>by
  simp only [nO] at h
  split at h
  ·rename_i x xs k1 k2
   cases h
   exact ⟨_,_,rfl,uQ g k1 h1,uR g k2 h2⟩
  ·cases h
 | [],_ :: _,_,_,h,_=>by simp [nO] at h
 | [_],[],_,_,h,_=>by simp [nO] at h
 | [_],_ :: _ :: _,_,_,h,_=>by simp [nO] at h
 | _ :: _ :: _,[],_,_,h,_=>by simp [nO] at h
theorem qK {eT:TypeId} {O:aD} {w:World} {S:aP} (hS:S.w=w) (hA:∀b o,¬ O b o->¬ S.A b o):∀(ts:List Ty) (k:Nat) (xs:HL ts) (vs:List Value),eL eT O w ts xs vs->
  ∀t sv,look (lP k ts xs) t=some sv->k<=t/\∃v,vs[t - k]?=some v/\bE eT S sv v
 | [],k,xs,vs,_,t,sv,h=>by simp [lP,look] at h
 | [ty],k,x,_,⟨v,rfl,hv⟩,t,sv,h=>by
  simp only [lP,ba] at h
  split at h
  ·cases h
   rename_i e;subst e
   exact ⟨Nat.le_refl _,v,by simp,VR.frame hv fun b o _ ha hc=>⟨by rw [hS];exact hc,hA b o ha⟩⟩
  ·simp [look] at h
 | ty :: u :: r,k,xs,_,⟨v,vs',rfl,hv,hr⟩,t,sv,h=>by
  simp only [lP,ba] at h
  split at h
  ·cases h
   rename_i e;subst e
   exact ⟨Nat.le_refl _,v,by simp,VR.frame hv fun b o _ ha hc=>⟨by rw [hS];exact hc,hA b o ha⟩⟩
  ·obtain ⟨h1,v',h2,h3⟩:=qK hS hA (u :: r) (k + 1) xs.2 vs' hr t sv h
   refine ⟨by omega,v',?_,h3⟩
   rw [show t - k=(t - (k + 1)) + 1 from by omega,List.getElem?_cons_succ]
   exact h2
theorem eL.length {eT:TypeId} {O:aD} {w:World}:∀{ts:List Ty} {xs:HL ts} {vs:List Value},eL eT O w ts xs vs->vs.length=ts.length
 | [],_,_,h=>by rw [show _ = [] from h];rfl
 | [_],_,_,⟨_,rfl,_⟩=>rfl
 | _ :: u :: r,_,_,⟨_,_,rfl,_,h⟩=>by simp [eL.length h]
def wf:(t:Ty)->D t->Prop
 | .int k,x=>k.min<=x/\x<=k.max
 | .str,x=>x.length<=aI
 | .prod a b,x=>wf a x.1/\wf b x.2
 | .slice e,x=>x.length<=aI/\∀(i:Nat) y,x[i]?=some y->wf e y
 | _,_=>True
def gL:(ts:List Ty)->HL ts->Prop
 | [],_=>True
 | [t],x=>wf t x
 | t :: u :: r,xs=>wf t xs.1/\gL (u :: r) xs.2
theorem R.wf {eT:TypeId}:∀{t:Ty} {x:D t} {A:aD} {w:World} {vs:List Value},R eT t x A w vs->Vg.wf t x:=by
 intro t
 induction t with
 | int k=>intro x A w vs h;exact h.2
 | str=>intro x A w vs h;exact h.2
 | prod a b iha ihb=>intro x A w vs h;obtain ⟨_,_,_,h1,h2⟩:=h;exact ⟨iha h1,ihb h2⟩
 | slice e ih=>
  intro x A w vs h
  obtain ⟨v,_,hl,h⟩:=h
  refine ⟨hl,fun i y hy => ?_⟩
  rcases h with ⟨rfl,_⟩ | ⟨b,o,cap,_,_,h⟩
  ·simp at hy
  ·obtain ⟨us,h1,_⟩:=h i y hy;exact ih h1
 | _=>intro x A w vs h;trivial
theorem VR.wf {eT:TypeId} {t:Ty} {x:D t} {A:aD} {w:World} {v:Value} (h:VR eT t x A w v):Vg.wf t x:=(VR.cells h).wf
theorem eL.wf {eT:TypeId} {O:aD} {w:World}:∀{ts:List Ty} {xs:HL ts} {vs:List Value},eL eT O w ts xs vs->gL ts xs
 | [],_,_,_=>trivial
 | [_],_,_,⟨_,_,h⟩=>h.wf
 | _ :: _ :: _,_,_,⟨_,_,_,h,h'⟩=>⟨h.wf,eL.wf h'⟩
theorem ye {B:Cx} {X:Ext} {Γ:List (FuncId × (Bool × bB))} {N:Nat} {f:FuncId} {fn:Func} {c:Code} (hok:gB P (ke B Γ N) X) (hf:P.funcs[f]?=some fn) (hb:fn.body=some c) (hn:(fn.name == "runtime.NumGoroutine")=false)
  (hN:fn.ntmps=N) {ts rts:List Ty} (anns:HL ts->cA) (hts:ts.length<=N) {pre:HL ts->Prop} {post:HL ts->HL rts->Prop}
  (h:∀xs,gL ts xs->pre xs->(xl B Γ N (anns xs) fn.results.toList c ts rts post xs).holds) :
  bU P B.eT X f ts rts pre post:=by
 refine ⟨⟨fn,hf,by rw [hb];rfl,hn⟩,fun O w xs vs hG hO ha hp => ?_⟩
 have g0:Good (ke B Γ N).eT X (aA O (jb ts xs) (fun _=>default) w):=
  ⟨fun n oc h=>by simp [aA,jb,look] at h,fun n m oc oc' b h=>by simp [aA,jb,look] at h,fun n oc b off h=>by simp [aA,jb,look] at h,hG,fun b hb ⟨n,oc,h,_⟩=>by simp [aA,jb,look] at h⟩
 have hA0:∀b o,¬ O b o->¬ (aA O (jb ts xs) (fun _=>default) w).A b o:=by
  rintro b o h (k | ⟨n,oc,k,_⟩)
  ·exact h k
  ·simp [aA,jb,look] at k
 refine Calls.mono (lr hok hf hb hN.symm (anns xs) (by simpa [ha.length,hN] using hts) g0 hO ?_ (h xs ha.wf hp)) ?_
 ·intro t sv ht
  obtain ⟨_,v,h1,h2⟩:=qK (eT:=B.eT) (S:=aA O (jb ts xs) (fun _=>default) w) rfl hA0 ts 0 xs vs ha t sv ht
  exact ⟨v,by simpa using h1,h2⟩
 ·rintro e w' ⟨vs',us,st',loc',rfl,h1,h2,h3,h4⟩
  split at h1
  ·rename_i ys hys
   refine ⟨us,ys,rfl,h1,uR h3 hys h2,h4.os,h4.output,h4.size,fun k hk=>h4.block k hk ?_⟩
   rintro ⟨n,oc,k,_⟩
   simp [aA,jb,look] at k
  ·exact h1.elim
def eM:aD:=fun _ _=>False
def outer (lend:Bool) (A:aD):aD:=match lend with
 | true=>eM
 | false=>A
theorem uS {O:aD} {st:St} {loc:Nat->Loc} {w:World} (g:Good cx.eT X (aA O st loc w)) {lend:Bool} {t:Ty} {a:bm} {x:D t} {v:Value} (h:yb lend st t a=some x)
  (ha:c8 cx.eT (aA O st loc w) a v):VR cx.eT t x (outer lend (aA O st loc w).A) w v:=by
 have base:jw t a=some x->VR cx.eT t x (outer lend (aA O st loc w).A) w v:=by
  intro h
  refine VR.x4 (eH h ha) fun b o k => ?_
  cases lend with
  | true=>exact id
  | false=>exact k
 unfold yb at h
 split at h
 ·rename_i e n x' heq
  unfold nk at h
  simp only [rk] at h
  split at h
  ·rename_i e' ys hob
   split at h
   ·cases h;rename_i hb
    exact eG hb _ (VR.x4 (xm g hob ha) fun _ _ _=>id)
   ·cases h
  ·cases h
 ·exact VR.x4 (sh g h ha) fun _ _ _=>id
 ·exact base h
theorem si {O:aD} {st:St} {loc:Nat->Loc} {w:World} (g:Good cx.eT X (aA O st loc w)) {lend:Bool}:∀{ts:List Ty} {Ej:List bm} {xs:HL ts} {vs:List Value},gm lend st ts Ej=some xs->
  bu cx.eT (aA O st loc w) Ej vs->eL cx.eT (outer lend (aA O st loc w).A) w ts xs vs
 | [],[],_,_,_, .nil=>rfl
 | [t],[a],xs,_,h, .cons h1 .nil=>⟨_,rfl,uS g h h1⟩
 | t :: u :: r,a :: Ej,xs,_,h, .cons h1 h2=>by
  simp only [gm] at h
  split at h
  ·rename_i x xs k1 k2
   cases h
   exact ⟨_,_,rfl,uS g k1 h1,si g k2 h2⟩
  ·cases h
 | [],_ :: _,_,_,h,_=>by simp [gm] at h
 | [_],[],_,_,h,_=>by simp [gm] at h
 | [_],_ :: _ :: _,_,_,h,_=>by simp [gm] at h
 | _ :: _ :: _,[],_,_,h,_=>by simp [gm] at h
theorem o8 {eT:TypeId} {S:aP} {O:aD} {w:World} (hS:S.w=w):∀{ts:List Ty} {ys:HL ts} {us:List Value},(dV ts=true\/O=S.A)->eL eT O w ts ys us->bu eT S (iC ts ys) us
 | [],_,_,_,h=>by rw [show _ = [] from h];exact .nil
 | [t],y,_,hl,⟨v,rfl,hv⟩=>by
  refine .cons ?_ .nil
  subst hS
  rcases hl with hl | hl
  ·simp only [dV,Bool.and_true] at hl
   exact VR.of_flat hl hv
  ·subst hl;exact hv
 | t :: u :: r,ys,_,hl,⟨v,vs',rfl,hv,hr⟩=>by
  refine .cons ?_ (o8 hS ?_ hr)
  ·subst hS
   rcases hl with hl | hl
   ·simp only [dV,Bool.and_eq_true] at hl
    exact VR.of_flat hl.1 hv
   ·subst hl;exact hv
  ·rcases hl with hl | hl
   ·simp only [dV,Bool.and_eq_true] at hl ⊢;exact .inl hl.2
   ·exact .inr hl
theorem DR {O:aD} {st:St} {loc:Nat->Loc} {w:World} {eT:TypeId} (g:Good eT X (aA O st loc w)) (hO:b9 O w):b9 (aA O st loc w).A w:=by
 rintro b off (h | ⟨n,oc,h1,h2,_⟩)
 ·exact hO b off h
 ·exact (g.obj n oc h1).2.inside b h2
theorem sj {eT:TypeId} {f:FuncId} {ts rts:List Ty} {pre:HL ts->Prop} {post:HL ts->HL rts->Prop} (h:bU P eT X f ts rts pre post)
  {O:aD} {st:St} {loc:Nat->Loc} {w:World} {args:List bm} {vs:List Value} {xs:HL ts} (hx:gm (dV rts) st ts args=some xs) (hp:pre xs)
  {K:SV->St->VC} (hK:∀ys,post xs ys->(K (kO (iC rts ys)) st).holds)
  (g:Good eT X (aA O st loc w)) (hO:b9 O w) (ha:bu eT (aA O st loc w) args vs) :
  Calls P f vs.toArray w fun e w'=>∃v sv st' loc',e = .returned v/\(K sv st').holds/\st'.env=st.env/\(true=true->Below w.heap.size w w')/\Good eT X (aA O st' loc' w')/\
   Tr (aA O st loc w) (aA O st' loc' w')/\bE eT (aA O st' loc' w') sv v:=by
 have g':Good (Cx.mk eT [] [] [] 0 [] [] [] false [] []).eT X (aA O st loc w):=g
 have hOut:b9 (outer (dV rts) (aA O st loc w).A) w:=by
  intro b off hb
  cases hf:dV rts with
  | true=>rw [hf] at hb;exact hb.elim
  | false=>rw [hf] at hb;exact DR g hO b off hb
 refine Calls.mono (h.ok _ w xs vs g.gw.1 hOut (si g' hx ha) hp) ?_
 rintro e w' ⟨us,ys,rfl,h1,h2,h3⟩
 obtain ⟨t,g2⟩:=l5 (S':=aA O st loc w') g rfl rfl rfl rfl h3
 refine ⟨_,_,st,loc,rfl,hK ys h1,rfl,fun _=>h3,g2,t,nQ (o8 rfl ?_ h2)⟩
 cases hf:dV rts with
 | true=>exact .inl rfl
 | false=>exact .inr (by simp only [outer];funext b off;simp [aP.A,aA])
theorem qL {O:aD} {st:St} {loc:Nat->Loc} {w:World} (g:Good cx.eT X (aA O st loc w)) (c:C) :
  Tr (aA O st loc w) (aA O (nN st c).2 loc w)/\Good cx.eT X (aA O (nN st c).2 loc w)/\(nN st c).2.env=st.env/\
   ∀v,CR cx.eT (aA O st loc w) c v->CR cx.eT (aA O (nN st c).2 loc w) (nN st c).1 v:=by
 unfold nN
 split
 ·rename_i n
  split
  ·rename_i t xs hob
   obtain ⟨h1,h2⟩:=kB g n
   exact ⟨h1,h2,rfl,fun v hv=>v7 g hob hv⟩
  ·exact ⟨Tr.refl _,g,rfl,fun v hv=>hv⟩
 ·rename_i n
  split
  ·rename_i t xs hob
   obtain ⟨h1,h2⟩:=kB g n
   refine ⟨h1,h2,rfl,fun v hv=>xn g hob hv fun b hb o => ?_⟩
   rintro (hA' | ⟨m,oc,k1,k2,k3⟩)
   ·exact g.out n _ b o hob hb hA'
   ·simp only [aA,aO] at k1 k2
    rw [fl] at k1
    split at k1
    ·cases k1
    ·rename_i h8;exact h8 (g.apart n m _ _ b hob k1 hb k2)
  ·exact ⟨Tr.refl _,g,rfl,fun v hv=>hv⟩
 ·exact ⟨Tr.refl _,g,rfl,fun v hv=>hv⟩
theorem o9 {O:aD} {loc:Nat->Loc} {w:World}:∀(cs:List C) {st:St},Good cx.eT X (aA O st loc w)->
  Tr (aA O st loc w) (aA O (mB st cs).2 loc w)/\Good cx.eT X (aA O (mB st cs).2 loc w)/\(mB st cs).2.env=st.env/\
   ∀vs,bK cx.eT (aA O st loc w) cs vs->bK cx.eT (aA O (mB st cs).2 loc w) (mB st cs).1 vs
 | [],st,g=>⟨Tr.refl _,g,rfl,fun vs h=>h⟩
 | c :: cs,st,g=>by
  obtain ⟨t1,g1,e1,k1⟩:=qL g c
  obtain ⟨t2,g2,e2,k2⟩:=o9 cs g1
  refine ⟨t1.trans t2,g2,e2.trans e1,fun vs h => ?_⟩
  cases h with
  | cons h1 h2 h3=>exact .cons ((k1 _ h1).tr t2) h2 (k2 _ (h3.tr t1))
theorem mE {O:aD} {st:St} {loc:Nat->Loc} {w:World} (g:Good cx.eT X (aA O st loc w)) (x:bm) :
  Tr (aA O st loc w) (aA O (pS st x).2 loc w)/\Good cx.eT X (aA O (pS st x).2 loc w)/\(pS st x).2.env=st.env/\
   ∀v,c8 cx.eT (aA O st loc w) x v->c8 cx.eT (aA O (pS st x).2 loc w) (pS st x).1 v:=by
 cases x with
 | one c=>exact qL g c
 | agg cs=>
  obtain ⟨t1,g1,e1,k1⟩:=o9 cs g
  exact ⟨t1,g1,e1,fun v ⟨vs,h1,h2⟩=>⟨vs,h1,k1 _ h2⟩⟩
theorem yf {O:aD} {st:St} {loc:Nat->Loc} {w:World} (g:Good cx.eT X (aA O st loc w)) (lend:Bool) (x:bm) :
  Tr (aA O st loc w) (aA O (rG lend st x).2 loc w)/\Good cx.eT X (aA O (rG lend st x).2 loc w)/\(rG lend st x).2.env=st.env/\
   ∀v,c8 cx.eT (aA O st loc w) x v->c8 cx.eT (aA O (rG lend st x).2 loc w) (rG lend st x).1 v:=by
 cases lend with
 | false=>cases x <;> exact mE g _
 | true=>
  cases x with
  | one c=>exact ⟨Tr.refl _,g,rfl,fun v hv=>hv⟩
  | agg cs=>exact mE g _
theorem qM {O:aD} {loc:Nat->Loc} {w:World} (lend:Bool):∀(xs:List bm) {st:St},Good cx.eT X (aA O st loc w)->
  Tr (aA O st loc w) (aA O (lq lend st xs).2 loc w)/\Good cx.eT X (aA O (lq lend st xs).2 loc w)/\(lq lend st xs).2.env=st.env/\
   ∀vs,bu cx.eT (aA O st loc w) xs vs->bu cx.eT (aA O (lq lend st xs).2 loc w) (lq lend st xs).1 vs
 | [],st,g=>⟨Tr.refl _,g,rfl,fun vs h=>h⟩
 | x :: xs,st,g=>by
  obtain ⟨t1,g1,e1,k1⟩:=yf g lend x
  obtain ⟨t2,g2,e2,k2⟩:=qM lend xs g1
  refine ⟨t1.trans t2,g2,e2.trans e1,fun vs h => ?_⟩
  cases h with
  | cons h1 h3=>exact .cons ((k1 _ h1).tr t2) (k2 _ (h3.tr t1))
theorem sk {eT:TypeId} {f:FuncId} {q:Bool} {sp:bB} {lend:Bool}
  (h:∀O st loc w args vs K,(sp args st K).holds->Good eT X (aA O st loc w)->b9 O w->bu eT (aA O st loc w) args vs->
   Calls P f vs.toArray w fun e w'=>∃v sv st' loc',e = .returned v/\(K sv st').holds/\st'.env=st.env/\(q=true->Below w.heap.size w w')/\Good eT X (aA O st' loc' w')/\
    Tr (aA O st loc w) (aA O st' loc' w')/\bE eT (aA O st' loc' w') sv v)
  (O:aD) (st:St) (loc:Nat->Loc) (w:World) (args:List bm) (vs:List Value) (K:SV->St->VC) (hs:(sp (lq lend st args).1 (lq lend st args).2 K).holds)
  (g:Good eT X (aA O st loc w)) (hO:b9 O w) (ha:bu eT (aA O st loc w) args vs) :
  Calls P f vs.toArray w fun e w'=>∃v sv st' loc',e = .returned v/\(K sv st').holds/\st'.env=st.env/\(q=true->Below w.heap.size w w')/\Good eT X (aA O st' loc' w')/\
   Tr (aA O st loc w) (aA O st' loc' w')/\bE eT (aA O st' loc' w') sv v:=by
 have g':Good (Cx.mk eT [] [] [] 0 [] [] [] false [] []).eT X (aA O st loc w):=g
 obtain ⟨t1,g1,e1,k1⟩:=qM lend args g'
 refine Calls.mono (h O _ loc w _ vs K hs g1 hO (k1 _ ha)) ?_
 rintro e w' ⟨v,sv,st',loc',h1,h2,h3,h4,h5,h6,h7⟩
 exact ⟨v,sv,st',loc',h1,h2,h3.trans e1,h4,h5,t1.trans h6,h7⟩
theorem dA {eT:TypeId} {f:FuncId} {ts rts:List Ty} {pre:HL ts->Prop} {post:HL ts->HL rts->Prop} (h:bU P eT X f ts rts pre post) :
  cz P eT X f true (gD ts rts pre post):=by
 refine ⟨h.fn,sk (lend:=dV rts) (sp:=fun args st K=>match gm (dV rts) st ts args with
  | some xs => .and (pre xs) (.all (HL rts) fun ys => .imp (post xs ys) (K (kO (iC rts ys)) st))
  | none => .ff) fun O st loc w args vs K hs g hO ha => ?_⟩
 split at hs
 ·rename_i xs hx
  exact sj h hx hs.1 (fun ys hy=>hs.2 ys hy) g hO ha
 ·exact hs.elim
theorem aK {eT:TypeId} {f:FuncId} {ts rts:List Ty} {pre:HL ts->Prop} {g:HL ts->HL rts} (h:bU P eT X f ts rts pre (fun xs ys=>ys=g xs)) :
  cz P eT X f true (aZ ts rts pre g):=by
 refine ⟨h.fn,sk (lend:=dV rts) (sp:=fun args st K=>match gm (dV rts) st ts args with
  | some xs => .and (pre xs) (K (kO (iC rts (g xs))) st)
  | none => .ff) fun O st loc w args vs K hs hg hO ha => ?_⟩
 split at hs
 ·rename_i xs hx
  exact sj h hx hs.1 (fun ys hy=>by rw [hy];exact hs.2) hg hO ha
 ·exact hs.elim
theorem CP {B:Cx} {N:Nat} (h:TyOK P B):gB P (ke B [] N) X:=
 {fit:=h.fit,gh:=h.gh,dO:=h.dO,mixed:=h.mixed,arr:=h.arr,l7:=h.l7,eqs:=h.eqs,gx:=h.gx,jh:=h.jh,kz:=h.kz,calls:=fun f q sp hl=>by simp [ke,look] at hl}
theorem BH {B:Cx} {Γ:List (FuncId × (Bool × bB))} {N:Nat} {f:FuncId} {q:Bool} {sp:bB} (h:cz P B.eT X f q sp) (hΓ:gB P (ke B Γ N) X):gB P (ke B ((f,q,sp) :: Γ) N) X:=
 {fit:=hΓ.fit,gh:=hΓ.gh,dO:=hΓ.dO,mixed:=hΓ.mixed,arr:=hΓ.arr,l7:=hΓ.l7,eqs:=hΓ.eqs,gx:=hΓ.gx,jh:=hΓ.jh,kz:=hΓ.kz,calls:=fun f' q' sp' hl=>by
   simp only [ke,ba] at hl
   split at hl
   ·rename_i e;subst e;cases hl;exact h
   ·exact hΓ.calls f' q' sp' hl}
end
end Go.Vg

namespace Go.Vg
open Go.RowKit
def Ty.plain:Ty->Bool
 | .err | .cN=>false
 | .prod a b=>a.plain && b.plain
 | .slice e=>e.plain
 | _=>true
def Ty.low:Ty->Bool
 | .slice e=>Nat.blt 0 e.size && e.low
 | .prod a b=>a.low && b.low
 | _=>true
section
variable {H:Type} {enc:TypeId × Value->H} {P:Program} {w:World} {base:Nat} {sp:Nat->Bool} {held:Bool} {eT:TypeId}
theorem Fit.cellsOf {t:TypeId} {ty:Ty} {i:TypeInfo} {d:TypeDesc} (h:Fit P t ty i d):P.cellsOf t=ty.size:=by
 unfold Program.cellsOf;rw [h.info];exact h.size
theorem wm {f:TypeId->Ty->Bool} {cs:List Value} {fuel:Nat}
  (ih:∀t ty,f t ty=true->P.cellsOf t=ty.size/\∀us d ps,ty.plain=true->ty.low=true->DataW.trod enc P w base sp held fuel t us=some (d,ps)->∃x,R eT ty x eM w us) :
  ∀(gs:List Field) (off:Nat) (ty:Ty) (xs:List (DataW H × List MemPlace)),bA f gs off ty=true->ty.plain=true->ty.low=true->
   gs.mapM (fun f=>DataW.trod enc P w base sp held fuel f.type ((cs.drop f.offset).take (P.cellsOf f.type)))=some xs->cs.length=off + ty.size->∃x,R eT ty x eM w (cs.drop off):=by
 intro gs
 induction gs with
 | nil=>
  intro off ty xs h hp hs hm hl
  cases ty <;> simp [bA] at h
  refine ⟨(),?_⟩
  show cs.drop off = []
  exact List.drop_eq_nil_of_le (by simp [Ty.size] at hl;omega)
 | cons g gs ihg=>
  intro off ty xs h hp hs hm hl
  cases ty <;> simp [bA] at h
  rename_i a b
  obtain ⟨⟨⟨h1,h2⟩,h3⟩,h4⟩:=h
  simp only [Ty.plain,Bool.and_eq_true] at hp
  simp only [Ty.size] at hl
  rw [List.mapM_cons] at hm
  obtain ⟨k1,k2⟩:=ih _ _ h2
  subst h1
  rw [k1] at hm
  cases hx:DataW.trod enc P w base sp held fuel g.type ((cs.drop g.offset).take a.size) with
  | none=>simp [hx] at hm
  | some y=>
   cases hxs:gs.mapM (fun f=>DataW.trod enc P w base sp held fuel f.type ((cs.drop f.offset).take (P.cellsOf f.type))) with
   | none=>simp [hx,hxs] at hm
   | some ys=>
    simp only [Ty.low,Bool.and_eq_true] at hs
    obtain ⟨x,rx⟩:=k2 _ y.1 y.2 hp.1 hs.1 hx
    obtain ⟨z,rz⟩:=ihg _ _ _ h4 hp.2 hs.2 hxs (by omega)
    refine ⟨(x,z),_,_,?_,rx,rz⟩
    rw [<-List.drop_drop,List.take_append_drop]
theorem yg:∀(n:Nat) (t:TypeId) (ty:Ty),fits P n t ty=true->P.cellsOf t=ty.size/\∀fuel us d ps,ty.plain=true->ty.low=true->
  DataW.trod enc P w base sp held fuel t us=some (d,ps)->∃x,R eT ty x eM w us:=by
 intro n
 induction n with
 | zero=>intro t ty h;simp [fits] at h
 | succ n ih=>
  intro t ty h
  obtain ⟨m,i,dsc,hm,fit,hsh⟩:=eE h
  cases hm
  refine ⟨fit.cellsOf,fun fuel us d ps hp hs hd => ?_⟩
  cases fuel with
  | zero=>simp [DataW.trod] at hd
  | succ fuel=>
   unfold DataW.trod at hd
   rw [fit.cY] at hd
   cases ty with
   | bool=>
    cases dsc <;> simp [aX] at hsh
    split at hd
    case h_1 _ _ b _=>exact ⟨b,rfl⟩
    all_goals simp_all
   | int k=>
    cases dsc <;> simp [aX] at hsh
    subst hsh
    split at hd
    case h_2 _ _ k1 k2 x h0=>
     cases h0
     split at hd
     ·rename_i h1
      obtain ⟨rfl,h1⟩:=h1
      simp only [Lit.wf,Bool.and_eq_true,decide_eq_true_eq] at h1
      exact ⟨x,rfl,h1⟩
     ·cases hd
    all_goals simp_all
   | str=>
    cases dsc <;> simp [aX] at hsh
    split at hd
    case h_4 _ _ s _=>
     split at hd
     ·rename_i h1
      refine ⟨s.data.toList,?_,?_⟩
      ·rw [Array.toArray_toList]
      ·unfold maxLen at h1
       unfold aI
       rw [Array.length_toList]
       exact h1
     ·cases hd
    all_goals simp_all
   | err=>simp [Ty.plain] at hp
   | cN=>simp [Ty.plain] at hp
   | unit=>
    cases dsc <;> simp [aX] at hsh
    rename_i fs
    simp only at hd
    split at hd
    ·rename_i hl
     rw [fit.cellsOf] at hl
     refine ⟨(),?_⟩
     exact List.length_eq_zero_iff.1 hl
    ·cases hd
   | prod a b=>
    cases dsc <;> simp [aX] at hsh
    rename_i fs
    simp only at hd
    split at hd
    ·rename_i hl
     rw [fit.cellsOf] at hl
     cases hxs:fs.toList.mapM (fun f=>DataW.trod enc P w base sp held fuel f.type ((us.drop f.offset).take (P.cellsOf f.type))) with
     | none=>rw [hxs] at hd;simp at hd
     | some xs=>
      obtain ⟨x,hx⟩:=wm (fun t ty hf=>⟨(ih t ty hf).1,(ih t ty hf).2 fuel⟩) _ _ _ _ hsh hp hs hxs (by omega)
      exact ⟨x,by simpa using hx⟩
    ·cases hd
   | slice e=>
    cases dsc <;> simp [aX] at hsh
    rename_i te
    simp only [Ty.low,Bool.and_eq_true] at hs
    have hpos:=fQ hs.1
    obtain ⟨hce,hel⟩:=ih te e hsh
    split at hd
    case h_7=>exact ⟨[],_,rfl,by simp [aI], .inl ⟨rfl,_,_,rfl⟩⟩
    case h_8 _ _ te' b l c h0=>
     cases h0
     simp only at hd
     split at hd
     case isFalse=>cases hd
     rename_i hcond
     obtain ⟨hb,hlc,hcm⟩:=hcond
     obtain ⟨es,hes,_⟩:=Option.bind_eq_some_iff.1 hd
     rw [hce] at hes
     have hlen:=mapM_some_length hes
     simp only [List.length_range] at hlen
     by_cases hl0:l=0
     ·subst hl0
      exact ⟨[],_,rfl,by simp [aI], .inl ⟨rfl,_,_,rfl⟩⟩
     have hspot:b.spot=none:=by
      have h1:=mapM_some_get hes 0 0 (by rw [List.getElem?_range (by omega)])
      rw [List.getElem?_eq_getElem (by omega)] at h1
      obtain ⟨us,hu,hd1⟩:=Option.bind_eq_some_iff.1 h1
      obtain ⟨_,q1,q2⟩:=World.cells?_some hu
      have q3:=q2 0 hpos
      rw [List.getElem?_eq_getElem (by omega)] at q3
      have e0:(b.add (0 * e.size)).add 0=b:=by simp [Addr.add]
      rw [e0] at q3
      unfold World.cell? at q3
      split at q3
      ·cases hb0:b.spot with
       | none=>rfl
       | some k=>rw [hb0] at q3;simp at q3
      ·cases q3
     obtain ⟨bb,oo,so⟩:=b
     simp only at hspot
     subst hspot
     have hget:∀i,i < l->∃x us,R eT e x eM w us/\Row eM w bb (oo + i * e.size) us:=by
      intro i hi
      have h1:=mapM_some_get hes i i (by simp [hi])
      rw [List.getElem?_eq_getElem (by omega)] at h1
      obtain ⟨us,hu,hd1⟩:=Option.bind_eq_some_iff.1 h1
      obtain ⟨_,q1,q2⟩:=World.cells?_some hu
      obtain ⟨x,hx⟩:=hel fuel us (es[i]'(by omega)).1 (es[i]'(by omega)).2 hp hs.2 hd1
      refine ⟨x,us,hx,fun j u hj=>⟨?_,id⟩⟩
      have hjl:j < us.length:=by
       rcases Nat.lt_or_ge j us.length with h | h
       ·exact h
       ·rw [List.getElem?_eq_none h] at hj;cases hj
      have:=q2 j (by omega)
      rw [Addr.add_lit,Addr.add_lit] at this
      rw [this,hj]
     let xs:List (D e):=(List.range l).map fun i=>if h:i < l then (hget i h).choose else bw e
     have hxl:xs.length=l:=by simp [xs]
     have hxi:∀i y,xs[i]?=some y->∃us,R eT e y eM w us/\Row eM w bb (oo + i * e.size) us:=by
      intro i y hy
      have hi:i < l:=by
       rcases Nat.lt_or_ge i l with h | h
       ·exact h
       ·rw [List.getElem?_eq_none (by omega)] at hy;cases hy
      have:xs[i]?=some (hget i hi).choose:=by simp [xs,hi]
      rw [this] at hy
      cases hy
      exact (hget i hi).choose_spec
     refine ⟨xs,_,rfl,?_, .inr ⟨bb,oo,c,?_,?_,hxi⟩⟩
     ·rw [hxl];unfold maxLen at hcm;unfold aI;omega
     ·rw [hxl]
     ·rw [hxl];exact hlc
    all_goals simp_all
theorem BI {n:Nat} {t:TypeId} {ty:Ty} (hf:fits P n t ty=true) (hp:ty.plain=true) (hlow:ty.low=true) {r:Reach} {b:Nat} {v:Value} (hval:Value.okWide P w r b t v) {d:DataW H} {ps:List MemPlace}
  (hd:DataW.Trod enc P w base sp held t v d ps):∃x,VR eT ty x eM w v:=by
 obtain ⟨m,i,dsc,hm,fit,hsh⟩:=eE hf
 obtain ⟨fuel,hd⟩:=hd
 have key:∃x,R eT ty x eM w v.cells.toList:=(yg (eT:=eT) n t ty hf).2 fuel _ _ _ hp hlow hd
 unfold Value.okWide at hval
 rw [fit.cY] at hval
 have one:ty.one=true->Cell.okWide P w r b t v->(v.cells.toList = [v])->∃x,VR eT ty x eM w v:=by
  intro h1 h2 h3
  rw [h3] at key
  obtain ⟨x,hx⟩:=key
  exact ⟨x,VR.bh h1 hx⟩
 have agg:ty.one=false->(∃cs,v = .agg cs/\cs.size=P.cellsOf t/\Row.okWide P w r b t cs)->∃x,VR eT ty x eM w v:=by
  rintro h1 ⟨cs,rfl,_,ts,_,_,h2⟩
  obtain ⟨x,hx⟩:=key
  refine ⟨x,?_⟩
  unfold VR
  rw [if_neg (by simp [h1])]
  exact ⟨cs,rfl,hx⟩
 cases ty with
 | err=>simp [Ty.plain] at hp
 | cN=>simp [Ty.plain] at hp
 | prod a b=>cases dsc <;> simp [aX] at hsh;exact agg rfl hval
 | unit=>cases dsc <;> simp [aX] at hsh;exact agg rfl hval
 | bool=>
  cases dsc <;> simp [aX] at hsh
  refine one rfl hval ?_
  cases v <;> simp [Cell.okWide,Cell.ok,fit.cY,Value.cells] at hval ⊢
 | int k=>
  cases dsc <;> simp [aX] at hsh
  refine one rfl hval ?_
  cases v <;> simp [Cell.okWide,Cell.ok,fit.cY,Value.cells] at hval ⊢
 | str=>
  cases dsc <;> simp [aX] at hsh
  refine one rfl hval ?_
  cases v <;> simp [Cell.okWide,Cell.ok,fit.cY,Value.cells] at hval ⊢
 | slice e=>
  cases dsc <;> simp [aX] at hsh
  refine one rfl hval ?_
  cases v <;> simp [Cell.okWide,Cell.ok,fit.cY,Value.cells] at hval ⊢
def lQ (P:Program) (n:Nat):List TypeId->List Ty->Bool
 | [],[]=>true
 | t :: ts,ty :: tys=>fits P n t ty && ty.plain && ty.low && lQ P n ts tys
 | _,_=>false
theorem Al {n:Nat} {r:Reach} {b:Nat}:∀(ts:List TypeId) (tys:List Ty) (vs:List Value) (ds:List (DataW H)) (ps:List MemPlace),lQ P n ts tys=true->
  (∀(j:Nat) t v,ts[j]?=some t->vs[j]?=some v->Value.okWide P w r b t v)->DataW.TrodAll enc P w base sp held ts vs ds ps->∃xs,eL eT eM w tys xs vs:=by
 intro ts
 induction ts with
 | nil=>
  intro tys vs ds ps hf hv h
  cases tys <;> simp [lQ] at hf
  cases vs <;> cases ds <;> simp [DataW.TrodAll] at h
  exact ⟨(),rfl⟩
 | cons t ts ih=>
  intro tys vs ds ps hf hv h
  cases tys <;> simp [lQ] at hf
  rename_i ty tys
  obtain ⟨⟨⟨h1,h2⟩,h3⟩,h4⟩:=hf
  cases vs <;> cases ds <;> simp [DataW.TrodAll] at h
  rename_i v vs d ds
  obtain ⟨p,hp,q,hq,_⟩:=h
  obtain ⟨x,hx⟩:=BI (eT:=eT) h1 h2 h3 (hv 0 t v rfl rfl) hp
  obtain ⟨xs,hxs⟩:=ih tys vs ds q h4 (fun j t' v' h1 h2=>hv (j + 1) t' v' h1 h2) hq
  cases tys with
  | nil=>exact ⟨x,v,by rw [show vs = [] from hxs],hx⟩
  | cons ty' tys=>exact ⟨(x,xs),v,vs,rfl,hx,hxs⟩
theorem yh (hl:laidOutB P=true) {W W':World} (hb:Below W.heap.size W W'):∀(ts:List TypeId) (vs:List Value) (ds:List (DataW H)) (ps:List MemPlace),(ts.all fun t=>P.readableRec t && Nat.blt t P.types.size)=true->
  DataW.TrodAll enc P W 0 (fun _=>true) true ts vs ds ps->(∀x∈ps,x.block < W.heap.size)->DataW.TrodAll enc P W' 0 (fun b=>decide (b < W.heap.size)) true ts vs ds ps:=by
 intro ts
 induction ts with
 | nil=>intro vs ds ps _ h _;cases vs <;> cases ds <;> simp [DataW.TrodAll] at h ⊢;exact h
 | cons t ts ih=>
  intro vs ds ps hr h hlt
  simp only [List.all_cons,Bool.and_eq_true] at hr
  cases vs <;> cases ds <;> simp only [DataW.TrodAll] at h ⊢
  rename_i v vs d ds
  obtain ⟨p,q,hp,hq,rfl⟩:=h
  exact ⟨p,q,WideElems.Trod_stays hl hr.1.1 (fQ hr.1.2) hp (fun x hx=>hb.same (hlt x (by simp [hx]))) (fun x hx=>by simpa using hlt x (by simp [hx])),ih vs ds q hr.2 hq (fun x hx=>hlt x (by simp [hx])),rfl⟩
theorem uT:∀{ts:List TypeId} {vs:List Value} {ds:List (DataW H)} {ps:List MemPlace},DataW.TrodAll enc P w base sp held ts vs ds ps->vs.length=ts.length/\ds.length=ts.length
 | [],[],[],_,_=>⟨rfl,rfl⟩
 | _ :: _,_ :: _,_ :: _,_,⟨_,_,_,h,_⟩=>by simp [uT h]
theorem Am {X:Ext} {C:Checked} {f:FuncId} {fn:Func} {s:ChangeSpec} {tys:List Ty} {pre:HL tys->Prop} (hs:s.vars = []) (hl:laidOutB C.prog=true)
  (hsp:∀ds:List (DataW H),ds.length=tys.length->s.fn H ds = {results:=[.lit (.bool true)],args:=ds})
  {n:Nat} (hf:lQ C.prog n fn.params.toList tys=true) (hr:(fn.params.toList.all fun t=>C.prog.readableRec t && Nat.blt t C.prog.types.size)=true)
  {tb:TypeId} (hres:fn.resultTypes = #[tb]) (hb:C.prog.underlying tb=some .bool)
  (h:bU C.prog eT X f tys [.bool] pre (fun _ y=>y=true))
  {W:World} {base:Nat} {args:Array Value} {ds gs:List (DataW H)} {before:List MemPlace}
  (hval:∀(j:Nat) t v,fn.params[j]?=some t->args[j]?=some v->Value.okWide C.prog W .any base t v)
  (hW:DataW.Whole enc C.prog fn.params.toList s.vars false W args.toList ds gs before)
  (hG:X.na W) (hpre:∀xs,eL eT eM W tys xs args.toList->pre xs) :
  Calls C.prog f args W fun e W'=>∃v,e = .returned v/\s.post enc C.prog fn false true false false W args v W':=by
 have hW0:=hW
 obtain ⟨p,q,hA,hV,rfl,_,_⟩:=hW
 rw [hs] at hV
 obtain ⟨rfl,rfl⟩:gs = []/\q = []:=by cases gs <;> simp [DataW.TrodVars] at hV;exact ⟨rfl,hV⟩
 obtain ⟨xs,hxs⟩:=Al (eT:=eT) _ _ _ _ _ hf (fun j t v h1 h2=>hval j t v (by rw [<-Array.getElem?_toList];exact h1) (by rw [<-Array.getElem?_toList];exact h2)) hA
 have:=h.ok eM W xs args.toList hG (fun _ _ h=>h.elim) hxs (hpre xs hxs)
 rw [Array.toArray_toList] at this
 refine this.mono ?_
 rintro e W' ⟨us,ys,rfl,rfl,hr',hbel⟩
 obtain ⟨u,rfl,hu⟩:=hr'
 have hu:u = .bool true:=by
  have:=VR.one rfl hu
  simpa [R] using this
 subst hu
 have hlen:ds.length=tys.length:=by
  have h1:=hxs.length
  have h2:=uT hA
  omega
 simp only [List.append_nil] at hW0 ⊢
 have hlt:∀x∈p,x.block < W.heap.size:=hW0.lt
 refine ⟨_,rfl,ds,[],p,[],p,[],hW0,?_,?_,?_,hbel.frame _,fun hh=>by cases hh⟩
 ·rw [List.append_nil,hsp ds hlen,hres]
  exact ⟨[],[],shut_bool hb true,rfl,rfl⟩
 ·rw [List.append_nil,hsp ds hlen]
  exact yh hl hbel _ _ _ _ hr hA hlt
 ·rw [List.append_nil,hsp ds hlen,hs]
  rfl
end
end Go.Vg

namespace Go.Vg
open Go.RowKit
theorem holds_of {v:VC} {p:Prop} (e:v.holds=p) (h:p):v.holds:=by rw [e];exact h
section
variable {A B:Prop}
theorem iD {p:Prop} [Decidable p] (f:p->A) (g:¬ p->B):(decide p=true->A)/\(decide p=false->B):=⟨fun h=>f (of_decide_eq_true h),fun h=>g (of_decide_eq_false h)⟩
theorem iL {a b:Int} (f:a < b->A) (g:b<=a->B):(decide (a < b)=true->A)/\(decide (a < b)=false->B):=iD f fun h=>g (Int.not_lt.1 h)
theorem iE {a b:Int} (f:a<=b->A) (g:b < a->B):(decide (a<=b)=true->A)/\(decide (a<=b)=false->B):=iD f fun h=>g (Int.not_le.1 h)
theorem iB {b:Bool} (f:b=false->A) (g:b=true->B):((!b)=true->A)/\((!b)=false->B):=⟨fun h=>f (Bool.not_eq_true' b▸h),fun h=>g (Bool.not_eq_false' b▸h)⟩
theorem iQ {α:Type} [BEq α] [LawfulBEq α] {a b:α} (f:a=b->A) (g:¬ a=b->B):((a == b)=true->A)/\((a == b)=false->B):=⟨fun h=>f (eq_of_beq h),fun h=>g fun e=>by rw [e,beq_self_eq_true] at h;cases h⟩
theorem iN {α:Type} [BEq α] [LawfulBEq α] {a b:α} (f:¬ a=b->A) (g:a=b->B):((a != b)=true->A)/\((a != b)=false->B):=
 ⟨fun h=>f fun e=>(by rw [e,bne_self_eq_false] at h;cases h),fun h=>g (by simpa using h)⟩
end
def DS:Ext where
 rel k t x l w:=match k with
  | 0=>ej t x l w
  | 1=>la t x l w
  | 2=>lZ t x l w
  | _=>False
 inside {k t x l w} h:=by
  match k,h with
  | 0,h=>exact ej.inside h
  | 1,h=>exact la.inside h
  | 2,h=>exact lZ.inside h
 ptr {k t x l w} hk h:=by
  match k,hk,h with
  | 0,hk,_=>omega
  | 1,hk,_=>omega
  | 2,_,h=>obtain ⟨rfl,b,p,v,h⟩:=h;exact ⟨_,h.lv⟩
 deep:=Iff.rfl
 map:=Iff.rfl
 Cf:=Iff.rfl
 frame {k t x l w w'} h hb:=by
  match k,h with
  | 0,h=>exact ej.frame h hb
  | 1,h=>exact la.frame h hb
  | 2,h=>exact lZ.frame h hb
 na _:=True
 wW:=[]
 Cg _ _ hb:=by cases hb
 tQ _ _:=trivial
def codeOf (fn:Func):Code:=fn.body.getD .skip
def dW (B:Cx) (Γ:List (FuncId × (Bool × bB))) (fn:Func) (anns:cA) (ts rts:List Ty) (post:HL ts->HL rts->Prop) (xs:HL ts):VC:=
 xl B Γ fn.ntmps anns fn.results.toList (codeOf fn) ts rts post xs
def lR (fn:Func) (n:Nat):Bool:=fn.body.isSome && !(fn.name == "runtime.NumGoroutine") && Nat.ble n fn.ntmps
def bW (P:Program) (B:Cx) (X:Ext) (Γ:List (FuncId × (Bool × bB))):Prop:=∀N,gB P (ke B Γ N) X
section
variable {P:Program} {B:Cx} {X:Ext} {Γ:List (FuncId × (Bool × bB))}
theorem cM {f:FuncId} {fn:Func} {ts rts:List Ty} {pre:HL ts->Prop} {post:HL ts->HL rts->Prop} (hok:bW P B X Γ) (hf:P.funcs[f]?=some fn) (hc:lR fn ts.length=true)
  (anns:HL ts->cA) (h:∀xs,gL ts xs->pre xs->(dW B Γ fn (anns xs) ts rts post xs).holds):bU P B.eT X f ts rts pre post:=by
 simp only [lR,Bool.and_eq_true,Bool.not_eq_true'] at hc
 obtain ⟨⟨h1,h2⟩,h3⟩:=hc
 refine ye (hok fn.ntmps) hf (c:=codeOf fn) ?_ h2 rfl anns (Nat.le_of_ble_eq_true h3) h
 unfold codeOf
 cases hb:fn.body with
 | none=>rw [hb] at h1;cases h1
 | some c=>rfl
theorem cU (h:TyOK P B):bW P B X []:=fun _=>CP h
theorem bj {f:FuncId} {q:Bool} {sp:bB} (h:cz P B.eT X f q sp) (hΓ:bW P B X Γ):bW P B X ((f,q,sp) :: Γ):=fun N=>BH h (hΓ N)
def qN (B:Cx) (l:List Nat):Cx:={B with hint:=l}
theorem bW.hint {l:List Nat} (h:bW P B X Γ):bW P (qN B l) X Γ:=fun N=>
 {fit:=(h N).fit,gh:=(h N).gh,dO:=(h N).dO,mixed:=(h N).mixed,arr:=(h N).arr,l7:=(h N).l7,eqs:=(h N).eqs,gx:=(h N).gx,jh:=(h N).jh,kz:=(h N).kz,calls:=(h N).calls}
def yi (B:Cx):Cx:={B with wr:=true}
theorem bW.wrap (h:bW P B X Γ):bW P (yi B) X Γ:=fun N=>
 {fit:=(h N).fit,gh:=(h N).gh,dO:=(h N).dO,mixed:=(h N).mixed,arr:=(h N).arr,l7:=(h N).l7,eqs:=(h N).eqs,gx:=(h N).gx,jh:=(h N).jh,kz:=(h N).kz,calls:=(h N).calls}
theorem kf {α:Type} {l:List (Nat × α)} {n:Nat} {x:α} (h:look l n=some x):(n,x)∈l:=by
 induction l with
 | nil=>cases h
 | cons p r ih=>
  obtain ⟨m,y⟩:=p
  rw [ba] at h
  split at h
  ·rename_i e;subst e;cases h;simp
  ·exact List.mem_cons_of_mem _ (ih h)
def An (P:Program) (B:Cx) (n:Nat):Bool:=
 (B.τ.all fun p=>fits P n p.1 p.2) &&
 (match P.underlying B.eT with | some (.int .i64)=>true | _=>false) &&
 (match P.info? B.eT with | some i=>(match i.zero with | some (.int .i64 0)=>true | _=>false) | none=>false) &&
 P.follows .mixedOrders &&
 (B.pw.all fun p=>match P.underlying p.1 with | some (.array m e)=>Nat.beq m p.2.1 && Nat.beq e p.2.2 | _=>false) &&
 (B.pw.all fun p=>match look B.τ p.2.2 with
  | some e=>(match P.info? p.1 with
   | some i=>(match i.zero with
    | some z=>ir e p.2.1 z.cells.toList
    | none=>false)
   | none=>false)
  | none=>true) &&
 B.eqs.all (xM P) && B.gx.all (tW P) &&
 (B.jh.all fun p=>match P.underlying p.1 with
  | some (.map k e)=>Nat.beq k p.2.1 && Nat.beq e p.2.2 && (match P.underlying p.2.1 with | some .string=>true | _=>false) &&
   (match P.info? p.2.2 with
    | some i=>(match i.zero with | some (.agg _)=>true | _=>false)
    | none=>false)
  | _=>false) &&
 (B.kz.all fun p=>match P.info? p.1 with
  | some i=>(match i.zero with
   | some (.agg cs)=>(match cs.toList with
    | [.pointer none, .slice none 0 0]=>true
    | _=>false)
   | _=>false)
  | none=>false)
theorem CQ {n:Nat} (h:An P B n=true):TyOK P B:=by
 simp only [An,Bool.and_eq_true,List.all_eq_true] at h
 obtain ⟨⟨⟨⟨⟨⟨⟨⟨⟨h1,h2⟩,h3⟩,h4⟩,h5⟩,h6⟩,h7⟩,h8⟩,h9⟩,h10⟩:=h
 refine ⟨fun t ty hl=>⟨n,h1 _ (kf hl)⟩,?_,?_,h4,fun t ht=>h7 t (mr ht),fun t ht=>h8 t (mr ht),fun t m e hl => ?_,fun t k e hl => ?_,fun t e hl => ?_,fun t m te e hl he => ?_⟩
 ·split at h2
  ·assumption
  ·cases h2
 ·split at h3
  ·rename_i i hi
   refine ⟨i,hi,?_⟩
   split at h3
   ·assumption
   ·cases h3
  ·cases h3
 ·have:=h5 _ (kf hl)
  simp only at this
  split at this
  ·rename_i m' e' hu
   simp only [Bool.and_eq_true] at this
   rw [hu,Nat.eq_of_beq_eq_true this.1,Nat.eq_of_beq_eq_true this.2]
  ·cases this
 ·have:=h9 _ (kf hl)
  simp only at this
  split at this
  ·rename_i k' e' hu
   simp only [Bool.and_eq_true] at this
   obtain ⟨⟨⟨e1,e2⟩,e3⟩,e4⟩:=this
   rw [hu,Nat.eq_of_beq_eq_true e1,Nat.eq_of_beq_eq_true e2]
   refine ⟨rfl,?_,?_⟩
   ·split at e3
    ·assumption
    ·cases e3
   ·split at e4
    ·rename_i i hi
     split at e4
     ·rename_i cs hz;exact ⟨i,cs,hi,hz⟩
     ·cases e4
    ·cases e4
  ·cases this
 ·have:=h10 _ (kf hl)
  simp only at this
  split at this
  ·rename_i i hi
   split at this
   ·rename_i cs hz
    split at this
    ·rename_i hr
     exact ⟨i,hi,by rw [hz];congr 2;exact Array.toList_inj.1 hr⟩
    ·cases this
   ·cases this
  ·cases this
 ·have:=h6 _ (kf hl)
  simp only [he] at this
  split at this
  ·rename_i i hi
   split at this
   ·rename_i z hz
    exact ⟨i,z,hi,hz,this⟩
   ·cases this
  ·cases this
end
end Go.Vg

namespace Go.Vg
open Go.RowKit
def iF:Nat->List bm->List (Nat × SV)
 | _,[]=>[]
 | k,a :: r=>(k, .s a) :: iF (k + 1) r
def hP (B:Cx) (Γ:List (FuncId × (Bool × bB))) (fn:Func) (anns:cA):bB:=fun args st K=>
 match Nat.ble args.length fn.ntmps with
 | true=>yd (ke B Γ fn.ntmps) anns fn.results.toList (codeOf fn) {env:=iF 0 args,aC:=st.aC,next:=st.next} fun vs st'=>K (kO vs) {st' with env:=st.env}
 | false => .ff
theorem pa {eT:TypeId} {S:aP}:∀{args:List bm} {vs:List Value} (k:Nat),bu eT S args vs->∀t sv,look (iF k args) t=some sv->k<=t/\∃v,vs[t - k]?=some v/\bE eT S sv v:=by
 intro args
 induction args with
 | nil=>intro vs k _ t sv h;simp [iF,look] at h
 | cons a r ih=>
  intro vs k hr t sv h
  cases hr with
  | cons h1 h2=>
   simp only [iF,ba] at h
   split at h
   ·rename_i e
    cases h
    subst e
    exact ⟨Nat.le_refl _,_,by simp,h1⟩
   ·rename_i e
    obtain ⟨k1,v,k2,k3⟩:=ih (k + 1) h2 t sv h
    refine ⟨by omega,v,?_,k3⟩
    rw [show t - k=(t - (k + 1)) + 1 by omega]
    simpa using k2
theorem jy {P:Program} {B:Cx} {X:Ext} {Γ:List (FuncId × (Bool × bB))} (hok:bW P B X Γ) {f:FuncId} {fn:Func} (hf:P.funcs[f]?=some fn) (hg:lR fn 0=true) (anns:cA) :
  cz P B.eT X f false (hP B Γ fn anns):=by
 simp only [lR,Bool.and_eq_true,Bool.not_eq_true'] at hg
 obtain ⟨⟨h1,h2⟩,_⟩:=hg
 obtain ⟨c,hc⟩:=Option.isSome_iff_exists.1 h1
 refine ⟨⟨fn,hf,by rw [hc];rfl,h2⟩,fun O st loc w args vs K hK g hO ha => ?_⟩
 unfold hP at hK
 split at hK
 case h_2=>exact hK.elim
 rename_i hlen
 have hlen:=Nat.le_of_ble_eq_true hlen
 have hcode:codeOf fn=c:=by unfold codeOf;rw [hc];rfl
 rw [hcode] at hK
 have:=lr (X:=X) (hok fn.ntmps) hf hc (by rfl) anns (O:=O) (loc:=loc) (w:=w) (args:=vs.toArray)
  (st:={env:=iF 0 args,aC:=st.aC,next:=st.next}) (by rw [List.size_toArray,<-ha.len];exact hlen) g hO
  (fun t sv h=>by
   obtain ⟨_,v,k1,k2⟩:=pa 0 ha t sv h
   exact ⟨v,by simpa using k1,k2⟩) hK
 refine this.mono ?_
 rintro e w' ⟨rs,us,st',loc',he,hk,hr,g',tr⟩
 exact ⟨_,_,_,loc',he,hk,rfl,(fun h=>by cases h),g',tr,nQ hr⟩
def DT (st:St) (t k:Nat):Nat:=
 match look st.env t with
 | some (.s (.one (.fn _ caps)))=>caps.getD k 0
 | _=>0
def yj (ty:Ty) (st:St) (n:Nat):D ty:=
 match look st.aC n with
 | some (.cells _ cs)=>match e9 ty cs with
  | some (x,_)=>x
  | none=>bw ty
 | _=>bw ty
end Go.Vg

namespace Go.Vg
open Go.RowKit
def dM:List Cl->St->List bm->List bm × St
 | .d _ :: r,st,v :: vs=>match pS st v with
  | (v',st1)=>match dM r st1 vs with
   | (vs',st2)=>(v' :: vs',st2)
 | .obj _ :: r,st,v :: vs=>match dM r st vs with
  | (vs',st2)=>(v :: vs',st2)
 | .cG :: r,st,v :: vs=>match dM r st vs with
  | (vs',st2)=>(v :: vs',st2)
 | _,st,vs=>(vs,st)
def jo:List (Nat × OC)->List Nat->List (Nat × OC)
 | l,[]=>l
 | l,n :: r=>jo (jX l n) r
def kP:Ob->Ob->Bool
 | .box T _, .box T' _=>Nat.beq T T'
 | .ext k t, .ext k' t'=>Nat.beq k k' && Ty.beq t t'
 | .row true t, .row true t'=>Ty.beq t t'
 | _,_=>false
def fu:List Ob->List Ob->List Nat->Nat->List Nat
 | o :: os,o' :: os',n :: ns,b=>(match kP o o' with | true=>n | false=>b) :: fu os os' ns (b + 1)
 | _,_ :: os',_,b=>b :: fu [] os' [] (b + 1)
 | _,[],_,_=>[]
def rH:Nat->List Ob->List Ob->List (Nat × Nat)
 | k,o :: os,o' :: os'=>match kP o o' with
  | true=>(k,k) :: rH (k + 1) os os'
  | false=>rH (k + 1) os os'
 | _,_,_=>[]
def mF:Nat->List Ob->List Ob->List Nat->Bool
 | k,o :: os,o' :: os',n :: ns=>(match kP o o' with | true=>Nat.beq n k | false=>true) && mF (k + 1) os os' ns
 | _,_,_,_=>true
structure Alt (aG:List Ob) (args:List Cl):Type 1 where
 cv:Bool:=false
 bd:List Ob
 res:List Cl
 ok:CD args->PD aG->Prop:=fun _ _=>True
 out:CD args->PD aG->PD bd
 ret:CD args->PD aG->CD res
section
variable {aG:List Ob} {args:List Cl}
def tN (al:Alt aG args) (a:CD args) (x:PD aG) (ν:List Nat) (st:St) (K:SV->St->VC):VC:=
 match nodupB (fu aG al.bd ν st.next) && dU (st.next + al.bd.length) (fu aG al.bd ν st.next) with
 | true => .imp (al.ok a x) (K (kO (pO (cJ al.bd (al.out a x) (fu aG al.bd ν st.next)) al.res (al.ret a x)))
   {env:=st.env,aC:=eK (cJ al.bd (al.out a x) (fu aG al.bd ν st.next)) al.bd (al.out a x) (fu aG al.bd ν st.next)++jo st.aC ν,next:=st.next + al.bd.length})
 | false => .ff
def qO (a:CD args) (x:PD aG) (ν:List Nat) (st:St) (K:SV->St->VC):List (Alt aG args)->VC
 | [] => .leaf True
 | [al]=>tN al a x ν st K
 | al :: al2 :: r => .both (tN al a x ν st K) (qO a x ν st K (al2 :: r))
def bZ (aG:List Ob) (args:List Cl) (pre:CD args->PD aG->Prop) (alts:List (Alt aG args)):bB:=fun Ej st K=>
 match dM args st Ej with
 | (Ej,st)=>match Cm aG args Ej st.aC [] with
  | some ν=>match nodupB ν,fe false st.aC aG ν args Ej,bL false st.aC aG ν aG ν with
   | true,some a,some x=>BD (fo aG x args Ej++dh aG x st.aC aG ν) (.and (pre a x) (qO a x ν st K alts))
   | _,_,_ => .ff
  | none => .ff
def jQ (aG:List Ob) (args:List Cl) (a:CD args) (x:PD aG):St:=
 {env:=iF 0 (pO (cJ aG x (upto 0 aG.length)) args a),aC:=eK (cJ aG x (upto 0 aG.length)) aG x (upto 0 aG.length),next:=aG.length}
def oH (a:CD args) (x:PD aG) (vs:List bm) (st:St):List (Alt aG args)->VC
 | [] => .ff
 | al :: r=>match dM al.res st vs with
  | (vs',st')=>match Cm al.bd al.res vs' st'.aC (rH 0 aG al.bd) with
   | some ν=>match nodupB ν && (mF 0 aG al.bd ν && (!al.cv || (kJ aG && (cm al.bd && di al.res)))),fe al.cv st'.aC al.bd ν al.res vs',bL al.cv st'.aC al.bd ν al.bd ν with
    | true,some b,some y => .leaf (x5 (fo al.bd y al.res vs'++dh al.bd y st'.aC al.bd ν++[al.ok a x/\y=al.out a x/\b=al.ret a x]))
    | _,_,_=>oH a x vs st r
   | none=>oH a x vs st r
def fv (B:Cx) (Γ:List (FuncId × (Bool × bB))) (fn:Func) (anns:cA) (aG:List Ob) (args:List Cl) (alts:List (Alt aG args)) (a:CD args) (x:PD aG):VC:=
 yd (ke B Γ fn.ntmps) anns fn.results.toList (codeOf fn) (jQ aG args a x) fun vs st'=>oH a x vs st' alts
def kQ:(cls:List Cl)->CD cls->Prop
 | [],_=>True
 | .d t :: r,x=>wf t x.1/\kQ r x.2
 | .obj _ :: r,x=>kQ r x
 | .cG :: r,x=>kQ r x
end
section
variable {eT:TypeId} {X:Ext}
theorem mY {k:Nat}:∀{l:List Nat} {n:Nat},dU k l=true->n∈l->n < k
 | [],_,_,h=>by simp at h
 | m :: r,n,h,hn=>by
  simp only [dU,Bool.and_eq_true] at h
  rcases List.mem_cons.1 hn with e | hn
  ·rw [e];exact fQ h.1
  ·exact mY h.2 hn
theorem eZ (m:Nat):∀(ns:List Nat) (l:List (Nat × OC)),look (jo l ns) m=if m∈ns then none else look l m
 | [],l=>by simp [jo]
 | n :: r,l=>by
  simp only [jo]
  rw [eZ m r,fl]
  by_cases h1:m∈r
  ·simp [h1]
  ·by_cases h2:n=m
   ·subst h2;simp
   ·have:¬ m=n:=fun e=>h2 e.symm
    simp [h1,h2,this]
theorem kR:∀{aG bd:List Ob} {ν:List Nat} {b i n:Nat},(fu aG bd ν b)[i]?=some n->
  (∃o o',aG[i]?=some o/\bd[i]?=some o'/\kP o o'=true/\ν[i]?=some n)\/b<=n
 | aG,[],ν,b,i,n,h=>by
  cases aG <;> cases ν <;> simp [fu] at h
 | [],o' :: os',ν,b,i,n,h=>by
  simp only [fu] at h
  cases i with
  | zero=>simp at h;exact .inr (by omega)
  | succ i=>
   rcases kR (aG:=[]) (ν:=[]) (by simpa using h) with ⟨o,_,h1,_⟩ | h1
   ·simp at h1
   ·exact .inr (by omega)
 | o :: os,o' :: os',[],b,i,n,h=>by
  simp only [fu] at h
  cases i with
  | zero=>simp at h;exact .inr (by omega)
  | succ i=>
   rcases kR (aG:=[]) (ν:=[]) (by simpa using h) with ⟨o,_,h1,_⟩ | h1
   ·simp at h1
   ·exact .inr (by omega)
 | o :: os,o' :: os',n0 :: ns,b,i,n,h=>by
  simp only [fu] at h
  cases i with
  | zero=>
   simp only [List.getElem?_cons_zero,Option.some.injEq] at h
   split at h
   ·rename_i hk;exact .inl ⟨o,o',rfl,rfl,hk,by simp [h]⟩
   ·exact .inr (by omega)
  | succ i=>
   rcases kR (by simpa using h) with ⟨a,a',h1,h2,h3⟩ | h1
   ·exact .inl ⟨a,a',by simpa using h1,by simpa using h2,by simpa using h3⟩
   ·exact .inr (by omega)
theorem kg:∀{aG bd:List Ob} {ν:List Nat} {b:Nat},(fu aG bd ν b).length=bd.length
 | aG,[],ν,b=>by cases aG <;> cases ν <;> rfl
 | [],o' :: os',ν,b=>by simp [fu,kg]
 | o :: os,o' :: os',[],b=>by simp [fu,kg]
 | o :: os,o' :: os',n0 :: ns,b=>by simp [fu,kg]
theorem qP:∀{aG bd:List Ob} {ν:List Nat} {k i n:Nat} {o o':Ob},mF k aG bd ν=true->aG[i]?=some o->bd[i]?=some o'->kP o o'=true->ν[i]?=some n->n=k + i
 | [],_,_,_,_,_,_,_,_,h,_,_,_=>by simp at h
 | _ :: _,[],_,_,_,_,_,_,_,_,h,_,_=>by simp at h
 | _ :: _,_ :: _,[],_,_,_,_,_,_,_,_,_,h=>by simp at h
 | a :: os,a' :: os',m :: ns,k,0,n,o,o',h,h1,h2,h3,h4=>by
  simp at h1 h2 h4
  subst h1;subst h2;subst h4
  simp only [mF,h3,Bool.and_eq_true] at h
  have:=Nat.eq_of_beq_eq_true h.1
  omega
 | a :: os,a' :: os',m :: ns,k,i + 1,n,o,o',h,h1,h2,h3,h4=>by
  simp only [mF,Bool.and_eq_true] at h
  have:=qP h.2 (by simpa using h1) (by simpa using h2) h3 (by simpa using h4)
  omega
theorem sq:∀{l:List Ob} {o:Ob} {t:Ty},kJ l=true->o∈l->o≠.tok t
 | [],_,_,_,h=>by simp at h
 | a :: r,o,t,h,ho=>by
  rcases List.mem_cons.1 ho with e | ho
  ·subst e;intro e;subst e;simp [kJ] at h
  ·exact sq (by cases a <;> simp_all [kJ]) ho
theorem oI {S:aP} {F:Nat->Value->Prop}:∀{cls:List Cl} {x:CD cls} {vs:List Value},lk eT S F cls x vs->kQ cls x
 | [],_,_,_=>trivial
 | .d t :: r,x,v :: vs,h=>⟨h.1.wf,oI h.2⟩
 | .obj k :: r,x,v :: vs,h=>oI (cls:=r) h.2
 | .cG :: r,x,v :: vs,h=>oI (cls:=r) h.2
theorem mG {S:aP} {F:Nat->Value->Prop}:∀{cls:List Cl} {x:CD cls} {vs:List Value},lk eT S F cls x vs->vs.length=cls.length
 | [],_,_,h=>by rw [show _ = [] from h];rfl
 | .d t :: r,x,v :: vs,h=>by simp [mG h.2]
 | .obj k :: r,x,v :: vs,h=>by simp [mG (cls:=r) h.2]
 | .cG :: r,x,v :: vs,h=>by simp [mG (cls:=r) h.2]
theorem qQ {O:aD} {loc:Nat->Loc} {w:World}:∀(cls:List Cl) (xs:List bm) {st:St},Good eT X (aA O st loc w)->
  Tr (aA O st loc w) (aA O (dM cls st xs).2 loc w)/\Good eT X (aA O (dM cls st xs).2 loc w)/\(dM cls st xs).2.env=st.env/\
   ∀vs,bu eT (aA O st loc w) xs vs->bu eT (aA O (dM cls st xs).2 loc w) (dM cls st xs).1 vs:=by
 intro cls
 induction cls with
 | nil=>intro xs st g;exact ⟨Tr.refl _,g,rfl,fun vs h=>h⟩
 | cons cl r ih=>
  intro xs st g
  cases xs with
  | nil=>cases cl <;> exact ⟨Tr.refl _,g,rfl,fun vs h=>h⟩
  | cons x xs=>
   cases cl with
   | d t=>
    have g':Good (Cx.mk eT [] [] [] 0 [] [] [] false [] []).eT X (aA O st loc w):=g
    obtain ⟨t1,g1,e1,k1⟩:=mE g' x
    obtain ⟨t2,g2,e2,k2⟩:=ih xs g1
    refine ⟨t1.trans t2,g2,e2.trans e1,fun vs h => ?_⟩
    cases h with
    | cons h1 h3=>exact .cons ((k1 _ h1).tr t2) (k2 _ (h3.tr t1))
   | obj k=>
    obtain ⟨t2,g2,e2,k2⟩:=ih xs g
    refine ⟨t2,g2,e2,fun vs h => ?_⟩
    cases h with
    | cons h1 h3=>exact .cons (h1.tr t2) (k2 _ h3)
   | cG=>
    obtain ⟨t2,g2,e2,k2⟩:=ih xs g
    refine ⟨t2,g2,e2,fun vs h => ?_⟩
    cases h with
    | cons h1 h3=>exact .cons (h1.tr t2) (k2 _ h3)
end
end Go.Vg

namespace Go.Vg
open Go.RowKit
section
variable {X:Ext} {P:Program} {aG:List Ob} {args:List Cl}
theorem qR {a:CD args} {x:PD aG} {ν:List Nat} {st:St} {K:SV->St->VC}:∀{alts:List (Alt aG args)},(qO a x ν st K alts).holds->∀al∈alts,(tN al a x ν st K).holds
 | [],_,al,h=>by simp at h
 | [al0],h,al,ha=>by simp at ha;subst ha;exact h
 | al0 :: al1 :: r,h,al,ha=>by
  rcases List.mem_cons.1 ha with e | ha
  ·subst e;exact h.1
  ·exact qR h.2 al ha
theorem sr {a:CD args} {x:PD aG} {vs:List bm} {st:St}:∀{alts:List (Alt aG args)},(oH a x vs st alts).holds->∃al∈alts,∃ν,
  nodupB ν=true/\mF 0 aG al.bd ν=true/\(al.cv=false\/(kJ aG=true/\cm al.bd=true/\di al.res=true))/\al.ok a x/\
  fe al.cv (dM al.res st vs).2.aC al.bd ν al.res (dM al.res st vs).1=some (al.ret a x)/\bL al.cv (dM al.res st vs).2.aC al.bd ν al.bd ν=some (al.out a x)/\
  (∀p∈fo al.bd (al.out a x) al.res (dM al.res st vs).1,p)/\(∀p∈dh al.bd (al.out a x) (dM al.res st vs).2.aC al.bd ν,p)
 | [],h=>h.elim
 | al :: r,h=>by
  have rest:(oH a x vs st r).holds->∃al'∈al :: r,∃ν,
    nodupB ν=true/\mF 0 aG al'.bd ν=true/\(al'.cv=false\/(kJ aG=true/\cm al'.bd=true/\di al'.res=true))/\al'.ok a x/\
    fe al'.cv (dM al'.res st vs).2.aC al'.bd ν al'.res (dM al'.res st vs).1=some (al'.ret a x)/\bL al'.cv (dM al'.res st vs).2.aC al'.bd ν al'.bd ν=some (al'.out a x)/\
    (∀p∈fo al'.bd (al'.out a x) al'.res (dM al'.res st vs).1,p)/\(∀p∈dh al'.bd (al'.out a x) (dM al'.res st vs).2.aC al'.bd ν,p):=fun h=>by
   obtain ⟨al',h1,h2⟩:=sr h
   exact ⟨al',by simp [h1],h2⟩
  simp only [oH] at h
  split at h
  ·rename_i ν hν
   split at h
   ·rename_i b y hc hb hy
    simp only [Bool.and_eq_true,Bool.or_eq_true,Bool.not_eq_true'] at hc
    obtain ⟨h1,h2,h3⟩:=hc
    have hall:=pP h
    have k3:al.ok a x/\y=al.out a x/\b=al.ret a x:=hall _ (List.mem_append_right _ (by simp))
    obtain ⟨k4,k5,k6⟩:=k3
    subst k5;subst k6
    obtain ⟨k1,_⟩:=ef.1 hall
    obtain ⟨k1,k2⟩:=ef.1 k1
    exact ⟨al,by simp,ν,h1,h2,h3,k4,hb,hy,k1,k2⟩
   ·exact rest h
  ·exact rest h
theorem BJ {B:Cx} {Γ:List (FuncId × (Bool × bB))} (hok:bW P B X Γ) {f:FuncId} {fn:Func} {c:Code} (hf:P.funcs[f]?=some fn) (hb:fn.body=some c) (hN:args.length<=fn.ntmps) {anns:CD args->PD aG->cA}
  {pre:CD args->PD aG->Prop} {alts:List (Alt aG args)} (h:∀a x,kQ args a->pre a x->(fv B Γ fn (anns a x) aG args alts a x).holds)
  {O:aD} {st:St} {loc:Nat->Loc} {w:World} {Ej:List bm} {vs:List Value} {K:SV->St->VC} (g:Good B.eT X (aA O st loc w)) (hO:b9 O w) (ha:bu B.eT (aA O st loc w) Ej vs)
  {ν:List Nat} {a:CD args} {x:PD aG} (hnd:nodupB ν=true) (hga:fe false st.aC aG ν args Ej=some a) (hx:bL false st.aC aG ν aG ν=some x)
  (hp1:∀p∈fo aG x args Ej,p) (hp2:∀p∈dh aG x st.aC aG ν,p) (hpre:pre a x) (hK:(qO a x ν st K alts).holds) :
  Calls P f vs.toArray w fun e w'=>∃v sv st' loc',e = .returned v/\(K sv st').holds/\st'.env=st.env/\Good B.eT X (aA O st' loc' w')/\
   Tr (aA O st loc w) (aA O st' loc' w')/\bE B.eT (aA O st' loc' w') sv v:=by
 have hvals:=r9 g hx hga ha hp1
 have hobsl:=jJ hx
 let us:=upto 0 aG.length
 have hul:ν.length=us.length:=by rw [mv];exact hobsl.symm
 let O':aD:=fun b off=>O b off\/∃n oc,look st.aC n=some oc/\n∉ν/\b∈(loc n).bs/\oc.lo<=off
 let st0:=jQ aG args a x
 have hOin':b9 O' w:=by
  rintro b off (h | ⟨n,oc,h1,_,h2,_⟩)
  ·exact hO b off h
  ·exact (g.obj n oc h1).2.inside b h2
 have hlo:∀n∈ν,∀oc,look st.aC n=some oc->kJ aG=true->oc.lo=0:=by
  intro n hn oc h1 h2
  obtain ⟨o,oc',y,k1,k2,k3⟩:=eX hx hn
  rw [h1] at k2;cases k2
  have:=(jj k3 (fun _ => .any)).2.2.2 (fun t=>sq h2 k1) rfl
  cases oc <;> first | rfl | exact (this _ _ rfl).elim
 have hν:∀n∈ν,∃oc,look st.aC n=some oc:=fun n hn=>let ⟨_,oc,_,_,k,_⟩:=eX hx hn;⟨oc,k⟩
 let loc0:=bV us (ν.map loc) loc
 have hf0:∀k oc,look st0.aC k=some oc->∃(i n:Nat) (o:Ob) (y:OD o) (oc0:OC),ν[i]?=some n/\us[i]?=some k/\aG[i]?=some o/\look st.aC n=some oc0/\dE false st.aC aG ν o oc0=some y/\oc=ka (cJ aG x us) o y/\loc0 k=loc n:=by
  intro k oc hk
  obtain ⟨i,n,o,y,oc0,k1,k2,k3,k4,k5,k6,_⟩:=jI hx (jH (X:=X) g hx hx hp2) hul hk
  exact ⟨i,n,o,y,oc0,k1,k2,k3,k4,k5,k6,ez (dS _ _) k2 (by simp [k1])⟩
 have hA0:∀b o,(aA O' st0 loc0 w).A b o->(aA O st loc w).A b o:=by
  rintro b off ((h | ⟨n,oc,h1,_,h2,h3⟩) | ⟨k,oc,h1,h2,h3⟩)
  ·exact .inl h
  ·exact .inr ⟨n,oc,h1,h2,h3⟩
  ·obtain ⟨i,n,o,y,oc0,_,_,_,k4,k5,k6,k7⟩:=hf0 k oc h1
   refine .inr ⟨n,oc0,k4,by simp only [aA] at h2;rw [k7] at h2;exact h2,?_⟩
   rcases rF (f:=cJ aG x us) k5 with e | e
   ·rw [<-e,<-k6];exact h3
   ·cases e
 have hown0:∀b,(aA O' st0 loc0 w).im b->∃n∈ν,b∈(loc n).bs:=by
  rintro b ⟨k,oc,h1,h2⟩
  obtain ⟨i,n,o,y,oc0,k1,_,_,_,_,_,k7⟩:=hf0 k oc h1
  exact ⟨n,List.mem_of_getElem? k1,by simp only [aA] at h2;rw [k7] at h2;exact h2⟩
 obtain ⟨g0,laid0⟩:=x8 (X:=X) g hx hp2 hnd (O2:=O') (ν2:=us) (rest:=[]) (locR:=loc) (st2:=st0) (dS _ _) hul
  (by simp [st0,jQ,us]) (fun n hn=>by have:=mu hn;simp [st0,jQ];omega)
  (fun n hn b hb off=>by
   obtain ⟨oc,k⟩:=hν n hn
   rintro (h | ⟨m,oc',h1,h2,h3,_⟩)
   ·exact g.out n oc b off k hb h
   ·exact h2 (by rw [<-g.apart n m oc oc' b k h1 hb h3];exact hn))
  (fun n hn b hb m oc h=>by simp [look] at h) (fun m oc h=>by simp [look] at h) (fun m m' oc oc' b h=>by simp [look] at h) (fun m oc b off h=>by simp [look] at h) (.inr hA0)
  (fun b hb h=>by
   obtain ⟨n,hn,hbn⟩:=hown0 b h
   obtain ⟨oc,k⟩:=hν n hn
   exact g.gw.2 b hb ⟨n,oc,k,hbn⟩)
 have hargs:bu B.eT (aA O' st0 loc0 w) (pO (cJ aG x us) args a) vs:=uL (S:=aA O st loc w) (S':=aA O' st0 loc0 w) rfl (fun k v hk=>qA laid0 hk) (.inr hA0) hvals
 have hcode:codeOf fn=c:=by unfold codeOf;rw [hb];rfl
 have hvc:=h a x (oI hvals) hpre
 unfold fv at hvc
 rw [hcode] at hvc
 have hcalls:=lr (X:=X) (hok fn.ntmps) hf hb (by rfl) (anns a x) (O:=O') (loc:=loc0) (w:=w) (args:=vs.toArray) (st:=st0)
  (by rw [List.size_toArray,mG hvals];exact hN) g0 hOin'
  (fun t sv ht=>by
   obtain ⟨_,v,k1,k2⟩:=pa 0 hargs t sv ht
   exact ⟨v,by simpa using k1,k2⟩) hvc
 refine hcalls.mono ?_
 rintro e w' ⟨rs,us',st',locE,he,hk,hr,gE',trE'⟩
 obtain ⟨al,hal,ν',hnd',hkept,hcv,hokal,hret,hout,hc1,hc2⟩:=sr hk
 obtain ⟨tF,gE,_,kF⟩:=qQ al.res rs gE'
 generalize hst2:(dM al.res st' rs).2=st2 at *
 generalize hrs2:(dM al.res st' rs).1=rs2 at *
 have trE:=trE'.trans tF
 have hrE:=kF us' hr
 have hKal:=qR hK al hal
 unfold tN at hKal
 split at hKal
 case h_2=>exact hKal.elim
 rename_i hn1
 simp only [Bool.and_eq_true] at hn1
 obtain ⟨hnd1,hbel⟩:=hn1
 have hKal:=hKal hokal
 generalize hν1:fu aG al.bd ν st.next=ν1 at *
 have hl1:ν'.length=ν1.length:=by rw [<-hν1,kg];exact (jJ hout).symm
 generalize hst1:({env:=st.env,aC:=eK (cJ al.bd (al.out a x) ν1) al.bd (al.out a x) ν1++jo st.aC ν,next:=st.next + al.bd.length}:St)=st1 at hKal
 have h1env:st1.env=st.env:=by rw [<-hst1]
 have h1objs:st1.aC=eK (cJ al.bd (al.out a x) ν1) al.bd (al.out a x) ν1++jo st.aC ν:=by rw [<-hst1]
 have h1next:st1.next=st.next + al.bd.length:=by rw [<-hst1]
 let loc1:=bV ν1 (ν'.map locE) loc
 have hf1:∀m oc,look st1.aC m=some oc->(∃(i n:Nat) (o:Ob) (y:OD o) (oc0:OC),ν'[i]?=some n/\ν1[i]?=some m/\al.bd[i]?=some o/\look st2.aC n=some oc0/\dE al.cv st2.aC al.bd ν' o oc0=some y/\
   oc=ka (cJ al.bd (al.out a x) ν1) o y/\loc1 m=locE n)\/(m∉ν1/\m∉ν/\look st.aC m=some oc/\loc1 m=loc m):=by
  intro m oc hm
  rw [h1objs,bN] at hm
  split at hm
  ·rename_i oc' hm'
   cases hm
   obtain ⟨i,n,o,y,oc0,k1,k2,k3,k4,k5,k6,_⟩:=jI hout (jH (X:=X) gE hout hout hc2) hl1 hm'
   exact .inl ⟨i,n,o,y,oc0,k1,k2,k3,k4,k5,k6,ez hnd1 k2 (by simp [k1])⟩
  ·rename_i hm'
   have hnin:m∉ν1:=fun hmem=>by
    obtain ⟨oc1,h2⟩:=jk (f:=cJ al.bd (al.out a x) ν1) (x:=al.out a x) (by rw [<-hν1,kg]) hmem
    rw [h2] at hm';cases hm'
   rw [eZ] at hm
   split at hm
   ·cases hm
   ·rename_i hmn
    exact .inr ⟨hnin,hmn,hm,gJ hnin⟩
 have hownE:∀n∈ν',∀b∈(locE n).bs,(aA O' st2 locE w').im b:=by
  intro n hn b hb
  obtain ⟨_,oc,_,_,k,_⟩:=eX hout hn
  exact ⟨n,oc,k,hb⟩
 have hblk:∀m oc,look st.aC m=some oc->m∉ν->∀b∈(loc m).bs,¬ (aA O' st0 loc0 w).im b:=by
  intro m oc h1 h2 b hb' ho
  obtain ⟨n,hn,hbn⟩:=hown0 b ho
  obtain ⟨oc',k⟩:=hν n hn
  have:=g.apart n m oc' oc b k h1 hbn hb'
  exact h2 (by rw [<-this];exact hn)
 have hA1:al.cv=false->∀b o,(aA O st1 loc1 w').A b o->(aA O' st2 locE w').A b o:=by
  rintro hcv0 b off (h | ⟨m,oc,h1,h2,h3⟩)
  ·exact .inl (.inl h)
  ·rcases hf1 m oc h1 with ⟨i,n,o,y,oc0,k1,k2,k3,k4,k5,k6,k7⟩ | ⟨k1,k2,k3,k4⟩
   ·refine .inr ⟨n,oc0,k4,by simp only [aA] at h2;rw [k7] at h2;exact h2,?_⟩
    rcases rF (f:=cJ al.bd (al.out a x) ν1) k5 with e | e
    ·rw [<-e,<-k6];exact h3
    ·rw [hcv0] at e;cases e
   ·exact .inl (.inr ⟨m,oc,k3,k2,by simp only [aA] at h2;rw [k4] at h2;exact h2,h3⟩)
 have hkeep:∀(m i:Nat),ν1[i]?=some m->m < st.next->∃o o',aG[i]?=some o/\al.bd[i]?=some o'/\kP o o'=true/\ν[i]?=some m:=by
  intro m i h1 h2
  rw [<-hν1] at h1
  rcases kR h1 with h3 | h3
  ·exact h3
  ·omega
 have hT:Tr (aA O st loc w) (aA O st1 loc1 w'):={
  O:=rfl
  next:=by simp only [aA];omega
  os:=trE.os
  output:=trE.output
  size:=trE.size
  own:=by
   rintro b ⟨m,oc,h1,h2⟩
   rcases hf1 m oc h1 with ⟨i,n,o,y,oc0,k1,k2,k3,k4,k5,k6,k7⟩ | ⟨k1,k2,k3,k4⟩
   ·simp only [aA] at h2;rw [k7] at h2
    rcases trE.own b (hownE n (List.mem_of_getElem? k1) b h2) with h3 | h3
    ·obtain ⟨n',hn',hb'⟩:=hown0 b h3
     obtain ⟨oc',k⟩:=hν n' hn'
     exact .inl ⟨n',oc',k,hb'⟩
    ·exact .inr h3
   ·simp only [aA] at h2;rw [k4] at h2;exact .inl ⟨m,oc,k3,h2⟩
  cell:=by
   intro b off v hna hcell
   obtain ⟨h1,h2⟩:=trE.cell b off v (fun h=>hna (hA0 b off h)) hcell
   refine ⟨h1,fun h3 => ?_⟩
   rcases hcv with hcv | ⟨hnt,_,_⟩
   ·exact h2 (hA1 hcv b off h3)
   ·rcases h3 with h3 | ⟨m,oc,h3,h4,h5⟩
    ·exact hna (.inl h3)
    ·rcases hf1 m oc h3 with ⟨i,n,o,y,oc0,k1,k2,k3,k4,k5,k6,k7⟩ | ⟨k1,k2,k3,k4⟩
     ·simp only [aA] at h4;rw [k7] at h4
      rcases trE.own b (hownE n (List.mem_of_getElem? k1) b h4) with h6 | h6
      ·obtain ⟨n',hn',hb'⟩:=hown0 b h6
       obtain ⟨oc',k⟩:=hν n' hn'
       exact hna (.inr ⟨n',oc',k,hb',by rw [hlo n' hn' oc' k hnt];exact Nat.zero_le _⟩)
      ·have:=World.block_lt_of_cell? _ _ hcell
       simp only [aA] at this h6
       omega
     ·simp only [aA] at h4;rw [k4] at h4;exact hna (.inr ⟨m,oc,k3,h4,h5⟩)
  block:=fun b hb' ho=>trE.block b hb' fun h=>ho (by
   obtain ⟨n,hn,hbn⟩:=hown0 b h
   obtain ⟨oc,k⟩:=hν n hn
   exact ⟨n,oc,k,hbn⟩)
  loc:=by
   intro m hm hfix
   by_cases hin:m∈ν1
   ·obtain ⟨i,hi⟩:=List.getElem?_of_mem hin
    obtain ⟨o,o',e1,e2,e3,e4⟩:=hkeep m i hi hm
    have hiE:i < ν'.length:=by rw [hl1];exact aM hi
    have hn':ν'[i]?=some ν'[i]:=List.getElem?_eq_getElem hiE
    have hni:=qP hkept e1 e2 e3 hn'
    rw [Nat.zero_add] at hni
    have e5:loc1 m=locE i:=by
     have:=ez (d:=loc) hnd1 hi (ls:=ν'.map locE) (l:=locE i) (by simp [hn',hni])
     exact this
    have hui:us[i]?=some i:=by have:=pR aG.length 0 i (aM e1);simpa using this
    have e6:loc0 i=loc m:=ez (dS _ _) hui (by simp [e4])
    have e7:=trE.loc i (show i < st0.next by simp [st0,jQ];exact aM e1) (fun t ys hy=>by
     obtain ⟨j,n,o2,y,oc0,k1,k2,k3,k4,k5,k6,k7⟩:=hf0 i _ hy
     have hj:j=i:=jl (dS _ _) k2 hui
     subst hj
     rw [e1] at k3;cases k3
     cases o <;> simp [ka] at k6
     cases o' <;> simp [kP] at e3)
    show (loc1 m).v=(loc m).v/\(_->loc1 m=loc m)
    rw [e5,<-e6]
    refine ⟨e7.1,fun hr=>e7.2 fun t z hy => ?_⟩
    obtain ⟨j,n,o2,y,oc0,k1,k2,k3,k4,k5,k6,k7⟩:=hf0 i _ hy
    have hj:j=i:=jl (dS _ _) k2 hui
    subst hj
    rw [e4] at k1;cases k1
    cases o2 <;> simp [ka] at k6
    obtain ⟨rfl,rfl,_⟩:=k6
    obtain ⟨z',rfl⟩:=(jj k5 (fun _ => .any)).2.1 _ _ rfl
    exact hr _ _ k4
   ·exact gf (gJ hin)
  kind:=by
   intro m oc' hm hob
   rcases hf1 m oc' hob with ⟨i,n,o,y,oc0,k1,k2,k3,k4,k5,k6,k7⟩ | ⟨k1,k2,k3,k4⟩
   ·obtain ⟨o0,o',e1,e2,e3,e4⟩:=hkeep m i k2 hm
    rw [k3] at e2;cases e2
    have hui:us[i]?=some i:=by have:=pR aG.length 0 i (aM e1);simpa using this
    obtain ⟨oc2,h2⟩:=jk (f:=cJ aG x us) (x:=x) (ms:=us) (by rw [mv]) (List.mem_of_getElem? hui)
    obtain ⟨j,n2,o2,y2,oc3,j1,j2,j3,j4,j5,j6,j7⟩:=hf0 i oc2 (by simpa [st0,jQ] using h2)
    have hj:j=i:=jl (dS _ _) j2 hui
    subst hj
    rw [e1] at j3;cases j3
    rw [e4] at j1;cases j1
    refine ⟨oc3,j4,?_⟩
    cases o0 <;> cases o <;> simp [kP] at e3
    ·subst e3
     obtain ⟨cs,rfl⟩:=(jj j5 (fun _ => .any)).1 _ _ rfl
     rw [k6]
     rfl
    ·rename_i kp t kp' t'
     cases kp <;> cases kp' <;> simp at e3
     have e3:=Ty.eq_of_beq e3
     subst e3
     obtain ⟨xs,rfl⟩:=(jj j5 (fun _ => .any)).2.2.1 _ _ rfl rfl
     rw [k6]
     rfl
    ·obtain ⟨e3,e4⟩:=e3
     have e4:=Ty.eq_of_beq e4
     subst e3;subst e4
     obtain ⟨z,rfl⟩:=(jj j5 (fun _ => .any)).2.1 _ _ rfl
     rw [k6]
     exact ⟨rfl,rfl⟩
   ·refine ⟨oc',k3,?_⟩
    cases oc' <;> simp [aH,aA,k4]}
 obtain ⟨g1,laid1⟩:=x8 (X:=X) gE hout hc2 hnd' (O2:=O) (ν2:=ν1) (rest:=jo st.aC ν) (locR:=loc) (st2:=st1) hnd1 hl1 h1objs
  (fun n hn=>by rw [h1next];exact mY hbel hn)
  (fun n hn b hb' off h=>by
   obtain ⟨_,oc,_,_,k,_⟩:=eX hout hn
   exact gE.out n oc b off k hb' (.inl h))
  (fun n hn b hb' m oc h1 h2 h3=>by
   rw [eZ] at h1
   split at h1
   ·cases h1
   ·rename_i hmn
    rcases trE.own b (hownE n hn b hb') with h4 | h4
    ·exact hblk m oc h1 hmn b h3 h4
    ·have:=(g.obj m oc h1).2.inside b h3
     simp only [aA] at this h4
     omega)
  (fun m oc h1 h2=>by
   rw [eZ] at h1
   split at h1
   ·cases h1
   ·rename_i hmn
    obtain ⟨k1,k2⟩:=g.obj m oc h1
    refine ⟨by rw [h1next];simp only [aA] at k1;omega,k2.tr hT fun b hb' => ?_⟩
    exact trE.block b (k2.inside b hb') (hblk m oc h1 hmn b hb'))
  (fun m m' oc oc' b h1 h2 _ _ h3 h4=>by
   rw [eZ] at h1 h2
   split at h1
   ·cases h1
   ·split at h2
    ·cases h2
    ·exact g.apart m m' oc oc' b h1 h2 h3 h4)
  (fun m oc b off h1 _ h2=>by
   rw [eZ] at h1
   split at h1
   ·cases h1
   ·exact g.out m oc b off h1 h2)
  (by
   rcases hcv with hcv | ⟨_,hcv,_⟩
   ·exact .inr (hA1 hcv)
   ·exact .inl hcv)
  (g.gw.tr hT).2
 have hres:=r9 gE hout hret hrE hc1
 refine ⟨_,_,st1,loc1,he,hKal,h1env,g1,hT,nQ (uL (S:=aA O' st2 locE w') (S':=aA O st1 loc1 w') rfl (fun k v hk=>qA laid1 hk) ?_ hres)⟩
 rcases hcv with hcv | ⟨_,_,hcv⟩
 ·exact .inr (hA1 hcv)
 ·exact .inl hcv
theorem cO {B:Cx} {Γ:List (FuncId × (Bool × bB))} (hok:bW P B X Γ) {f:FuncId} {fn:Func} (hf:P.funcs[f]?=some fn) (hg:lR fn args.length=true) (anns:CD args->PD aG->cA)
  {pre:CD args->PD aG->Prop} {alts:List (Alt aG args)} (h:∀a x,kQ args a->pre a x->(fv B Γ fn (anns a x) aG args alts a x).holds) :
  cz P B.eT X f false (bZ aG args pre alts):=by
 simp only [lR,Bool.and_eq_true,Bool.not_eq_true'] at hg
 obtain ⟨⟨h1,h2⟩,h3⟩:=hg
 obtain ⟨c,hc⟩:=Option.isSome_iff_exists.1 h1
 refine ⟨⟨fn,hf,by rw [hc];rfl,h2⟩,fun O st loc w Ej vs K hK g hO ha => ?_⟩
 unfold bZ at hK
 obtain ⟨t1,g1,e1,k1⟩:=qQ args Ej g
 simp only at hK
 split at hK
 case h_2=>exact hK.elim
 rename_i ν hν
 split at hK
 case h_2=>exact hK.elim
 rename_i a x hnd hga hx
 obtain ⟨hp,hpre,hK⟩:=uJ hK
 obtain ⟨hp1,hp2⟩:=ef.1 hp
 refine (BJ hok hf hc (Nat.le_of_ble_eq_true h3) h g1 hO (k1 vs ha) hnd hga hx hp1 hp2 hpre hK).mono ?_
 rintro e w' ⟨v,sv,st',loc',q1,q2,q3,q4,q5,q6⟩
 exact ⟨v,sv,st',loc',q1,q2,q3.trans e1,(fun hq=>by cases hq),q4,t1.trans q5,q6⟩
end
end Go.Vg

namespace Go.Vg
@[reducible] def aF:Ty:=.prod .str (.prod (.int .i64) (.prod .bool .unit))
@[reducible] def aN:Ty:=.prod (.int .i64) (.prod (.int .i64) (.prod (.int .i64) (.prod .str (.prod .bool .unit))))
@[reducible] def qS:Ty:=.prod (.int .i64) (.prod (.int .i64) (.prod (.int .i64) .unit))
@[reducible] def eg:Ty:=.prod .str (.prod (.int .i64) (.prod (.int .i64) .unit))
@[reducible] def aB:Ty:=.prod (.slice .str) (.prod (.slice (.int .i64)) (.prod (.slice aF) (.prod (.slice aN) .unit)))
@[reducible] def dX:Ty:=.prod .str (.prod (.slice eg) (.prod (.slice qS) .unit))
@[reducible] def br:Ty:=.prod .str (.prod .str (.prod .str (.prod (.int .i64) (.prod (.int .u64) (.prod dX .unit)))))
@[reducible] def Cp:Ty:=.prod .str (.prod (.int .i64) (.prod (.slice (.int .i64)) .unit))
theorem bl :
  (∀(p:Prop) [Decidable p],(decide p=true)=p)/\(∀(p:Prop) [Decidable p],(decide p=false)=¬ p)/\
  (∀(α:Type) [BEq α] [LawfulBEq α] (a b:α),((a == b)=true)=(a=b))/\(∀(α:Type) [BEq α] [LawfulBEq α] (a b:α),((a == b)=false)=¬ a=b)/\
  (∀(α:Type) [BEq α] [LawfulBEq α] (a b:α),((a != b)=true)=¬ a=b)/\(∀(α:Type) [BEq α] [LawfulBEq α] (a b:α),((a != b)=false)=(a=b))/\
  (∀b:Bool,((!b)=true)=(b=false))/\(∀b:Bool,((!b)=false)=(b=true))/\(∀b:Bool,(¬ b=true)=(b=false))/\(∀b:Bool,(¬ b=false)=(b=true))/\
  (∀a b:Bool,((a && b)=true)=(a=true/\b=true))/\(∀a b:Bool,((a || b)=true)=(a=true\/b=true))/\
  (∀a b:Bool,((a && b)=false)=(a=false\/b=false))/\(∀a b:Bool,((a || b)=false)=(a=false/\b=false))/\
  (∀a b:Int,(¬ a < b)=(b<=a))/\(∀a b:Int,(¬ a<=b)=(b < a)):=by
 refine ⟨?_,?_,?_,?_,?_,?_,?_,?_,?_,?_,?_,?_,?_,?_,?_,?_⟩ <;> intros <;> first | (simp;done) | (rename_i a b;cases a <;> cases b <;> simp)
end Go.Vg

namespace Go.Vg
open Go.RowKit
theorem DE {w:World} {b i:Nat} {c:Array Value} {T:TypeId} {v:Value} (hb:w.heap[b]?=some (.cells c T (0,0))):(w.setCell ⟨b,i,none⟩ v).heap[b]?=some (.cells (c.setIfInBounds i v) T (0,0)):=by
 simp [World.setCell,Array.getElem?_modify,hb]
theorem CS {P:Program} {w:World} {t u ty e:TypeId} {i:TypeInfo} (ht:P.underlying t=some (.slice e)) (hu:P.underlying u=some .string) (hi:P.info? e=some i) (hz:i.zero=some (.int .u8 0))
  (hsize:i.size=1) (hby:i.bytes=1) {v:Value} {xs:List Value} (hown:w.ownsRow 0 e 1 v xs.length xs) (hcap:∀a n c,v = .slice (some a) n c->0 < c) (s:ByteArray) (hlen:xs.length + s.size<=140737488355328) :
  ∃v' w',(Builtin.append_ #[t,u] ty #[v, .string s]).run P w = .ok v' w'/\w'.ownsRow 0 e 1 v' (xs.length + s.size) (xs++Lib.strCells s)/\w.grownBy w' v.ownBlock/\(∀a n c,v' = .slice (some a) n c->0 < c)/\
   (∀g,v'.ownBlock=some g->v.ownBlock=some g\/w.heap.size<=g):=by
 rcases hown.2 with ⟨rfl,h0⟩ | ⟨g,cap,cur,rfl,hbg,hg,hnc,hcm,hcs,htake⟩
 ·have hown':w.ownsRow w.heap.size e 1 (.slice none 0 0) xs.length xs:=⟨hown.1, .inl ⟨rfl,h0⟩⟩
  obtain ⟨v',w',h1,h2,h3,h4⟩:=Lib.run_append_own_string (P:=P) w w.heap.size t u ty e i ht hu hi hz hsize hby _ _ _ hown' s (by unfold maxLen;omega) hlen (Nat.le_refl _)
  rcases h2.2 with ⟨rfl,h6⟩ | ⟨g,cap,cur,rfl,k1,k2,k3,k4⟩
  ·exact ⟨_,w',h1,⟨h2.1, .inl ⟨rfl,h6⟩⟩,h3,(fun a n c hh=>by cases hh),(fun g hh=>by cases hh)⟩
  ·refine ⟨_,w',h1,⟨h2.1, .inr ⟨g,cap,cur,rfl,Nat.zero_le _,k2,k3,k4⟩⟩,h3,fun a n c hh => ?_,fun g' hh=>by cases hh;exact .inr k1⟩
   cases hh
   by_cases hs:s.size=0
   ·have:=h4.2 ⟨rfl,hs⟩;cases this
   ·omega
 ·have hc0:=hcap _ _ _ rfl
  by_cases hroom:xs.length + s.size<=cap
  ·obtain ⟨w',h1,h2,h3⟩:=Lib.run_append_fits_string (P:=P) w 0 t u ty e i ht hu hi hsize _ _ _ _ hown s hc0 hroom
   exact ⟨_,w',h1,h2,h3,(fun a n c hh=>by cases hh;exact hc0),(fun g' hh => .inl hh)⟩
  ·have holds:∀j u,xs[j]?=some u->w.cell? ((⟨g,0,none⟩:Addr).add j)=some u:=hown.cells (g:=g) rfl
   have hr:=Lib.run_append_grow_string (P:=P) w t u ty e i (.int .u8 0) ht hu hi hz ⟨g,0,none⟩ xs.length cap xs (by rw [hsize];simp) holds s (by omega) (by omega) (by rw [hby];exact growslice_fits (by omega) (by omega))
   have hge:=grownCap_ge w (xs.length + s.size) cap e
   have hcm':grownCap w (xs.length + s.size) cap e<=maxLen:=grownCap_le_maxLen w (xs.length + s.size) cap e (by unfold maxLen;omega)
   refine ⟨_,_,hr,⟨by simp [Lib.strCells_length], .inr ⟨w.heap.size,_,_,rfl,Nat.zero_le _,heap_alloc_new w.drew _,hge,hcm',?_,?_⟩⟩,⟨rfl,rfl,rfl,by simp,fun k hk _=>Go.Deep.blk_alloc_lt w.drew _ k hk⟩,(fun a n c hh=>by cases hh;omega),(fun g' hh=>by cases hh;exact .inr (Nat.le_refl _))⟩
   ·have hz1:(Value.int IntKind.u8 0).cells.size=1:=rfl
    simp only [Array.size_append,List.size_toArray,size_zeroCells,hz1,Lib.strCells_length]
    omega
   ·simp only [Array.toList_append,List.append_assoc]
    rw [<-List.append_assoc]
    have:(xs++Lib.strCells s).length=(xs.length + s.size) * 1:=by simp [Lib.strCells_length]
    rw [<-this]
    exact List.take_left
theorem oV {P:Program} {w w':World} {ops:Array Oper} {rest:List Oper} {o:Oper} {a:Act} {Q:Exit->Act->World->Prop} (hgd:o.guard=none) (sl x:Operand) (t u:TypeId)
  (ho:o.op = .call {callee:=.builtin .append,args:=#[sl,x],argTypes:=#[t,u]}) {v v' y:Value} (hs:a.eval sl=v) (hx:a.eval x=y)
  (hr:(Builtin.append_ #[t,u] o.type #[v,y]).run P w = .ok v' w') (h:wpList P ops Q rest (a.put o.dst v') w'):wpList P ops Q (o :: rest) a w:=by
 refine wpList_plain hgd fun K hK => ?_
 unfold Oper.wp execOp
 simp only [ho,resolve,invoke,builtin,Sem.run_bind,Sem.run_pure,Result.andThen_ok,List.map_toArray,List.map_cons,List.map_nil,hs,hx,hr]
 exact hK _ _ h
structure Kept (b:Nat) (v:Value) (w w':World):Prop where
 os:w'.os=w.os
 output:w'.output=w.output
 size:w.heap.size<=w'.heap.size
 block:∀k,k < w.heap.size->k≠b->v.ownBlock≠some k->w'.heap[k]?=w.heap[k]?
structure yk (v:Value) (w w':World):Prop where
 os:w'.os=w.os
 output:w'.output=w.output
 size:w'.heap.size=w.heap.size
 block:∀k,v.ownBlock≠some k->w'.heap[k]?=w.heap[k]?
theorem wo {w:World} {g n c:Nat} {m:Nat}:yk (.slice (some ⟨g,0,none⟩) n c) w (w.drew.freeze ⟨g,0,none⟩ m):=by
 unfold World.freeze
 split
 ·exact ⟨rfl,rfl,rfl,fun _ _=>rfl⟩
 ·refine ⟨rfl,rfl,by simp,fun k hk => ?_⟩
  have:k≠g:=fun e=>hk (by rw [e];rfl)
  simp only [Array.getElem?_modify]
  rw [if_neg (fun e=>this e.symm)]
  rfl
def mH (T e:Nat):bB:=fun args st K=>
 match args with
 | [.one (.bX n), .one (.d .str s)]=>match look st.aC n with
  | some (.ext 2 t x)=>match h:Ty.beq t ee with
   | true => .and ((bc h x).2.1=(T:Int)/\(bc h x).2.2.1=(e:Int)/\(bc h x).1.length + s.length<=140737488355328)
     (K (.fK [.one (.d (.int .i64) (s.length:Int)), .one (.d .err .nil)]) (setObj st n (.ext 2 ee ((bc h x).1++bo s,(T:Int),(e:Int),()))))
   | false => .ff
  | _ => .ff
 | _ => .ff
def kS (T e:Nat):bB:=fun args st K=>
 match args with
 | [.one (.bX n)]=>match look st.aC n with
  | some (.ext 2 t x)=>match h:Ty.beq t ee with
   | true => .and ((bc h x).2.1=(T:Int)/\(bc h x).2.2.1=(e:Int)) (K (.s (.one (.d .str (bytesOf (bc h x).1)))) (aO st n))
   | false => .ff
  | _ => .ff
 | _ => .ff
def qT (T e:Nat):bB:=fun args st K=>
 match args with
 | [.one (.bX n)]=>match look st.aC n with
  | some (.ext 2 t x)=>match h:Ty.beq t ee with
   | true => .and ((bc h x).2.1=(T:Int)/\(bc h x).2.2.1=(e:Int)) (K (.s (.one (.d (.int .i64) ((bc h x).1.length:Int)))) st)
   | false => .ff
  | _ => .ff
 | _ => .ff
section
variable {P:Program} {eT:TypeId} {X:Ext} {f:FuncId}
theorem uU {O:aD} {st:St} {loc:Nat->Loc} {w:World} (g:Good eT X (aA O st loc w)) {n:Nat} {x:D ee} (hob:look st.aC n=some (.ext 2 ee x)) {v:Value} (hv:CR eT (aA O st loc w) (.bX n) v) :
  ∃b p u,v = .pointer (some ⟨b,0,none⟩)/\De x (loc n) w b p u:=by
 obtain ⟨h0,b,p,u,hD⟩:=X.Cf.1 (g.obj n _ hob).2
 exact ⟨b,p,u,(hv.2 _ hob rfl).trans hD.lv,hD⟩
theorem yl (s:List UInt8):bytesOf (bo s)=s:=by
 induction s with
 | nil=>rfl
 | cons c r ih=>
  simp only [bytesOf,bo,List.map_cons,List.map_map] at ih ⊢
  rw [ih]
  simp
theorem ym {xs:List Int} (h:∀y∈xs,0<=(y:Int)/\(y:Int)<=255):bo (bytesOf xs)=xs:=by
 induction xs with
 | nil=>rfl
 | cons y r ih=>
  have h1:=h y (by simp)
  have h2:=ih fun z hz=>h z (by simp [hz])
  simp only [bo,bytesOf,List.map_map,List.map_cons] at h2 ⊢
  rw [h2]
  congr 1
  simp only [UInt8.toNat_ofNat']
  omega
theorem yn (s:List UInt8):∀y∈bo s,0<=(y:Int)/\(y:Int)<=255:=by
 intro y hy
 simp only [bo,List.mem_map] at hy
 obtain ⟨c,_,rfl⟩:=hy
 have:=c.toNat_lt
 omega
theorem BK {xs:List Int} (h:∀y∈xs,0<=(y:Int)/\(y:Int)<=255):xs.map (Value.int .u8)=(bytesOf xs).map fun c=>Value.int .u8 c.toNat:=by
 conv=>lhs;rw [<-ym h]
 simp [bo]
theorem qU {T e:Nat} (hfn:∃fn,P.funcs[f]?=some fn/\fn.body.isNone=false/\(fn.name == "runtime.NumGoroutine")=false)
  (H:∀(b:Nat) (p v:Value) (xs:List Value) (s:ByteArray) (w:World),w.heap[b]?=some (.cells #[p,v] T (0,0))->(p = .pointer none\/p = .pointer (some ⟨b,0,none⟩))->w.ownsRow 0 e 1 v xs.length xs->v.ownBlock≠some b->
   (∀a n c,v = .slice (some a) n c->0 < c)->xs.length + s.size<=140737488355328->
   Calls P f #[.pointer (some ⟨b,0,none⟩), .string s] w fun r w'=>r = .returned (.tuple #[.int .i64 s.size, .nilIface])/\
    ∃v',w'.heap[b]?=some (.cells #[.pointer (some ⟨b,0,none⟩),v'] T (0,0))/\w'.ownsRow 0 e 1 v' (xs.length + s.size) (xs++Lib.strCells s)/\v'.ownBlock≠some b/\Kept b v w w'/\
     (∀a n c,v' = .slice (some a) n c->0 < c)/\(∀g,v'.ownBlock=some g->v.ownBlock=some g\/w.heap.size<=g)) :
  cz P eT X f false (mH T e):=by
 refine ⟨hfn,fun O st loc w args vs K hs g hO ha => ?_⟩
 unfold mH at hs
 split at hs
 case h_2=>exact hs.elim
 rename_i n s
 split at hs
 case h_2=>exact hs.elim
 rename_i t x hob
 split at hs
 case h_2=>exact hs.elim
 rename_i ht
 have ht':=Ty.eq_of_beq ht
 subst ht'
 rw [du] at hs
 obtain ⟨⟨hT,he,hlen⟩,hs⟩:=hs
 match vs,ha with
 | [v0,v1], .cons h0 (.cons h1 .nil)=>
 obtain ⟨b,p,u,rfl,hD⟩:=uU g hob h0
 obtain ⟨rfl,hsl⟩:=dy.1 (show CR eT _ (.d .str s) v1 from h1)
 have hsz:(⟨s.toArray⟩:ByteArray).size=s.length:=by simp [ByteArray.size]
 have hT':x.2.1.toNat=T:=by rw [hT];rfl
 have he':x.2.2.1.toNat=e:=by rw [he];rfl
 have hheap:=hD.heap
 have hrow:=hD.row
 rw [hT'] at hheap
 rw [he'] at hrow
 refine (H b p u (x.1.map (Value.int .u8)) ⟨s.toArray⟩ w hheap hD.ptr (by simpa using hrow) hD.ne hD.cap (by simpa [hsz] using hlen)).mono ?_
 rintro r w' ⟨rfl,v',k1,k2,k3,k4,k5,k6⟩
 have hlt:b < w.heap.size:=(Array.getElem?_eq_some_iff.1 hheap).1
 obtain ⟨tr1,g1⟩:=iq (S:=aA O st loc w) (S':=aA O (setObj st n (.ext 2 ee (x.1++bo s,(T:Int),(e:Int),()))) (aU loc n ⟨.pointer (some ⟨b,0,none⟩),b :: v'.ownBlock.toList⟩) w') (n:=n)
  (oc:=.ext 2 ee x) (oc':=.ext 2 ee (x.1++bo s,(T:Int),(e:Int),())) (l':=⟨.pointer (some ⟨b,0,none⟩),b :: v'.ownBlock.toList⟩) g rfl hO hob
  (fun m=>gz st n m _) (fun _=>rfl) rfl (fun _=>⟨hD.lv.symm,fun h=>(h _ _ rfl).elim⟩) ⟨rfl,rfl⟩ k4.os k4.output k4.size
  (fun b' h1 h2=>k4.block b' h1 (fun e=>h2 (by simp only [aA];rw [hD.bs,e];simp)) (fun e=>h2 (by simp only [aA];rw [hD.bs,e];simp)))
  (fun b' o v _ ho=>by simp [OC.lo] at ho)
  (fun b' hb'=>by
   rcases List.mem_cons.1 hb' with rfl | hb'
   ·exact .inl ⟨by simp only [aA];rw [hD.bs];simp,Nat.le_refl _⟩
   ·have hb':v'.ownBlock=some b':=by simpa using hb'
    rcases k6 b' hb' with h | h
    ·exact .inl ⟨by simp only [aA];rw [hD.bs,h];simp,Nat.le_refl _⟩
    ·exact .inr h)
 have g1:=g1 (X.Cf.2 ⟨rfl,b, .pointer (some ⟨b,0,none⟩),v',rfl, .inr rfl,k1,by
  have e1:x.1.map (Value.int .u8)++Lib.strCells ⟨s.toArray⟩=(x.1++bo s).map (Value.int .u8):=by rw [o3,List.map_append]
  have e2:(x.1.map (Value.int .u8)).length + (⟨s.toArray⟩:ByteArray).size=(x.1++bo s).length:=by simp [hsz,bo]
  rw [e1,e2] at k2
  exact k2,rfl,k3,(fun y hy=>by
   rcases List.mem_append.1 hy with h | h
   ·exact hD.u8 y h
   ·exact yn s y h),k5⟩)
 refine ⟨_,_,_,_,rfl,hs,rfl,(fun hh=>by cases hh),g1,tr1,⟨[.int .i64 (⟨s.toArray⟩:ByteArray).size, .nilIface],rfl, .cons ?_ (.cons ?_ .nil)⟩⟩
 ·refine bn.2 ⟨by rw [hsz],?_⟩
  simp only [IntKind.min,IntKind.max,IntKind.signed,IntKind.bits]
  unfold aI at hsl
  constructor <;> simp <;> omega
 ·exact fC.2 rfl
theorem yp {O:aD} {st:St} {loc:Nat->Loc} {w w':World} (g:Good eT X (aA O st loc w)) {n:Nat} {oc0:OC} (hn:look st.aC n=some oc0) (h0:oc0.lo=0)
  (hos:w'.os=w.os) (hout:w'.output=w.output) (hsz:w.heap.size<=w'.heap.size) (hb:∀b,b < w.heap.size->b∉(loc n).bs->w'.heap[b]?=w.heap[b]?) :
  Tr (aA O st loc w) (aA O (aO st n) loc w')/\Good eT X (aA O (aO st n) loc w'):=by
 have hob:∀m oc,look (aO st n).aC m=some oc->m≠n/\look st.aC m=some oc:=by
  intro m oc h
  simp only [aO] at h
  rw [fl] at h
  split at h
  ·cases h
  ·rename_i hne;exact ⟨fun e=>hne e.symm,h⟩
 have hA:∀b o,(aA O (aO st n) loc w').A b o->(aA O st loc w).A b o:=by
  rintro b o (h | ⟨m,oc,h1,h2⟩)
  ·exact .inl h
  ·exact .inr ⟨m,oc,(hob _ _ h1).2,h2⟩
 have ht:Tr (aA O st loc w) (aA O (aO st n) loc w'):={
  O:=rfl
  next:=Nat.le_refl _
  os:=hos
  output:=hout
  size:=hsz
  own:=fun b h=>by obtain ⟨m,oc,h1,h2⟩:=h;exact .inl ⟨m,oc,(hob _ _ h1).2,h2⟩
  cell:=fun b o v h1 h2=>by
   have hlt:=World.block_lt_of_cell? w _ h2
   refine ⟨?_,fun h=>h1 (hA b o h)⟩
   show w'.cell? _=_
   rw [World.cell?_of_block (w:=w) (w':=w') (a:=⟨b,o,none⟩) (hb b hlt fun hm=>h1 (.inr ⟨n,oc0,hn,hm,by rw [h0];exact Nat.zero_le _⟩))]
   exact h2
  block:=fun b h1 h2=>hb b h1 fun hm=>h2 ⟨n,oc0,hn,hm⟩
  loc:=fun _ _ _=>gf rfl
  kind:=fun m oc _ h=>⟨oc,(hob _ _ h).2,by cases oc <;> simp [aH,aA]⟩}
 refine ⟨ht,⟨fun m oc h => ?_,fun m1 m2 oc1 oc2 b h1 h2 h3 h4 => ?_,fun m oc b off h1 h2 => ?_,g.gw.tr ht⟩⟩
 ·obtain ⟨hne,h⟩:=hob _ _ h
  obtain ⟨h1,h2⟩:=g.obj m oc h
  exact ⟨h1,h2.tr ht fun b hbm=>hb b (h2.inside b hbm) fun hbn=>hne (g.apart m n oc oc0 b h hn hbm hbn)⟩
 ·exact g.apart m1 m2 oc1 oc2 b (hob _ _ h1).2 (hob _ _ h2).2 h3 h4
 ·exact g.out m oc b off (hob _ _ h1).2 h2
theorem pT {T e:Nat} (hfn:∃fn,P.funcs[f]?=some fn/\fn.body.isNone=false/\(fn.name == "runtime.NumGoroutine")=false)
  (H:∀(b:Nat) (p v:Value) (l:List UInt8) (w:World),w.heap[b]?=some (.cells #[p,v] T (0,0))->w.ownsRow 0 e 1 v l.length (l.map fun c=>Value.int .u8 c.toNat)->(∀a n c,v = .slice (some a) n c->0 < c)->
   Calls P f #[.pointer (some ⟨b,0,none⟩)] w fun r w'=>r = .returned (.string ⟨l.toArray⟩)/\yk v w w') :
  cz P eT X f false (kS T e):=by
 refine ⟨hfn,fun O st loc w args vs K hs g hO ha => ?_⟩
 unfold kS at hs
 split at hs
 case h_2=>exact hs.elim
 rename_i n
 split at hs
 case h_2=>exact hs.elim
 rename_i t x hob
 split at hs
 case h_2=>exact hs.elim
 rename_i ht
 have ht':=Ty.eq_of_beq ht
 subst ht'
 rw [du] at hs
 obtain ⟨⟨hT,he⟩,hs⟩:=hs
 match vs,ha with
 | [v0], .cons h0 .nil=>
 obtain ⟨b,p,u,rfl,hD⟩:=uU g hob h0
 have hT':x.2.1.toNat=T:=by rw [hT];rfl
 have he':x.2.2.1.toNat=e:=by rw [he];rfl
 have hheap:=hD.heap
 have hrow:=hD.row
 rw [hT'] at hheap
 rw [he',BK hD.u8,show x.1.length=(bytesOf x.1).length by simp [bytesOf]] at hrow
 refine (H b p u (bytesOf x.1) w hheap hrow hD.cap).mono ?_
 rintro r w' ⟨rfl,k⟩
 obtain ⟨tr1,g1⟩:=yp (w':=w') g hob rfl k.os k.output (by rw [k.size];exact Nat.le_refl _) (fun b' _ h2=>k.block b' fun e=>h2 (by rw [hD.bs,e];simp))
 refine ⟨_,_,_,_,rfl,hs,rfl,(fun hh=>by cases hh),g1,tr1,?_⟩
 refine (dy (eT:=eT) (S:=aA O (aO st n) loc w')).2 ⟨rfl,?_⟩
 rcases hrow.2 with ⟨_,h⟩ | ⟨_,cap,_,_,_,_,h1,h2,_⟩
 ·rw [h];exact Nat.zero_le _
 ·unfold maxLen at h2;unfold aI;omega
theorem tu {T e:Nat} (hfn:∃fn,P.funcs[f]?=some fn/\fn.body.isNone=false/\(fn.name == "runtime.NumGoroutine")=false)
  (H:∀(b:Nat) (p q:Value) (a:Option Addr) (n c:Nat) (w:World),w.heap[b]?=some (.cells #[p, .slice a n c] T (0,0))->
   Calls P f #[.pointer (some ⟨b,0,none⟩)] w fun r w'=>r = .returned (.int .i64 n)/\w'=w) :
  cz P eT X f true (qT T e):=by
 refine ⟨hfn,fun O st loc w args vs K hs g hO ha => ?_⟩
 unfold qT at hs
 split at hs
 case h_2=>exact hs.elim
 rename_i n
 split at hs
 case h_2=>exact hs.elim
 rename_i t x hob
 split at hs
 case h_2=>exact hs.elim
 rename_i ht
 have ht':=Ty.eq_of_beq ht
 subst ht'
 rw [du] at hs
 obtain ⟨⟨hT,he⟩,hs⟩:=hs
 match vs,ha with
 | [v0], .cons h0 .nil=>
 obtain ⟨b,p,u,rfl,hD⟩:=uU g hob h0
 have hT':x.2.1.toNat=T:=by rw [hT];rfl
 have hheap:=hD.heap
 rw [hT'] at hheap
 obtain ⟨a,c,rfl,hl⟩:∃a c,u = .slice a x.1.length c/\x.1.length<=aI:=by
  rcases hD.row.2 with ⟨rfl,h⟩ | ⟨g',cap,cur,h,_,_,h1,h2,_⟩
  ·exact ⟨none,0,by rw [h],by rw [h];exact Nat.zero_le _⟩
  ·exact ⟨_,_,h,by unfold maxLen at h2;unfold aI;omega⟩
 refine (H b p p a x.1.length c w hheap).mono ?_
 rintro r w' ⟨rfl,rfl⟩
 refine ⟨_,_,_,loc,rfl,hs,rfl,fun _=>Below.refl _ _,g,Tr.refl _,?_⟩
 refine (bn (eT:=eT) (S:=aA O st loc w')).2 ⟨rfl,?_⟩
 unfold aI at hl
 simp only [IntKind.min,IntKind.max,IntKind.signed,IntKind.bits]
 constructor <;> simp <;> omega
end
end Go.Vg

namespace Go.Mrl
open Go.Vg
def small (c:UInt8):Bool:=decide ((97:Int)<=c.toNat) && decide ((c.toNat:Int)<=122)
def other (c:UInt8):Bool:=(decide ((48:Int)<=c.toNat) && decide ((c.toNat:Int)<=57)) || ((c.toNat:Int) == 95)
def dH (i:Nat) (c:UInt8):Bool:=!small c && ((i:Int) == 0 || !other c)
def lS (s:List UInt8):Bool:=(List.range s.length).any fun i=>dH i (eI s i)
def aJ (s:List UInt8):Int:=if s.length < 1\/8 < s.length then 1 else if lS s=true then 3 else 0
def aW (n:Int):bp:=if n=0 then .nil else .no n
theorem cV (s:List UInt8):0<=aJ s:=by
 unfold aJ;split
 ·decide
 ·split <;> decide
theorem wq {s:List UInt8} {i:Nat} (h:i < s.length) (hb:dH i (eI s i)=true):lS s=true:=by
 simp only [lS,List.any_eq_true,List.mem_range]
 exact ⟨i,h,hb⟩
theorem uV {s:List UInt8} (h:∀i,i < s.length->dH i (eI s i)=false):lS s=false:=by
 simp only [lS,List.any_eq_false,List.mem_range]
 intro i hi;rw [h i hi];simp
theorem tw {s:List UInt8} (h:s.length < 1\/8 < s.length):aJ s=1:=by unfold aJ;rw [if_pos h]
theorem qV {s:List UInt8} {i:Nat} (h:¬ (s.length < 1\/8 < s.length)) (hi:i < s.length) (hb:dH i (eI s i)=true):aJ s=3:=by
 unfold aJ
 rw [if_neg h,if_pos (wq hi hb)]
theorem rI {s:List UInt8} (h:¬ (s.length < 1\/8 < s.length)) (hb:∀i,i < s.length->dH i (eI s i)=false):aJ s=0:=by
 unfold aJ
 rw [if_neg h,if_neg (by rw [uV hb];decide)]
theorem ss {i:Nat} {c:UInt8}:dH i c=true ↔ ¬ (97<=c.toNat/\c.toNat<=122)/\(i=0\/¬ ((48<=c.toNat/\c.toNat<=57)\/c.toNat=95)):=by
 simp only [dH,small,other,Bool.and_eq_true,Bool.not_eq_true',Bool.and_eq_false_iff,Bool.or_eq_true,Bool.or_eq_false_iff,decide_eq_false_iff_not,beq_iff_eq,beq_eq_false_iff_ne]
 omega
theorem wu {i:Nat} {c:UInt8}:dH i c=false ↔ ¬ (¬ (97<=c.toNat/\c.toNat<=122)/\(i=0\/¬ ((48<=c.toNat/\c.toNat<=57)\/c.toNat=95))):=by
 rw [<-ss];simp
theorem BL {s:List UInt8} {i:Nat} (h:∀j,j < i->dH j (eI s j)=false) (hb:dH i (eI s i)=false):∀j,j < i + 1->dH j (eI s j)=false:=by
 intro j hj
 rcases Nat.lt_or_ge j i with hlt | hge
 ·exact h j hlt
 ·obtain rfl:j=i:=by omega
  exact hb
end Go.Mrl

namespace Go.Mrl
open Go.Vg
theorem oJ {p:Nat->Prop} {n:Nat} (h:∀j,j < n->p j) (hn:p n):∀j,j < n + 1->p j:=by
 intro j hj
 by_cases e:j=n
 ·rw [e];exact hn
 ·exact h j (by omega)
end Go.Mrl

namespace Go.Mrl
open Go.Vg
end Go.Mrl
namespace Go.Mrl
open Go.Vg
end Go.Mrl
namespace Go.Mrl
open Go.Vg
end Go.Mrl

namespace Go.Mrl
open Go.Vg
end Go.Mrl
namespace Go.Mrl
open Go.Vg
end Go.Mrl
namespace Go.Mrl
open Go.Vg
end Go.Mrl
namespace Go.Mrl
open Go.Vg
end Go.Mrl
namespace Go.Mrl
open Go.Vg
end Go.Mrl
namespace Go.Mrl
open Go.Vg
end Go.Mrl

namespace Go.Mrl
open Go.Vg
theorem ki {t:Ty} {xs:List (D t)} {i:Nat} (h:i < xs.length):xs[i]?=some (nth t xs i):=by
 rw [List.getElem?_eq_getElem h,<-dD (List.getElem?_eq_getElem h)]
theorem gM {t:Ty} {xs:List (D t)} {i:Nat} (h:i < xs.length):nth t xs i∈xs:=by
 have:=ki (t:=t) h
 exact List.mem_of_getElem? this
theorem CT {t:Ty} {xs:List (D t)} {x:D t} (h:x∈xs):∃i,i < xs.length/\nth t xs i=x:=by
 obtain ⟨i,hi,e⟩:=List.getElem_of_mem h
 exact ⟨i,hi,by rw [<-e];exact dD (List.getElem?_eq_getElem hi)⟩
end Go.Mrl
namespace Go.Mrl
open Go.Vg
end Go.Mrl
namespace Go.Mrl
open Go.Vg
end Go.Mrl
namespace Go.Mrl
open Go.Vg
end Go.Mrl
namespace Go.Mrl
open Go.Vg
end Go.Mrl

namespace Go.Mrl
open Go.Vg
theorem jc {t:Ty} {a b:List (D t)} (hl:a.length=b.length) (h:∀i,i < a.length->nth t a i=nth t b i):a=b:=by
 apply List.ext_getElem hl
 intro i h1 h2
 have:=h i h1
 rwa [show nth t a i=a[i] from dD (List.getElem?_eq_getElem h1),show nth t b i=b[i] from dD (List.getElem?_eq_getElem h2)] at this
def eN (a b:List Int):Bool:=decide (a=b)
def dw (a b:List (List UInt8)):Bool:=decide (a=b)
theorem yq {a b:List Int} (hl:(a.length:Int)=b.length) (h:∀i,i < a.length->nth (.int .i64) a i=nth (.int .i64) b i):true=eN a b:=by
 rw [jc (t:=.int .i64) (by omega) h];simp [eN]
theorem Ao {a b:List Int} (hl:¬ (a.length:Int)=b.length):false=eN a b:=by
 symm;simp only [eN,decide_eq_false_iff_not];intro e;exact hl (by rw [e])
theorem BM {a b:List Int} {i:Nat} (h:¬ nth (.int .i64) a i=nth (.int .i64) b i):false=eN a b:=by
 symm;simp only [eN,decide_eq_false_iff_not];intro e;exact h (by rw [e])
theorem yr {a b:List (List UInt8)} (hl:(a.length:Int)=b.length) (h:∀i,i < a.length->nth .str a i=nth .str b i):true=dw a b:=by
 rw [jc (t:=.str) (by omega) h];simp [dw]
theorem Ap {a b:List (List UInt8)} (hl:¬ (a.length:Int)=b.length):false=dw a b:=by
 symm;simp only [dw,decide_eq_false_iff_not];intro e;exact hl (by rw [e])
theorem BN {a b:List (List UInt8)} {i:Nat} (h:¬ nth .str a i=nth .str b i):false=dw a b:=by
 symm;simp only [dw,decide_eq_false_iff_not];intro e;exact h (by rw [e])
theorem D5 {α:Type} {p:Nat->α->Prop} {f:Nat->α} {k:Nat} (h:∀j,j < k->p j (f j)) (hk:p k (f k)):∀j,j < k + 1->p j (f j):=by
 intro j hj
 by_cases e:j=k
 ·subst e;exact hk
 ·exact h j (by omega)
theorem su {p:Nat->Prop} {k:Nat} (h:∀j,j < k->p j) (hk:p k):∀j,j < k + 1->p j:=by
 intro j hj
 by_cases e:j=k
 ·subst e;exact hk
 ·exact h j (by omega)
end Go.Mrl

namespace Go.Mrl
open Go.Vg
theorem mI {t:Ty} {a b:List (D t)} {i:Nat}:nth t (a++b) i=if i < a.length then nth t a i else nth t b (i - a.length):=by
 unfold nth
 simp only [List.getD_eq_getElem?_getD,List.getElem?_append]
 split <;> rfl
theorem uW {t:Ty} {a:List (D t)} {n i:Nat} (h:i < n):nth t (a.take n) i=nth t a i:=by
 unfold nth
 simp only [List.getD_eq_getElem?_getD,List.getElem?_take,if_pos h]
end Go.Mrl

namespace Go.Mrl
open Go.Vg
theorem Aq {t:Ty} {l:List (D t)} {k:Nat} (h:k < l.length):l.take (k + 1)=l.take k++[nth t l k]:=by
 rw [List.take_add_one,ki h];rfl
end Go.Mrl

namespace Go.Mrl
open Go.Vg
theorem dF {t:Ty} {l:List (D t)} {i:Nat} (h:i < l.length):l.drop i=nth t l i :: l.drop (i + 1):=by
 rw [List.drop_eq_getElem_cons h]
 congr 1
 have:=ki h
 rw [List.getElem?_eq_getElem h] at this
 exact Option.some.inj this
end Go.Mrl

namespace Go.Mrl
open Go.Vg
abbrev aE:=List UInt8
def il (a b:aE):Prop:=Op.bytesLess a b=true
theorem uX (a:UInt8):¬ a < a:=fun h=>by have:=UInt8.lt_iff_toNat_lt.1 h;omega
theorem hU:∀a:aE,¬ il a a
 | []=>fun h=>by cases h
 | a :: x=>fun h=>by
  unfold il at h
  simp only [Op.bytesLess,Bool.or_eq_true,decide_eq_true_eq,Bool.and_eq_true] at h
  rcases h with h | ⟨_,h⟩
  ·exact uX a h
  ·exact hU x h
theorem nR:∀{a b c:aE},il a b->il b c->il a c
 | a,[],_,h,_=>by unfold il at h;cases a <;> simp [Op.bytesLess] at h
 | _,_ :: _,[],_,h=>by unfold il at h;simp [Op.bytesLess] at h
 | [],_ :: _,_ :: _,_,_=>rfl
 | a :: x,b :: y,c :: z,h1,h2=>by
  unfold il at h1 h2 ⊢
  simp only [Op.bytesLess,Bool.or_eq_true,decide_eq_true_eq,Bool.and_eq_true,beq_iff_eq] at h1 h2 ⊢
  rcases h1 with h1 | ⟨rfl,h1⟩
  ·rcases h2 with h2 | ⟨rfl,h2⟩
   ·left;rw [UInt8.lt_iff_toNat_lt] at *;omega
   ·exact .inl h1
  ·rcases h2 with h2 | ⟨rfl,h2⟩
   ·exact .inl h2
   ·exact .inr ⟨rfl,nR h1 h2⟩
theorem nS:∀{a b:aE},¬ il a b->¬ il b a->a=b
 | [],[],_,_=>rfl
 | [],_ :: _,h,_=>(h rfl).elim
 | _ :: _,[],_,h=>(h rfl).elim
 | a :: x,b :: y,h1,h2=>by
  unfold il at h1 h2
  simp only [Op.bytesLess,Bool.or_eq_true,decide_eq_true_eq,Bool.and_eq_true,beq_iff_eq,not_or,not_and] at h1 h2
  have hab:a=b:=by
   apply UInt8.toNat_inj.1
   have h3:=h1.1;have h4:=h2.1
   rw [UInt8.lt_iff_toNat_lt] at h3 h4
   omega
  subst hab
  rw [nS (h1.2 rfl) (h2.2 rfl)]
def qW (a b:aE):Prop:=¬ il b a
theorem uY (a:aE):qW a a:=hU a
theorem sw {a b:aE} (h:il a b):qW a b:=fun h'=>hU a (nR h h')
theorem Ar {a b c:aE} (h1:qW a b) (h2:qW b c):qW a c:=by
 intro h
 by_cases hab:il a b
 ·exact h2 (nR h hab)
 ·have:=nS hab h1;subst this;exact h2 h
theorem nT {a b:aE} (h1:qW a b) (h2:a≠b):il a b:=Classical.byContradiction fun h=>h2 (nS h h1)
end Go.Mrl

namespace Go.Mrl
open Go.Vg
end Go.Mrl

namespace Go.Mrl
open Go.Vg
theorem aR {n:Int}:(aW n).isNil=true ↔ n=0:=by
 unfold aW;split
 ·rename_i h;simp [h,bp.isNil]
 ·rename_i h;simp [h,bp.isNil]
theorem lT {a:Int} (h0 : -9223372036854775808<=a) (h:a < 9223372036854775808):IntKind.i64.wrap a=a:=
 ri (by rw [jN];unfold aY;omega)
end Go.Mrl
namespace Go.Mrl
open Go.Vg
def hY (e:D dX):Prop:=e.1.length<=20/\e.2.1.length<=8/\e.2.2.1.length<=40/\∀i,i < e.2.1.length->(nth eg e.2.1 i).1.length<=20
def nU (a:D br):Prop:=a.2.1.length<=100/\a.2.2.1.length<=1300/\hY a.2.2.2.2.2.1
def iG (l:List (D br)) (m:Int):Prop:=(l.length:Int)<=m/\∀i,i < l.length->nU (nth br l i)
end Go.Mrl

namespace Go.Mrl
open Go.Vg
@[reducible] def b8:Ty:=.prod .str (.prod (.int .i64) .unit)
abbrev FE:=aE × (aE × Int × Unit) × Int × Unit
abbrev cn:=(Int × Unit) × (List FE × Int × Unit) × Unit
def jd (y:FE):Int:=y.2.2.1
def kj (y:FE):aE:=y.1
def bI (x:cn) (s:aE):aE × Int × Int:=
 if bY b8 x.2.1.1 s=true then ((hE b8 x.2.1.1 s).1,(hE b8 x.2.1.1 s).2.1,0) else ([],0,5)
def bz (x:cn) (s t:aE):cn × Int:=
 if ¬ aJ s=0 then (x,aJ s) else if 1200 < t.length then (x,2)
 else if (bY b8 x.2.1.1 s=false/\x.2.1.1.length=6)\/x.1.1=1000000 then (x,8)
 else (((x.1.1 + 1,()),(ch b8 x.2.1.1 s (t,x.1.1 + 1,()) x.2.1.2.1,fM b8 x.2.1.1 s x.2.1.2.1,()),()),0)
def cB (x:cn) (s:aE):cn × Int:=
 if bY b8 x.2.1.1 s=true then ((x.1,(dn b8 x.2.1.1 s,x.2.1.2.1,()),()),0) else (x,5)
def kT:cn:=((0,()),([],0,()),())
theorem kU {x:cn} {s:aE} (h:bY b8 x.2.1.1 s=false):bI x s=([],0,5):=by unfold bI;rw [if_neg (by rw [h];simp)]
theorem mJ {x:cn} {s:aE} (h:bY b8 x.2.1.1 s=true):bI x s=((hE b8 x.2.1.1 s).1,(hE b8 x.2.1.1 s).2.1,0):=by unfold bI;rw [if_pos h]
theorem nV {x:cn} {s t:aE} (h:¬ aJ s=0):bz x s t=(x,aJ s):=by unfold bz;rw [if_pos h]
theorem nW {x:cn} {s t:aE} (h:aJ s=0) (h1:1200 < t.length):bz x s t=(x,2):=by unfold bz;rw [if_neg (by simp [h]),if_pos h1]
theorem nX {x:cn} {s t:aE} (h:aJ s=0) (h1:¬ 1200 < t.length) (h2:(bY b8 x.2.1.1 s=false/\x.2.1.1.length=6)\/x.1.1=1000000):bz x s t=(x,8):=by unfold bz;rw [if_neg (by simp [h]),if_neg h1,if_pos h2]
theorem qX {x:cn} {s t:aE} (h:aJ s=0) (h1:¬ 1200 < t.length) (h2:¬ ((bY b8 x.2.1.1 s=false/\x.2.1.1.length=6)\/x.1.1=1000000)) :
  bz x s t=(((x.1.1 + 1,()),(ch b8 x.2.1.1 s (t,x.1.1 + 1,()) x.2.1.2.1,fM b8 x.2.1.1 s x.2.1.2.1,()),()),0):=by unfold bz;rw [if_neg (by simp [h]),if_neg h1,if_neg h2]
theorem je {x:cn} {s:aE} (h:bY b8 x.2.1.1 s=false):cB x s=(x,5):=by unfold cB;rw [if_neg (by rw [h];simp)]
theorem hZ {x:cn} {s:aE} (h:bY b8 x.2.1.1 s=true):cB x s=((x.1,(dn b8 x.2.1.1 s,x.2.1.2.1,()),()),0):=by unfold cB;rw [if_pos h]
theorem sx {α:Type} [DecidableEq α]:∀{a b:List α},a.Nodup->(∀y∈a,y∈b)->a.length<=b.length
 | [],_,_,_=>by simp
 | x :: a,b,hn,hs=>by
  have hn':=List.nodup_cons.1 hn
  have h1:(b.erase x).length=b.length - 1:=List.length_erase_of_mem (hs x (by simp))
  have h2:0 < b.length:=List.length_pos_of_mem (hs x (by simp))
  have:=sx (b:=b.erase x) hn'.2 fun y hy=>(List.mem_erase_of_ne (fun (e:y=x)=>hn'.1 (by rw [<-e];exact hy))).2 (hs y (by simp [hy]))
  simp only [List.length_cons]
  omega
end Go.Mrl

namespace Go.Mrl
open Go.Vg
abbrev RF:=aE × aE × Int × Unit
abbrev RS:=List RF × Int × Unit
def oK (y:RF):aE:=y.1
def dI (s:aE) (y:RF):Bool:=!(y.1 == s)
def jL:List RF->aE->aE × Int × Int
 | [],_=>([],0,5)
 | y :: r,s=>if y.1=s then (y.2.1,y.2.2.1,0) else jL r s
def lu (s:aE) (e:RF):List RF->List RF
 | []=>[e]
 | y :: r=>if (Op.bytesLess s y.1 || s == y.1)=true then e :: (y :: r).filter (dI s) else y :: lu s e r
def lU (x:RS) (s t:aE):RS × Int:=
 if ¬ aJ s=0 then (x,aJ s) else if 1200 < t.length then (x,2)
 else if (0 < (jL x.1 s).2.2/\x.1.length=6)\/x.2.1=1000000 then (x,8)
 else ((lu s (s,t,x.2.1 + 1,()) x.1,x.2.1 + 1,()),0)
def oL (x:RS) (s:aE):RS × Int:=if (x.1.filter (dI s)).length=x.1.length then (x,5) else ((x.1.filter (dI s),x.2),0)
def kV (y:FE):RF:=(y.1,y.2.1.1,y.2.1.2.1,())
def lV (L:List RF):Prop:=L.Pairwise fun a b=>il a.1 b.1
structure cb (x:cn) (r:RS):Prop where
 now:r.2.1=x.1.1
 lo:0<=x.1.1
 hi:x.1.1<=1000000
 len:x.2.1.1.length<=6
 born:(x.2.1.1.map jd).Nodup
 lA:∀y∈x.2.1.1,jd y < x.2.1.2.1
 uZ:lV r.1
 perm:r.1.Perm (x.2.1.1.map kV)
theorem cb.new:cb kT ([],0,()):=⟨rfl,Int.le_refl _,by decide,by decide,by decide,fun y hy=>by simp [kT] at hy, .nil, .refl _⟩
theorem nY {L:List RF} (h:lV L):(L.map oK).Nodup:=by
 unfold List.Nodup
 rw [List.pairwise_map]
 exact h.imp fun hlt e=>by unfold oK at e;rw [e] at hlt;exact hU _ hlt
theorem cb.names {x:cn} {r:RS} (h:cb x r):(x.2.1.1.map kj).Nodup:=by
 have h1:=(h.perm.map oK).nodup_iff.1 (nY h.uZ)
 rw [List.map_map] at h1
 exact h1
theorem sy:∀{L:List RF} {s:aE},(L.map oK).Nodup->∀y∈L,y.1=s->jL L s=(y.2.1,y.2.2.1,0)
 | [],_,_,_,h,_=>by simp at h
 | z :: r,s,hn,y,hy,e=>by
  simp only [List.map_cons,List.nodup_cons] at hn
  unfold jL
  rcases List.mem_cons.1 hy with rfl | hy
  ·rw [if_pos e]
  ·have:¬ z.1=s:=fun e2=>hn.1 (by rw [show oK z=oK y from e2.trans e.symm];exact List.mem_map_of_mem hy)
   rw [if_neg this]
   exact sy hn.2 y hy e
theorem u3:∀{L:List RF} {s:aE},(∀y∈L,¬ y.1=s)->jL L s=([],0,5)
 | [],_,_=>rfl
 | z :: r,s,h=>by
  unfold jL
  rw [if_neg (h z (by simp))]
  exact u3 fun y hy=>h y (by simp [hy])
theorem iH:∀{es:List FE} {s:aE},bY b8 es s=true ↔ ∃y∈es,y.1=s
 | [],_=>by simp [bY]
 | z :: r,s=>by
  unfold bY
  by_cases c:z.1=s
  ·simp [c]
  ·rw [if_neg c,iH];simp [c]
theorem u4:∀{es:List FE} {s:aE},(es.map kj).Nodup->∀y∈es,y.1=s->hE b8 es s=y.2.1
 | [],_,_,_,h,_=>by simp at h
 | z :: r,s,hn,y,hy,e=>by
  simp only [List.map_cons,List.nodup_cons] at hn
  unfold hE
  rcases List.mem_cons.1 hy with rfl | hy
  ·rw [if_pos e]
  ·have:¬ z.1=s:=fun e2=>hn.1 (by rw [show kj z=kj y from e2.trans e.symm];exact List.mem_map_of_mem hy)
   rw [if_neg this]
   exact u4 hn.2 y hy e
theorem cb.read {x:cn} {r:RS} (h:cb x r) (s:aE):bI x s=jL r.1 s:=by
 by_cases c:bY b8 x.2.1.1 s=true
 ·obtain ⟨y,hy,e⟩:=iH.1 c
  rw [mJ c,u4 h.names y hy e]
  exact (sy (nY h.uZ) (kV y) (h.perm.mem_iff.2 (List.mem_map_of_mem hy)) e).symm
 ·rw [kU (by simpa using c)]
  refine (u3 fun y hy e=>c ?_).symm
  obtain ⟨z,hz,rfl⟩:=List.mem_map.1 (h.perm.mem_iff.1 hy)
  exact iH.2 ⟨z,hz,e⟩
theorem eA {s:aE} {y:RF}:dI s y=true ↔ ¬ y.1=s:=by simp [dI]
theorem u5 {s:aE} {e:RF}:∀{L:List RF} {y:RF},y∈lu s e L->y=e\/y∈L
 | [],y,h=>by simp [lu] at h;exact .inl h
 | z :: r,y,h=>by
  unfold lu at h
  split at h
  ·rcases List.mem_cons.1 h with h | h
   ·exact .inl h
   ·exact .inr (List.mem_filter.1 h).1
  ·rcases List.mem_cons.1 h with rfl | h
   ·exact .inr (by simp)
   ·rcases u5 h with h | h
    ·exact .inl h
    ·exact .inr (by simp [h])
theorem not_le {s a:aE} (h:¬ (Op.bytesLess s a || s == a)=true):il a s:=by
 simp at h
 exact nT (a:=a) (b:=s) (by unfold qW il;rw [h.1];simp) (fun e=>h.2 e.symm)
theorem pb {s:aE} {e:RF} (he:e.1=s):∀{L:List RF},lV L->lV (lu s e L)
 | [],_=>by simp [lu,lV]
 | z :: r,h=>by
  have h':=List.pairwise_cons.1 h
  unfold lu
  split
  ·rename_i c
   refine List.pairwise_cons.2 ⟨fun y hy => ?_,h.filter _⟩
   have hy':=List.mem_filter.1 hy
   have hn:=eA.1 hy'.2
   have hz:qW s z.1:=by
    simp at c
    rcases c with c | rfl
    ·exact sw c
    ·exact uY _
   have hzy:qW z.1 y.1:=by
    rcases List.mem_cons.1 hy'.1 with e2 | hy2
    ·rw [e2];exact uY _
    ·exact sw (h'.1 y hy2)
   rw [he]
   exact nT (Ar hz hzy) (fun e2=>hn e2.symm)
  ·rename_i c
   have hlt:=not_le c
   refine List.pairwise_cons.2 ⟨fun y hy => ?_,pb he h'.2⟩
   rcases u5 hy with rfl | hy
   ·rw [he];exact hlt
   ·exact h'.1 y hy
theorem filter_all {s:aE}:∀{L:List RF},(∀y∈L,¬ y.1=s)->L.filter (dI s)=L:=fun h=>List.filter_eq_self.2 fun y hy=>eA.2 (h y hy)
theorem sz {s:aE} {e:RF}:∀{L:List RF},lV L->(lu s e L).Perm (e :: L.filter (dI s))
 | [],_ => .refl _
 | z :: r,h=>by
  have h':=List.pairwise_cons.1 h
  unfold lu
  split
  ·exact .refl _
  ·rename_i c
   have hlt:=not_le c
   have hz:dI s z=true:=eA.2 fun e=>by rw [e] at hlt;exact hU _ hlt
   rw [List.filter_cons,if_pos hz]
   exact ((sz h'.2).cons z).trans (List.Perm.swap e z _)
theorem nZ {s:aE} {v:aE × Int × Unit} {c:Int}:∀{es:List FE},(es.map kj).Nodup->((ch b8 es s v c).map kV).Perm ((s,v.1,v.2.1,()) :: (es.map kV).filter (dI s))
 | [],_ => .refl _
 | z :: r,hn=>by
  simp only [List.map_cons,List.nodup_cons] at hn
  unfold ch
  by_cases e:z.1=s
  ·rw [if_pos e]
   have h1:dI s (kV z)=false:=by
    cases h:dI s (kV z) with
    | false=>rfl
    | true=>exact absurd e (eA.1 h)
   rw [List.map_cons,List.map_cons,List.filter_cons,if_neg (by rw [h1];simp),filter_all]
   ·exact .refl _
   ·intro y hy e2
    obtain ⟨z2,hz2,rfl⟩:=List.mem_map.1 hy
    exact hn.1 (by rw [show kj z=kj z2 from e.trans (show s=z2.1 from e2.symm)];exact List.mem_map_of_mem hz2)
  ·rw [if_neg e]
   have h1:dI s (kV z)=true:=eA.2 e
   rw [List.map_cons,List.map_cons,List.filter_cons,if_pos h1]
   exact ((nZ hn.2).cons (kV z)).trans (List.Perm.swap _ _ _)
theorem kW {s:aE} {v:aE × Int × Unit} {c:Int}:∀{es:List FE},(ch b8 es s v c).map jd=if bY b8 es s=true then es.map jd else es.map jd++[c]
 | []=>rfl
 | z :: r=>by
  unfold ch bY
  by_cases e:z.1=s
  ·rw [if_pos e,if_pos e];rfl
  ·rw [if_neg e,if_neg e,List.map_cons,kW]
   split <;> rfl
theorem u6 {s:aE}:∀{es:List FE},(es.map kj).Nodup->(dn b8 es s).map kV=(es.map kV).filter (dI s)
 | [],_=>rfl
 | z :: r,hn=>by
  simp only [List.map_cons,List.nodup_cons] at hn
  unfold dn
  by_cases e:z.1=s
  ·have h1:¬ dI s (kV z)=true:=fun h=>eA.1 h e
   rw [if_pos e,List.map_cons,List.filter_cons,if_neg h1,filter_all]
   intro y hy e2
   obtain ⟨z2,hz2,rfl⟩:=List.mem_map.1 hy
   exact hn.1 (by rw [show kj z=kj z2 from e.trans (show s=z2.1 from e2.symm)];exact List.mem_map_of_mem hz2)
  ·have h1:dI s (kV z)=true:=eA.2 e
   rw [if_neg e,List.map_cons,List.map_cons,List.filter_cons,if_pos h1,u6 hn.2]
theorem iI {s:aE}:∀{es:List FE},(dn b8 es s).Sublist es
 | [] => .refl _
 | z :: r=>by
  unfold dn
  split
  ·exact List.sublist_cons_self _ _
  ·exact iI.cons_cons _
theorem cb.has {x:cn} {r:RS} (h:cb x r) (s:aE):0 < (jL r.1 s).2.2 ↔ bY b8 x.2.1.1 s=false:=by
 rw [<-h.read s]
 cases c:bY b8 x.2.1.1 s with
 | true=>rw [mJ c];simp
 | false=>rw [kU c];simp
theorem cb.write {x:cn} {r:RS} (h:cb x r) (s t:aE):cb (bz x s t).1 (lU r s t).1/\(bz x s t).2=(lU r s t).2:=by
 have hlen:r.1.length=x.2.1.1.length:=by rw [h.perm.length_eq,List.length_map]
 have hc:((bY b8 x.2.1.1 s=false/\x.2.1.1.length=6)\/x.1.1=1000000) ↔ ((0 < (jL r.1 s).2.2/\r.1.length=6)\/r.2.1=1000000):=by rw [h.has,hlen,h.now]
 by_cases h1:aJ s=0
 ·by_cases h2:1200 < t.length
  ·rw [nW h1 h2]
   unfold lU;rw [if_neg (by simp [h1]),if_pos h2]
   exact ⟨h,rfl⟩
  ·by_cases h3:(bY b8 x.2.1.1 s=false/\x.2.1.1.length=6)\/x.1.1=1000000
   ·rw [nX h1 h2 h3]
    unfold lU;rw [if_neg (by simp [h1]),if_neg h2,if_pos (hc.1 h3)]
    exact ⟨h,rfl⟩
   ·rw [qX h1 h2 h3]
    unfold lU;rw [if_neg (by simp [h1]),if_neg h2,if_neg (fun h'=>h3 (hc.2 h'))]
    refine ⟨⟨by rw [h.now],by have:=h.lo;simp only;omega,by have:=h.hi;simp only;omega,?_,?_,?_,pb (s:=s) (e:=(s,t,r.2.1 + 1,())) rfl h.uZ,?_⟩,rfl⟩
    ·have hp:=(nZ (s:=s) (v:=(t,x.1.1 + 1,())) (c:=x.2.1.2.1) h.names).length_eq
     have hb:=congrArg List.length (kW (s:=s) (v:=(t,x.1.1 + 1,())) (c:=x.2.1.2.1) (es:=x.2.1.1))
     simp only [List.length_map] at hb
     show (ch b8 x.2.1.1 s (t,x.1.1 + 1,()) x.2.1.2.1).length<=6
     rw [hb]
     have:=h.len
     cases c:bY b8 x.2.1.1 s with
     | true=>simpa using this
     | false=>
      have:¬ x.2.1.1.length=6:=fun e=>h3 (.inl ⟨c,e⟩)
      simp;omega
    ·show ((ch b8 x.2.1.1 s (t,x.1.1 + 1,()) x.2.1.2.1).map jd).Nodup
     rw [kW]
     split
     ·exact h.born
     ·rw [List.nodup_append]
      refine ⟨h.born,by simp,fun a ha b hb e => ?_⟩
      simp at hb
      obtain ⟨y,hy,rfl⟩:=List.mem_map.1 ha
      have:=h.lA y hy
      omega
    ·intro y hy
     have hy':jd y∈(ch b8 x.2.1.1 s (t,x.1.1 + 1,()) x.2.1.2.1).map jd:=List.mem_map_of_mem hy
     rw [kW] at hy'
     show jd y < fM b8 x.2.1.1 s x.2.1.2.1
     unfold fM
     split at hy'
     ·rename_i c
      rw [if_pos c]
      obtain ⟨z,hz,e⟩:=List.mem_map.1 hy'
      rw [<-e];exact h.lA z hz
     ·rename_i c
      rw [if_neg c]
      rcases List.mem_append.1 hy' with hy' | hy'
      ·obtain ⟨z,hz,e⟩:=List.mem_map.1 hy'
       have:=h.lA z hz
       omega
      ·simp at hy';omega
    ·refine (sz h.uZ).trans ?_
     rw [h.now]
     exact ((h.perm.filter _).cons _).trans (nZ (v:=(t,x.1.1 + 1,())) (c:=x.2.1.2.1) h.names).symm
 ·rw [nV h1]
  unfold lU;rw [if_pos h1]
  exact ⟨h,rfl⟩
theorem cb.remove {x:cn} {r:RS} (h:cb x r) (s:aE):cb (cB x s).1 (oL r s).1/\(cB x s).2=(oL r s).2:=by
 have hp:(r.1.filter (dI s)).Perm ((dn b8 x.2.1.1 s).map kV):=by rw [u6 h.names];exact h.perm.filter _
 cases c:bY b8 x.2.1.1 s with
 | false=>
  have hall:r.1.filter (dI s)=r.1:=filter_all fun y hy e=>by
   obtain ⟨z,hz,rfl⟩:=List.mem_map.1 (h.perm.mem_iff.1 hy)
   have:=iH.2 ⟨z,hz,e⟩
   rw [c] at this;cases this
  rw [je c]
  unfold oL;rw [if_pos (by rw [hall])]
  exact ⟨h,rfl⟩
 | true=>
  obtain ⟨y,hy,e⟩:=iH.1 c
  have hlt:(r.1.filter (dI s)).length < r.1.length:=List.length_filter_lt_length_iff_exists.2 ⟨kV y,h.perm.mem_iff.2 (List.mem_map_of_mem hy),by rw [eA];exact fun h=>h e⟩
  rw [hZ c]
  unfold oL;rw [if_neg (by omega)]
  refine ⟨⟨h.now,h.lo,h.hi,Nat.le_trans iI.length_le h.len,(iI.map jd).nodup h.born,fun y hy=>h.lA y (iI.subset hy),List.Pairwise.filter _ h.uZ,hp⟩,rfl⟩
end Go.Mrl

namespace Go.Mrl
open Go.Vg
def km:aE:=[119,114,105,116,101]
theorem cb.pre {x:cn} {r:RS} (h:cb x r):x.2.1.1.length<=6/\0<=x.1.1/\x.1.1<=1000000:=⟨h.len,h.lo,h.hi⟩
end Go.Mrl

namespace Go.Mrl
open Go.Vg
def lW:aE:=[114,101,109,111,118,101]
def en (x:cn) (a:D br):cn:=if a.1=km then (bz x a.2.1 a.2.2.1).1 else if a.1=lW then (cB x a.2.1).1 else x
def bJ (x:cn) (l:List (D br)):cn:=l.foldl en x
theorem mK {x:cn} {l:List (D br)} {i:Nat} (h:i < l.length):bJ x (l.take (i + 1))=en (bJ x (l.take i)) (nth br l i):=by rw [Aq (t:=br) h];simp [bJ]
theorem wv {x:cn} {a:D br} (h:a.1=km):en x a=(bz x a.2.1 a.2.2.1).1:=if_pos h
theorem u7 {x:cn} {a:D br} (h:¬ a.1=km) (h2:a.1=lW):en x a=(cB x a.2.1).1:=by unfold en;rw [if_neg h,if_pos h2]
theorem yt {x:cn} {a:D br} (h:¬ a.1=km) (h2:¬ a.1=lW):en x a=x:=by unfold en;rw [if_neg h,if_neg h2]
structure bq (x:cn):Prop where
 BO:∃r,cb x r
 Cq:∀y∈x.2.1.1,y.2.1.2.1<=x.1.1
theorem bq.new:bq kT:=⟨⟨_,cb.new⟩,fun y hy=>by simp [kT] at hy⟩
theorem u9 {s:aE} {v:aE × Int × Unit} {c:Int}:∀{es:List FE} {y:FE},y∈ch b8 es s v c->y.2.1=v\/y∈es
 | [],y,h=>by simp [ch] at h;subst h;exact .inl rfl
 | z :: r,y,h=>by
  unfold ch at h
  split at h
  ·rcases List.mem_cons.1 h with rfl | h
   ·exact .inl rfl
   ·exact .inr (by simp [h])
  ·rcases List.mem_cons.1 h with rfl | h
   ·exact .inr (by simp)
   ·rcases u9 h with h | h
    ·exact .inl h
    ·exact .inr (by simp [h])
theorem mZ (x:cn) (s t:aE):((bz x s t).1=x/\¬ (bz x s t).2=0)\/
  ((bz x s t).1=((x.1.1 + 1,()),(ch b8 x.2.1.1 s (t,x.1.1 + 1,()) x.2.1.2.1,fM b8 x.2.1.1 s x.2.1.2.1,()),())/\(bz x s t).2=0):=by
 unfold bz
 split
 ·rename_i h;exact .inl ⟨rfl,h⟩
 ·split
  ·exact .inl ⟨rfl,by simp⟩
  ·split
   ·exact .inl ⟨rfl,by simp⟩
   ·exact .inr ⟨rfl,rfl⟩
theorem bq.write {x:cn} (h:bq x) (s t:aE):bq (bz x s t).1/\x.1.1<=(bz x s t).1.1.1:=by
 obtain ⟨r,hr⟩:=h.BO
 have hg:=(hr.write s t).1
 rcases mZ x s t with ⟨e,_⟩ | ⟨e,_⟩
 ·rw [e];exact ⟨h,Int.le_refl _⟩
 ·rw [e] at hg ⊢
  refine ⟨⟨⟨_,hg⟩,fun y hy => ?_⟩,by simp only;omega⟩
  rcases u9 hy with hy | hy
  ·rw [hy];exact Int.le_refl _
  ·have:=h.Cq y hy;simp only;omega
theorem bq.remove {x:cn} (h:bq x) (s:aE):bq (cB x s).1/\x.1.1<=(cB x s).1.1.1:=by
 obtain ⟨r,hr⟩:=h.BO
 have hg:=(hr.remove s).1
 cases c:bY b8 x.2.1.1 s with
 | false=>rw [je c];exact ⟨h,Int.le_refl _⟩
 | true=>
  rw [hZ c] at hg ⊢
  exact ⟨⟨⟨_,hg⟩,fun y hy=>h.Cq y (iI.subset hy)⟩,Int.le_refl _⟩
theorem bq.en {x:cn} (h:bq x) (a:D br):bq (en x a)/\x.1.1<=(Mrl.en x a).1.1:=by
 unfold Mrl.en
 split
 ·exact h.write _ _
 ·split
  ·exact h.remove _
  ·exact ⟨h,Int.le_refl _⟩
theorem bq.done:∀(l:List (D br)) {x:cn},bq x->bq (bJ x l)
 | [],_,h=>h
 | a :: l,_,h=>bq.done l (h.en a).1
theorem bq.pre {x:cn} (h:bq x):x.2.1.1.length<=6/\0<=x.1.1/\x.1.1<=1000000:=let ⟨_,hr⟩:=h.BO;hr.pre
end Go.Mrl

namespace Go.Mrl
open Go.Vg
def dk (n:Int):Bool:=decide (-2147483648<=n) && decide (n<=2147483647)
def de:List (List UInt8)->List (List UInt8)->Int
 | _,[]=>0
 | p,s :: r=>if aJ s > 0 then aJ s else if p.any (· == s)=true then 3 else de (p++[s]) r
def dY:List Int->Int
 | []=>0
 | n :: r=>if dk n=true then dY r else 1
def cF (n:Nat):List (D aF)->List (D aF)->Int
 | _,[]=>0
 | p,s :: r=>if aJ s.1 > 0 then aJ s.1 else if s.2.1 < 0\/s.2.1>=(n:Int) then 1 else if p.any (fun x=>x.1 == s.1)=true then 3 else cF n (p++[s]) r
def ga (a:Int):Option Int->Bool
 | some b=>decide (a<=b)
 | none=>false
def fw (n:Nat) (prev:Option Int) (t:D aN):Int:=
 if t.1 < 0\/t.1>=(n:Int)\/dk t.2.2.1=false then 1
 else if t.2.1 < 1\/t.2.1 > 3\/ga t.1 prev=true then 3
 else if t.2.1=1 then (if t.2.2.2.1≠[]\/t.2.2.2.2.1=true then 3 else 0)
 else aJ t.2.2.2.1
def eo (n:Nat):Option Int->List (D aN)->Int
 | _,[]=>0
 | prev,t :: r=>if fw n prev t≠0 then fw n prev t else eo n (some t.1) r
def eO (o:D aB):Prop:=o.1.length > 4\/o.2.1.length < 1\/o.2.1.length > 40\/o.2.2.1.length > 8\/o.2.2.2.1.length > 6
instance (o:D aB):Decidable (eO o):=by unfold eO;infer_instance
def bt (o:D aB):Int:=
 if eO o then 2 else if de [] o.1≠0 then de [] o.1 else if dY o.2.1≠0 then dY o.2.1
 else if cF o.2.1.length [] o.2.2.1≠0 then cF o.2.1.length [] o.2.2.1 else eo o.2.1.length none o.2.2.2.1
theorem eP {t:Ty} {l:List (D t)} {i:Nat} (h:i < l.length):l.take (i + 1)=l.take i++[nth t l i]:=by
 rw [List.take_add_one];congr 1;unfold nth;simp [h]
theorem n1 (n:Nat):∀(l p:List (D aF)),0<=cF n p l
 | [],_=>Int.le_refl _
 | s :: r,p=>by
  unfold cF
  split
  ·omega
  ·split
   ·decide
   ·split
    ·decide
    ·exact n1 n r _
structure dG (l:List (List UInt8)) (i:Nat):Prop where
 le:i<=l.length
 eq:de (l.take i) (l.drop i)=de [] l
theorem dG.zero (l:List (List UInt8)):dG l 0:=⟨Nat.zero_le _,rfl⟩
theorem dG.fault {l:List (List UInt8)} {i:Nat} (h:dG l i) (hi:i < l.length) (hf:aJ (nth .str l i) > 0):de [] l=aJ (nth .str l i):=by
 rw [<-h.eq,dF (t:=.str) hi];unfold de;rw [if_pos hf]
theorem dG.dup {l:List (List UInt8)} {i:Nat} (h:dG l i) (hi:i < l.length) (hf:aJ (nth .str l i)<=0) (ha:(l.take i).any (· == nth .str l i)=true):de [] l=3:=by
 rw [<-h.eq,dF (t:=.str) hi];unfold de;rw [if_neg (by omega),if_pos ha]
theorem dG.next {l:List (List UInt8)} {i:Nat} (h:dG l i) (hi:i < l.length) (hf:aJ (nth .str l i)<=0) (ha:(l.take i).any (· == nth .str l i)=false):dG l (i + 1):=by
 refine ⟨hi,?_⟩
 rw [<-h.eq,dF (t:=.str) hi,eP (t:=.str) hi]
 conv=>rhs;unfold de
 rw [if_neg (by omega),if_neg (by rw [ha];decide)]
theorem dG.done {l:List (List UInt8)} {i:Nat} (h:dG l i) (hi:¬ i < l.length):de [] l=0:=by
 rw [<-h.eq,List.drop_eq_nil_of_le (by omega)];rfl
structure eu (l:List Int) (i:Nat):Prop where
 le:i<=l.length
 eq:dY (l.drop i)=dY l
theorem eu.zero (l:List Int):eu l 0:=⟨Nat.zero_le _,rfl⟩
theorem eu.fault {l:List Int} {i:Nat} (h:eu l i) (hi:i < l.length) (hf:dk (nth (.int .i64) l i)=false):dY l=1:=by
 rw [<-h.eq,dF (t:=.int .i64) hi];unfold dY;rw [if_neg (by rw [hf];decide)]
theorem eu.next {l:List Int} {i:Nat} (h:eu l i) (hi:i < l.length) (hf:dk (nth (.int .i64) l i)=true):eu l (i + 1):=by
 refine ⟨hi,?_⟩
 rw [<-h.eq,dF (t:=.int .i64) hi]
 conv=>rhs;unfold dY
 rw [if_pos hf]
theorem eu.done {l:List Int} {i:Nat} (h:eu l i) (hi:¬ i < l.length):dY l=0:=by
 rw [<-h.eq,List.drop_eq_nil_of_le (by omega)];rfl
structure dZ (n:Nat) (l:List (D aF)) (i:Nat):Prop where
 le:i<=l.length
 eq:cF n (l.take i) (l.drop i)=cF n [] l
theorem dZ.zero (n:Nat) (l:List (D aF)):dZ n l 0:=⟨Nat.zero_le _,rfl⟩
theorem dZ.fault {n:Nat} {l:List (D aF)} {i:Nat} (h:dZ n l i) (hi:i < l.length) (hf:aJ (nth aF l i).1 > 0):cF n [] l=aJ (nth aF l i).1:=by
 rw [<-h.eq,dF (t:=aF) hi];unfold cF;rw [if_pos hf]
theorem dZ.out {n:Nat} {l:List (D aF)} {i:Nat} (h:dZ n l i) (hi:i < l.length) (hf:aJ (nth aF l i).1<=0) (ho:(nth aF l i).2.1 < 0\/(nth aF l i).2.1>=(n:Int)):cF n [] l=1:=by
 rw [<-h.eq,dF (t:=aF) hi];unfold cF;rw [if_neg (by omega),if_pos ho]
theorem dZ.dup {n:Nat} {l:List (D aF)} {i:Nat} (h:dZ n l i) (hi:i < l.length) (hf:aJ (nth aF l i).1<=0) (ho:¬ ((nth aF l i).2.1 < 0\/(nth aF l i).2.1>=(n:Int)))
  (ha:(l.take i).any (fun x=>x.1 == (nth aF l i).1)=true):cF n [] l=3:=by
 rw [<-h.eq,dF (t:=aF) hi];unfold cF;rw [if_neg (by omega),if_neg ho,if_pos ha]
theorem dZ.next {n:Nat} {l:List (D aF)} {i:Nat} (h:dZ n l i) (hi:i < l.length) (hf:aJ (nth aF l i).1<=0) (ho:¬ ((nth aF l i).2.1 < 0\/(nth aF l i).2.1>=(n:Int)))
  (ha:(l.take i).any (fun x=>x.1 == (nth aF l i).1)=false):dZ n l (i + 1):=by
 refine ⟨hi,?_⟩
 rw [<-h.eq,dF (t:=aF) hi,eP (t:=aF) hi]
 conv=>rhs;unfold cF
 rw [if_neg (by omega),if_neg ho,if_neg (by rw [ha];decide)]
theorem dZ.done {n:Nat} {l:List (D aF)} {i:Nat} (h:dZ n l i) (hi:¬ i < l.length):cF n [] l=0:=by
 rw [<-h.eq,List.drop_eq_nil_of_le (by omega)];rfl
def gp (l:List (D aN)) (i:Nat):Option Int:=if i=0 then none else some (nth aN l (i - 1)).1
structure fI (n:Nat) (l:List (D aN)) (i:Nat):Prop where
 le:i<=l.length
 eq:eo n (gp l i) (l.drop i)=eo n none l
theorem fI.zero (n:Nat) (l:List (D aN)):fI n l 0:=⟨Nat.zero_le _,rfl⟩
theorem fI.fault {n:Nat} {l:List (D aN)} {i:Nat} (h:fI n l i) (hi:i < l.length) {f:Int} (hf:fw n (gp l i) (nth aN l i)=f) (h0:f≠0):eo n none l=f:=by
 rw [<-h.eq,dF (t:=aN) hi];unfold eo;rw [if_pos (by rw [hf];exact h0),hf]
theorem fI.next {n:Nat} {l:List (D aN)} {i:Nat} (h:fI n l i) (hi:i < l.length) (hf:fw n (gp l i) (nth aN l i)=0):fI n l (i + 1):=by
 refine ⟨hi,?_⟩
 rw [<-h.eq,dF (t:=aN) hi]
 conv=>rhs;unfold eo
 rw [if_neg (by rw [hf];decide)]
 rfl
theorem fI.done {n:Nat} {l:List (D aN)} {i:Nat} (h:fI n l i) (hi:¬ i < l.length):eo n none l=0:=by
 rw [<-h.eq,List.drop_eq_nil_of_le (by omega)];rfl
theorem vb {t:Ty} {l:List (D t)} {i j:Nat} {f:D t->Bool} (hj:j < i) (hi:i<=l.length) (h:f (nth t l j)=true):(l.take i).any f=true:=by
 rw [List.any_eq_true]
 refine ⟨nth t l j,?_,h⟩
 have:(l.take i)[j]?=some (nth t l j):=by
  rw [List.getElem?_take,if_pos hj]
  unfold nth
  rw [List.getD_eq_getElem?_getD,List.getElem?_eq_getElem (by omega)];rfl
 exact List.mem_of_getElem? this
theorem sA {t:Ty} {l:List (D t)} {i:Nat} {f:D t->Bool} (h:∀j,j < i->f (nth t l j)=false):(l.take i).any f=false:=by
 rw [List.any_eq_false]
 intro x hx
 obtain ⟨j,hj,rfl⟩:=List.getElem_of_mem hx
 rw [List.length_take] at hj
 have:=h j (by omega)
 rw [List.getElem_take]
 have e:nth t l j=l[j]'(by omega):=by unfold nth;simp [show j < l.length by omega]
 rw [e] at this
 rw [this];decide
theorem contains_of {l:List (List UInt8)} {s:List UInt8} {y:Int} (h:(y = -1/\∀j,j < l.length->nth .str l j≠s)\/(0<=y/\y.toNat < l.length/\nth .str l y.toNat=s)):decide (y>=0)=l.any (· == s):=by
 rcases h with ⟨rfl,h⟩ | ⟨h1,h2,h3⟩
 ·have:=sA (t:=.str) (l:=l) (i:=l.length) (f:=(· == s)) fun j hj=>by simpa using h j hj
  rw [List.take_length] at this
  rw [this];rfl
 ·have:=vb (t:=.str) (l:=l) (i:=l.length) (f:=(· == s)) h2 (Nat.le_refl _) (by simpa using h3)
  rw [List.take_length] at this
  rw [this];simpa using h1
theorem wx {o:D aB} (h:eO o):bt o=2:=by unfold bt;rw [if_pos h]
theorem n5 {o:D aB} (h:¬ eO o) {f:Int} (hf:de [] o.1=f) (h0:f≠0):bt o=f:=by unfold bt;rw [if_neg h,if_pos (by rw [hf];exact h0),hf]
theorem ve {o:D aB} (h:¬ eO o) (h1:de [] o.1=0) {f:Int} (hf:dY o.2.1=f) (h0:f≠0):bt o=f:=by
 unfold bt;rw [if_neg h,if_neg (by rw [h1];decide),if_pos (by rw [hf];exact h0),hf]
theorem wy {o:D aB} (h:¬ eO o) (h1:de [] o.1=0) (h2:dY o.2.1=0) {f:Int} (hf:cF o.2.1.length [] o.2.2.1=f) (h0:f≠0):bt o=f:=by
 unfold bt;rw [if_neg h,if_neg (by rw [h1];decide),if_neg (by rw [h2];decide),if_pos (by rw [hf];exact h0),hf]
theorem wz {o:D aB} (h:¬ eO o) (h1:de [] o.1=0) (h2:dY o.2.1=0) (h3:cF o.2.1.length [] o.2.2.1=0) {f:Int} (hf:eo o.2.1.length none o.2.2.2.1=f):bt o=f:=by
 unfold bt;rw [if_neg h,if_neg (by rw [h1];decide),if_neg (by rw [h2];decide),if_neg (by rw [h3];decide),hf]
end Go.Mrl

namespace Go.Mrl
open Go.Vg
def _root_.Go.Vg.Cr:List UInt8->UInt8
 | c :: _=>c
 | []=>0
def oM (c:UInt8):List aE->aE
 | []=>[]
 | [x]=>x
 | x :: y :: r=>x++c :: oM c (y :: r)
def parts (c:UInt8):aE->List aE
 | []=>[[]]
 | b :: r=>if b=c then [] :: parts c r else match parts c r with
  | h :: t=>(b :: h) :: t
  | []=>[[b]]
theorem pU (c:UInt8):∀s:aE,parts c s≠[]
 | []=>by simp [parts]
 | b :: r=>by
  unfold parts
  split
  ·simp
  ·split <;> simp
theorem eS {c b:UInt8} {r:aE} (h:b≠c):∃x t,parts c r=x :: t/\parts c (b :: r)=(b :: x) :: t:=by
 cases hp:parts c r with
 | nil=>exact absurd hp (pU c r)
 | cons x t=>
  refine ⟨x,t,rfl,?_⟩
  conv=>lhs;unfold parts
  rw [if_neg h,hp]
theorem gq {c:UInt8} {r:aE}:parts c (c :: r) = [] :: parts c r:=by
 conv=>lhs;unfold parts
 rw [if_pos rfl]
theorem eB {c:UInt8}:∀{x:aE},c∉x->parts c x = [x]
 | [],_=>rfl
 | b :: r,h=>by
  obtain ⟨x,t,h1,h2⟩:=eS (c:=c) (b:=b) (r:=r) (fun e=>h (by simp [e]))
  rw [eB (x:=r) (fun e=>h (by simp [e]))] at h1
  cases h1
  exact h2
theorem cw {c:UInt8}:∀{x:aE} {s:aE},c∉x->parts c (x++c :: s)=x :: parts c s
 | [],s,_=>gq
 | b :: r,s,h=>by
  obtain ⟨x,t,h1,h2⟩:=eS (c:=c) (b:=b) (r:=r++c :: s) (fun e=>h (by simp [e]))
  rw [cw (x:=r) (fun e=>h (by simp [e]))] at h1
  cases h1
  exact h2
theorem pc {c:UInt8}:∀{L:List aE},L≠[]->(∀y∈L,c∉y)->parts c (oM c L)=L
 | [],h,_=>absurd rfl h
 | [x],_,h=>eB (h x (by simp))
 | x :: y :: r,_,h=>by
  show parts c (x++c :: oM c (y :: r))=_
  rw [cw (h x (by simp)),pc (by simp) fun z hz=>h z (List.mem_cons_of_mem _ hz)]
theorem n7 (c:UInt8):∀(s:aE),(parts c s).length<=s.length + 1
 | []=>by simp [parts]
 | b :: r=>by
  by_cases h:b=c
  ·subst h;rw [gq];have:=n7 b r;simp;omega
  ·obtain ⟨x,t,h1,h2⟩:=eS (c:=c) (b:=b) (r:=r) h
   have:=n7 c r
   rw [h1] at this
   rw [h2];simp at this ⊢;omega
theorem iJ (c:UInt8):∀(s:aE),∀y∈parts c s,y.length<=s.length
 | [],y,h=>by simp [parts] at h;simp [h]
 | b :: r,y,h=>by
  by_cases hb:b=c
  ·subst hb;rw [gq] at h
   rcases List.mem_cons.1 h with rfl | h
   ·simp
   ·have:=iJ b r y h;simp;omega
  ·obtain ⟨x,t,h1,h2⟩:=eS (c:=c) (b:=b) (r:=r) hb
   rw [h2] at h
   rcases List.mem_cons.1 h with rfl | h
   ·have:=iJ c r x (by rw [h1];simp);simp;omega
   ·have:=iJ c r y (by rw [h1];simp [h]);simp;omega
theorem vf {b c:UInt8} {l:aE} (h:b≠c):Lib.index (b :: l) [c]=if Lib.index l [c] == -1 then -1 else Lib.index l [c] + 1:=by
 rw [Lib.index];simp [List.isPrefixOf,Ne.symm h]
theorem vg {c:UInt8} {l:aE}:Lib.index (c :: l) [c]=0:=by
 rw [Lib.index];simp [List.isPrefixOf]
theorem kn (c:UInt8):∀s:aE,Lib.splitK [c] 0 (s.count c) s=parts c s
 | []=>rfl
 | b :: l=>by
  by_cases h:b=c
  ·subst h
   rw [gq,List.count_cons_self,Lib.splitK,vg,if_neg (by decide),<-kn b l]
   simp
  ·obtain ⟨x,t,h1,h2⟩:=eS (c:=c) (b:=b) (r:=l) h
   rw [h2,List.count_cons_of_ne h]
   rw [<-kn c l] at h1
   cases hk:l.count c with
   | zero=>
    rw [hk] at h1
    simp only [Lib.splitK] at h1 ⊢
    cases h1
    rfl
   | succ k=>
    rw [hk] at h1
    have hi:Lib.index l [c]≠-1:=by
     intro e
     have:=Lib.count_miss (s:=l) (sub:=[c]) e
     rw [Lib.count_one] at this
     omega
    have hge:=Lib.index_ge l [c]
    rw [Lib.splitK,if_neg (by simpa using hi)] at h1
    obtain ⟨i,e⟩:∃i:Nat,Lib.index l [c]=i:=⟨(Lib.index l [c]).toNat,by omega⟩
    have e2:Lib.index (b :: l) [c]=((i + 1:Nat):Int):=by rw [vf h,if_neg (by simpa using hi),e];rfl
    rw [Lib.splitK,e2,if_neg (by simp;omega)]
    rw [e] at h1
    simp only [Int.toNat_natCast,Nat.add_zero,List.length_singleton,List.take_succ_cons,List.drop_succ_cons,List.cons.injEq] at h1 ⊢
    exact ⟨⟨trivial,h1.1⟩,h1.2⟩
def jz (c:UInt8) (L:List aE):aE:=L.flatMap (· ++ [c])
theorem sC (c:UInt8) (x:aE) (L:List aE):jz c (x :: L)=x++c :: jz c L:=by simp [jz]
theorem sE {c:UInt8}:∀{L:List aE},L≠[]->jz c L=oM c L++[c]
 | [],h=>absurd rfl h
 | [x],_=>by simp [jz,oM]
 | x :: y :: r,_=>by
  rw [sC,sE (L:=y :: r) (by simp)];simp [oM]
theorem rJ (x:aE) (c:UInt8):Lib.trimSuffix (x++[c]) [c]=x:=by
 have h:Lib.hasSuffix (x++[c]) [c]=true:=by unfold Lib.hasSuffix;simp [List.isSuffixOf_iff_suffix]
 unfold Lib.trimSuffix
 rw [if_pos h];simp
theorem yu {c:UInt8} {L:List aE} (h:L≠[]) (hf:∀y∈L,c∉y):parts c (Lib.trimSuffix (jz c L) [c])=L:=by
 rw [sE h,rJ,pc h hf]
end Go.Mrl

namespace Go.Mrl
open Go.Vg
theorem n8 {k:Nat} (h:k < 10):(UInt8.ofNat (48 + k)).toNat=48 + k:=by
 rw [UInt8.toNat_ofNat'];omega
theorem ia:∀(u:Nat),∀c∈Lib.decDigits u,48<=c.toNat/\c.toNat<=57:=by
 intro u
 induction u using Nat.strongRecOn with
 | _ u ih=>
  intro c hc
  by_cases h:u < 10
  ·rw [Lib.decDigits,dif_pos h] at hc
   simp only [List.mem_singleton] at hc
   rw [hc,n8 h];omega
  ·rw [Lib.decDigits,dif_neg h] at hc
   rcases List.mem_append.1 hc with hc | hc
   ·exact ih _ (by omega) c hc
   ·simp only [List.mem_singleton] at hc
    rw [hc,n8 (Nat.mod_lt _ (by decide))];omega
theorem n9 (u:Nat):Lib.decDigits u≠[]:=by
 rw [Lib.decDigits];split <;> simp
theorem jA:∀(k u:Nat),u < 10 ^ (k + 1)->(Lib.decDigits u).length<=k + 1
 | 0,u,h=>by rw [Lib.decDigits,dif_pos (by simpa using h)];simp
 | k + 1,u,h=>by
  rw [Lib.decDigits]
  split
  ·simp
  ·have:=jA k (u / 10) (by rw [Nat.pow_succ] at h;omega)
   simp;exact this
theorem sF:∀(l:aE) (c:UInt8) (a v:Nat),Lib.parseUint10 a l = .ok v->Lib.parseUint10 a (l++[c])=Lib.parseUint10 v [c]
 | [],c,a,v,h=>by simp [Lib.parseUint10] at h;rw [h];rfl
 | b :: l,c,a,v,h=>by
  rw [List.cons_append,Lib.parseUint10]
  rw [Lib.parseUint10] at h
  split at h
  ·rename_i hb
   rw [if_pos hb]
   split at h
   ·cases h
   ·rename_i h1
    rw [if_neg h1]
    split at h
    ·cases h
    ·rename_i h2
     rw [if_neg h2]
     exact sF l c _ v h
  ·cases h
theorem vh {v d:Nat} (hd:d < 10) (h:10 * v + d < 18446744073709551616):Lib.parseUint10 v [UInt8.ofNat (48 + d)] = .ok (10 * v + d):=by
 unfold Lib.parseUint10
 rw [n8 hd,if_pos (by omega),if_neg (by omega),if_neg (by omega)]
 unfold Lib.parseUint10
 congr 1;omega
theorem BP:∀u:Nat,u < 18446744073709551616->Lib.parseUint10 0 (Lib.decDigits u) = .ok u:=by
 intro u
 induction u using Nat.strongRecOn with
 | _ u ih=>
  intro hu
  by_cases h:u < 10
  ·rw [Lib.decDigits,dif_pos h]
   have:=vh (v:=0) (d:=u) h (by omega)
   simpa using this
  ·rw [Lib.decDigits,dif_neg h,sF _ _ _ _ (ih _ (by omega) (by omega)),vh (Nat.mod_lt _ (by decide)) (by omega)]
   congr 1;omega
theorem xq {u:Nat} (hu:u < 18446744073709551616):Lib.parseMag (Lib.decDigits u) = .ok u:=by
 unfold Lib.parseMag
 rw [if_neg (n9 u),BP u hu]
theorem As {n:Int} (h0 : -9223372036854775808<=n) (h1:n<=9223372036854775807):Lib.atoiAll (Lib.itoa n) = .ok n:=by
 by_cases hn:n < 0
 ·have hm:=xq (u:=n.natAbs) (by omega)
  simp only [Lib.itoa,if_pos hn,Lib.atoiAll]
  rw [if_pos (Or.inr (by decide)),hm]
  simp only
  rw [if_neg (by simp),if_neg (by simp;omega)]
  simp;omega
 ·have hm:=xq (u:=n.toNat) (by omega)
  simp only [Lib.itoa,if_neg hn,Lib.atoiAll]
  cases hd:Lib.decDigits n.toNat with
  | nil=>exact absurd hd (n9 _)
  | cons c r=>
   have hc:=ia n.toNat c (by rw [hd];simp)
   rw [hd] at hm
   simp only
   rw [if_neg (by omega),hm]
   simp only
   rw [if_neg (by omega),if_neg (by omega),if_neg (by omega)]
   congr 1;omega
def bP (s:List UInt8):Int × bp:=match Lib.atoiAll s with
 | .ok n=>(n, .nil)
 | Lib.NumEnd.syntax=>(0, .other)
 | .range=>(Lib.atoiSat s, .other)
def cj (s:aE):Option Int:=match Lib.atoiAll s with
 | .ok n=>if Lib.itoa n=s then some n else none
 | _=>none
theorem At {n:Int} (h0 : -9223372036854775808<=n) (h1:n<=9223372036854775807):cj (Lib.itoa n)=some n:=by
 unfold cj;rw [As h0 h1];simp
theorem sG {s:aE}:(cj s).isNone=(!(bP s).2.isNil || !decide (Lib.itoa (bP s).1=s)):=by
 unfold cj bP
 cases Lib.atoiAll s with
 | ok v=>simp only [bp.isNil];by_cases h:Lib.itoa v=s <;> simp [h]
 | range=>rfl
 | _=>rfl
theorem sH {n:Int} {c:UInt8} (h:c.toNat<=44):c∉Lib.itoa n:=by
 intro hc
 have h45:(45:UInt8).toNat=45:=rfl
 unfold Lib.itoa at hc
 split at hc
 ·rcases List.mem_cons.1 hc with rfl | hc
  ·omega
  ·have:=ia _ c hc;omega
 ·have:=ia _ c hc;omega
theorem BQ {n:Int} (h:0<=n) (h':n < 10):Lib.itoa n = [UInt8.ofNat (48 + n).toNat]:=by
 unfold Lib.itoa;rw [if_neg (by omega),Lib.decDigits,dif_pos (by omega)];congr 2;omega
end Go.Mrl

namespace Go.Mrl
open Go.Vg
theorem jq {f:Int} (h0:0<=f) (h:(aW f).isNil=false):f > 0:=by
 have:¬ f=0:=fun e=>by rw [aR.2 e] at h;cases h
 omega
theorem iK {f:Int} (h:(aW f).isNil=true):f<=0:=by
 have:=aR.1 h;omega
theorem sJ {t:Ty} {l:List (D t)} {i j:Nat} (h:j < i):nth t (List.drop 0 (List.take i l)) j=nth t l j:=by
 rw [List.drop_zero,uW h]
theorem sK {α:Type} {l:List α} {i:Nat} (h:i<=l.length):(List.drop 0 (List.take i l)).length=i:=by
 rw [List.drop_zero,List.length_take];omega
def cR (b:Bool):List UInt8:=if b=true then [119,101,97,107,32] else []
def oN (s:aE):aE:=[110,101,101,100,32]++s++[10]
def mL (n:Int):aE:=[119,111,114,100,32]++Lib.itoa n++[10]
def rK (y:D aF):aE:=cR y.2.2.1++[115,121,109,98,111,108,32]++y.1++[32]++Lib.itoa y.2.1++[10]
def mM (t:D aN):aE:=
 if t.2.1=1 then [98,97,115,101,32]++Lib.itoa t.1++[32]++Lib.itoa t.2.2.1++[10]
 else if t.2.1=2 then cR t.2.2.2.2.1++[119,104,111,108,101,32]++Lib.itoa t.1++[32]++Lib.itoa t.2.2.1++[32]++t.2.2.2.1++[10]
 else cR t.2.2.2.2.1++[110,101,97,114,32]++Lib.itoa t.1++[32]++Lib.itoa t.2.2.1++[32]++t.2.2.2.1++[10]
def ib (o:D aB) (i:Nat):aE:=(o.1.take i).flatMap oN
def fN (o:D aB) (i:Nat):aE:=ib o o.1.length++(o.2.1.take i).flatMap mL
def fO (o:D aB) (i:Nat):aE:=fN o o.2.1.length++(o.2.2.1.take i).flatMap rK
def df (o:D aB) (i:Nat):aE:=fO o o.2.2.1.length++(o.2.2.2.1.take i).flatMap mM
def cL (o:D aB):aE:=df o o.2.2.2.1.length
def dJ (o:D aB):aE × bp:=if bt o≠0 then ([],aW (bt o)) else if (cL o).length > 1200 then ([], .no 2) else (cL o, .nil)
theorem Au {o:D aB} {i:Nat} (h:i < o.1.length):ib o (i + 1)=ib o i++oN (nth .str o.1 i):=by
 unfold ib;rw [eP (t:=.str) h];simp
theorem Av {o:D aB} {i:Nat} (h:i < o.2.1.length):fN o (i + 1)=fN o i++mL (nth (.int .i64) o.2.1 i):=by
 unfold fN;rw [eP (t:=.int .i64) h];simp
theorem Aw {o:D aB} {i:Nat} (h:i < o.2.2.1.length):fO o (i + 1)=fO o i++rK (nth aF o.2.2.1 i):=by
 unfold fO;rw [eP (t:=aF) h];simp
theorem od {o:D aB} {i:Nat} (h:i < o.2.2.2.1.length):df o (i + 1)=df o i++mM (nth aN o.2.2.2.1 i):=by
 unfold df;rw [eP (t:=aN) h];simp
theorem Ax (o:D aB):fN o 0=ib o o.1.length:=by unfold fN;simp
theorem Ay (o:D aB):fO o 0=fN o o.2.1.length:=by unfold fO;simp
theorem Az (o:D aB):df o 0=fO o o.2.2.1.length:=by unfold df;simp
def Nm (s:aE):Prop:=s≠[]/\s.length<=8/\∀c∈s,c≠10/\c≠32
def jr (a b x:Int):Prop:=a<=x/\x<=b
structure qY (t:D aN):Prop where
 a:jr 0 39 t.1
 w:jr (-2147483648) 2147483647 t.2.2.1
 k:t.2.1=1\/t.2.1=2\/t.2.1=3
 base:t.2.1=1->t.2.2.2.1 = []/\t.2.2.2.2.1=false
 nm:t.2.1≠1->Nm t.2.2.2.1
structure eU (o:D aB):Prop where
 n4:o.1.length<=4
 w1:1<=o.2.1.length
 Ea:o.2.1.length<=40
 s8:o.2.2.1.length<=8
 t6:o.2.2.2.1.length<=6
 tO:∀s∈o.1,Nm s
 words:∀n∈o.2.1,jr (-2147483648) 2147483647 n
 syms:∀y∈o.2.2.1,Nm y.1/\jr 0 39 y.2.1
 yv:∀t∈o.2.2.2.1,qY t
end Go.Mrl

namespace Go.Mrl
open Go.Vg
theorem pf:∀(l p:List aE),de p l=0->∀s∈l,aJ s=0
 | [],_,_,s,h=>absurd h (by simp)
 | x :: r,p,h,s,hs=>by
  have hx:=cV x
  unfold de at h
  split at h
  ·omega
  ·split at h
   ·cases h
   ·rcases List.mem_cons.1 hs with rfl | hs
    ·omega
    ·exact pf r _ h s hs
theorem pg:∀(l:List Int),dY l=0->∀n∈l,dk n=true
 | [],_,s,h=>absurd h (by simp)
 | x :: r,h,s,hs=>by
  unfold dY at h
  split at h
  ·rename_i hx
   rcases List.mem_cons.1 hs with rfl | hs
   ·exact hx
   ·exact pg r h s hs
  ·cases h
theorem qZ (n:Nat):∀(l p:List (D aF)),cF n p l=0->∀y∈l,aJ y.1=0/\jr 0 (n - 1) y.2.1
 | [],_,_,s,h=>absurd h (by simp)
 | x :: r,p,h,s,hs=>by
  have hx:=cV x.1
  unfold cF at h
  split at h
  ·omega
  ·split at h
   ·cases h
   ·rename_i h2
    split at h
    ·cases h
    ·rcases List.mem_cons.1 hs with rfl | hs
     ·exact ⟨by omega,Int.not_lt.1 fun e=>h2 (.inl e),Int.le_sub_one_of_lt (Int.not_le.1 fun e=>h2 (.inr e))⟩
     ·exact qZ n r _ h s hs
theorem AA {n:Nat} {p:Option Int} {t:D aN} (h:fw n p t=0) :
  jr 0 (n - 1) t.1/\dk t.2.2.1=true/\jr 1 3 t.2.1/\(t.2.1=1->t.2.2.2.1 = []/\t.2.2.2.2.1=false)/\(t.2.1≠1->aJ t.2.2.2.1=0):=by
 unfold fw at h
 split at h
 ·cases h
 ·rename_i h1
  split at h
  ·cases h
  ·rename_i h2
   refine ⟨⟨Int.not_lt.1 fun e=>h1 (.inl e),Int.le_sub_one_of_lt (Int.not_le.1 fun e=>h1 (.inr (.inl e)))⟩,?_,⟨Int.not_lt.1 fun e=>h2 (.inl e),Int.not_lt.1 fun e=>h2 (.inr (.inl e))⟩,?_,?_⟩
   ·cases hw:dk t.2.2.1 with
    | true=>rfl
    | false=>exact absurd (.inr (.inr hw)) h1
   ·intro e
    rw [if_pos e] at h
    split at h
    ·cases h
    ·rename_i h3
     refine ⟨Classical.byContradiction fun e=>h3 (.inl e),?_⟩
     cases hb:t.2.2.2.2.1 with
     | false=>rfl
     | true=>exact absurd (.inr hb) h3
   ·intro e
    rw [if_neg e] at h
    exact h
theorem q0 (n:Nat):∀(l:List (D aN)) (p:Option Int),eo n p l=0->∀t∈l,∃p,fw n p t=0
 | [],_,_,s,h=>absurd h (by simp)
 | x :: r,p,h,s,hs=>by
  unfold eo at h
  split at h
  ·rename_i h0;exact absurd h h0
  ·rename_i h0
   rcases List.mem_cons.1 hs with rfl | hs
   ·exact ⟨p,Classical.byContradiction h0⟩
   ·exact q0 n r _ h s hs
theorem yw {s:aE} (h:aJ s=0):Nm s:=by
 unfold aJ at h
 split at h
 ·cases h
 ·rename_i hl
  split at h
  ·cases h
  ·rename_i hb
   refine ⟨by rintro rfl;simp at hl,by omega,fun c hc => ?_⟩
   obtain ⟨i,hi,rfl⟩:=List.getElem_of_mem hc
   have hn:dH i (eI s i)=false:=by
    unfold lS at hb
    rw [Bool.not_eq_true,List.any_eq_false] at hb
    have:=hb i (by simpa using hi)
    simpa using this
   have he:eI s i=s[i]:=by unfold eI;simp [hi]
   rw [he] at hn
   constructor
   ·intro e;rw [e] at hn;unfold dH small other at hn;simp at hn
   ·intro e;rw [e] at hn;unfold dH small other at hn;simp at hn
theorem three {x:Int} (h:1<=x) (h':x<=3):x=1\/x=2\/x=3:=by omega
theorem gb {o:D aB} (h:bt o=0):eU o:=by
 unfold bt at h
 split at h
 ·cases h
 ·rename_i hm
  split at h
  ·rename_i h1;exact absurd h h1
  ·rename_i h1
   split at h
   ·rename_i h2;exact absurd h h2
   ·rename_i h2
    split at h
    ·rename_i h3;exact absurd h h3
    ·rename_i h3
     have h1:=Classical.byContradiction h1
     have h2:=Classical.byContradiction h2
     have h3:=Classical.byContradiction h3
     unfold eO at hm
     have hw:o.2.1.length<=40:=Nat.not_lt.1 fun e=>hm (.inr (.inr (.inl e)))
     refine ⟨Nat.not_lt.1 fun e=>hm (.inl e),Nat.not_lt.1 fun e=>hm (.inr (.inl e)),hw,Nat.not_lt.1 fun e=>hm (.inr (.inr (.inr (.inl e)))),Nat.not_lt.1 fun e=>hm (.inr (.inr (.inr (.inr e)))),
      fun s hs=>yw (pf _ _ h1 s hs),fun n hn => ?_,fun y hy => ?_,fun t ht => ?_⟩
     ·have:=pg _ h2 n hn
      unfold dk at this
      simp only [Bool.and_eq_true,decide_eq_true_eq] at this
      exact this
     ·obtain ⟨a,b,c⟩:=qZ _ _ _ h3 y hy
      exact ⟨yw a,b,Int.le_trans c (by omega)⟩
     ·obtain ⟨p,hp⟩:=q0 _ _ _ h t ht
      obtain ⟨⟨a,b⟩,c,⟨d,e⟩,f,g⟩:=AA hp
      unfold dk at c
      simp only [Bool.and_eq_true,decide_eq_true_eq] at c
      exact ⟨⟨a,Int.le_trans b (by omega)⟩,c,three d e,f,fun e=>yw (g e)⟩
theorem ec {a b n:Int} (h:jr a b n) (ha : -999999999999999999<=a) (hb:b<=999999999999999999):(Lib.itoa n).length<=19:=by
 obtain ⟨h0,h1⟩:=h
 unfold Lib.itoa
 split
 ·rw [List.length_cons]
  have:=jA 17 n.natAbs (by omega)
  omega
 ·have:=jA 17 n.toNat (by omega)
  omega
theorem kX (b:Bool):(cR b).length<=5:=by cases b <;> decide
theorem AB {s:aE} (h:Nm s):(oN s).length<=64:=by have:=h.2.1;simp [oN];omega
theorem AD {n:Int} (h:jr (-2147483648) 2147483647 n):(mL n).length<=64:=by have:=ec h (by decide) (by decide);simp [mL];omega
theorem BR {y:D aF} (h:Nm y.1/\jr 0 39 y.2.1):(rK y).length<=64:=by
 have h1:=ec h.2 (by decide) (by decide)
 have h2:=kX y.2.2.1
 have h3:=h.1.2.1
 simp [rK];omega
theorem BS {t:D aN} (h:qY t):(mM t).length<=64:=by
 have h1:=ec h.a (by decide) (by decide)
 have h4:=ec h.w (by decide) (by decide)
 have h2:=kX t.2.2.2.2.1
 unfold mM
 split
 ·simp;omega
 ·rename_i hk
  have h3:=(h.nm hk).2.1
  split
  ·simp;omega
  ·simp;omega
theorem ko {α:Type} {f:α->aE}:∀{l:List α},(∀x∈l,(f x).length<=64)->(l.flatMap f).length<=64 * l.length
 | [],_=>by simp
 | x :: r,h=>by
  have h1:=h x (by simp)
  have h2:=ko (f:=f) (l:=r) fun y hy=>h y (List.mem_cons_of_mem _ hy)
  rw [List.flatMap_cons,List.length_append,List.length_cons];omega
theorem eU.DF {o:D aB} (h:eU o) (i:Nat):(ib o i).length<=1000:=by
 have:=ko (f:=oN) (l:=o.1.take i) fun s hs=>AB (h.tO s (List.mem_of_mem_take hs))
 have h2:=h.n4
 unfold ib;simp only [List.length_take] at this;omega
theorem eU.DG {o:D aB} (h:eU o) (i:Nat):(fN o i).length<=4000:=by
 have h0:=h.DF o.1.length
 have:=ko (f:=mL) (l:=o.2.1.take i) fun s hs=>AD (h.words s (List.mem_of_mem_take hs))
 have h2:=h.Ea
 unfold fN;rw [List.length_append];simp only [List.length_take] at this;omega
theorem eU.DH {o:D aB} (h:eU o) (i:Nat):(fO o i).length<=5000:=by
 have h0:=h.DG o.2.1.length
 have:=ko (f:=rK) (l:=o.2.2.1.take i) fun s hs=>BR (h.syms s (List.mem_of_mem_take hs))
 have h2:=h.s8
 unfold fO;rw [List.length_append];simp only [List.length_take] at this;omega
theorem eU.D6 {o:D aB} (h:eU o) (i:Nat):(df o i).length<=6000:=by
 have h0:=h.DH o.2.2.1.length
 have:=ko (f:=mM) (l:=o.2.2.2.1.take i) fun s hs=>BS (h.yv s (List.mem_of_mem_take hs))
 have h2:=h.t6
 unfold df;rw [List.length_append];simp only [List.length_take] at this;omega
theorem eU.mN {o:D aB} (h:eU o) {i:Nat} (hi:i < o.1.length):Nm (nth .str o.1 i):=h.tO _ (gM (t:=.str) hi)
theorem eU.word {o:D aB} (h:eU o) {i:Nat} (hi:i < o.2.1.length):jr (-2147483648) 2147483647 (nth (.int .i64) o.2.1 i):=h.words _ (gM (t:=.int .i64) hi)
theorem eU.sym {o:D aB} (h:eU o) {i:Nat} (hi:i < o.2.2.1.length):Nm (nth aF o.2.2.1 i).1/\jr 0 39 (nth aF o.2.2.1 i).2.1:=h.syms _ (gM (t:=aF) hi)
theorem eU.tie {o:D aB} (h:eU o) {i:Nat} (hi:i < o.2.2.2.1.length):qY (nth aN o.2.2.2.1 i):=h.yv _ (gM (t:=aN) hi)
theorem wA (a b:aE):bo a++bo b=bo (a++b):=by simp [bo]
theorem sL {o:D aB} (h:eU o) {i:Nat} (hi:i < o.1.length):(nth .str o.1 i).length<=8/\(ib o i).length<=1000:=⟨(h.mN hi).2.1,h.DF i⟩
theorem sM {o:D aB} (h:eU o) {i:Nat} (hi:i < o.2.1.length):(Lib.itoa (nth (.int .i64) o.2.1 i)).length<=19/\(fN o i).length<=4000:=
 ⟨ec (h.word hi) (by decide) (by decide),h.DG i⟩
theorem vj {o:D aB} (h:eU o) {i:Nat} (hi:i < o.2.2.1.length) :
  (nth aF o.2.2.1 i).1.length<=8/\(Lib.itoa (nth aF o.2.2.1 i).2.1).length<=19/\(cR (nth aF o.2.2.1 i).2.2.1).length<=5/\(fO o i).length<=5000:=
 ⟨(h.sym hi).1.2.1,ec (h.sym hi).2 (by decide) (by decide),kX _,h.DH i⟩
theorem vk {o:D aB} (h:eU o) {i:Nat} (hi:i < o.2.2.2.1.length) :
  (nth aN o.2.2.2.1 i).2.2.2.1.length<=8/\(Lib.itoa (nth aN o.2.2.2.1 i).1).length<=19/\(Lib.itoa (nth aN o.2.2.2.1 i).2.2.1).length<=19/\(cR (nth aN o.2.2.2.1 i).2.2.2.2.1).length<=5/\(df o i).length<=6000:=by
 have ht:=h.tie hi
 refine ⟨?_,ec ht.a (by decide) (by decide),ec ht.w (by decide) (by decide),kX _,h.D6 i⟩
 by_cases hk:(nth aN o.2.2.2.1 i).2.1=1
 ·rw [(ht.base hk).1];decide
 ·exact (ht.nm hk).2.1
theorem iM {p p' q:aE} {a b:Int} (h:p'=p++q):(((bo p++bo q,a,b,()):D ee))=((bo p',a,b,()):D ee):=by rw [h,wA]
theorem pV {p p':aE} {a b:Int} (h:p=p'):((bo p,a,b,()):D ee)=((bo p',a,b,()):D ee):=by rw [h]
theorem yx {o:D aB} {i:Nat} (h:i < o.2.2.2.1.length) (hk:(nth aN o.2.2.2.1 i).2.1=1) :
  df o (i + 1)=df o i++([98,97,115,101,32]++Lib.itoa (nth aN o.2.2.2.1 i).1++[32]++Lib.itoa (nth aN o.2.2.2.1 i).2.2.1++[10]):=by
 rw [od h];unfold mM;rw [if_pos hk]
theorem yy {o:D aB} {i:Nat} (h:i < o.2.2.2.1.length) (hk:¬ (nth aN o.2.2.2.1 i).2.1=1) (hk2:(nth aN o.2.2.2.1 i).2.1=2) :
  df o (i + 1)=df o i++(cR (nth aN o.2.2.2.1 i).2.2.2.2.1++[119,104,111,108,101,32]++Lib.itoa (nth aN o.2.2.2.1 i).1++[32]++Lib.itoa (nth aN o.2.2.2.1 i).2.2.1++[32]++(nth aN o.2.2.2.1 i).2.2.2.1++[10]):=by
 rw [od h];unfold mM;rw [if_neg hk,if_pos hk2]
theorem yz {o:D aB} {i:Nat} (h:i < o.2.2.2.1.length) (hk:¬ (nth aN o.2.2.2.1 i).2.1=1) (hk2:¬ (nth aN o.2.2.2.1 i).2.1=2) :
  df o (i + 1)=df o i++(cR (nth aN o.2.2.2.1 i).2.2.2.2.1++[110,101,97,114,32]++Lib.itoa (nth aN o.2.2.2.1 i).1++[32]++Lib.itoa (nth aN o.2.2.2.1 i).2.2.1++[32]++(nth aN o.2.2.2.1 i).2.2.2.1++[10]):=by
 rw [od h];unfold mM;rw [if_neg hk,if_neg hk2]
theorem sN {o:D aB} (h:bt o≠0):dJ o=([],aW (bt o)):=by unfold dJ;rw [if_pos h]
theorem q7 {o:D aB} (h:bt o=0) {i:Nat} (hi:i=o.2.2.2.1.length) (hl:(df o i).length > 1200):dJ o=([], .no 2):=by
 unfold dJ;rw [if_neg (by rw [h];decide),if_pos (by unfold cL;rw [<-hi];exact hl)]
theorem mO {o:D aB} (h:bt o=0) {i:Nat} (hi:i=o.2.2.2.1.length) (hl:(df o i).length<=1200):dJ o=(df o i, .nil):=by
 unfold dJ;rw [if_neg (by rw [h];decide),if_neg (by unfold cL;rw [<-hi];omega)];unfold cL;rw [<-hi]
end Go.Mrl

