/- A part of the proof that the law TopStamp holds of the given program: facts that are used there. -/
import Derived.Test.YtgokjhhcfemnhabVgR
namespace Go.Vg
open Go.RowKit
theorem VR.weak {eT : TypeId} {t : Ty} {x : D t} {A A' : Avoid} {w : World} {v : Value} (h : VR eT t x A w v) (hA : ∀ b o, ¬ A b o → ¬ A' b o) : VR eT t x A' w v :=
  VR.frame h fun b o _ ha hc => ⟨hc, hA b o ha⟩
/-! Things of one's own that are handed over, and given back. -/
inductive Cl where
  | d (t : Ty)
  | obj (k : Nat)
  | nilP
inductive Ob where
  | box (T : TypeId) (cs : List Cl)
  | row (keep : Bool) (t : Ty)
  | tok (t : Ty)
  | ext (k : Nat) (t : Ty)
@[reducible] def CD : List Cl → Type
  | [] => Unit
  | .d t :: r => D t × CD r
  | .obj _ :: r => CD r
  | .nilP :: r => CD r
@[reducible] def OD : Ob → Type
  | .box _ cs => CD cs
  | .row _ t => List (D t)
  | .tok t => List (D t)
  | .ext _ t => D t
@[reducible] def PD : List Ob → Type
  | [] => Unit
  | o :: r => OD o × PD r
def refC : (o : Ob) → OD o → Nat → C
  | .box _ _, _, n => .ref n 0
  | .row _ _, _, n => .mrow n
  | .tok t, x, n => .app t x n
  | .ext 0 _, _, n => .xd n .top
  | .ext (_ + 1) _, _, n => .xref n
/-- The way to the k-th thing. -/
def refAt : (obs : List Ob) → PD obs → List Nat → Nat → C
  | o :: _, x, n :: _, 0 => refC o x.1 n
  | _ :: r, x, _ :: ns, k + 1 => refAt r x.2 ns k
  | _, _, _, _ => .any
def clsC (f : Nat → C) : (cs : List Cl) → CD cs → List C
  | [], _ => []
  | .d t :: r, x => .d t x.1 :: clsC f r x.2
  | .obj k :: r, x => f k :: clsC f r x
  | .nilP :: r, x => .nilP :: clsC f r x
def clsV (f : Nat → C) : (cs : List Cl) → CD cs → List SV0
  | [], _ => []
  | .d t :: r, x => .one (.d t x.1) :: clsV f r x.2
  | .obj k :: r, x => .one (f k) :: clsV f r x
  | .nilP :: r, x => .one .nilP :: clsV f r x
def ocOf (f : Nat → C) : (o : Ob) → OD o → OC
  | .box T cs, x => .cells T (clsC f cs x)
  | .row _ t, x => .mrow t x
  | .tok t, x => .tok t x
  | .ext k t, x => .ext k t x
def objsC (f : Nat → C) : (os : List Ob) → PD os → List Nat → List (Nat × OC)
  | o :: r, x, n :: ns => (n, ocOf f o x.1) :: objsC f r x.2 ns
  | _, _, _ => []
/-! Which name goes with which number: looked up, and held against the state afterwards. -/
def nameC : C → Option Nat
  | .ref n 0 => some n
  | .mrow n => some n
  | .app _ _ n => some n
  | .xref n => some n
  | .xd n .top => some n
  | _ => none
def bindCl (as : List (Nat × Nat)) (cl : Cl) (c : C) : Option (List (Nat × Nat)) :=
  match cl with
  | .obj k => match nameC c with
    | some n => match look as k with
      | some m => match Nat.beq m n with
        | true => some as
        | false => none
      | none => some ((k, n) :: as)
    | none => none
  | _ => some as
def bindCls : List Cl → List C → List (Nat × Nat) → Option (List (Nat × Nat))
  | [], [], as => some as
  | cl :: cls, c :: cs, as => match bindCl as cl c with
    | some as' => bindCls cls cs as'
    | none => none
  | _, _, _ => none
def bindVs : List Cl → List SV0 → List (Nat × Nat) → Option (List (Nat × Nat))
  | [], [], as => some as
  | cl :: cls, v :: vs, as => match bindCl as cl (match v with | .one c => c | .agg _ => .any) with
    | some as' => bindVs cls vs as'
    | none => none
  | _, _, _ => none
def bindObs (objs : List (Nat × OC)) : Nat → List Ob → List (Nat × Nat) → Option (List (Nat × Nat))
  | _, [], as => some as
  | k, .box _ cls :: r, as => match look as k with
    | some n => match look objs n with
      | some (.cells _ cs) => match bindCls cls cs as with
        | some as' => bindObs objs (k + 1) r as'
        | none => none
      | _ => none
    | none => none
  | k, _ :: r, as => bindObs objs (k + 1) r as
def namesFrom (as : List (Nat × Nat)) : Nat → Nat → Option (List Nat)
  | _, 0 => some []
  | k, m + 1 => match look as k, namesFrom as (k + 1) m with
    | some n, some l => some (n :: l)
    | _, _ => none
def nodupB : List Nat → Bool
  | [] => true
  | n :: r => !(memN n r) && nodupB r
def nthN : List Nat → Nat → Option Nat
  | n :: _, 0 => some n
  | _ :: r, k + 1 => nthN r k
  | [], _ => none
def nthO : List Ob → Nat → Option Ob
  | o :: _, 0 => some o
  | _ :: r, k + 1 => nthO r k
  | [], _ => none
/-- 'cv': a list that was appended to may be a row now. -/
def sameRef (cv : Bool) (objs : List (Nat × OC)) (obs : List Ob) (ν : List Nat) (k : Nat) (c : C) : Bool :=
  match nthO obs k, nthN ν k, c with
  | some (.box _ _), some n, .ref m 0 => Nat.beq n m
  | some (.row _ _), some n, .mrow m => Nat.beq n m && (match look objs n with | some (.mrow _ _) => true | _ => false)
  | some (.row _ t), some n, .app t' _ m => cv && (Nat.beq n m && (Ty.beq t' t && (match look objs n with | some (.tok _ _) => true | _ => false)))
  | some (.tok t), some n, .app t' _ m => Nat.beq n m && Ty.beq t' t
  | some (.ext 0 _), some n, .xd m .top => Nat.beq n m
  | some (.ext (_ + 1) _), some n, .xref m => Nat.beq n m
  | _, _, _ => false
def getCls (cv : Bool) (objs : List (Nat × OC)) (obs : List Ob) (ν : List Nat) : (cls : List Cl) → List C → Option (CD cls)
  | [], [] => some ()
  | .d t :: r, c :: cs => match asD t c, getCls cv objs obs ν r cs with
    | some x, some y => some (x, y)
    | _, _ => none
  | .obj k :: r, c :: cs => match sameRef cv objs obs ν k c with
    | true => getCls cv objs obs ν r cs
    | false => none
  | .nilP :: r, c :: cs => match c with
    | .nilP => getCls cv objs obs ν r cs
    | _ => none
  | _, _ => none
def getVs (cv : Bool) (objs : List (Nat × OC)) (obs : List Ob) (ν : List Nat) : (cls : List Cl) → List SV0 → Option (CD cls)
  | [], [] => some ()
  | .d t :: r, v :: vs => match asD0 t v, getVs cv objs obs ν r vs with
    | some x, some y => some (x, y)
    | _, _ => none
  | .obj k :: r, v :: vs => match v with
    | .one c => match sameRef cv objs obs ν k c with
      | true => getVs cv objs obs ν r vs
      | false => none
    | _ => none
  | .nilP :: r, v :: vs => match v with
    | .one .nilP => getVs cv objs obs ν r vs
    | _ => none
  | _, _ => none
def toL (t t' : Ty) (xs : List (D t')) : Option (List (D t)) :=
  match h : Ty.beq (.slice t') (.slice t) with
  | true => some (castD h (a := .slice t') (b := .slice t) xs)
  | false => none
def toX (t t' : Ty) (x : D t') : Option (D t) :=
  match h : Ty.beq t' t with
  | true => some (castD h x)
  | false => none
def getO (cv : Bool) (objs : List (Nat × OC)) (obs : List Ob) (ν : List Nat) : (o : Ob) → OC → Option (OD o)
  | .box T cls, .cells T' cs => match Nat.beq T' T with
    | true => getCls cv objs obs ν cls cs
    | false => none
  | .row _ t, .mrow t' xs => toL t t' xs
  | .row _ t, .tok t' xs => match cv with
    | true => toL t t' xs
    | false => none
  | .tok t, .tok t' xs => toL t t' xs
  | .ext k t, .ext k' t' x => match Nat.beq k' k with
    | true => toX t t' x
    | false => none
  | _, _ => none
def getObs (cv : Bool) (objs : List (Nat × OC)) (obs : List Ob) (ν : List Nat) : (os : List Ob) → List Nat → Option (PD os)
  | [], [] => some ()
  | o :: r, n :: ns => match look objs n with
    | some oc => match getO cv objs obs ν o oc, getObs cv objs obs ν r ns with
      | some x, some y => some (x, y)
      | _, _ => none
    | none => none
  | _, _ => none
/-- A list that may be appended to is the one that its thing holds. -/
def tokP : (os : List Ob) → PD os → Nat → C → List Prop
  | .tok t :: _, x, 0, .app t' xs _ => match h : Ty.beq (.slice t') (.slice t) with
    | true => [castD h (a := .slice t') (b := .slice t) xs = x.1]
    | false => [False]
  | .row _ t :: _, x, 0, .app t' xs _ => match h : Ty.beq (.slice t') (.slice t) with
    | true => [castD h (a := .slice t') (b := .slice t) xs = x.1]
    | false => [False]
  | _ :: r, x, k + 1, c => tokP r x.2 k c
  | _, _, _, _ => []
def condCls (obs : List Ob) (x : PD obs) : List Cl → List C → List Prop
  | .obj k :: r, c :: cs => tokP obs x k c ++ condCls obs x r cs
  | _ :: r, _ :: cs => condCls obs x r cs
  | _, _ => []
def condVs (obs : List Ob) (x : PD obs) : List Cl → List SV0 → List Prop
  | .obj k :: r, v :: vs => (match v with | .one c => tokP obs x k c | .agg _ => []) ++ condVs obs x r vs
  | _ :: r, _ :: vs => condVs obs x r vs
  | _, _ => []
def condObs (obs : List Ob) (x : PD obs) (objs : List (Nat × OC)) : List Ob → List Nat → List Prop
  | .box _ cls :: r, n :: ns => (match look objs n with | some (.cells _ cs) => condCls obs x cls cs | _ => []) ++ condObs obs x objs r ns
  | _ :: r, _ :: ns => condObs obs x objs r ns
  | _, _ => []
def allP : List Prop → Prop
  | [] => True
  | [p] => p
  | p :: q :: r => p ∧ allP (q :: r)
def andP : List Prop → VC → VC
  | [], k => k
  | p :: r, k => .and p (andP r k)
/-! What is known of values and memory. -/
theorem memN_mem {n : Nat} : ∀ {l : List Nat}, memN n l = true → n ∈ l
  | [], h => by simp [memN] at h
  | m :: r, h => by
    simp only [memN] at h
    split at h
    · rename_i e; rw [Nat.eq_of_beq_eq_true e]; simp
    · simp [memN_mem h]
theorem look_append {α : Type} (l r : List (Nat × α)) (n : Nat) : look (l ++ r) n = match look l n with | some x => some x | none => look r n := by
  induction l with
  | nil => rfl
  | cons p l ih =>
    obtain ⟨m, x⟩ := p
    simp only [List.cons_append, look]
    cases Nat.beq m n
    · exact ih
    · rfl
section
variable (eT : TypeId) (X : Ext)
def refV : Value → Value
  | .tuple vs => vs.toList.headD .nilFunc
  | v => v
def refR (ls : List Loc) (k : Nat) (v : Value) : Prop := ∃ l, ls[k]? = some l ∧ v = refV l.v
def clsR (S : Sit) (F : Nat → Value → Prop) : (cls : List Cl) → CD cls → List Value → Prop
  | [], _, vs => vs = []
  | .d t :: r, x, v :: vs => VR eT t x.1 S.A S.w v ∧ clsR S F r x.2 vs
  | .obj k :: r, x, v :: vs => F k v ∧ clsR S F r x vs
  | .nilP :: r, x, v :: vs => v = .pointer none ∧ clsR S F r x vs
  | _, _, _ => False
def obR (S : Sit) (F : Nat → Value → Prop) : (o : Ob) → OD o → Loc → Prop
  | .box T cls, x, l => ∃ b, ∃ vs : List Value, l.v = .pointer (some ⟨b, 0, none⟩) ∧ l.bs = [b] ∧ S.w.heap[b]? = some (.cells vs.toArray T (0, 0)) ∧ clsR eT S F cls x vs ∧ ∀ v ∈ vs, v.oneCell' = true
  | .row _ t, x, l => OR eT X S l (.mrow t x)
  | .tok t, x, l => OR eT X S l (.tok t x)
  | .ext k t, x, l => OR eT X S l (.ext k t x)
def obsR (S : Sit) (F : Nat → Value → Prop) : (os : List Ob) → PD os → List Loc → Prop
  | [], _, ls => ls = []
  | o :: r, x, l :: ls => obR eT X S F o x.1 l ∧ obsR S F r x.2 ls
  | _, _, _ => False
end
section
variable {eT : TypeId} {X : Ext}
theorem allP_app {a b : List Prop} : (∀ p ∈ a ++ b, p) ↔ (∀ p ∈ a, p) ∧ (∀ p ∈ b, p) := by
  simp only [List.mem_append]
  exact ⟨fun h => ⟨fun p hp => h p (.inl hp), fun p hp => h p (.inr hp)⟩, fun h p hp => hp.elim (h.1 p) (h.2 p)⟩
theorem allP_out : ∀ {l : List Prop}, allP l → ∀ p ∈ l, p
  | [], _ => fun p hp => by simp at hp
  | [q], h => fun p hp => by simp at hp; rw [hp]; exact h
  | q :: r :: l, h => fun p hp => by
    rcases List.mem_cons.1 hp with e | hp
    · rw [e]; exact h.1
    · exact allP_out h.2 p hp
theorem andP_out {k : VC} : ∀ {l : List Prop}, (andP l k).holds → (∀ p ∈ l, p) ∧ k.holds
  | [], h => ⟨fun p hp => by simp at hp, h⟩
  | q :: l, h => by
    obtain ⟨h1, h2⟩ := h
    obtain ⟨h3, h4⟩ := andP_out h2
    exact ⟨fun p hp => by
      rcases List.mem_cons.1 hp with e | hp
      · rw [e]; exact h1
      · exact h3 p hp, h4⟩
theorem toL_some {t t' : Ty} {xs : List (D t')} {ys : List (D t)} (h : toL t t' xs = some ys) : ∃ e : t' = t, e ▸ xs = ys := by
  unfold toL at h
  split at h
  · rename_i hb
    have : t' = t := by have := Ty.eq_of_beq hb; cases this; rfl
    subst this
    cases h
    exact ⟨rfl, by rw [castL_self]⟩
  · cases h
theorem toX_some {t t' : Ty} {x : D t'} {y : D t} (h : toX t t' x = some y) : ∃ e : t' = t, e ▸ x = y := by
  unfold toX at h
  split at h
  · rename_i hb
    have := Ty.eq_of_beq hb
    subst this
    cases h
    exact ⟨rfl, by rw [castD_self]⟩
  · cases h
theorem castL {a b : Ty} (h : Ty.beq (.slice a) (.slice b) = true) : a = b := by have := Ty.eq_of_beq h; cases this; rfl
theorem tokP_eq {t t' : Ty} {xs : List (D t')} {ys : List (D t)} (hb : Ty.beq t' t = true) (h : ∀ p ∈ (match h : Ty.beq (.slice t') (.slice t) with
    | true => [castD h (a := .slice t') (b := .slice t) xs = ys]
    | false => [False]), p) : ∃ e : t' = t, e ▸ xs = ys := by
  have := Ty.eq_of_beq hb
  subst this
  refine ⟨rfl, ?_⟩
  split at h
  · rename_i hb'
    have := h (castD hb' (a := .slice t') (b := .slice t') xs = ys) (by simp)
    rw [castL_self] at this
    exact this
  · exact (h False (by simp)).elim
/-- A way that was found leads there. -/
theorem refR_of {cv : Bool} {obs : List Ob} {ν : List Nat} {O : Avoid} {st : St} {loc : Nat → Loc} {w : World} {c : C} {v : Value} (g : Good eT X (sit O st loc w)) (hc : CR eT (sit O st loc w) c v) :
    ∀ {os : List Ob} {ns : List Nat} {x : PD os} {k : Nat}, getObs cv st.objs obs ν os ns = some x → sameRef cv st.objs os ns k c = true → (∀ p ∈ tokP os x k c, p) → refR (ns.map loc) k v := by
  intro os
  induction os with
  | nil => intro ns x k _ h; simp [sameRef, nthO] at h
  | cons o r ih =>
    intro ns x k hg hs hp
    cases ns with
    | nil => simp [getObs] at hg
    | cons n ns =>
      simp only [getObs] at hg
      split at hg
      case h_2 => cases hg
      rename_i oc hob
      split at hg
      case h_2 => cases hg
      rename_i x0 y0 h1 h2
      cases hg
      cases k with
      | succ k =>
        have hs' : sameRef cv st.objs r ns k c = true := by simpa [sameRef, nthO, nthN] using hs
        have hp' : ∀ p ∈ tokP r y0 k c, p := by cases o <;> cases c <;> simpa [tokP] using hp
        obtain ⟨l, h3, h4⟩ := ih h2 hs' hp'
        exact ⟨l, by simpa using h3, h4⟩
      | zero =>
        refine ⟨loc n, by simp, ?_⟩
        cases o with
        | box T cls =>
          cases c <;> simp [sameRef, nthO, nthN] at hs
          rename_i m off
          cases off with
          | succ off => simp at hs
          | zero =>
            have hs : n = m := by simpa using hs
            subst hs
            cases oc <;> simp only [getO, reduceCtorEq] at h1
            obtain ⟨b, k1, k2⟩ := hc.2 _ _ hob
            have k1 : (loc n).v = _ := k1
            rw [k2, k1]; rfl
        | row kp t =>
          cases c <;> simp [sameRef, nthO, nthN] at hs
          · rename_i t' xs m
            obtain ⟨_, hs, hb, hk⟩ := hs
            subst hs
            simp only [tokP] at hp
            obtain ⟨e, he⟩ := tokP_eq hb hp
            subst e
            rw [hob] at hk
            cases oc <;> simp at hk
            rename_i t2 ys
            cases cv <;> simp only [getO, reduceCtorEq] at h1
            obtain ⟨e2, h3⟩ := toL_some h1
            subst e2
            simp only at h3 he
            subst h3
            subst he
            have hv := (hc.2.2 _ hob).2 rfl
            rcases (g.obj n _ hob).2 with ⟨_, ⟨a, ha⟩, _⟩ | ⟨b, vs, T, cap, ha, _⟩ <;> (rw [hv]; show (loc n).v = refV (loc n).v; rw [show (loc n).v = _ from ha]; rfl)
          · rename_i m
            obtain ⟨hs, hk⟩ := hs
            subst hs
            rw [hob] at hk
            cases oc <;> simp at hk
            rw [hc.2 _ _ hob]
            rcases (g.obj n _ hob).2 with ⟨_, ⟨a, ha⟩, _⟩ | ⟨b, vs, T, cap, ha, _⟩ <;> rw [show (sit O st loc w).loc n = loc n from rfl, show (loc n).v = _ from ha] <;> rfl
        | tok t =>
          cases c <;> simp [sameRef, nthO, nthN] at hs
          rename_i t' xs m
          obtain ⟨hs, hb⟩ := hs
          subst hs
          simp only [tokP] at hp
          obtain ⟨e, he⟩ := tokP_eq hb hp
          subst e
          cases oc <;> simp only [getO, reduceCtorEq] at h1
          obtain ⟨e2, h3⟩ := toL_some h1
          subst e2
          simp only at h3 he
          subst h3
          subst he
          have hv := (hc.2.2 _ hob).2 rfl
          rcases (g.obj n _ hob).2 with ⟨_, ⟨a, ha⟩, _⟩ | ⟨b, vs, T, cap, ha, _⟩ <;> (rw [hv]; show (loc n).v = refV (loc n).v; rw [show (loc n).v = _ from ha]; rfl)
        | ext k t =>
          cases k with
          | zero =>
            cases c <;> simp [sameRef, nthO, nthN] at hs
            rename_i m p
            cases p <;> simp at hs
            subst hs
            cases oc <;> simp only [getO, reduceCtorEq] at h1
            split at h1
            case h_2 => cases h1
            rename_i hk
            have hk := Nat.eq_of_beq_eq_true hk
            subst hk
            obtain ⟨hs', hl⟩ := hc.2 _ _ hob
            rw [show (loc n).v = _ from hl]; rfl
          | succ k =>
            cases c <;> simp [sameRef, nthO, nthN] at hs
            subst hs
            cases oc <;> simp only [getO, reduceCtorEq] at h1
            split at h1
            case h_2 => cases h1
            rename_i hk
            have hk := Nat.eq_of_beq_eq_true hk
            have hgx := (g.obj n _ hob).2
            have hv : ∃ u, (loc n).v = u ∧ refV u = u := by
              subst hk
              cases k with
              | zero => obtain ⟨e, _, b, es, clk, hm⟩ := X.map.1 hgx; exact ⟨_, hm.lv, rfl⟩
              | succ k => obtain ⟨a, ha⟩ := X.ptr (by omega) hgx; exact ⟨_, ha, rfl⟩
            obtain ⟨u, hu, hu2⟩ := hv
            rw [hc.2 _ hob rfl, show (sit O st loc w).loc n = loc n from rfl, hu]; exact hu2.symm
theorem getCls_rel {cv : Bool} {obs : List Ob} {ν : List Nat} {x : PD obs} {O : Avoid} {st : St} {loc : Nat → Loc} {w : World} (g : Good eT X (sit O st loc w)) (hx : getObs cv st.objs obs ν obs ν = some x) :
    ∀ {cls : List Cl} {cs : List C} {y : CD cls} {vs : List Value}, getCls cv st.objs obs ν cls cs = some y → CRs eT (sit O st loc w) cs vs → (∀ p ∈ condCls obs x cls cs, p) →
      clsR eT (sit O st loc w) (refR (ν.map loc)) cls y vs := by
  intro cls
  induction cls with
  | nil =>
    intro cs y vs h hc _
    cases cs with
    | nil => cases hc; exact rfl
    | cons c cs => simp [getCls] at h
  | cons cl r ih =>
    intro cs y vs h hc hp
    cases hc with
    | nil => cases cl <;> simp [getCls] at h
    | cons h1 h2 h3 =>
      rename_i c v cs vs
      cases cl with
      | d t =>
        simp only [getCls] at h
        split at h
        · rename_i x0 y0 k1 k2
          cases h
          exact ⟨asD_rel k1 h1, ih k2 h3 (fun p hp' => hp p (by simpa [condCls] using hp'))⟩
        · cases h
      | obj k =>
        simp only [getCls] at h
        split at h
        · rename_i hs
          simp only [condCls] at hp
          obtain ⟨p1, p2⟩ := allP_app.1 hp
          exact ⟨refR_of g h1 hx hs p1, ih h h3 p2⟩
        · cases h
      | nilP =>
        simp only [getCls] at h
        split at h
        · exact ⟨h1, ih h h3 (fun p hp' => hp p (by simpa [condCls] using hp'))⟩
        · cases h
/-- Arguments and results. -/
def valsR (eT : TypeId) (S : Sit) (F : Nat → Value → Prop) : (cls : List Cl) → CD cls → List Value → Prop := clsR eT S F
theorem getVs_rel {cv : Bool} {obs : List Ob} {ν : List Nat} {x : PD obs} {O : Avoid} {st : St} {loc : Nat → Loc} {w : World} (g : Good eT X (sit O st loc w)) (hx : getObs cv st.objs obs ν obs ν = some x) :
    ∀ {cls : List Cl} {cs : List SV0} {y : CD cls} {vs : List Value}, getVs cv st.objs obs ν cls cs = some y → SV0Rs eT (sit O st loc w) cs vs → (∀ p ∈ condVs obs x cls cs, p) →
      clsR eT (sit O st loc w) (refR (ν.map loc)) cls y vs := by
  intro cls
  induction cls with
  | nil =>
    intro cs y vs h hc _
    cases cs with
    | nil => cases hc; exact rfl
    | cons c cs => simp [getVs] at h
  | cons cl r ih =>
    intro cs y vs h hc hp
    cases hc with
    | nil => cases cl <;> simp [getVs] at h
    | cons h1 h3 =>
      rename_i c v cs vs
      cases cl with
      | d t =>
        simp only [getVs] at h
        split at h
        · rename_i x0 y0 k1 k2
          cases h
          exact ⟨asD0_rel k1 h1, ih k2 h3 (fun p hp' => hp p (by simpa [condVs] using hp'))⟩
        · cases h
      | obj k =>
        simp only [getVs] at h
        split at h
        · split at h
          · rename_i hs
            simp only [condVs] at hp
            obtain ⟨p1, p2⟩ := allP_app.1 hp
            exact ⟨refR_of g h1 hx hs p1, ih h h3 p2⟩
          · cases h
        · cases h
      | nilP =>
        simp only [getVs] at h
        split at h
        · exact ⟨h1, ih h h3 (fun p hp' => hp p (by simpa [condVs] using hp'))⟩
        · cases h
theorem getObs_rel {cv : Bool} {obs : List Ob} {ν : List Nat} {x : PD obs} {O : Avoid} {st : St} {loc : Nat → Loc} {w : World} (g : Good eT X (sit O st loc w)) (hx : getObs cv st.objs obs ν obs ν = some x) :
    ∀ {os : List Ob} {ns : List Nat} {y : PD os}, getObs cv st.objs obs ν os ns = some y → (∀ p ∈ condObs obs x st.objs os ns, p) →
      obsR eT X (sit O st loc w) (refR (ν.map loc)) os y (ns.map loc) := by
  intro os
  induction os with
  | nil =>
    intro ns y h _
    cases ns with
    | nil => exact rfl
    | cons n ns => simp [getObs] at h
  | cons o r ih =>
    intro ns y h hp
    cases ns with
    | nil => simp [getObs] at h
    | cons n ns =>
      simp only [getObs] at h
      split at h
      case h_2 => cases h
      rename_i oc hob
      split at h
      case h_2 => cases h
      rename_i x0 y0 h1 h2
      cases h
      have hor := (g.obj n oc hob).2
      have hrest : ∀ p ∈ condObs obs x st.objs r ns, p := by
        cases o <;> simp only [condObs] at hp
        · exact (allP_app.1 hp).2
        · exact hp
        · exact hp
        · exact hp
      refine ⟨?_, ih h2 hrest⟩
      show obR eT X _ _ o x0 (loc n)
      cases o with
      | box T cls =>
        cases oc <;> simp only [getO, reduceCtorEq] at h1
        rename_i T' cs
        split at h1
        case h_2 => cases h1
        rename_i hT
        have hT := Nat.eq_of_beq_eq_true hT
        subst hT
        obtain ⟨b, vs, k1, k2, k3, k4⟩ := hor
        simp only [condObs, hob] at hp
        exact ⟨b, vs, k1, k2, k3, getCls_rel g hx h1 k4 (allP_app.1 hp).1, fun v hv => CRs.oneCells k4 v hv⟩
      | row kp t =>
        cases oc <;> simp only [getO, reduceCtorEq] at h1
        · obtain ⟨e, h3⟩ := toL_some h1
          subst e; simp only at h3; subst h3
          exact hor
        · split at h1
          · obtain ⟨e, h3⟩ := toL_some h1
            subst e; simp only at h3; subst h3
            exact hor
          · cases h1
      | tok t =>
        cases oc <;> simp only [getO, reduceCtorEq] at h1
        obtain ⟨e, h3⟩ := toL_some h1
        subst e; simp only at h3; subst h3
        exact hor
      | ext k t =>
        cases oc <;> simp only [getO, reduceCtorEq] at h1
        split at h1
        case h_2 => cases h1
        rename_i hk
        have hk := Nat.eq_of_beq_eq_true hk
        subst hk
        obtain ⟨e, h3⟩ := toX_some h1
        subst e; simp only at h3; subst h3
        exact hor
end
end Go.Vg
