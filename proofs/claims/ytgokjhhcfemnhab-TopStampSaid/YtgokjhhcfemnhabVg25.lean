/- A part of the proof that the law TopStamp holds of the given program: facts that are used there. -/
import Derived.Test.YtgokjhhcfemnhabVg24
namespace Go.Vg
open Go.RowKit
def flatCls : List Cl → Bool
  | [] => true
  | .d t :: r => t.flat && flatCls r
  | _ :: r => flatCls r
def flatObs : List Ob → Bool
  | [] => true
  | .box _ cls :: r => flatCls cls && flatObs r
  | .row _ t :: r => t.flat && flatObs r
  | .tok t :: r => t.flat && flatObs r
  | .ext _ _ :: r => flatObs r
def noTok : List Ob → Bool
  | [] => true
  | .tok _ :: _ => false
  | _ :: r => noTok r
section
variable {eT : TypeId} {X : Ext}
theorem VR.to {t : Ty} {x : D t} {S S' : Sit} {v : Value} (hw : S'.w = S.w) (hA : t.flat = true ∨ ∀ b o, S'.A b o → S.A b o) (h : VR eT t x S.A S.w v) : VR eT t x S'.A S'.w v := by
  rcases hA with hA | hA
  · exact VR.of_flat hA h
  · rw [hw]; exact VR.weak h fun b o k h' => k (hA b o h')
/-- Where each thing lies now. -/
def Laid (eT : TypeId) (S : Sit) : (os : List Ob) → PD os → List Nat → List Loc → Prop
  | [], _, ns, ls => ns = [] ∧ ls = []
  | o :: r, x, n :: ns, l :: ls => (S.loc n = l ∧ n < S.next ∧ (match o, x.1 with
    | .box _ _, _ => ∃ b, l.v = .pointer (some ⟨b, 0, none⟩)
    | .tok t, y => VR eT (.slice t) y S.A S.w l.v ∧ ∀ ys, S.ob n = some (.tok t ys) → ys = y
    | .row _ _, _ => ∃ a k c, l.v = .slice a k c
    | .ext 0 _, _ => ∃ v, ∃ hs : List Value, l.v = .tuple (v :: hs).toArray
    | .ext (_ + 1) _, _ => refV l.v = l.v)) ∧ Laid eT S r x.2 ns ls
  | _, _, _, _ => False
theorem CR_ref {S : Sit} : ∀ {os : List Ob} {x : PD os} {ns : List Nat} {ls : List Loc} {k : Nat} {v : Value}, Laid eT S os x ns ls → refR ls k v → CR eT S (refAt os x ns k) v := by
  intro os
  induction os with
  | nil => intro x ns ls k v h hr; exact trivial
  | cons o r ih =>
    intro x ns ls k v h hr
    match ns, ls, h with
    | n :: ns, l :: ls, ⟨⟨h1, h2, h3⟩, h4⟩ =>
      obtain ⟨l0, hl, hv⟩ := hr
      cases k with
      | succ k => exact ih h4 ⟨l0, by simpa using hl, hv⟩
      | zero =>
        simp at hl
        subst hl
        subst hv
        show CR eT S (refC o x.1 n) _
        cases o with
        | box T cls =>
          obtain ⟨b, hb⟩ := h3
          rw [hb]
          exact ⟨h2, fun T cs _ => ⟨b, by rw [h1]; exact hb, rfl⟩⟩
        | row kp t =>
          obtain ⟨a, k, c, hb⟩ := h3
          rw [hb]
          exact ⟨h2, fun t xs _ => by rw [h1, hb]; rfl⟩
        | tok t =>
          obtain ⟨a, c, hb, _⟩ := len_rel h3.1
          rw [show refV l.v = l.v by rw [hb]; rfl]
          exact ⟨h3.1, h2, fun ys hy => by rw [h3.2 ys hy]; exact ⟨Nat.le_refl _, fun _ => by rw [h1]⟩⟩
        | ext k t =>
          cases k with
          | zero =>
            obtain ⟨v, hs, hb⟩ := h3
            rw [hb]
            exact ⟨h2, fun t x _ => ⟨hs, by rw [h1, hb]; rfl⟩⟩
          | succ k =>
            rw [show refV l.v = l.v from h3]
            exact ⟨h2, fun oc _ _ => by rw [h1]⟩
theorem clsC_rel {S S' : Sit} {F : Nat → Value → Prop} {f : Nat → C} (hw : S'.w = S.w) (hF : ∀ k v, F k v → CR eT S' (f k) v) : ∀ {cls : List Cl} {x : CD cls} {vs : List Value},
    (flatCls cls = true ∨ ∀ b o, S'.A b o → S.A b o) → clsR eT S F cls x vs → (∀ v ∈ vs, v.oneCell' = true) → CRs eT S' (clsC f cls x) vs := by
  intro cls
  induction cls with
  | nil => intro x vs _ h _; rw [show vs = [] from h]; exact .nil
  | cons cl r ih =>
    intro x vs hA h h1
    cases vs with
    | nil => cases cl <;> exact h.elim
    | cons v vs =>
      have hr : flatCls r = true ∨ ∀ b o, S'.A b o → S.A b o := by
        rcases hA with hA | hA
        · left; cases cl <;> simp [flatCls] at hA <;> first | exact hA.2 | exact hA
        · exact .inr hA
      cases cl with
      | d t =>
        refine .cons (VR.to hw ?_ h.1) (h1 v (by simp)) (ih hr h.2 fun u hu => h1 u (by simp [hu]))
        rcases hA with hA | hA
        · left; simp [flatCls] at hA; exact hA.1
        · exact .inr hA
      | obj k => exact .cons (hF k v h.1) (h1 v (by simp)) (ih hr h.2 fun u hu => h1 u (by simp [hu]))
      | nilP => exact .cons h.1 (h1 v (by simp)) (ih hr h.2 fun u hu => h1 u (by simp [hu]))
theorem clsV_rel {S S' : Sit} {F : Nat → Value → Prop} {f : Nat → C} (hw : S'.w = S.w) (hF : ∀ k v, F k v → CR eT S' (f k) v) : ∀ {cls : List Cl} {x : CD cls} {vs : List Value},
    (flatCls cls = true ∨ ∀ b o, S'.A b o → S.A b o) → clsR eT S F cls x vs → SV0Rs eT S' (clsV f cls x) vs := by
  intro cls
  induction cls with
  | nil => intro x vs _ h; rw [show vs = [] from h]; exact .nil
  | cons cl r ih =>
    intro x vs hA h
    cases vs with
    | nil => cases cl <;> exact h.elim
    | cons v vs =>
      have hr : flatCls r = true ∨ ∀ b o, S'.A b o → S.A b o := by
        rcases hA with hA | hA
        · left; cases cl <;> simp [flatCls] at hA <;> first | exact hA.2 | exact hA
        · exact .inr hA
      cases cl with
      | d t =>
        refine .cons (show VR eT t x.1 S'.A S'.w v from VR.to hw ?_ h.1) (ih hr h.2)
        rcases hA with hA | hA
        · left; simp [flatCls] at hA; exact hA.1
        · exact .inr hA
      | obj k => exact .cons (hF k v h.1) (ih hr h.2)
      | nilP => exact .cons h.1 (ih hr h.2)
theorem Elems.to {S S' : Sit} {t : Ty} {xs : List (D t)} {vs : Array Value} (hw : S'.w = S.w) (hA : t.flat = true ∨ ∀ b o, S'.A b o → S.A b o) (h : Elems eT S t xs vs) : Elems eT S' t xs vs := by
  intro i y hy
  obtain ⟨us, h1, h2⟩ := h i y hy
  refine ⟨us, ?_, h2⟩
  rcases hA with hA | hA
  · exact h1.of_flat hA
  · rw [hw]; exact h1.frame fun b o v k h' => ⟨h', fun h'' => k (hA b o h'')⟩
theorem RowR.to {S S' : Sit} {t : Ty} {xs : List (D t)} {l : Loc} (hw : S'.w = S.w) (hA : t.flat = true ∨ ∀ b o, S'.A b o → S.A b o) (h : OR eT X S l (.mrow t xs)) : OR eT X S' l (.mrow t xs) := by
  rcases h with h | ⟨b, vs, T, cap, h1, h2, h3, h4, h5, h6, h7⟩
  · exact .inl h
  · exact .inr ⟨b, vs, T, cap, h1, h2, by rw [hw]; exact h3, h4, h5, h6, h7.to hw hA⟩
def flatOb (o : Ob) : Bool := flatObs [o]
theorem obR_OR {S S' : Sit} {F : Nat → Value → Prop} {f : Nat → C} (hw : S'.w = S.w) (hF : ∀ k v, F k v → CR eT S' (f k) v) {o : Ob} {x : OD o} {l : Loc}
    (hA : flatOb o = true ∨ ∀ b o, S'.A b o → S.A b o) (h : obR eT X S F o x l) : OR eT X S' l (ocOf f o x) := by
  cases o with
  | box T cls =>
    obtain ⟨b, vs, h1, h2, h3, h4, h5⟩ := h
    refine ⟨b, vs, h1, h2, by rw [hw]; exact h3, clsC_rel hw hF ?_ h4 h5⟩
    rcases hA with hA | hA
    · left; simpa [flatOb, flatObs] using hA
    · exact .inr hA
  | row kp t =>
    refine RowR.to hw ?_ h
    rcases hA with hA | hA
    · left; simpa [flatOb, flatObs] using hA
    · exact .inr hA
  | tok t =>
    refine RowR.to (X := X) (l := l) hw ?_ h
    rcases hA with hA | hA
    · left; simpa [flatOb, flatObs] using hA
    · exact .inr hA
  | ext k t => show X.rel _ _ _ _ _; rw [hw]; exact h
/-- A list that may be appended to, read as data. -/
theorem tok_data {S : Sit} {t : Ty} {xs : List (D t)} {l : Loc} (h : OR eT X S l (.tok t xs)) (hA : ∀ b ∈ l.bs, ∀ off, off < xs.length * t.size → ¬ S.A b off) : VR eT (.slice t) xs S.A S.w l.v := by
  rcases h with ⟨rfl, ⟨a, ha⟩, _⟩ | ⟨b, vs, T, cap, h1, h2, h3, h4, h5, h6, he⟩
  · exact VR.of_one rfl ⟨_, rfl, by simp, .inl ⟨rfl, a, 0, ha⟩⟩
  · refine VR.of_one rfl ⟨_, rfl, h6, .inr ⟨b, 0, cap, h1, h5, fun i y hy => ?_⟩⟩
    obtain ⟨us, r1, r2⟩ := he i y hy
    refine ⟨us, r1, fun j u hj => ⟨?_, ?_⟩⟩
    · rw [Nat.zero_add, cell_of_row S.w b _ vs T (0, 0) h3]; exact r2 j u hj
    · rw [Nat.zero_add]
      refine hA b (by rw [h2]; simp) _ ?_
      have hi := getElem?_lt hy
      have hjl := getElem?_lt hj
      rw [r1.length] at hjl
      have : (i + 1) * t.size ≤ xs.length * t.size := Nat.mul_le_mul_right _ hi
      rw [Nat.add_mul] at this
      omega
/-- Names go with places. -/
def locOf : List Nat → List Loc → (Nat → Loc) → Nat → Loc
  | n :: ns, l :: ls, d, m => if n = m then l else locOf ns ls d m
  | _, _, d, m => d m
theorem locOf_not : ∀ {ns : List Nat} {ls : List Loc} {d : Nat → Loc} {m : Nat}, m ∉ ns → locOf ns ls d m = d m
  | [], _, _, _, _ => by cases ‹List Loc› <;> rfl
  | n :: ns, [], _, _, _ => rfl
  | n :: ns, l :: ls, d, m, h => by
    simp only [List.mem_cons, not_or] at h
    simp only [locOf]
    rw [if_neg (fun e => h.1 e.symm)]
    exact locOf_not h.2
theorem memN_iff {n : Nat} {l : List Nat} : memN n l = true ↔ n ∈ l := by
  refine ⟨memN_mem, fun h => ?_⟩
  induction l with
  | nil => simp at h
  | cons m r ih =>
    simp only [memN]
    split
    · rfl
    · rename_i hb
      rcases List.mem_cons.1 h with h | h
      · subst h; rw [Nat.beq_refl] at hb; cases hb
      · exact ih h
theorem nodupB_cons {n : Nat} {r : List Nat} (h : nodupB (n :: r) = true) : n ∉ r ∧ nodupB r = true := by
  simp only [nodupB, Bool.and_eq_true, Bool.not_eq_true'] at h
  exact ⟨fun hm => by rw [memN_iff.2 hm] at h; exact absurd h.1 (by decide), h.2⟩
theorem locOf_get : ∀ {ns : List Nat} {ls : List Loc} {d : Nat → Loc} {i n : Nat} {l : Loc}, nodupB ns = true → ns[i]? = some n → ls[i]? = some l → locOf ns ls d n = l
  | [], _, _, _, _, _, _, h, _ => by simp at h
  | n :: ns, [], _, _, _, _, _, _, h => by simp at h
  | n :: ns, l :: ls, d, 0, m, k, _, h1, h2 => by simp at h1 h2; subst h1; subst h2; simp [locOf]
  | n :: ns, l :: ls, d, i + 1, m, k, hn, h1, h2 => by
    obtain ⟨hm, hn⟩ := nodupB_cons hn
    simp at h1 h2
    simp only [locOf]
    rw [if_neg (fun e => hm (by rw [e]; exact List.mem_of_getElem? h1))]
    exact locOf_get hn h1 h2
/-- What a look finds among things laid anew. -/
theorem objsC_find {cv : Bool} {objs : List (Nat × OC)} {obs : List Ob} {ν : List Nat} {f : Nat → C} {S : Sit} {F : Nat → Value → Prop} {loc : Nat → Loc} : ∀ {os : List Ob} {x : PD os} {ns ms : List Nat} {m : Nat} {oc : OC}, getObs cv objs obs ν os ns = some x → obsR eT X S F os x (ns.map loc) → ns.length = ms.length →
    look (objsC f os x ms) m = some oc → ∃ (i n : Nat) (o : Ob) (y : OD o) (oc0 : OC), ns[i]? = some n ∧ ms[i]? = some m ∧ os[i]? = some o ∧ look objs n = some oc0 ∧ getO cv objs obs ν o oc0 = some y ∧ oc = ocOf f o y ∧ obR eT X S F o y (loc n) := by
  intro os
  induction os with
  | nil => intro x ns ms m oc _ _ _ h; simp [objsC, look] at h
  | cons o r ih =>
    intro x ns ms m oc hg hR hl h
    cases ns with
    | nil => simp [getObs] at hg
    | cons n ns =>
      cases ms with
      | nil => simp at hl
      | cons k ms =>
        simp only [getObs] at hg
        split at hg
        case h_2 => cases hg
        rename_i oc0 hob
        split at hg
        case h_2 => cases hg
        rename_i x0 y0 h1 h2
        cases hg
        simp only [objsC, look_cons] at h
        split at h
        · rename_i e
          cases h
          exact ⟨0, n, o, x0, oc0, rfl, by simp [e], rfl, hob, h1, rfl, hR.1⟩
        · obtain ⟨i, n', o', y', oc', k1, k2, k3, k4⟩ := ih h2 hR.2 (by simpa using hl) h
          exact ⟨i + 1, n', o', y', oc', by simpa using k1, by simpa using k2, by simpa using k3, k4⟩
theorem getO_lo {cv : Bool} {objs : List (Nat × OC)} {obs : List Ob} {ν : List Nat} {f : Nat → C} {o : Ob} {y : OD o} {oc : OC} (h : getO cv objs obs ν o oc = some y) : (ocOf f o y).lo = oc.lo ∨ cv = true := by
  cases o <;> cases oc <;> simp only [getO, reduceCtorEq] at h
  · exact .inl rfl
  · exact .inl rfl
  · split at h
    · exact .inr rfl
    · cases h
  · obtain ⟨e, h3⟩ := toL_some h
    subst e; simp only at h3; subst h3; exact .inl rfl
  · exact .inl rfl
theorem getO_kind {cv : Bool} {objs : List (Nat × OC)} {obs : List Ob} {ν : List Nat} {o : Ob} {y : OD o} {oc : OC} (h : getO cv objs obs ν o oc = some y) (f : Nat → C) : (∀ T cls, o = .box T cls → ∃ cs, oc = .cells T cs) ∧
    (∀ k t, o = .ext k t → ∃ x, oc = .ext k t x) ∧ (∀ k t, o = .row k t → cv = false → ∃ xs, oc = .mrow t xs) ∧ ((∀ t, o ≠ .tok t) → cv = false → ∀ t xs, oc ≠ .tok t xs) := by
  refine ⟨fun T cls e => ?_, fun k t e => ?_, fun k t e e2 => ?_, fun h1 h2 t xs e => ?_⟩
  · subst e
    cases oc <;> simp only [getO, reduceCtorEq] at h
    split at h
    · rename_i hT; rw [Nat.eq_of_beq_eq_true hT]; exact ⟨_, rfl⟩
    · cases h
  · subst e
    cases oc <;> simp only [getO, reduceCtorEq] at h
    split at h
    · rename_i hT
      obtain ⟨e, _⟩ := toX_some h
      subst e
      rw [Nat.eq_of_beq_eq_true hT]; exact ⟨_, rfl⟩
    · cases h
  · subst e; subst e2
    cases oc <;> simp only [getO, reduceCtorEq] at h
    · obtain ⟨e, _⟩ := toL_some h
      subst e
      exact ⟨_, rfl⟩
  · subst e; subst h2
    cases o <;> simp only [getO, reduceCtorEq] at h
    exact h1 _ rfl
theorem getObs_len {cv : Bool} {objs : List (Nat × OC)} {obs : List Ob} {ν : List Nat} : ∀ {os : List Ob} {ns : List Nat} {x : PD os}, getObs cv objs obs ν os ns = some x → os.length = ns.length := by
  intro os
  induction os with
  | nil => intro ns x h; cases ns with | nil => rfl | cons => simp [getObs] at h
  | cons o r ih =>
    intro ns x h
    cases ns with
    | nil => simp [getObs] at h
    | cons n ns =>
      simp only [getObs] at h
      split at h
      case h_2 => cases h
      split at h
      case h_2 => cases h
      rename_i h2
      simp [ih h2]
theorem objsC_mem {f : Nat → C} : ∀ {os : List Ob} {x : PD os} {ms : List Nat} {m : Nat}, os.length = ms.length → m ∈ ms → ∃ oc, look (objsC f os x ms) m = some oc := by
  intro os
  induction os with
  | nil => intro x ms m h hm; cases ms with | nil => simp at hm | cons => simp at h
  | cons o r ih =>
    intro x ms m h hm
    cases ms with
    | nil => simp at h
    | cons k ms =>
      simp only [objsC, look_cons]
      by_cases e : k = m
      · exact ⟨_, by rw [if_pos e]⟩
      · rw [if_neg e]
        rcases List.mem_cons.1 hm with hm | hm
        · exact (e hm.symm).elim
        · exact ih (by simpa using h) hm
theorem objsC_in {f : Nat → C} : ∀ {os : List Ob} {x : PD os} {ms : List Nat} {m : Nat} {oc : OC}, look (objsC f os x ms) m = some oc → m ∈ ms := by
  intro os
  induction os with
  | nil => intro x ms m oc h; simp [objsC, look] at h
  | cons o r ih =>
    intro x ms m oc h
    cases ms with
    | nil => simp [objsC, look] at h
    | cons k ms =>
      simp only [objsC, look_cons] at h
      split at h
      · rename_i e; simp [e]
      · simp [ih h]
theorem nodup_idx : ∀ {l : List Nat} {i j n : Nat}, nodupB l = true → l[i]? = some n → l[j]? = some n → i = j
  | [], _, _, _, _, h, _ => by simp at h
  | m :: r, 0, 0, _, _, _, _ => rfl
  | m :: r, 0, j + 1, n, hn, h1, h2 => by
    simp at h1 h2; subst h1
    exact ((nodupB_cons hn).1 (List.mem_of_getElem? h2)).elim
  | m :: r, i + 1, 0, n, hn, h1, h2 => by
    simp at h1 h2; subst h2
    exact ((nodupB_cons hn).1 (List.mem_of_getElem? h1)).elim
  | m :: r, i + 1, j + 1, n, hn, h1, h2 => by
    simp at h1 h2
    rw [nodup_idx (nodupB_cons hn).2 h1 h2]
theorem flatObs_cons {a : Ob} {r : List Ob} (h : flatObs (a :: r) = true) : flatOb a = true ∧ flatObs r = true := by
  cases a <;> simp [flatObs, flatOb] at h ⊢ <;> exact h
theorem flatObs_get : ∀ {l : List Ob} {i : Nat} {o : Ob}, flatObs l = true → l[i]? = some o → flatOb o = true
  | [], _, _, _, h => by simp at h
  | a :: r, 0, o, hfl, h => by simp at h; subst h; exact (flatObs_cons hfl).1
  | a :: r, i + 1, o, hfl, h => flatObs_get (flatObs_cons hfl).2 (by simpa using h)
/-- Things are laid, one after the other. -/
theorem laid_of {S S2 : Sit} {F : Nat → Value → Prop} {f : Nat → C} {loc : Nat → Loc} (hNA : ∀ m t ys, S2.ob m = some (.tok t ys) → ∀ b ∈ (S2.loc m).bs, ∀ off, off < ys.length * t.size → ¬ S2.A b off) (hw : S2.w = S.w) :
    ∀ {os : List Ob} {x : PD os} {ns ms : List Nat}, (flatObs os = true ∨ ∀ b o, S2.A b o → S.A b o) → obsR eT X S F os x (ns.map loc) → nodupB ms = true → ns.length = ms.length → (∀ n ∈ ms, S2.ob n = look (objsC f os x ms) n) →
      (∀ (i n m : Nat), ns[i]? = some n → ms[i]? = some m → S2.loc m = loc n ∧ m < S2.next) → Laid eT S2 os x ms (ns.map loc) := by
  intro os
  induction os with
  | nil =>
    intro x ns ms _ h _ hl _ _
    have h : ns.map loc = [] := h
    cases ns with
    | nil => cases ms with
      | nil => exact ⟨rfl, rfl⟩
      | cons => simp at hl
    | cons => simp at h
  | cons o r ih =>
    intro x ns ms hA h hnd hl hob hloc
    cases ns with
    | nil => exact h.elim
    | cons n ns =>
      cases ms with
      | nil => simp at hl
      | cons m ms =>
        obtain ⟨hm, hnd'⟩ := nodupB_cons hnd
        obtain ⟨h1, h2⟩ := hloc 0 n m rfl rfl
        have hA' : flatObs r = true ∨ ∀ b o, S2.A b o → S.A b o := by
          rcases hA with hA | hA
          · left; cases o <;> simp [flatObs] at hA <;> first | exact hA.2 | exact hA
          · exact .inr hA
        refine ⟨⟨h1, h2, ?_⟩, ih hA' h.2 hnd' (by simpa using hl) (fun k hk => ?_) (fun i a b ha hb => hloc (i + 1) a b (by simpa using ha) (by simpa using hb))⟩
        · cases o with
          | box T cls => obtain ⟨b, vs, k1, _⟩ := h.1; exact ⟨b, k1⟩
          | row kp t => rcases h.1 with ⟨_, ⟨a, ha⟩, _⟩ | ⟨b, vs, T, cap, ha, _⟩ <;> exact ⟨_, _, _, ha⟩
          | tok t =>
            have hobm : S2.ob m = some (.tok t x.1) := by rw [hob m (by simp)]; simp [objsC, look_cons, ocOf]
            refine ⟨?_, fun ys hy => by rw [hobm] at hy; cases hy; rfl⟩
            refine tok_data (X := X) (RowR.to (X := X) (l := loc n) hw ?_ h.1) fun b hb off ho => hNA m t x.1 hobm b (by rw [h1]; exact hb) off ho
            rcases hA with hA | hA
            · left; simp [flatObs] at hA; exact hA.1
            · exact .inr hA
          | ext k t =>
            cases k with
            | zero =>
              have hd := X.deep.1 h.1
              obtain ⟨e, s, rfl, _⟩ := deep_spot hd
              obtain ⟨_, _, v, hs, hv, _⟩ := hd
              exact ⟨v, hs, hv⟩
            | succ k =>
              show refV (loc n).v = (loc n).v
              cases k with
              | zero => obtain ⟨e, _, b, es, clk, hm⟩ := X.map.1 h.1; rw [hm.lv]; rfl
              | succ k => obtain ⟨a, ha⟩ := X.ptr (by omega) h.1; rw [ha]; rfl
        · rw [hob k (by simp [hk])]
          simp only [objsC, look_cons]
          rw [if_neg (fun e => hm (by rw [e]; exact hk))]
/-- Things found in one situation lie in another one, beside others. -/
theorem relay {cv : Bool} {obs : List Ob} {ν : List Nat} {x : PD obs} {O : Avoid} {st : St} {loc : Nat → Loc} {w : World} (g : Good eT X (sit O st loc w)) (hx : getObs cv st.objs obs ν obs ν = some x)
    (hp : ∀ p ∈ condObs obs x st.objs obs ν, p) (hnd : nodupB ν = true)
    {O2 : Avoid} {ν2 : List Nat} {rest : List (Nat × OC)} {locR : Nat → Loc} {st2 : St} (hnd2 : nodupB ν2 = true) (hlen : ν.length = ν2.length)
    (hobjs : st2.objs = objsC (refAt obs x ν2) obs x ν2 ++ rest) (hlt : ∀ n ∈ ν2, n < st2.next)
    (hO2 : ∀ n ∈ ν, ∀ b ∈ (loc n).bs, ∀ off, ¬ O2 b off)
    (hD : ∀ n ∈ ν, ∀ b ∈ (loc n).bs, ∀ m oc, look rest m = some oc → m ∉ ν2 → b ∉ (locR m).bs)
    (hR : ∀ m oc, look rest m = some oc → m ∉ ν2 → m < st2.next ∧ OR eT X (sit O2 st2 (locOf ν2 (ν.map loc) locR) w) (locR m) oc)
    (hR2 : ∀ m m' oc oc' b, look rest m = some oc → look rest m' = some oc' → m ∉ ν2 → m' ∉ ν2 → b ∈ (locR m).bs → b ∈ (locR m').bs → m = m')
    (hR3 : ∀ m oc b off, look rest m = some oc → m ∉ ν2 → b ∈ (locR m).bs → ¬ O2 b off)
    (hA : flatObs obs = true ∨ ∀ b o, (sit O2 st2 (locOf ν2 (ν.map loc) locR) w).A b o → (sit O st loc w).A b o) :
    Good eT X (sit O2 st2 (locOf ν2 (ν.map loc) locR) w) ∧ Laid eT (sit O2 st2 (locOf ν2 (ν.map loc) locR) w) obs x ν2 (ν.map loc) := by
  have hobs := getObs_rel (X := X) g hx hx hp
  have hol := getObs_len hx
  generalize hf : refAt obs x ν2 = f at hobjs
  -- what is there
  have hob : ∀ m oc, (sit O2 st2 (locOf ν2 (ν.map loc) locR) w).ob m = some oc →
      (∃ (i n : Nat) (o : Ob) (y : OD o) (oc0 : OC), ν[i]? = some n ∧ ν2[i]? = some m ∧ look st.objs n = some oc0 ∧ getO cv st.objs obs ν o oc0 = some y ∧ oc = ocOf f o y ∧ obR eT X (sit O st loc w) (refR (ν.map loc)) o y (loc n) ∧
        locOf ν2 (ν.map loc) locR m = loc n ∧ obs[i]? = some o) ∨
      (look rest m = some oc ∧ m ∉ ν2 ∧ locOf ν2 (ν.map loc) locR m = locR m) := by
    intro m oc h
    simp only [sit, hobjs] at h
    rw [look_append] at h
    split at h
    · rename_i oc' h'
      cases h
      obtain ⟨i, n, o, y, oc0, k1, k2, k3, k4, k5, k6, k7⟩ := objsC_find hx hobs hlen h'
      exact .inl ⟨i, n, o, y, oc0, k1, k2, k4, k5, k6, k7, locOf_get hnd2 k2 (by simp [k1]), k3⟩
    · rename_i h'
      have : m ∉ ν2 := fun hm => by
        obtain ⟨oc1, h1⟩ := objsC_mem (f := f) (x := x) (by omega) hm
        rw [h1] at h'; cases h'
      exact .inr ⟨h, this, locOf_not this⟩
  have hap : ∀ m m' oc oc' b, (sit O2 st2 (locOf ν2 (ν.map loc) locR) w).ob m = some oc → (sit O2 st2 (locOf ν2 (ν.map loc) locR) w).ob m' = some oc' →
      b ∈ (locOf ν2 (ν.map loc) locR m).bs → b ∈ (locOf ν2 (ν.map loc) locR m').bs → m = m' := by
    intro m m' oc oc' b h1 h2 h3 h4
    rcases hob m oc h1 with ⟨i, n, o, y, oc0, k1, k2, k4, _, _, _, k8, _⟩ | ⟨k1, k2, k3⟩ <;> rcases hob m' oc' h2 with ⟨i', n', o', y', oc0', j1, j2, j4, _, _, _, j8, _⟩ | ⟨j1, j2, j3⟩
    · rw [k8] at h3; rw [j8] at h4
      have e := g.apart n n' oc0 oc0' b k4 j4 h3 h4
      subst e
      have := nodup_idx hnd k1 j1
      subst this
      rw [k2] at j2; cases j2; rfl
    · rw [k8] at h3; rw [j3] at h4
      exact (hD n (List.mem_of_getElem? k1) b h3 m' oc' j1 j2 h4).elim
    · rw [k3] at h3; rw [j8] at h4
      exact (hD n' (List.mem_of_getElem? j1) b h4 m oc k1 k2 h3).elim
    · rw [k3] at h3; rw [j3] at h4
      exact hR2 m m' oc oc' b k1 j1 k2 j2 h3 h4
  have hout : ∀ m oc b off, (sit O2 st2 (locOf ν2 (ν.map loc) locR) w).ob m = some oc → b ∈ (locOf ν2 (ν.map loc) locR m).bs → ¬ O2 b off := by
    intro m oc b off h1 h2
    rcases hob m oc h1 with ⟨i, n, o, y, oc0, k1, k2, k4, _, _, _, k8, _⟩ | ⟨k1, k2, k3⟩
    · rw [k8] at h2; exact hO2 n (List.mem_of_getElem? k1) b h2 off
    · rw [k3] at h2; exact hR3 m oc b off k1 k2 h2
  have hNA : ∀ m t ys, (sit O2 st2 (locOf ν2 (ν.map loc) locR) w).ob m = some (.tok t ys) → ∀ b ∈ ((sit O2 st2 (locOf ν2 (ν.map loc) locR) w).loc m).bs, ∀ off, off < ys.length * t.size → ¬ (sit O2 st2 (locOf ν2 (ν.map loc) locR) w).A b off := by
    rintro m t ys h1 b hb off ho (h2 | ⟨m', oc', h2, h3, h4⟩)
    · exact hout m _ b off h1 hb h2
    · have := hap m m' _ oc' b h1 h2 hb h3
      subst this
      rw [h1] at h2; cases h2
      simp only [OC.lo] at h4
      omega
  have hlaid : Laid eT (sit O2 st2 (locOf ν2 (ν.map loc) locR) w) obs x ν2 (ν.map loc) := by
    refine laid_of (X := X) (S := sit O st loc w) (f := f) hNA rfl hA hobs hnd2 hlen (fun n hn => ?_) (fun i n m h1 h2 => ⟨locOf_get hnd2 h2 (by simp [h1]), hlt m (List.mem_of_getElem? h2)⟩)
    show look st2.objs n = _
    rw [hobjs, look_append]
    obtain ⟨oc1, h1⟩ := objsC_mem (f := f) (x := x) (by omega) hn
    rw [h1]
  refine ⟨⟨fun m oc h => ?_, fun m m' oc oc' b h1 h2 h3 h4 => hap m m' oc oc' b h1 h2 h3 h4, fun m oc b off h1 h2 => hout m oc b off h1 h2⟩, hlaid⟩
  rcases hob m oc h with ⟨i, n, o, y, oc0, k1, k2, k4, k5, k6, k7, k8, k9⟩ | ⟨k1, k2, k3⟩
  · refine ⟨hlt m (List.mem_of_getElem? k2), ?_⟩
    show OR _ _ _ (locOf ν2 (ν.map loc) locR m) oc
    rw [k8, k6]
    refine obR_OR (S := sit O st loc w) (S' := sit O2 st2 (locOf ν2 (ν.map loc) locR) w) rfl (fun k v hk => by rw [← hf]; exact CR_ref hlaid hk) ?_ k7
    rcases hA with hA | hA
    · left
      exact flatObs_get hA k9
    · exact .inr hA
  · obtain ⟨h1, h2⟩ := hR m oc k1 k2
    refine ⟨h1, ?_⟩
    show OR _ _ _ (locOf ν2 (ν.map loc) locR m) oc
    rw [k3]; exact h2
def upto : Nat → Nat → List Nat
  | _, 0 => []
  | k, m + 1 => k :: upto (k + 1) m
def findN (obs : List Ob) (cls : List Cl) (vs : List SV0) (objs : List (Nat × OC)) (as : List (Nat × Nat)) : Option (List Nat) :=
  match bindVs cls vs as with
  | some as1 => match bindObs objs 0 obs as1 with
    | some as2 => namesFrom as2 0 obs.length
    | none => none
  | none => none
theorem upto_get : ∀ (m k i : Nat), i < m → (upto k m)[i]? = some (k + i)
  | m + 1, k, 0, _ => by simp [upto]
  | m + 1, k, i + 1, h => by
    simp only [upto, List.getElem?_cons_succ]
    rw [upto_get m (k + 1) i (by omega)]
    congr 1; omega
theorem upto_mem : ∀ {m k n : Nat}, n ∈ upto k m → k ≤ n ∧ n < k + m
  | 0, k, n, h => by simp [upto] at h
  | m + 1, k, n, h => by
    simp only [upto, List.mem_cons] at h
    rcases h with h | h
    · omega
    · have := upto_mem h; omega
theorem upto_len : ∀ (m k : Nat), (upto k m).length = m
  | 0, _ => rfl
  | m + 1, k => by simp [upto, upto_len m]
theorem upto_nodup : ∀ (m k : Nat), nodupB (upto k m) = true
  | 0, _ => rfl
  | m + 1, k => by
    simp only [upto, nodupB, upto_nodup m, Bool.and_true, Bool.not_eq_true']
    rw [Bool.eq_false_iff]
    intro h
    have := upto_mem (memN_iff.1 h)
    omega
theorem getObs_look {cv : Bool} {objs : List (Nat × OC)} {obs : List Ob} {ν : List Nat} : ∀ {os : List Ob} {ns : List Nat} {x : PD os} {n : Nat}, getObs cv objs obs ν os ns = some x → n ∈ ns →
    ∃ o oc y, o ∈ os ∧ look objs n = some oc ∧ getO cv objs obs ν o oc = some y := by
  intro os
  induction os with
  | nil => intro ns x n h hn; cases ns with | nil => simp at hn | cons => simp [getObs] at h
  | cons o r ih =>
    intro ns x n h hn
    cases ns with
    | nil => simp at hn
    | cons k ns =>
      simp only [getObs] at h
      split at h
      case h_2 => cases h
      rename_i oc hob
      split at h
      case h_2 => cases h
      rename_i x0 y0 h1 h2
      rcases List.mem_cons.1 hn with e | hn
      · subst e; exact ⟨o, oc, x0, by simp, hob, h1⟩
      · obtain ⟨o', oc', y', k1, k2⟩ := ih h2 hn
        exact ⟨o', oc', y', by simp [k1], k2⟩
end
end Go.Vg
