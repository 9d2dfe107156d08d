/- A part of the proof that the law TopStamp holds of the given program: facts that are used there. -/
import Derived.Test.YtgokjhhcfemnhabMrl21
set_option linter.unusedSimpArgs false
set_option linter.unusedVariables false
namespace Go.Mrl
open Go.Vg
/-! Texts in order. -/
abbrev Str := List UInt8
def ltS (a b : Str) : Prop := Op.bytesLess a b = true
theorem u8_lt_irrefl (a : UInt8) : ¬ a < a := fun h => by have := UInt8.lt_iff_toNat_lt.1 h; omega
theorem ltS_irrefl : ∀ a : Str, ¬ ltS a a
  | [] => fun h => by cases h
  | a :: x => fun h => by
    unfold ltS at h
    simp only [Op.bytesLess, Bool.or_eq_true, decide_eq_true_eq, Bool.and_eq_true] at h
    rcases h with h | ⟨_, h⟩
    · exact u8_lt_irrefl a h
    · exact ltS_irrefl x h
theorem ltS_trans : ∀ {a b c : Str}, ltS a b → ltS b c → ltS a c
  | a, [], _, h, _ => by unfold ltS at h; cases a <;> simp [Op.bytesLess] at h
  | _, _ :: _, [], _, h => by unfold ltS at h; simp [Op.bytesLess] at h
  | [], _ :: _, _ :: _, _, _ => rfl
  | a :: x, b :: y, c :: z, h1, h2 => by
    unfold ltS at h1 h2 ⊢
    simp only [Op.bytesLess, Bool.or_eq_true, decide_eq_true_eq, Bool.and_eq_true, beq_iff_eq] at h1 h2 ⊢
    rcases h1 with h1 | ⟨rfl, h1⟩
    · rcases h2 with h2 | ⟨rfl, h2⟩
      · left; rw [UInt8.lt_iff_toNat_lt] at *; omega
      · exact .inl h1
    · rcases h2 with h2 | ⟨rfl, h2⟩
      · exact .inl h2
      · exact .inr ⟨rfl, ltS_trans h1 h2⟩
theorem ltS_total : ∀ {a b : Str}, ¬ ltS a b → ¬ ltS b a → a = b
  | [], [], _, _ => rfl
  | [], _ :: _, h, _ => (h rfl).elim
  | _ :: _, [], _, h => (h rfl).elim
  | a :: x, b :: y, h1, h2 => by
    unfold ltS at h1 h2
    simp only [Op.bytesLess, Bool.or_eq_true, decide_eq_true_eq, Bool.and_eq_true, beq_iff_eq, not_or, not_and] at h1 h2
    have hab : a = b := by
      apply UInt8.toNat_inj.1
      have h3 := h1.1; have h4 := h2.1
      rw [UInt8.lt_iff_toNat_lt] at h3 h4
      omega
    subst hab
    rw [ltS_total (h1.2 rfl) (h2.2 rfl)]
def leS (a b : Str) : Prop := ¬ ltS b a
theorem leS_refl (a : Str) : leS a a := ltS_irrefl a
theorem leS_of_lt {a b : Str} (h : ltS a b) : leS a b := fun h' => ltS_irrefl a (ltS_trans h h')
theorem leS_trans {a b c : Str} (h1 : leS a b) (h2 : leS b c) : leS a c := by
  intro h
  by_cases hab : ltS a b
  · exact h2 (ltS_trans h hab)
  · have := ltS_total hab h1; subst this; exact h2 h
theorem leS_antisymm {a b : Str} (h1 : leS a b) (h2 : leS b a) : a = b := ltS_total h2 h1
theorem lt_of_leS_ne {a b : Str} (h1 : leS a b) (h2 : a ≠ b) : ltS a b := Classical.byContradiction fun h => h2 (ltS_total h h1)
/-- Of those with the same elements but one is in order. -/
theorem sorted_unique : ∀ {a b : List Str}, a.Perm b → a.Pairwise leS → b.Pairwise leS → a = b
  | [], b, hp, _, _ => hp.nil_eq
  | x :: a, [], hp, _, _ => by have := hp.length_eq; simp at this
  | x :: a, y :: b, hp, ha, hb => by
    have ha' := List.pairwise_cons.1 ha
    have hb' := List.pairwise_cons.1 hb
    have hxy : x = y := by
      have h1 : x ∈ y :: b := hp.mem_iff.1 (by simp)
      have h2 : y ∈ x :: a := hp.mem_iff.2 (by simp)
      rcases List.mem_cons.1 h1 with h1 | h1
      · exact h1
      · rcases List.mem_cons.1 h2 with h2 | h2
        · exact h2.symm
        · exact leS_antisymm (ha'.1 y h2) (hb'.1 x h1)
    subst hxy
    rw [sorted_unique (List.perm_cons x |>.1 hp) ha'.2 hb'.2]
def insS (x : Str) : List Str → List Str
  | [] => [x]
  | y :: r => if Op.bytesLess y x = true then y :: insS x r else x :: y :: r
def sortS (l : List Str) : List Str := l.foldr insS []
theorem insS_perm (x : Str) : ∀ l : List Str, (insS x l).Perm (x :: l)
  | [] => .refl _
  | y :: r => by
    unfold insS
    split
    · exact ((insS_perm x r).cons y).trans (List.Perm.swap x y r)
    · exact .refl _
theorem insS_sorted (x : Str) : ∀ {l : List Str}, l.Pairwise leS → (insS x l).Pairwise leS
  | [], _ => by simp [insS]
  | y :: r, h => by
    have h' := List.pairwise_cons.1 h
    unfold insS
    split
    · rename_i c
      refine List.pairwise_cons.2 ⟨fun z hz => ?_, insS_sorted x h'.2⟩
      rcases List.mem_cons.1 ((insS_perm x r).mem_iff.1 hz) with rfl | hz
      · exact leS_of_lt c
      · exact h'.1 z hz
    · rename_i c
      have hxy : leS x y := c
      refine List.pairwise_cons.2 ⟨fun z hz => ?_, h⟩
      rcases List.mem_cons.1 hz with rfl | hz
      · exact hxy
      · exact leS_trans hxy (h'.1 z hz)
theorem sortS_perm : ∀ l : List Str, (sortS l).Perm l
  | [] => .refl _
  | x :: l => (insS_perm x _).trans ((sortS_perm l).cons x)
theorem sortS_sorted : ∀ l : List Str, (sortS l).Pairwise leS
  | [] => .nil
  | x :: l => insS_sorted x (sortS_sorted l)
theorem sortS_eq {a b : List Str} (hp : a.Perm b) (hs : a.Pairwise leS) : sortS b = a := sorted_unique ((sortS_perm b).trans hp.symm) (sortS_sorted b) hs
theorem sortS_perm_eq {a b : List Str} (hp : a.Perm b) : sortS a = sortS b := sorted_unique ((sortS_perm a).trans (hp.trans (sortS_perm b).symm)) (sortS_sorted a) (sortS_sorted b)
/-! Sorting by insertion, step by step. -/
def swapL (l : List Str) (j : Nat) : List Str := (l.set j (nth .str l (j - 1))).set (j - 1) (nth .str l j)
theorem swapL_length (l : List Str) (j : Nat) : (swapL l j).length = l.length := by simp [swapL]
theorem swapL_perm {l : List Str} {j : Nat} (h0 : 0 < j) (h : j < l.length) : (swapL l j).Perm l := by
  have e1 : nth .str l (j - 1) = l[j - 1] := nth_eq (t := .str) (List.getElem?_eq_getElem (by omega))
  have e2 : nth .str l j = l[j] := nth_eq (t := .str) (List.getElem?_eq_getElem h)
  unfold swapL
  rw [e1, e2]
  exact List.set_set_perm h (by omega)
theorem swapL_nth {l : List Str} {j k : Nat} (h0 : 0 < j) (h : j < l.length) : nth .str (swapL l j) k = if k = j then nth .str l (j - 1) else if k = j - 1 then nth .str l j else nth .str l k := by
  unfold swapL
  by_cases c : k = j - 1
  · subst c
    rw [nth_set_eq (t := .str) (by simp; omega), if_neg (by omega), if_pos rfl]
  · rw [nth_set_ne (t := .str) (fun e => c e.symm)]
    by_cases c2 : k = j
    · subst c2; rw [nth_set_eq (t := .str) h, if_pos rfl]
    · rw [nth_set_ne (t := .str) (fun e => c2 e.symm), if_neg c2, if_neg c]
/-- The first so many are in order. -/
def Upto (l : List Str) (i : Nat) : Prop := ∀ a b, a < b → b < i → leS (nth .str l a) (nth .str l b)
/-- So they are, but for what stands at j as the later one. -/
def But (l : List Str) (i j : Nat) : Prop := ∀ a b, a < b → b ≤ i → b ≠ j → leS (nth .str l a) (nth .str l b)
theorem But.start {l : List Str} {i : Nat} (h : Upto l i) : But l i i := fun a b h1 h2 h3 => h a b h1 (by omega)
theorem But.swap {l : List Str} {i j : Nat} (h : But l i j) (h0 : 0 < j) (hj : j < l.length) (hi : j ≤ i) (hlt : ltS (nth .str l j) (nth .str l (j - 1))) : But (swapL l j) i (j - 1) := by
  intro a b h1 h2 h3
  rw [swapL_nth h0 hj, swapL_nth h0 hj]
  by_cases cb : b = j
  · subst cb
    rw [if_pos rfl, if_neg (by omega)]
    by_cases ca : a = b - 1
    · rw [if_pos ca]; exact leS_of_lt hlt
    · rw [if_neg ca]; exact h a (b - 1) (by omega) (by omega) (by omega)
  · rw [if_neg cb, if_neg h3]
    by_cases ca : a = j
    · subst ca; rw [if_pos rfl]; exact h (a - 1) b (by omega) h2 cb
    · rw [if_neg ca]
      by_cases ca2 : a = j - 1
      · rw [if_pos ca2]; exact h j b (by omega) h2 cb
      · rw [if_neg ca2]; exact h a b h1 h2 cb
theorem But.done {l : List Str} {i j : Nat} (h : But l i j) (hj : j = 0 ∨ ¬ ltS (nth .str l j) (nth .str l (j - 1))) (hi : j ≤ i) : Upto l (i + 1) := by
  intro a b h1 h2
  by_cases c : b = j
  · subst c
    rcases hj with hj | hj
    · omega
    · by_cases ca : a = b - 1
      · rw [ca]; exact hj
      · exact leS_trans (h a (b - 1) (by omega) (by omega) (by omega)) hj
  · exact h a b h1 (by omega) c
theorem upto_sorted {l : List Str} (h : Upto l l.length) : l.Pairwise leS := by
  rw [List.pairwise_iff_getElem]
  intro i j hi hj hij
  have := h i j hij hj
  rwa [show nth .str l i = l[i] from nth_eq (t := .str) (List.getElem?_eq_getElem hi), show nth .str l j = l[j] from nth_eq (t := .str) (List.getElem?_eq_getElem hj)] at this
theorem sort_done {l xs : List Str} (hp : l.Perm xs) (h : Upto l l.length) : l = sortS xs := (sortS_eq hp (upto_sorted h)).symm
end Go.Mrl
