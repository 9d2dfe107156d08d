/- A part of the proof that the law TopStamp holds of the given program: facts that are used there. -/
import Derived.Test.YtgokjhhcfemnhabMrl2
set_option linter.unusedSimpArgs false
set_option linter.unusedVariables false
namespace Go.Mrl
open Go.Vg
/-! Symbols that are looked for. -/
/-- The k-th symbol of the i-th object is like this. -/
def posHas (p : D tSymbol → Prop) (l : List (D tObject)) (i k : Nat) : Prop :=
  i < l.length ∧ k < (nth tObject l i).2.2.1.length ∧ p (nth tSymbol (nth tObject l i).2.2.1 k)
def isS (s : List UInt8) (x : D tSymbol) : Prop := x.1 = s
def strongS (s : List UInt8) (x : D tSymbol) : Prop := x.1 = s ∧ x.2.2.1 = false
theorem posS {l : List (D tObject)} {s : List UInt8} {i k : Nat} (hi : i < l.length) (hk : k < (nth tObject l i).2.2.1.length) (hs : (nth tSymbol (nth tObject l i).2.2.1 k).1 = s)
    (hw : (nth tSymbol (nth tObject l i).2.2.1 k).2.2.1 = false) : posHas (strongS s) l i k := ⟨hi, hk, hs, hw⟩
theorem posI {l : List (D tObject)} {s : List UInt8} {i k : Nat} (hi : i < l.length) (hk : k < (nth tObject l i).2.2.1.length) (hs : (nth tSymbol (nth tObject l i).2.2.1 k).1 = s) : posHas (isS s) l i k := ⟨hi, hk, hs⟩
def ahead (i k i' k' : Nat) : Prop := i < i' ∨ (i = i' ∧ k < k')
def Bef (p : D tSymbol → Prop) (l : List (D tObject)) (i k : Nat) : Prop := ∀ i' k', ahead i' k' i k → ¬ posHas p l i' k'
def FirstP (p : D tSymbol → Prop) (l : List (D tObject)) (i k : Nat) : Prop := posHas p l i k ∧ Bef p l i k
theorem first_unique {p : D tSymbol → Prop} {l : List (D tObject)} {i k i' k' : Nat} (h : FirstP p l i k) (h' : FirstP p l i' k') : i = i' ∧ k = k' := by
  have h1 : ¬ ahead i k i' k' := fun a => h'.2 i k a h.1
  have h2 : ¬ ahead i' k' i k := fun a => h.2 i' k' a h'.1
  unfold ahead at h1 h2
  omega
theorem first_exists {p : D tSymbol → Prop} {l : List (D tObject)} {i k : Nat} (h : posHas p l i k) : ∃ i k, FirstP p l i k := by
  have hi : ∀ n, ∀ i, i ≤ n → ∀ k, posHas p l i k → ∃ i, (∃ k, posHas p l i k) ∧ ∀ j, j < i → ∀ k, ¬ posHas p l j k := by
    intro n
    induction n with
    | zero => intro i hi k h; exact ⟨i, ⟨k, h⟩, fun j hj => by omega⟩
    | succ n ih =>
      intro i hi k h
      by_cases c : ∃ j, j < i ∧ ∃ k, posHas p l j k
      · obtain ⟨j, hj, k, hk⟩ := c
        exact ih j (by omega) k hk
      · exact ⟨i, ⟨k, h⟩, fun j hj k hk => c ⟨j, hj, k, hk⟩⟩
  obtain ⟨i0, ⟨k0, h0⟩, hmin⟩ := hi i i (Nat.le_refl _) k h
  have hk : ∀ n, ∀ k, k ≤ n → posHas p l i0 k → ∃ k, posHas p l i0 k ∧ ∀ j, j < k → ¬ posHas p l i0 j := by
    intro n
    induction n with
    | zero => intro k hk h; exact ⟨k, h, fun j hj => by omega⟩
    | succ n ih =>
      intro k hk h
      by_cases c : ∃ j, j < k ∧ posHas p l i0 j
      · obtain ⟨j, hj, h2⟩ := c
        exact ih j (by omega) h2
      · exact ⟨k, h, fun j hj h2 => c ⟨j, hj, h2⟩⟩
  obtain ⟨k1, h1, h2⟩ := hk k0 k0 (Nat.le_refl _) h0
  refine ⟨i0, k1, h1, fun i' k' ha hp => ?_⟩
  rcases ha with ha | ⟨rfl, ha⟩
  · exact hmin i' ha k' hp
  · exact h2 k' ha hp
open Classical in
noncomputable def findS (x : List (D tObject) × List UInt8) : Int × Int :=
  if h : ∃ p : Nat × Nat, FirstP (strongS x.2) x.1 p.1 p.2 then (((Classical.choose h).1 : Nat), ((Classical.choose h).2 : Nat))
  else if h : ∃ p : Nat × Nat, FirstP (isS x.2) x.1 p.1 p.2 then (((Classical.choose h).1 : Nat), ((Classical.choose h).2 : Nat))
  else (-1, -1)
theorem findS_strong {l : List (D tObject)} {s : List UInt8} {i k : Nat} (h : FirstP (strongS s) l i k) : findS (l, s) = ((i : Int), (k : Int)) := by
  have hx : ∃ p : Nat × Nat, FirstP (strongS s) l p.1 p.2 := ⟨(i, k), h⟩
  unfold findS
  rw [dif_pos hx]
  have := first_unique h (Classical.choose_spec hx)
  rw [← this.1, ← this.2]
theorem findS_weak {l : List (D tObject)} {s : List UInt8} {i k : Nat} (hn : ∀ i k, ¬ posHas (strongS s) l i k) (h : FirstP (isS s) l i k) : findS (l, s) = ((i : Int), (k : Int)) := by
  have hx : ∃ p : Nat × Nat, FirstP (isS s) l p.1 p.2 := ⟨(i, k), h⟩
  unfold findS
  rw [dif_neg (fun ⟨p, h⟩ => hn p.1 p.2 h.1), dif_pos hx]
  have := first_unique h (Classical.choose_spec hx)
  rw [← this.1, ← this.2]
theorem findS_none {l : List (D tObject)} {s : List UInt8} (hn : ∀ i k, ¬ posHas (isS s) l i k) : findS (l, s) = (-1, -1) := by
  unfold findS
  rw [dif_neg (fun ⟨p, h⟩ => hn p.1 p.2 ⟨h.1.1, h.1.2.1, h.1.2.2.1⟩), dif_neg (fun ⟨p, h⟩ => hn p.1 p.2 h.1)]
theorem findS_cases (l : List (D tObject)) (s : List UInt8) : (∃ i k : Nat, findS (l, s) = ((i : Int), (k : Int)) ∧ FirstP (strongS s) l i k) ∨
    (∃ i k : Nat, findS (l, s) = ((i : Int), (k : Int)) ∧ FirstP (isS s) l i k ∧ ∀ i k, ¬ posHas (strongS s) l i k) ∨
    (findS (l, s) = (-1, -1) ∧ ∀ i k, ¬ posHas (isS s) l i k) := by
  by_cases h1 : ∃ i k, posHas (strongS s) l i k
  · obtain ⟨i, k, h⟩ := h1
    obtain ⟨i, k, h⟩ := first_exists h
    exact .inl ⟨i, k, findS_strong h, h⟩
  · have h1' : ∀ i k, ¬ posHas (strongS s) l i k := fun i k h => h1 ⟨i, k, h⟩
    by_cases h2 : ∃ i k, posHas (isS s) l i k
    · obtain ⟨i, k, h⟩ := h2
      obtain ⟨i, k, h⟩ := first_exists h
      exact .inr (.inl ⟨i, k, findS_weak h1' h, h, h1'⟩)
    · have h2' : ∀ i k, ¬ posHas (isS s) l i k := fun i k h => h2 ⟨i, k, h⟩
      exact .inr (.inr ⟨findS_none h2', h2'⟩)
/-- What is known behind some positions. -/
def FInv (l : List (D tObject)) (s : List UInt8) (i k : Nat) (a b : Int) : Prop :=
  Bef (strongS s) l i k ∧ ((a = -1 ∧ b = -1 ∧ Bef (isS s) l i k) ∨ ∃ i0 k0 : Nat, a = i0 ∧ b = k0 ∧ FirstP (isS s) l i0 k0)
theorem FInv.start (l : List (D tObject)) (s : List UInt8) : FInv l s 0 0 (-1) (-1) :=
  ⟨fun i' k' h => by unfold ahead at h; omega, .inl ⟨rfl, rfl, fun i' k' h => by unfold ahead at h; omega⟩⟩
theorem Bef.next {p : D tSymbol → Prop} {l : List (D tObject)} {i k : Nat} (h : Bef p l i k) (hn : ¬ posHas p l i k) : Bef p l i (k + 1) := by
  intro i' k' ha hp
  by_cases e : i' = i ∧ k' = k
  · rw [e.1, e.2] at hp; exact hn hp
  · exact h i' k' (by unfold ahead at *; omega) hp
theorem FInv.skip {l : List (D tObject)} {s : List UInt8} {i k : Nat} {a b : Int} (h : FInv l s i k a b) (hn : ¬ (nth tSymbol (nth tObject l i).2.2.1 k).1 = s) : FInv l s i (k + 1) a b := by
  refine ⟨h.1.next fun hp => hn hp.2.2.1, ?_⟩
  rcases h.2 with ⟨h1, h2, h3⟩ | h3
  · exact .inl ⟨h1, h2, h3.next fun hp => hn hp.2.2⟩
  · exact .inr h3
theorem FInv.strong {l : List (D tObject)} {s : List UInt8} {i k : Nat} {a b : Int} (h : FInv l s i k a b) (hi : i < l.length) (hk : k < (nth tObject l i).2.2.1.length)
    (hs : (nth tSymbol (nth tObject l i).2.2.1 k).1 = s) (hw : (nth tSymbol (nth tObject l i).2.2.1 k).2.2.1 = false) : findS (l, s) = ((i : Int), (k : Int)) :=
  findS_strong ⟨⟨hi, hk, hs, hw⟩, h.1⟩
theorem FInv.weak {l : List (D tObject)} {s : List UInt8} {i k : Nat} {a b : Int} (h : FInv l s i k a b) (hi : i < l.length) (hk : k < (nth tObject l i).2.2.1.length)
    (hs : (nth tSymbol (nth tObject l i).2.2.1 k).1 = s) (hw : ¬ (nth tSymbol (nth tObject l i).2.2.1 k).2.2.1 = false) (ha : a < 0) : FInv l s i (k + 1) (i : Int) (k : Int) := by
  refine ⟨h.1.next fun hp => hw hp.2.2.2, .inr ⟨i, k, rfl, rfl, ⟨hi, hk, hs⟩, ?_⟩⟩
  rcases h.2 with ⟨_, _, h3⟩ | ⟨i0, k0, h1, _⟩
  · exact h3
  · omega
theorem FInv.more {l : List (D tObject)} {s : List UInt8} {i k : Nat} {a b : Int} (h : FInv l s i k a b)
    (hw : ¬ (nth tSymbol (nth tObject l i).2.2.1 k).2.2.1 = false) (ha : ¬ a < 0) : FInv l s i (k + 1) a b := by
  refine ⟨h.1.next fun hp => hw hp.2.2.2, ?_⟩
  rcases h.2 with ⟨h1, _, _⟩ | h3
  · omega
  · exact .inr h3
theorem Bef.row {p : D tSymbol → Prop} {l : List (D tObject)} {i k : Nat} (h : Bef p l i k) (hk : (nth tObject l i).2.2.1.length ≤ k) : Bef p l (i + 1) 0 := by
  intro i' k' ha hp
  refine h i' k' ?_ hp
  unfold ahead at *
  by_cases e : i' = i
  · subst e; have := hp.2.1; omega
  · omega
theorem FInv.row {l : List (D tObject)} {s : List UInt8} {i k : Nat} {a b : Int} (h : FInv l s i k a b) (hk : (nth tObject l i).2.2.1.length ≤ k) : FInv l s (i + 1) 0 a b := by
  refine ⟨h.1.row hk, ?_⟩
  rcases h.2 with ⟨h1, h2, h3⟩ | h3
  · exact .inl ⟨h1, h2, h3.row hk⟩
  · exact .inr h3
theorem Bef.all {p : D tSymbol → Prop} {l : List (D tObject)} {i k : Nat} (h : Bef p l i k) (hi : l.length ≤ i) : ∀ i k, ¬ posHas p l i k :=
  fun i' k' hp => h i' k' (by have := hp.1; unfold ahead; omega) hp
theorem FInv.done {l : List (D tObject)} {s : List UInt8} {i k : Nat} {a b : Int} (h : FInv l s i k a b) (hi : l.length ≤ i) : findS (l, s) = (a, b) := by
  rcases h.2 with ⟨rfl, rfl, h3⟩ | ⟨i0, k0, rfl, rfl, h3⟩
  · exact findS_none (h3.all hi)
  · exact findS_weak (h.1.all hi) h3
theorem upto1 {p : Nat → Prop} {n : Nat} (h : ∀ j, j < n → p j) (hn : p n) : ∀ j, j < n + 1 → p j := by
  intro j hj
  by_cases e : j = n
  · rw [e]; exact hn
  · exact h j (by omega)
/-- Objects that are not too much. -/
def LightO (o : D tObject) : Prop := o.1.length ≤ 6 ∧ o.2.1.length ≤ 50 ∧ o.2.2.1.length ≤ 10 ∧ o.2.2.2.1.length ≤ 10 ∧
  (∀ i, i < o.1.length → (nth .str o.1 i).length ≤ 20) ∧ (∀ i, i < o.2.2.1.length → (nth tSymbol o.2.2.1 i).1.length ≤ 20) ∧ (∀ i, i < o.2.2.2.1.length → (nth tTie o.2.2.2.1 i).2.2.2.1.length ≤ 20)
def LightOs (l : List (D tObject)) : Prop := l.length ≤ 8 ∧ ∀ i, i < l.length → LightO (nth tObject l i)
/-- What is said of where a symbol is found. -/
theorem find_in {l : List (D tObject)} {s : List UInt8} (h : 0 ≤ (findS (l, s)).1) : (findS (l, s)).1 < l.length ∧ 0 ≤ (findS (l, s)).2 ∧ (findS (l, s)).2 < (nth tObject l (findS (l, s)).1.toNat).2.2.1.length ∧
    (nth tSymbol (nth tObject l (findS (l, s)).1.toNat).2.2.1 (findS (l, s)).2.toNat).1 = s := by
  rcases findS_cases l s with ⟨i0, k0, e, f⟩ | ⟨i0, k0, e, f, n⟩ | ⟨e, n⟩
  · rw [e]; obtain ⟨h1, h2, h3⟩ := f.1; exact ⟨by simp only; omega, by simp only; omega, by simp only [Int.toNat_natCast]; omega, h3.1⟩
  · rw [e]; obtain ⟨h1, h2, h3⟩ := f.1; exact ⟨by simp only; omega, by simp only; omega, by simp only [Int.toNat_natCast]; omega, h3⟩
  · rw [e] at h; simp at h
theorem find_out {l : List (D tObject)} {s : List UInt8} (h : (findS (l, s)).1 < 0) : findS (l, s) = (-1, -1) ∧ ∀ i k, ¬ posHas (isS s) l i k := by
  rcases findS_cases l s with ⟨i0, k0, e, f⟩ | ⟨i0, k0, e, f, n⟩ | ⟨e, n⟩
  · rw [e] at h; simp only at h; omega
  · rw [e] at h; simp only at h; omega
  · exact ⟨e, n⟩
theorem find_strong {l : List (D tObject)} {s : List UInt8} {i k : Nat} (hp : posHas (strongS s) l i k) : (nth tSymbol (nth tObject l (findS (l, s)).1.toNat).2.2.1 (findS (l, s)).2.toNat).2.2.1 = false ∧
    ¬ ((i : Int) < (findS (l, s)).1 ∨ (i : Int) = (findS (l, s)).1 ∧ (k : Int) < (findS (l, s)).2) := by
  rcases findS_cases l s with ⟨i0, k0, e, f⟩ | ⟨i0, k0, e, f, n⟩ | ⟨e, n⟩
  · rw [e]
    refine ⟨f.1.2.2.2, fun h => f.2 i k ?_ hp⟩
    unfold ahead; simp only at h; omega
  · exact absurd hp (n i k)
  · exact absurd ⟨hp.1, hp.2.1, hp.2.2.1⟩ (n i k)
theorem find_weak {l : List (D tObject)} {s : List UInt8} {i k : Nat} (hp : posHas (isS s) l i k) (hw : ¬ (nth tSymbol (nth tObject l (findS (l, s)).1.toNat).2.2.1 (findS (l, s)).2.toNat).2.2.1 = false) :
    ¬ ((i : Int) < (findS (l, s)).1 ∨ (i : Int) = (findS (l, s)).1 ∧ (k : Int) < (findS (l, s)).2) := by
  rcases findS_cases l s with ⟨i0, k0, e, f⟩ | ⟨i0, k0, e, f, n⟩ | ⟨e, n⟩
  · rw [e] at hw; exact absurd f.1.2.2.2 hw
  · rw [e]
    refine fun h => f.2 i k ?_ hp
    unfold ahead; simp only at h; omega
  · exact absurd hp (n i k)
theorem two_x : findS ([([], [], [([120], 0, true, ())], [], ()), ([], [], [([120], 0, false, ())], [], ())], [120]) = (1, 0) := by
  refine findS_strong (i := 1) (k := 0) ⟨⟨by decide, by decide, rfl, rfl⟩, ?_⟩
  rintro i k (h | ⟨_, h⟩) ⟨_, h1, _, h2⟩
  · obtain rfl : i = 0 := by omega
    obtain rfl : k = 0 := by have : k < 1 := h1; omega
    cases h2
  · omega
theorem one_x : findS ([([], [], [([120], 0, true, ())], [], ())], [120]) = (0, 0) := by
  refine findS_weak (i := 0) (k := 0) ?_ ⟨⟨by decide, by decide, rfl⟩, ?_⟩
  · rintro i k ⟨h0, h1, _, h2⟩
    obtain rfl : i = 0 := by simp at h0; omega
    obtain rfl : k = 0 := by have : k < 1 := h1; omega
    cases h2
  · rintro i k (h | ⟨_, h⟩) <;> omega
end Go.Mrl
