/- A part of the proof that the law TopStamp holds of the given program: facts that are used there. -/
import Derived.Test.YtgokjhhcfemnhabMrl10
set_option linter.unusedSimpArgs false
set_option linter.unusedVariables false
namespace Go.Mrl
open Go.Vg
/-! Lists that are the same. -/
theorem list_eq_nth {t : Ty} {a b : List (D t)} (hl : a.length = b.length) (h : ∀ i, i < a.length → nth t a i = nth t b i) : a = b := by
  apply List.ext_getElem hl
  intro i h1 h2
  have := h i h1
  rwa [show nth t a i = a[i] from nth_eq (List.getElem?_eq_getElem h1), show nth t b i = b[i] from nth_eq (List.getElem?_eq_getElem h2)] at this
def sameI (a b : List Int) : Bool := decide (a = b)
def sameS (a b : List (List UInt8)) : Bool := decide (a = b)
def sameP (a b : List (D tPatch)) : Bool := decide (a = b)
theorem sameI_true {a b : List Int} (hl : (a.length : Int) = b.length) (h : ∀ i, i < a.length → nth (.int .i64) a i = nth (.int .i64) b i) : true = sameI a b := by
  rw [list_eq_nth (t := .int .i64) (by omega) h]; simp [sameI]
theorem sameI_len {a b : List Int} (hl : ¬ (a.length : Int) = b.length) : false = sameI a b := by
  symm; simp only [sameI, decide_eq_false_iff_not]; intro e; exact hl (by rw [e])
theorem sameI_at {a b : List Int} {i : Nat} (h : ¬ nth (.int .i64) a i = nth (.int .i64) b i) : false = sameI a b := by
  symm; simp only [sameI, decide_eq_false_iff_not]; intro e; exact h (by rw [e])
theorem sameS_true {a b : List (List UInt8)} (hl : (a.length : Int) = b.length) (h : ∀ i, i < a.length → nth .str a i = nth .str b i) : true = sameS a b := by
  rw [list_eq_nth (t := .str) (by omega) h]; simp [sameS]
theorem sameS_len {a b : List (List UInt8)} (hl : ¬ (a.length : Int) = b.length) : false = sameS a b := by
  symm; simp only [sameS, decide_eq_false_iff_not]; intro e; exact hl (by rw [e])
theorem sameS_at {a b : List (List UInt8)} {i : Nat} (h : ¬ nth .str a i = nth .str b i) : false = sameS a b := by
  symm; simp only [sameS, decide_eq_false_iff_not]; intro e; exact h (by rw [e])
theorem nth_next {α : Type} {p : Nat → α → Prop} {f : Nat → α} {k : Nat} (h : ∀ j, j < k → p j (f j)) (hk : p k (f k)) : ∀ j, j < k + 1 → p j (f j) := by
  intro j hj
  by_cases e : j = k
  · subst e; exact hk
  · exact h j (by omega)
theorem upto_next {p : Nat → Prop} {k : Nat} (h : ∀ j, j < k → p j) (hk : p k) : ∀ j, j < k + 1 → p j := by
  intro j hj
  by_cases e : j = k
  · subst e; exact hk
  · exact h j (by omega)
theorem sameE_bases (x : List Int × List (D tRange)) : sameE (basesF x).2 (numE (basesF x).2) = true := by
  unfold basesF
  split
  · rfl
  · split
    · rfl
    · split <;> rfl
end Go.Mrl
