/- A part of the proof that the law TopStamp holds of the given program: facts that are used there. -/
import Derived.Test.YtgokjhhcfemnhabMrl13
import Derived.Test.YtgokjhhcfemnhabMrl10
set_option linter.unusedSimpArgs false
set_option linter.unusedVariables false
namespace Go.Mrl
open Go.Vg
/-! One object more. -/
structure Ins (l l' : List (D tObject)) (o : D tObject) (n : Nat) : Prop where
  le : n ≤ l.length
  len : l'.length = l.length + 1
  low : ∀ i, i < n → nth tObject l' i = nth tObject l i
  at_ : nth tObject l' n = o
  high : ∀ i, n ≤ i → i < l.length → nth tObject l' (i + 1) = nth tObject l i
def up (n i : Nat) : Nat := if i < n then i else i + 1
theorem Ins.pos {l l' : List (D tObject)} {o : D tObject} {n : Nat} (h : Ins l l' o n) {p : D tSymbol → Prop} {i k : Nat} (hp : posHas p l i k) : posHas p l' (up n i) k := by
  obtain ⟨h1, h2, h3⟩ := hp
  have hl := h.len
  unfold up
  by_cases c : i < n
  · rw [if_pos c]; unfold posHas; rw [h.low i c]; exact ⟨by omega, h2, h3⟩
  · rw [if_neg c]; unfold posHas; rw [h.high i (by omega) h1]; exact ⟨by omega, h2, h3⟩
theorem Ins.back {l l' : List (D tObject)} {o : D tObject} {n : Nat} (h : Ins l l' o n) {p : D tSymbol → Prop} {i k : Nat} (hp : posHas p l' i k) :
    (i = n ∧ k < o.2.2.1.length ∧ p (nth tSymbol o.2.2.1 k)) ∨ ∃ j, i = up n j ∧ posHas p l j k := by
  obtain ⟨h1, h2, h3⟩ := hp
  have hl := h.len
  have hn := h.le
  by_cases c : i = n
  · subst c; rw [h.at_] at h2 h3; exact .inl ⟨rfl, h2, h3⟩
  · right
    by_cases c2 : i < n
    · rw [h.low i c2] at h2 h3
      exact ⟨i, by unfold up; rw [if_pos c2], by omega, h2, h3⟩
    · obtain ⟨j, rfl⟩ : ∃ j, i = j + 1 := ⟨i - 1, by omega⟩
      rw [h.high j (by omega) (by omega)] at h2 h3
      exact ⟨j, by unfold up; rw [if_neg (by omega)], by omega, h2, h3⟩
def hasO (p : D tSymbol → Prop) (o : D tObject) : Prop := ∃ k, k < o.2.2.1.length ∧ p (nth tSymbol o.2.2.1 k)
theorem Ins.first {l l' : List (D tObject)} {o : D tObject} {n : Nat} (h : Ins l l' o n) {p : D tSymbol → Prop} {i k : Nat} (hf : FirstP p l i k) (hn : ¬ hasO p o ∨ i < n) : FirstP p l' (up n i) k := by
  refine ⟨h.pos hf.1, fun i' k' ha hp => ?_⟩
  rcases h.back hp with ⟨e, h1, h2⟩ | ⟨j, e, h1⟩
  · rcases hn with hn | hn
    · exact hn ⟨k', h1, h2⟩
    · unfold ahead up at ha; rw [if_pos hn] at ha; omega
  · refine hf.2 j k' ?_ h1
    subst e
    unfold ahead up at *
    split at ha <;> split at ha <;> omega
theorem Ins.none {l l' : List (D tObject)} {o : D tObject} {n : Nat} (h : Ins l l' o n) {p : D tSymbol → Prop} (hl : ∀ i k, ¬ posHas p l i k) (ho : ¬ hasO p o) : ∀ i k, ¬ posHas p l' i k := by
  intro i k hp
  rcases h.back hp with ⟨_, h1, h2⟩ | ⟨j, _, h1⟩
  · exact ho ⟨k, h1, h2⟩
  · exact hl j k h1
theorem hasO_strong {o : D tObject} {s : List UInt8} (h : ¬ hasO (isS s) o) : ¬ hasO (strongS s) o := fun ⟨k, h1, h2, _⟩ => h ⟨k, h1, h2⟩
/-- Who hasn't it changes nothing. -/
theorem find_ins {l l' : List (D tObject)} {o : D tObject} {n : Nat} {s : List UInt8} (h : Ins l l' o n) (ho : ¬ hasO (isS s) o) :
    findS (l', s) = (if (n : Int) ≤ (findS (l, s)).1 then (findS (l, s)).1 + 1 else (findS (l, s)).1, (findS (l, s)).2) := by
  have key : ∀ i k : Nat, findS (l, s) = ((i : Int), (k : Int)) → findS (l', s) = (((up n i : Nat) : Int), (k : Int)) → findS (l', s) = (if (n : Int) ≤ (findS (l, s)).1 then (findS (l, s)).1 + 1 else (findS (l, s)).1, (findS (l, s)).2) := by
    intro i k e e'
    rw [e', e]
    unfold up
    simp only
    by_cases c : i < n
    · rw [if_pos c, if_neg (by omega)]
    · rw [if_neg c, if_pos (by omega)]; rfl
  rcases findS_cases l s with ⟨i, k, e, f⟩ | ⟨i, k, e, f, nn⟩ | ⟨e, nn⟩
  · exact key i k e (findS_strong (h.first f (.inl (hasO_strong ho))))
  · exact key i k e (findS_weak (h.none nn (hasO_strong ho)) (h.first f (.inl ho)))
  · rw [e, findS_none (h.none nn ho)]
    simp only
    rw [if_neg (by omega)]
/-- Who has it weakly, behind. -/
theorem find_behind {l l' : List (D tObject)} {o : D tObject} {s : List UInt8} (h : Ins l l' o l.length) (ho : ¬ hasO (strongS s) o) (hw : hasO (isS s) o → 0 ≤ (findS (l, s)).1) :
    findS (l', s) = findS (l, s) := by
  rcases findS_cases l s with ⟨i, k, e, f⟩ | ⟨i, k, e, f, nn⟩ | ⟨e, nn⟩
  · have := findS_strong (h.first f (.inl ho))
    rw [this, e]; unfold up; rw [if_pos f.1.1]
  · have := findS_weak (h.none nn ho) (h.first f (.inr f.1.1))
    rw [this, e]; unfold up; rw [if_pos f.1.1]
  · have : ¬ hasO (isS s) o := fun hx => by have := hw hx; rw [e] at this; simp at this
    rw [findS_none (h.none nn this), e]
theorem nth_append {t : Ty} {a b : List (D t)} {i : Nat} : nth t (a ++ b) i = if i < a.length then nth t a i else nth t b (i - a.length) := by
  unfold nth
  simp only [List.getD_eq_getElem?_getD, List.getElem?_append]
  split <;> rfl
theorem nth_take {t : Ty} {a : List (D t)} {n i : Nat} (h : i < n) : nth t (a.take n) i = nth t a i := by
  unfold nth
  simp only [List.getD_eq_getElem?_getD, List.getElem?_take, if_pos h]
theorem nth_drop {t : Ty} {a : List (D t)} {n i : Nat} : nth t (a.drop n) i = nth t a (n + i) := by
  unfold nth
  simp only [List.getD_eq_getElem?_getD, List.getElem?_drop]
theorem nth_one {t : Ty} (x : D t) : nth t [x] 0 = x := rfl
theorem ins_mid {l : List (D tObject)} {o : D tObject} {n : Nat} (h : n ≤ l.length) : Ins l (l.take n ++ [o] ++ l.drop n) o n := by
  have hl : (l.take n).length = n := by rw [List.length_take]; omega
  refine ⟨h, by simp only [List.length_append, List.length_take, List.length_drop, List.length_singleton]; omega, fun i hi => ?_, ?_, fun i h1 h2 => ?_⟩
  · rw [List.append_assoc, nth_append, if_pos (by omega), nth_take hi]
  · rw [List.append_assoc, nth_append, if_neg (by omega), nth_append, hl, Nat.sub_self, if_pos (by simp)]; exact nth_one (t := tObject) o
  · rw [nth_append, if_neg (by simp only [List.length_append, List.length_singleton]; omega), nth_drop]
    congr 1; simp only [List.length_append, List.length_singleton]; omega
theorem ins_end {l : List (D tObject)} {o : D tObject} : Ins l (l ++ [o]) o l.length := by
  refine ⟨Nat.le_refl _, by simp, fun i hi => ?_, ?_, fun i h1 h2 => by omega⟩
  · rw [nth_append, if_pos hi]
  · rw [nth_append, if_neg (by omega), Nat.sub_self]; exact nth_one (t := tObject) o
theorem has_next {b b' : Bool} {k : Nat} {p : Nat → Prop} (h : b = true ↔ ∃ j, j < k ∧ p j) (h' : b' = true ↔ (b = true ∨ p k)) : b' = true ↔ ∃ j, j < k + 1 ∧ p j := by
  rw [h', h]
  constructor
  · rintro (⟨j, hj, hp⟩ | hp)
    · exact ⟨j, by omega, hp⟩
    · exact ⟨k, by omega, hp⟩
  · rintro ⟨j, hj, hp⟩
    by_cases e : j = k
    · subst e; exact .inr hp
    · exact .inl ⟨j, by omega, hp⟩
theorem tmod_in {x m : Int} (hx : 0 ≤ x) (hm : 0 < m) : 0 ≤ x.tmod m ∧ x.tmod m < m := by
  rw [Int.tmod_eq_emod_of_nonneg hx]
  exact ⟨Int.emod_nonneg _ (by omega), Int.emod_lt_of_pos _ hm⟩
theorem and_small {a x : Int} (h : x = IntKind.i64.wrap ((BitVec.ofInt IntKind.i64.bits a &&& BitVec.ofInt IntKind.i64.bits 1023).toNat : Int)) : 0 ≤ x ∧ x ≤ 1023 := by
  have h1 : (BitVec.ofInt IntKind.i64.bits a &&& BitVec.ofInt IntKind.i64.bits 1023).toNat ≤ 1023 := by
    rw [BitVec.toNat_and]
    exact Nat.le_trans Nat.and_le_right (by decide)
  rw [wrap_id (by rw [I64_iff]; unfold I64; omega)] at h
  omega
end Go.Mrl
