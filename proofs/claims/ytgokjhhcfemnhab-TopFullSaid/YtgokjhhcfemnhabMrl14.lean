/- A part of the proof that the law TopFull holds of the given program: facts that are used there. -/
import Derived.Test.YtgokjhhcfemnhabMrl12
set_option linter.unusedSimpArgs false
set_option linter.unusedVariables false
namespace Go.Mrl
open Go.Vg
/-! Room in an empty window. -/
def sumTo (s : List Int) : Nat → Int
  | 0 => 0
  | k + 1 => sumTo s k + roundF (nth (.int .i64) s k)
def Cont (l : List (Int × Int × Unit)) (S : Int) : Prop := 0 ≤ S ∧ (∃ m : Nat, S = 16 * (m : Int)) ∧ (∀ y ∈ l, y.1 + y.2.1 ≤ S) ∧ ∀ p : Int, 0 ≤ p → p < S → ∃ y ∈ l, y.1 ≤ p ∧ p < y.1 + y.2.1
theorem Cont.nil : Cont [] 0 := ⟨Int.le_refl _, ⟨0, rfl⟩, fun y hy => by simp at hy, fun p h1 h2 => by omega⟩
theorem Cont.snoc {l : List (Int × Int × Unit)} {S m : Int} (h : Cont l S) (hm : 0 < m) (h16 : ∃ k : Nat, m = 16 * (k : Int)) : Cont (l ++ [(S, m, ())]) (S + m) := by
  obtain ⟨h1, ⟨a, h2⟩, h3, h4⟩ := h
  obtain ⟨k, h5⟩ := h16
  refine ⟨by omega, ⟨a + k, by omega⟩, fun y hy => ?_, fun p h6 h7 => ?_⟩
  · rcases List.mem_append.1 hy with hy | hy
    · have := h3 y hy; omega
    · simp only [List.mem_singleton] at hy; subst hy; simp only; omega
  · by_cases c : p < S
    · obtain ⟨y, hy, h8⟩ := h4 p h6 c
      exact ⟨y, by simp [hy], h8⟩
    · exact ⟨(S, m, ()), by simp, by simp only; omega⟩
theorem Cont.base {l : List (Int × Int × Unit)} {S many : Int} (h : Cont l S) (hm : 0 < many) : ∀ (n : Nat) (k : Nat), 16 * (k : Int) ≤ S → S - 16 * (k : Int) < 16 * (n : Int) → baseAt l many n (16 * (k : Int)) = S := by
  obtain ⟨h1, ⟨a, h2⟩, h3, h4⟩ := h
  intro n
  induction n with
  | zero => intro k hk hn; omega
  | succ n ih =>
    intro k hk hn
    by_cases c : 16 * (k : Int) = S
    · rw [c]
      apply baseAt_stop
      refine freeF_true fun j hj => ?_
      have := h3 _ (nth_mem (t := tRange) hj)
      rw [apartF_true]; simp only; omega
    · obtain ⟨y, hy, h8, h9⟩ := h4 (16 * (k : Int)) (by omega) (by omega)
      have hf : freeF (16 * (k : Int), many, ()) l = false := by
        obtain ⟨j, hj, e⟩ := mem_nth (t := tRange) hy
        refine freeF_false hj ?_
        rw [e, apartF_false]; simp only; omega
      rw [baseAt_go hf, show 16 * (k : Int) + 16 = 16 * ((k + 1 : Nat) : Int) by omega]
      exact ih (k + 1) (by omega) (by omega)
theorem round16 {n : Int} (h : 1 ≤ n) : ∃ k : Nat, roundF n = 16 * (k : Int) := ⟨((n + 15) / 16).toNat, by unfold roundF; omega⟩
theorem sumTo_mono {s : List Int} (hs : ∀ j, j < s.length → 1 ≤ (nth (.int .i64) s j : Int) ∧ (nth (.int .i64) s j : Int) ≤ 40) : ∀ d k, k + d ≤ s.length → sumTo s k ≤ sumTo s (k + d) := by
  intro d
  induction d with
  | zero => intro k _; exact Int.le_refl _
  | succ d ih =>
    intro k hk
    have h1 := ih k (by omega)
    have h2 := hs (k + d) (by omega)
    have h3 := roundF_range h2.1 h2.2
    have e : sumTo s (k + (d + 1)) = sumTo s (k + d) + roundF (nth (.int .i64) s (k + d)) := rfl
    rw [e]
    omega
theorem goBases_sum {s : List Int} (hs : ∀ j, j < s.length → 1 ≤ (nth (.int .i64) s j : Int) ∧ (nth (.int .i64) s j : Int) ≤ 40) : ∀ (d k : Nat) {l : List (Int × Int × Unit)} {out : List Int}, k + d = s.length → Cont l (sumTo s k) → sumTo s k ≤ 256 →
    (goBases l (s.drop k) out).isSome = decide (sumTo s s.length ≤ 256) := by
  intro d
  induction d with
  | zero =>
    intro k l out hk hc hle
    rw [goBases_end (by omega)]
    have : k = s.length := by omega
    subst this
    simp [hle]
  | succ d ih =>
    intro k l out hk hc hle
    have h2 := hs k (by omega)
    have h3 := roundF_range h2.1 h2.2
    have hb := hc.base (many := roundF (nth (.int .i64) s k)) (by omega) 40 0 (by have := hc.1; omega) (by omega)
    simp only [Int.natCast_zero, Int.mul_zero] at hb
    rw [goBases_step (by omega), show baseAt l (roundF (nth (.int .i64) s k)) 40 0 = sumTo s k from hb]
    have hm := sumTo_mono hs d (k + 1) (by omega)
    rw [show k + 1 + d = s.length by omega] at hm
    have e : sumTo s (k + 1) = sumTo s k + roundF (nth (.int .i64) s k) := rfl
    by_cases c : 256 < sumTo s k + roundF (nth (.int .i64) s k)
    · rw [if_pos c]
      have : ¬ sumTo s s.length ≤ 256 := by omega
      simp [this]
    · rw [if_neg c]
      refine ih (k + 1) (by omega) ?_ (by omega)
      rw [e]
      exact hc.snoc (by omega) (round16 h2.1)
theorem bases_room {s : List Int} (h6 : s.length ≤ 6) (hs : ∀ j, j < s.length → 1 ≤ (nth (.int .i64) s j : Int) ∧ (nth (.int .i64) s j : Int) ≤ 40) :
    (basesF (s, [])).2 = if sumTo s s.length ≤ 256 then .nil else .no 8 := by
  rw [basesF_ok (by simp only [List.length_nil]; omega) hs (fun j hj => by simp at hj)]
  have := goBases_sum hs s.length 0 (l := []) (out := []) (by omega) Cont.nil (by simp [sumTo])
  rw [List.drop_zero] at this
  split
  · rename_i o ho
    rw [ho] at this
    simp at this
    rw [if_pos this]
  · rename_i ho
    rw [ho] at this
    simp at this
    rw [if_neg (by omega)]
end Go.Mrl
