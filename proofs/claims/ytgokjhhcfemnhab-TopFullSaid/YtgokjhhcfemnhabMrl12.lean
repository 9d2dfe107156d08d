/- A part of the proof that the law TopFull holds of the given program: facts that are used there. -/
import Derived.Test.YtgokjhhcfemnhabMrl11
set_option linter.unusedSimpArgs false
set_option linter.unusedVariables false
namespace Go.Mrl
open Go.Vg
/-! What bases are like. -/
theorem goBases_prefix : ∀ {s : List Int} {l : List (D tRange)} {out o : List Int}, goBases l s out = some o → ∃ ext, o = out ++ ext ∧ ext.length = s.length := by
  intro s
  induction s with
  | nil => intro l out o h; simp only [goBases, Option.some.injEq] at h; exact ⟨[], by simp [h], rfl⟩
  | cons n r ih =>
    intro l out o h
    simp only [goBases] at h
    split at h
    · cases h
    · obtain ⟨ext, h1, h2⟩ := ih h
      exact ⟨_ :: ext, by rw [h1, List.append_assoc]; rfl, by simp [h2]⟩
theorem goBases_next {l : List (D tRange)} {s o : List Int} {k : Nat} (hk : k < s.length) (h : goBases l (s.drop k) (o.take k) = some o) (hl : o.length = s.length) :
    (nth (.int .i64) o k : Int) = baseAt l (roundF (nth (.int .i64) s k)) 40 0 ∧ baseAt l (roundF (nth (.int .i64) s k)) 40 0 + roundF (nth (.int .i64) s k) ≤ 256 ∧
    goBases (l ++ [(baseAt l (roundF (nth (.int .i64) s k)) 40 0, roundF (nth (.int .i64) s k), ())]) (s.drop (k + 1)) (o.take (k + 1)) = some o := by
  rw [goBases_step hk] at h
  split at h
  · cases h
  · rename_i hle
    obtain ⟨ext, h1, h2⟩ := goBases_prefix h
    have hlen : (o.take k).length = k := by rw [List.length_take]; omega
    have hget : o[k]? = some (baseAt l (roundF (nth (.int .i64) s k)) 40 0) := by
      rw [h1, List.append_assoc, List.getElem?_append_right (by omega), hlen, Nat.sub_self]; rfl
    refine ⟨nth_eq (t := .int .i64) hget, by omega, ?_⟩
    have : o.take (k + 1) = o.take k ++ [baseAt l (roundF (nth (.int .i64) s k)) 40 0] := by
      rw [List.take_add_one, hget]; rfl
    rw [this]; exact h
theorem baseAt_least {l : List (D tRange)} {many : Int} : ∀ (n : Nat) (at_ : Int), baseAt l many n at_ < at_ + 16 * n →
    ∃ d : Nat, baseAt l many n at_ = at_ + 16 * d ∧ freeF (baseAt l many n at_, many, ()) l = true ∧ ∀ q : Nat, q < d → freeF (at_ + 16 * q, many, ()) l = false := by
  intro n
  induction n with
  | zero => intro at_ h; simp [baseAt] at h
  | succ n ih =>
    intro at_ h
    by_cases hf : freeF (at_, many, ()) l = true
    · rw [baseAt_stop hf]
      exact ⟨0, by simp, hf, fun q hq => by omega⟩
    · have hf : freeF (at_, many, ()) l = false := by simpa using hf
      rw [baseAt_go hf] at h ⊢
      obtain ⟨d, h1, h2, h3⟩ := ih (at_ + 16) (by omega)
      refine ⟨d + 1, by rw [h1]; omega, h2, fun q hq => ?_⟩
      cases q with
      | zero => simpa using hf
      | succ q => have := h3 q (by omega); rwa [show at_ + 16 + 16 * (q : Int) = at_ + 16 * ((q + 1 : Nat) : Int) by omega] at this
theorem base_test {l : List (D tRange)} {many b : Int} (hb : b = baseAt l many 40 0) (h : b + many ≤ 256) (hm : 0 < many) {j : Nat} (hj : 16 * (j : Int) ≤ b) :
    freeF (16 * (j : Int), many, ()) l = decide (16 * (j : Int) = b) := by
  obtain ⟨d, h1, h2, h3⟩ := baseAt_least (l := l) (many := many) 40 0 (by omega)
  rw [← hb] at h1 h2
  by_cases e : j = d
  · have e' : 16 * (j : Int) = b := by omega
    rw [e', h2]; simp
  · have := h3 j (by omega)
    rw [show (0 : Int) + 16 * (j : Int) = 16 * (j : Int) by omega] at this
    rw [this]; symm; simp; omega
theorem base_mult {l : List (D tRange)} {many : Int} (h : baseAt l many 40 0 + many ≤ 256) (hm : 0 < many) : ∃ d : Nat, baseAt l many 40 0 = 16 * d := by
  obtain ⟨d, h1, _⟩ := baseAt_least (l := l) (many := many) 40 0 (by omega)
  exact ⟨d, by omega⟩
theorem freeF_take {r : D tRange} {l : List (D tRange)} {k : Nat} (hk : k < l.length) : freeF r (l.take (k + 1)) = (freeF r (l.take k) && apartF r (nth tRange l k)) := by
  unfold freeF
  rw [List.take_add_one, getElem?_nth (t := tRange) hk]
  simp
theorem basesF_nil {s : List Int} {l : List (D tRange)} (h : (basesF (s, l)).2.isNil = true) :
    s.length ≤ 6 ∧ l.length ≤ 20 ∧ (∀ j, j < s.length → 1 ≤ (nth (.int .i64) s j : Int) ∧ (nth (.int .i64) s j : Int) ≤ 40) ∧ (∀ y ∈ l, okR y) ∧ goBases l s [] = some (basesF (s, l)).1 ∧ (basesF (s, l)).1.length = s.length := by
  by_cases h1 : 6 < s.length ∨ 20 < l.length
  · rw [basesF_many h1] at h; cases h
  · by_cases h2 : badSizes s = true ∨ badTaken l = true
    · unfold basesF at h; rw [if_neg h1, if_pos h2] at h; cases h
    · have hs : ∀ j, j < s.length → 1 ≤ (nth (.int .i64) s j : Int) ∧ (nth (.int .i64) s j : Int) ≤ 40 := by
        intro j hj
        apply Classical.byContradiction
        intro hn
        rw [basesF_size h1 hj hn] at h; cases h
      have ht : ∀ j, j < l.length → okR (nth tRange l j) := by
        intro j hj
        apply Classical.byContradiction
        intro hn
        rw [basesF_taken h1 hj hn] at h; cases h
      rw [basesF_ok h1 hs ht] at h ⊢
      refine ⟨by omega, by omega, hs, fun y hy => ?_, ?_⟩
      · obtain ⟨i, hi, e⟩ := mem_nth (t := tRange) hy; rw [← e]; exact ht i hi
      · split at h
        · rename_i o ho
          obtain ⟨ext, k1, k2⟩ := goBases_prefix ho
          simp only [ho]
          exact ⟨trivial, by rw [k1]; simpa using k2⟩
        · cases h
theorem basesF_err {s : List Int} {l : List (D tRange)} (h : (basesF (s, l)).2.isNil = false) : (basesF (s, l)).1 = [] := by
  unfold basesF at h ⊢
  split
  · rfl
  · split
    · rfl
    · rename_i h1 h2
      rw [if_neg h1, if_neg h2] at h
      split at h
      · cases h
      · rename_i ho; simp only [ho]
end Go.Mrl
namespace Go.Mrl
open Go.Vg
theorem roundF_near {n : Int} : n ≤ roundF n ∧ roundF n < n + 16 := by unfold roundF; omega
end Go.Mrl
