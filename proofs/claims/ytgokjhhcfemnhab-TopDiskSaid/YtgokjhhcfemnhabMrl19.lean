/- A part of the proof that the law TopDisk holds of the given program: facts that are used there. -/
import Derived.Test.YtgokjhhcfemnhabMrl18
set_option linter.unusedSimpArgs false
set_option linter.unusedVariables false
namespace Go.Mrl
open Go.Vg
/-! A disk that is not armed. -/
def CalmD (d : Dk) : Prop := d.1 = (-1, false, ())
theorem calm_step {d : Dk} (h : CalmD d) : stepOf d = (d, 0) :=
  stepOf_stay (by rw [h]) (by rw [h]; decide) (by rw [h]; decide)
theorem calm_bad {d : Dk} {a : Int} {s : List UInt8} (h : CalmD d) (hn : (writeD d a s).2 ≠ 0) : (writeD d a s).1 = d := by
  unfold writeD at hn ⊢
  split
  · rfl
  · rename_i hb
    rw [if_neg hb, calm_step h] at hn
    simp at hn
theorem calm_ok {d : Dk} {a : Int} {s : List UInt8} (h : CalmD d) (hn : (writeD d a s).2 = 0) :
    0 ≤ a ∧ a < (d.2.2.1.length : Int) ∧ (writeD d a s).1 = (d.1, d.2.1, d.2.2.1.set a.toNat (fullS s), d.2.2.2.1 ++ [(a, fullS s, ())], ()) := by
  by_cases hb : a < 0 ∨ (d.2.2.1.length : Int) ≤ a ∨ 64 < s.length
  · unfold writeD at hn; rw [if_pos hb] at hn; cases hn
  · refine ⟨by omega, by omega, ?_⟩
    rw [writeD_ok hb (by rw [calm_step h]), calm_step h]
theorem CalmD.write {d : Dk} {a : Int} {s : List UInt8} (h : CalmD d) : CalmD (writeD d a s).1 := by
  by_cases hn : (writeD d a s).2 = 0
  · rw [(calm_ok h hn).2.2]; exact h
  · rw [calm_bad h hn]; exact h
theorem calm_flush {d : Dk} (h : CalmD d) : flushD d = ((d.1, d.2.2.1, d.2.2.1, [], ()), 0) := by
  rw [flushD_ok (by rw [calm_step h]), calm_step h]
theorem calm_read {d : Dk} {a : Int} (h : CalmD d) (h0 : 0 ≤ a) (h1 : a < (d.2.2.1.length : Int)) : readD d a = (nth .str d.2.2.1 a.toNat, 0) :=
  readD_in (by rw [h]) (by omega)
theorem keepN_pre (k : Int) (wait : List (Int × List UInt8 × Unit)) (x : Int × List UInt8 × Unit) (kept : List (List UInt8)) : ∀ n, n ≤ wait.length → keepN k (wait ++ [x]) kept n = keepN k wait kept n
  | 0, _ => rfl
  | n + 1, h => by
    have e : nth tTurn (wait ++ [x]) n = nth tTurn wait n := by rw [nth_snoc (t := tTurn) (by simp; omega), if_pos (by omega)]
    unfold keepN
    rw [keepN_pre k wait x kept n (by omega), e]
theorem keepN_more {k : Int} {wait : List (Int × List UInt8 × Unit)} {x : Int × List UInt8 × Unit} {kept : List (List UInt8)} (h : bitOn k wait.length) :
    keepN k (wait ++ [x]) kept (wait ++ [x]).length = (keepN k wait kept wait.length).set x.1.toNat x.2.1 := by
  have e : nth tTurn (wait ++ [x]) wait.length = x := by rw [nth_snoc (t := tTurn) (by simp), if_neg (by omega)]
  rw [show (wait ++ [x]).length = wait.length + 1 by simp, ← keepN_on h, keepN_pre k wait x kept _ (Nat.le_refl _), e]
theorem keepN_same {k : Int} {wait : List (Int × List UInt8 × Unit)} {x : Int × List UInt8 × Unit} {kept : List (List UInt8)} (h : ¬ bitOn k wait.length) :
    keepN k (wait ++ [x]) kept (wait ++ [x]).length = keepN k wait kept wait.length := by
  rw [show (wait ++ [x]).length = wait.length + 1 by simp, ← keepN_off h, keepN_pre k wait x kept _ (Nat.le_refl _)]
theorem good_flush {d : Dk} {m : Nat} (h : CalmD d) (g : GoodD d m) : GoodD (flushD d).1 0 := by
  have := g.flush
  rw [calm_flush h] at this ⊢
  exact ⟨this.len, this.fuse, this.wait, Nat.le_refl 0⟩
theorem CalmD.flush {d : Dk} (h : CalmD d) : CalmD (flushD d).1 := by rw [calm_flush h]; exact h
theorem calm_read_nil {d : Dk} {a : Int} (h : CalmD d) (h0 : 0 ≤ a) (h1 : a < (d.2.2.1.length : Int)) : (errNo (readD d a).2).isNil = true := by rw [calm_read h h0 h1]; rfl
theorem calm_err {d : Dk} {a : Int} {s : List UInt8} (h : CalmD d) (hn : (errNo (writeD d a s).2).isNil = false) : (writeD d a s).1 = d :=
  calm_bad h fun e => by rw [e] at hn; cases hn
theorem calm_fine {d : Dk} {a : Int} {s : List UInt8} (h : CalmD d) (hn : (errNo (writeD d a s).2).isNil = true) :
    0 ≤ a ∧ a < (d.2.2.1.length : Int) ∧ (writeD d a s).1 = (d.1, d.2.1, d.2.2.1.set a.toNat (fullS s), d.2.2.2.1 ++ [(a, fullS s, ())], ()) := calm_ok h (errNo_nil.1 hn)
theorem takeRep_set {l : List (List UInt8)} {i n : Nat} (hl : l.length = n) (hi : i < n) : (l.take i ++ List.replicate (n - i) []).set i (nth .str l i) = l.take (i + 1) ++ List.replicate (n - (i + 1)) [] := by
  subst hl
  rw [List.set_append_right _ _ (by simp; omega), List.length_take, Nat.min_eq_left (by omega), Nat.sub_self, show l.length - i = (l.length - (i + 1)) + 1 by omega, List.replicate_succ, List.set_cons_zero, List.take_add_one]
  have : l[i]? = some (nth .str l i) := by simp [nth, List.getD_eq_getElem?_getD, hi]
  rw [this]; simp
end Go.Mrl
