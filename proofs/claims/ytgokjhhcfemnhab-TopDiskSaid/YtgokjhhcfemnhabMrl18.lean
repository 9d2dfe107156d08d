/- A part of the proof that the law TopDisk holds of the given program: facts that are used there. -/
import Derived.Test.YtgokjhhcfemnhabMrl17
set_option linter.unusedSimpArgs false
set_option linter.unusedVariables false
namespace Go.Mrl
open Go.Vg
/-! Disks: what their laws need. -/
theorem sameE_no {n : Int} (h0 : 0 ≤ n) (h : sameE (errNo n) n = false) : False := by rw [sameE_errNo h0] at h; cases h
theorem stepOf_err (d : Dk) : 0 ≤ (stepOf d).2 := by have := stepOf_snd d; omega
theorem writeD_err (d : Dk) (a : Int) (s : List UInt8) : 0 ≤ (writeD d a s).2 := by
  unfold writeD; split
  · show (0 : Int) ≤ 1; decide
  · split
    · exact Int.le_refl 0
    · exact stepOf_err d
theorem readD_err (d : Dk) (a : Int) : 0 ≤ (readD d a).2 := by
  unfold readD; split
  · show (0 : Int) ≤ 9; decide
  · split
    · show (0 : Int) ≤ 1; decide
    · exact Int.le_refl 0
theorem flushD_err (d : Dk) : 0 ≤ (flushD d).2 := by
  unfold flushD; split
  · exact Int.le_refl 0
  · exact stepOf_err d
theorem writeD_len (d : Dk) (a : Int) (s : List UInt8) : (writeD d a s).1.2.2.1.length = d.2.2.1.length := by
  unfold writeD; split
  · rfl
  · split
    · show (d.2.2.1.set a.toNat (fullS s)).length = _; simp
    · exact congrArg (fun z => z.2.1.length) (stepOf_rest d)
theorem flushD_len (d : Dk) : (flushD d).1.2.2.1.length = d.2.2.1.length := by
  unfold flushD; split
  · rfl
  · exact congrArg (fun z => z.2.1.length) (stepOf_rest d)
theorem GoodD.up {d : Dk} {m : Nat} (h : GoodD d m) : GoodD d (m + 1) := ⟨h.len, h.fuse, h.wait, Nat.le_succ_of_le h.few⟩
end Go.Mrl
