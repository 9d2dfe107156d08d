/- A part of the proof that the law TopStamp holds of the given program: facts that are used there. -/
import Derived.Test.YtgokjhhcfemnhabMrl13
set_option linter.unusedSimpArgs false
set_option linter.unusedVariables false
namespace Go.Mrl
open Go.Vg
/-! Disks. -/
abbrev Dk := (Int × Bool × Unit) × (List (List UInt8) × (List (List UInt8) × (List (Int × List UInt8 × Unit) × Unit)))
def mulF (x : Int × Int) : Int × Int := (0, x.1 * x.2)
def fullS (s : List UInt8) : List UInt8 := s ++ List.replicate (64 - s.length) 0
def stepOf (d : Dk) : Dk × Int :=
  if d.1.2.1 = true then (d, 9) else if d.1.1 = 0 then (((-1, true, ()), d.2), 9) else (((if 0 < d.1.1 then d.1.1 - 1 else d.1.1, false, ()), d.2), 0)
def writeD (d : Dk) (at_ : Int) (s : List UInt8) : Dk × Int :=
  if at_ < 0 ∨ (d.2.2.1.length : Int) ≤ at_ ∨ 64 < s.length then (d, 1)
  else if (stepOf d).2 = 0 then (((stepOf d).1.1, d.2.1, d.2.2.1.set at_.toNat (fullS s), d.2.2.2.1 ++ [(at_, fullS s, ())], ()), 0) else stepOf d
def readD (d : Dk) (at_ : Int) : List UInt8 × Int :=
  if d.1.2.1 = true then ([], 9) else if at_ < 0 ∨ (d.2.2.1.length : Int) ≤ at_ then ([], 1) else (nth .str d.2.2.1 at_.toNat, 0)
def flushD (d : Dk) : Dk × Int :=
  if (stepOf d).2 = 0 then (((stepOf d).1.1, d.2.2.1, d.2.2.1, [], ()), 0) else stepOf d
def armD (d : Dk) (n : Int) : Dk := ((maxI n (-1), d.1.2.1, ()), d.2)
/-- Is the i-th one kept? -/
def bitOn (k : Int) (i : Nat) : Prop := (IntKind.wrap .u64 ((BitVec.ofInt IntKind.u64.bits (k.fdiv (2 ^ (i % 64))) &&& BitVec.ofInt IntKind.u64.bits 1).toNat : Int)) = 1
open Classical in
noncomputable def keepN (k : Int) (wait : List (Int × List UInt8 × Unit)) (kept : List (List UInt8)) : Nat → List (List UInt8)
  | 0 => kept
  | n + 1 => if bitOn k n then (keepN k wait kept n).set (nth tTurn wait n).1.toNat (nth tTurn wait n).2.1 else keepN k wait kept n
noncomputable def restartD (d : Dk) (k : Int) : Dk :=
  ((-1, false, ()), keepN k d.2.2.2.1 d.2.1 d.2.2.2.1.length, keepN k d.2.2.2.1 d.2.1 d.2.2.2.1.length, [], ())
def newD (n : Int) : Dk := ((-1, false, ()), List.replicate n.toNat (fullS []), List.replicate n.toNat (fullS []), [], ())
/-- What a disk is like; at most so much waits. -/
structure GoodD (d : Dk) (m : Nat) : Prop where
  len : d.2.1.length = d.2.2.1.length
  fuse : -1 ≤ d.1.1
  wait : ∀ i, i < d.2.2.2.1.length → 0 ≤ ((nth tTurn d.2.2.2.1 i).1 : Int) ∧ ((nth tTurn d.2.2.2.1 i).1 : Int) < d.2.2.1.length
  few : d.2.2.2.1.length ≤ m
theorem keepN_len (k : Int) (wait : List (Int × List UInt8 × Unit)) (kept : List (List UInt8)) : ∀ n, (keepN k wait kept n).length = kept.length
  | 0 => rfl
  | n + 1 => by unfold keepN; split <;> simp [keepN_len k wait kept n]
theorem stepOf_snd (d : Dk) : (stepOf d).2 = 0 ∨ (stepOf d).2 = 9 := by
  unfold stepOf; split
  · exact .inr rfl
  · split
    · exact .inr rfl
    · exact .inl rfl
theorem stepOf_rest (d : Dk) : (stepOf d).1.2 = d.2 := by
  unfold stepOf; split
  · rfl
  · split <;> rfl
theorem GoodD.step {d : Dk} {m : Nat} (h : GoodD d m) : GoodD (stepOf d).1 m := by
  refine ⟨by rw [stepOf_rest]; exact h.len, ?_, by rw [stepOf_rest]; exact h.wait, by rw [stepOf_rest]; exact h.few⟩
  have := h.fuse
  unfold stepOf; split
  · exact this
  · split
    · simp
    · simp only; split <;> omega
theorem nth_snoc {t : Ty} {a : List (D t)} {x : D t} {i : Nat} (h : i < (a ++ [x]).length) : nth t (a ++ [x]) i = if i < a.length then nth t a i else x := by
  unfold nth
  simp only [List.getD_eq_getElem?_getD, List.getElem?_append]
  split
  · rfl
  · simp only [List.length_append, List.length_singleton] at h
    rw [show i - a.length = 0 by omega]; rfl
theorem GoodD.write {d : Dk} {m : Nat} {at_ : Int} {s : List UInt8} (h : GoodD d m) : GoodD (writeD d at_ s).1 (m + 1) := by
  have up : ∀ {d : Dk}, GoodD d m → GoodD d (m + 1) := fun h => ⟨h.len, h.fuse, h.wait, Nat.le_succ_of_le h.few⟩
  unfold writeD
  split
  · exact up h
  · rename_i hb
    split
    · refine ⟨by simp [h.len], h.step.fuse, fun i hi => ?_, by simpa using h.few⟩
      simp only at hi ⊢
      rw [nth_snoc (t := tTurn) hi, List.length_set]
      split
      · rename_i hlt; exact h.wait i hlt
      · show 0 ≤ at_ ∧ at_ < (d.2.2.1.length : Int)
        omega
    · exact up h.step
theorem GoodD.flush {d : Dk} {m : Nat} (h : GoodD d m) : GoodD (flushD d).1 m := by
  unfold flushD
  split
  · exact ⟨rfl, h.step.fuse, fun i hi => by simp at hi, by simp⟩
  · exact h.step
theorem GoodD.arm {d : Dk} {m : Nat} {n : Int} (h : GoodD d m) : GoodD (armD d n) m := by
  refine ⟨h.len, ?_, h.wait, h.few⟩
  show -1 ≤ maxI n (-1)
  unfold maxI; split <;> omega
theorem GoodD.restart {d : Dk} {m : Nat} {k : Int} (_ : GoodD d m) : GoodD (restartD d k) m :=
  ⟨rfl, by simp [restartD], fun i hi => by simp [restartD] at hi, by simp [restartD]⟩
theorem GoodD.new (n : Int) (m : Nat) : GoodD (newD n) m := ⟨rfl, by simp [newD], fun i hi => by simp [newD] at hi, by simp [newD]⟩
theorem fullS_len {s : List UInt8} (h : s.length ≤ 64) : (fullS s).length = 64 := by simp [fullS]; omega
theorem bytes_zero (n : Nat) : bytesOf (List.replicate n 0) = List.replicate n 0 := by
  unfold bytesOf; rw [List.map_replicate]; rfl
end Go.Mrl
