/- A part of the proof that the law TopStamp holds of the given program: facts that are used there. -/
import Derived.Test.YtgokjhhcfemnhabMrl24
import Derived.Test.YtgokjhhcfemnhabMrl17
set_option linter.unusedSimpArgs false
set_option linter.unusedVariables false
namespace Go.Mrl
open Go.Vg
/-! Acts on files, and on the document's. -/
def writeS : Str := [119, 114, 105, 116, 101]
def stepF (x : FZ × RS) (a : D tAct) : FZ × RS :=
  if a.1 = writeS then ((writeFs x.1 a.2.1 a.2.2.1).1, (writeR x.2 a.2.1 a.2.2.1).1) else ((removeFs x.1 a.2.1).1, (removeR x.2 a.2.1).1)
def runF (l : List (D tAct)) : FZ × RS := l.foldl stepF (newFs, ([], 0, ()))
theorem runF_snoc (l : List (D tAct)) (a : D tAct) : runF (l ++ [a]) = stepF (runF l) a := by simp [runF]
theorem runF_next {l : List (D tAct)} {i : Nat} (h : i < l.length) : runF (l.take (i + 1)) = stepF (runF (l.take i)) (nth tAct l i) := by rw [take_snoc (t := tAct) h, runF_snoc]
theorem stepF_inv {x : FZ × RS} (a : D tAct) (h : FilesInv x.1 x.2) : FilesInv (stepF x a).1 (stepF x a).2 := by
  unfold stepF
  split
  · exact (h.write _ _).1
  · exact (h.remove _).1
theorem foldF_inv : ∀ (l : List (D tAct)) {x : FZ × RS}, FilesInv x.1 x.2 → FilesInv (l.foldl stepF x).1 (l.foldl stepF x).2
  | [], _, h => h
  | a :: l, _, h => foldF_inv l (stepF_inv a h)
theorem runF_inv (l : List (D tAct)) : FilesInv (runF l).1 (runF l).2 := foldF_inv l FilesInv.new
theorem stepF_write {x : FZ × RS} {a : D tAct} (h : a.1 = writeS) : stepF x a = ((writeFs x.1 a.2.1 a.2.2.1).1, (writeR x.2 a.2.1 a.2.2.1).1) := if_pos h
theorem stepF_remove {x : FZ × RS} {a : D tAct} (h : ¬ a.1 = writeS) : stepF x a = ((removeFs x.1 a.2.1).1, (removeR x.2 a.2.1).1) := if_neg h
theorem writeFs_code (x : FZ) (s t : Str) : 0 ≤ (writeFs x s t).2 := by
  unfold writeFs; split
  · exact nameFault_nonneg s
  · split
    · simp
    · split <;> simp
theorem removeFs_code (x : FZ) (s : Str) : 0 ≤ (removeFs x s).2 := by unfold removeFs; split <;> simp
theorem readFs_code (x : FZ) (s : Str) : 0 ≤ (readFs x s).2.2 := by unfold readFs; split <;> simp
theorem FilesInv.listS {x : FZ} {r : RS} (h : FilesInv x r) : sameS (listFs x) (r.1.map nameR) = true := by rw [h.list]; simp [sameS]
theorem FilesInv.rlen {x : FZ} {r : RS} (h : FilesInv x r) : r.1.length ≤ 6 := by rw [h.perm.length_eq, List.length_map]; exact h.len
theorem FilesInv.pre {x : FZ} {r : RS} (h : FilesInv x r) : x.2.1.1.length ≤ 6 ∧ 0 ≤ x.1.1 ∧ x.1.1 ≤ 1000000 := ⟨h.len, h.lo, h.hi⟩
theorem FilesInv.rpre {x : FZ} {r : RS} (h : FilesInv x r) : r.1.length ≤ 6 ∧ 0 ≤ r.2.1 ∧ r.2.1 ≤ 1000000 := ⟨h.rlen, by rw [h.now]; exact h.lo, by rw [h.now]; exact h.hi⟩
theorem FilesInv.lpre {x : FZ} {r : RS} (h : FilesInv x r) : x.2.1.1.length ≤ 6 ∧ (x.2.1.1.map bornF).Nodup := ⟨h.len, h.born⟩
theorem FilesInv.readE {x : FZ} {r : RS} (h : FilesInv x r) (s : Str) : sameE (errNo (readFs x s).2.2) (findR r.1 s).2.2 = true := by rw [← h.read s]; exact sameE_errNo (readFs_code x s)
theorem FilesInv.writeE {x : FZ} {r : RS} (h : FilesInv x r) (s t : Str) : sameE (errNo (writeFs x s t).2) (writeR r s t).2 = true := by rw [← (h.write s t).2]; exact sameE_errNo (writeFs_code x s t)
theorem FilesInv.removeE {x : FZ} {r : RS} (h : FilesInv x r) (s : Str) : sameE (errNo (removeFs x s).2) (removeR r s).2 = true := by rw [← (h.remove s).2]; exact sameE_errNo (removeFs_code x s)
end Go.Mrl
