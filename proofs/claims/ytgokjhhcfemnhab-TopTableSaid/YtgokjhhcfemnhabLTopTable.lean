/- A part of the proof that the law TopTable holds of the given program: facts that are used there. -/
import Derived.Test.YtgokjhhcfemnhabTable
import Derived.Test.YtgokjhhcfemnhabRows
set_option linter.unusedSimpArgs false
set_option linter.unusedVariables false
namespace Go.Proofs.Ytgokjhhcfemnhab
open Go.Vg Go.Mrl
/-! The law TopTable. -/
def ttAnn (l : List (D tSymbol)) (many : Int) (s : List UInt8) : Anns := [
  (0, fun st => { X := Nat, inv := fun i => i ≤ l.length, meas := fun i => l.length - i, slots := fun i => [(9, sI i)], keep := [0, 1, 2, 7, 8] }),
  (2, fun st => { X := Nat, inv := fun b => b ≤ many.toNat, meas := fun b => many.toNat - b, slots := fun b => [(11, sI b)], objs := fun b => [(objOf st 10, .mrow .bool (seenT l many.toNat b 0))], keep := [0, 1, 2, 7, 10], mods := [objOf st 10] }),
  (4, fun st => { X := Nat, inv := fun k => k ≤ l.length, meas := fun k => l.length - k, slots := fun k => [(12, sI (firstOf l many.toNat (tmpD (.int .i64) st 11).toNat k))], objs := fun k => [(objOf st 10, .mrow .bool (seenT l many.toNat (tmpD (.int .i64) st 11).toNat k))], keep := [0, 1, 2, 7, 10, 11, 69, 70, 71, 72, 73, 76, 77, 78, 79, 80], mods := [objOf st 10] }),
  (6, fun st => { X := Nat, inv := fun i => i ≤ l.length, meas := fun i => l.length - i, slots := fun i => [(13, sI i)], keep := [0, 2, 7, 10] }),
  (8, fun st => { X := Nat, inv := fun i => i ≤ l.length ∧ ∀ j, j < i → nameIs l s j = false, meas := fun i => l.length - i, slots := fun i => [(15, sI i)], keep := [0, 2, 14] })]
set_option maxRecDepth 100000 in
set_option maxHeartbeats 1000000 in
theorem vc_TopTable (l : List (D tSymbol)) (many : Int) (s : List UInt8) (hw : wfL [.slice tSymbol, .int .i64, .str] (l, many, s)) : (fnVCs Try.B Try.tableCtx Try.f6 (ttAnn l many s) [.slice tSymbol, .int .i64, .str] [.bool] (fun _ y => y = true) (l, many, s)).holds := by
  refine holds_of (p :=
    (True) ∧
      (((decide ((1 : Int) < (1 : Int))) = true →
        (((!Err.isNil (Err.no (1 : Int))) = true →
          (false = true)) ∧
        ((!Err.isNil (Err.no (1 : Int))) = false →
          (List.length (@List.nil Int) ≤ (40 : Nat)) ∧
          (((findF (([], [], ()), [([(120 : UInt8)], (0 : Int), false, ())], [(120 : UInt8)]) != (0 : Int)) = true →
            (false = true)) ∧
          ((findF (([], [], ()), [([(120 : UInt8)], (0 : Int), false, ())], [(120 : UInt8)]) != (0 : Int)) = false →
            ((List.length l ≤ big) →
            (((decide ((↑(List.length l) : Int) > (8 : Int))) = true →
              (true = true)) ∧
            ((decide ((↑(List.length l) : Int) > (8 : Int))) = false →
              ((List.length s ≤ big) →
              (((decide ((↑(List.length s) : Int) > (30 : Int))) = true →
                (true = true)) ∧
              ((decide ((↑(List.length s) : Int) > (30 : Int))) = false →
                (∃ (x : Nat), x ≤ List.length l ∧ ((0 : Int) = (↑x : Int) ∧ True) ∧ True) ∧
                (∀ x_0 : Nat,
                ((x_0 ≤ List.length l) →
                ((List.length l ≤ big) →
                (((decide ((↑x_0 : Int) < (↑(List.length l) : Int))) = true →
                  ((0 : Int) ≤ (↑x_0 : Int) ∧ (↑x_0 : Int) < (↑(List.length l) : Int)) ∧
                  ((List.length (nth tSymbol l (Int.toNat (↑x_0 : Int))).fst ≤ big) →
                  (((decide ((↑(List.length (nth tSymbol l (Int.toNat (↑x_0 : Int))).fst) : Int) > (30 : Int))) = true →
                    (true = true)) ∧
                  ((decide ((↑(List.length (nth tSymbol l (Int.toNat (↑x_0 : Int))).fst) : Int) > (30 : Int))) = false →
                    ((I64 (↑x_0 : Int)) →
                    ((I64 (1 : Int)) →
                    (I64 ((↑x_0 : Int) + (1 : Int))) ∧
                    (∃ (x' : Nat), x' ≤ List.length l ∧ List.length l - x' < List.length l - x_0 ∧ ((↑x_0 : Int) + (1 : Int) = (↑x' : Int) ∧ True) ∧ (@List.nil Int = @List.nil Int ∧ @List.nil Int = @List.nil Int ∧ True) ∧ @List.nil Int = @List.nil Int ∧ @List.nil Int = @List.nil Int ∧ True))))))) ∧
                ((decide ((↑x_0 : Int) < (↑(List.length l) : Int))) = false →
                  (True) ∧
                  (((decide (many < (1 : Int))) = true →
                    (((!Err.isNil (Err.no (1 : Int))) = true →
                      (((decide (many < (1 : Int))) = true →
                        (true = true)) ∧
                      ((decide (many < (1 : Int))) = false →
                        (decide (many > (16 : Int)) = true)))) ∧
                    ((!Err.isNil (Err.no (1 : Int))) = false →
                      ((List.length l ≤ big) →
                      ((0 : Int) ≤ (↑(List.length l) : Int) ∧ (↑(List.length l) : Int) = (↑(List.length l) : Int) ∧ (↑(List.length l) : Int) ≤ (1000000000 : Int)) ∧
                      (∃ (x : Nat), x ≤ Int.toNat many ∧ ((0 : Int) = (↑x : Int) ∧ True) ∧ List.replicate (Int.toNat (↑(List.length l) : Int)) (zeroD Ty.bool) = seenT l (Int.toNat many) x (0 : Nat) ∧ True) ∧
                      (∀ x_1 : Nat,
                      ((x_1 ≤ Int.toNat many) →
                      ((List.length (@List.nil Int) ≤ big) →
                      (((decide ((↑x_1 : Int) < (↑(List.length (@List.nil Int)) : Int))) = true →
                        ((0 : Int) ≤ (↑x_1 : Int) ∧ (↑x_1 : Int) < (↑(List.length (@List.nil Int)) : Int)) ∧
                        (∃ (x : Nat), x ≤ List.length l ∧ (nth (Ty.int IntKind.i64) (@List.nil Int) (Int.toNat (↑x_1 : Int)) = firstOf l (Int.toNat many) (Int.toNat (↑x_1 : Int)) x ∧ True) ∧ seenT l (Int.toNat many) x_1 (0 : Nat) = seenT l (Int.toNat many) (Int.toNat (↑x_1 : Int)) x ∧ True) ∧
                        (∀ x_2 : Nat,
                        ((x_2 ≤ List.length l) →
                        (((decide (firstOf l (Int.toNat many) (Int.toNat (↑x_1 : Int)) x_2 ≥ (0 : Int))) = true →
                          ((List.length l ≤ big) →
                          (((decide (firstOf l (Int.toNat many) (Int.toNat (↑x_1 : Int)) x_2 ≥ (↑(List.length l) : Int))) = true →
                            (false = true)) ∧
                          ((decide (firstOf l (Int.toNat many) (Int.toNat (↑x_1 : Int)) x_2 ≥ (↑(List.length l) : Int))) = false →
                            ((0 : Int) ≤ firstOf l (Int.toNat many) (Int.toNat (↑x_1 : Int)) x_2 ∧ firstOf l (Int.toNat many) (Int.toNat (↑x_1 : Int)) x_2 < (↑(List.length (seenT l (Int.toNat many) (Int.toNat (↑x_1 : Int)) x_2)) : Int)) ∧
                            (Int.toNat (firstOf l (Int.toNat many) (Int.toNat (↑x_1 : Int)) x_2) < List.length (seenT l (Int.toNat many) (Int.toNat (↑x_1 : Int)) x_2)) ∧
                            (((nth Ty.bool (seenT l (Int.toNat many) (Int.toNat (↑x_1 : Int)) x_2) (Int.toNat (firstOf l (Int.toNat many) (Int.toNat (↑x_1 : Int)) x_2))) = true →
                              (false = true)) ∧
                            ((nth Ty.bool (seenT l (Int.toNat many) (Int.toNat (↑x_1 : Int)) x_2) (Int.toNat (firstOf l (Int.toNat many) (Int.toNat (↑x_1 : Int)) x_2))) = false →
                              ((0 : Int) ≤ firstOf l (Int.toNat many) (Int.toNat (↑x_1 : Int)) x_2 ∧ firstOf l (Int.toNat many) (Int.toNat (↑x_1 : Int)) x_2 < (↑(List.length l) : Int)) ∧
                              (True) ∧
                              (many ≠ (0 : Int)) ∧
                              (∀ x_3 : Int,
                              ((x_3 = Int.tmod (↑(hashF (nth tSymbol l (Int.toNat (firstOf l (Int.toNat many) (Int.toNat (↑x_1 : Int)) x_2))).fst) : Int) many) →
                              (((x_3 != (↑x_1 : Int)) = true →
                                (false = true)) ∧
                              ((x_3 != (↑x_1 : Int)) = false →
                                ((0 : Int) ≤ firstOf l (Int.toNat many) (Int.toNat (↑x_1 : Int)) x_2 ∧ firstOf l (Int.toNat many) (Int.toNat (↑x_1 : Int)) x_2 < (↑(List.length (seenT l (Int.toNat many) (Int.toNat (↑x_1 : Int)) x_2)) : Int)) ∧
                                (Int.toNat (firstOf l (Int.toNat many) (Int.toNat (↑x_1 : Int)) x_2) < List.length (seenT l (Int.toNat many) (Int.toNat (↑x_1 : Int)) x_2)) ∧
                                ((0 : Int) ≤ firstOf l (Int.toNat many) (Int.toNat (↑x_1 : Int)) x_2 ∧ firstOf l (Int.toNat many) (Int.toNat (↑x_1 : Int)) x_2 < (↑(List.length (@List.nil Int)) : Int)) ∧
                                (∃ (x' : Nat), x' ≤ List.length l ∧ List.length l - x' < List.length l - x_2 ∧ (nth (Ty.int IntKind.i64) (@List.nil Int) (Int.toNat (firstOf l (Int.toNat many) (Int.toNat (↑x_1 : Int)) x_2)) = firstOf l (Int.toNat many) (Int.toNat (↑x_1 : Int)) x' ∧ True) ∧ List.set (seenT l (Int.toNat many) (Int.toNat (↑x_1 : Int)) x_2) (Int.toNat (firstOf l (Int.toNat many) (Int.toNat (↑x_1 : Int)) x_2)) true = seenT l (Int.toNat many) (Int.toNat (↑x_1 : Int)) x' ∧ (@List.nil Int = @List.nil Int ∧ @List.nil Int = @List.nil Int ∧ True) ∧ @List.nil Int = @List.nil Int ∧ @List.nil Int = @List.nil Int ∧ True))))))))))) ∧
                        ((decide (firstOf l (Int.toNat many) (Int.toNat (↑x_1 : Int)) x_2 ≥ (0 : Int))) = false →
                          ((I64 (↑x_1 : Int)) →
                          ((I64 (1 : Int)) →
                          (I64 ((↑x_1 : Int) + (1 : Int))) ∧
                          (∃ (x' : Nat), x' ≤ Int.toNat many ∧ Int.toNat many - x' < Int.toNat many - x_1 ∧ ((↑x_1 : Int) + (1 : Int) = (↑x' : Int) ∧ True) ∧ seenT l (Int.toNat many) (Int.toNat (↑x_1 : Int)) x_2 = seenT l (Int.toNat many) x' (0 : Nat) ∧ (@List.nil Int = @List.nil Int ∧ @List.nil Int = @List.nil Int ∧ True) ∧ @List.nil Int = @List.nil Int ∧ @List.nil Int = @List.nil Int ∧ True)))))))) ∧
                      ((decide ((↑x_1 : Int) < (↑(List.length (@List.nil Int)) : Int))) = false →
                        (∃ (x : Nat), x ≤ List.length l ∧ ((0 : Int) = (↑x : Int) ∧ True) ∧ True) ∧
                        (∀ x_2 : Nat,
                        ((x_2 ≤ List.length l) →
                        ((List.length l ≤ big) →
                        (((decide ((↑x_2 : Int) < (↑(List.length l) : Int))) = true →
                          ((0 : Int) ≤ (↑x_2 : Int) ∧ (↑x_2 : Int) < (↑(List.length (seenT l (Int.toNat many) x_1 (0 : Nat))) : Int)) ∧
                          (Int.toNat (↑x_2 : Int) < List.length (seenT l (Int.toNat many) x_1 (0 : Nat))) ∧
                          (((!nth Ty.bool (seenT l (Int.toNat many) x_1 (0 : Nat)) (Int.toNat (↑x_2 : Int))) = true →
                            (false = true)) ∧
                          ((!nth Ty.bool (seenT l (Int.toNat many) x_1 (0 : Nat)) (Int.toNat (↑x_2 : Int))) = false →
                            ((I64 (↑x_2 : Int)) →
                            ((I64 (1 : Int)) →
                            (I64 ((↑x_2 : Int) + (1 : Int))) ∧
                            (∃ (x' : Nat), x' ≤ List.length l ∧ List.length l - x' < List.length l - x_2 ∧ ((↑x_2 : Int) + (1 : Int) = (↑x' : Int) ∧ True) ∧ seenT l (Int.toNat many) x_1 (0 : Nat) = seenT l (Int.toNat many) x_1 (0 : Nat) ∧ (@List.nil Int = @List.nil Int ∧ @List.nil Int = @List.nil Int ∧ True) ∧ @List.nil Int = @List.nil Int ∧ @List.nil Int = @List.nil Int ∧ True)))))) ∧
                        ((decide ((↑x_2 : Int) < (↑(List.length l) : Int))) = false →
                          (List.length (@List.nil Int) ≤ (40 : Nat)) ∧
                          (∃ (x : Nat), (x ≤ List.length l ∧ ∀ (j : Nat), j < x → nameIs l s j = false) ∧ ((0 : Int) = (↑x : Int) ∧ True) ∧ True) ∧
                          (∀ x_3 : Nat,
                          ((x_3 ≤ List.length l ∧ ∀ (j : Nat), j < x_3 → nameIs l s j = false) →
                          ((List.length l ≤ big) →
                          (((decide ((↑x_3 : Int) < (↑(List.length l) : Int))) = true →
                            ((0 : Int) ≤ (↑x_3 : Int) ∧ (↑x_3 : Int) < (↑(List.length l) : Int)) ∧
                            ((((nth tSymbol l (Int.toNat (↑x_3 : Int))).fst == s) = true →
                              ((findF (([], [], ()), l, s) == (↑x_3 : Int)) = true)) ∧
                            (((nth tSymbol l (Int.toNat (↑x_3 : Int))).fst == s) = false →
                              ((I64 (↑x_3 : Int)) →
                              ((I64 (1 : Int)) →
                              (I64 ((↑x_3 : Int) + (1 : Int))) ∧
                              (∃ (x' : Nat), (x' ≤ List.length l ∧ ∀ (j : Nat), j < x' → nameIs l s j = false) ∧ List.length l - x' < List.length l - x_3 ∧ ((↑x_3 : Int) + (1 : Int) = (↑x' : Int) ∧ True) ∧ seenT l (Int.toNat many) x_1 (0 : Nat) = seenT l (Int.toNat many) x_1 (0 : Nat) ∧ (@List.nil Int = @List.nil Int ∧ @List.nil Int = @List.nil Int ∧ True) ∧ @List.nil Int = @List.nil Int ∧ @List.nil Int = @List.nil Int ∧ True)))))) ∧
                          ((decide ((↑x_3 : Int) < (↑(List.length l) : Int))) = false →
                            (decide (findF (([], [], ()), l, s) < (0 : Int)) = true)))))))))))))))))))) ∧
                  ((decide (many < (1 : Int))) = false →
                    (((decide ((16 : Int) < many)) = true →
                      (((!Err.isNil (Err.no (1 : Int))) = true →
                        (((decide (many < (1 : Int))) = true →
                          (true = true)) ∧
                        ((decide (many < (1 : Int))) = false →
                          (decide (many > (16 : Int)) = true)))) ∧
                      ((!Err.isNil (Err.no (1 : Int))) = false →
                        ((List.length l ≤ big) →
                        ((0 : Int) ≤ (↑(List.length l) : Int) ∧ (↑(List.length l) : Int) = (↑(List.length l) : Int) ∧ (↑(List.length l) : Int) ≤ (1000000000 : Int)) ∧
                        (∃ (x : Nat), x ≤ Int.toNat many ∧ ((0 : Int) = (↑x : Int) ∧ True) ∧ List.replicate (Int.toNat (↑(List.length l) : Int)) (zeroD Ty.bool) = seenT l (Int.toNat many) x (0 : Nat) ∧ True) ∧
                        (∀ x_1 : Nat,
                        ((x_1 ≤ Int.toNat many) →
                        ((List.length (@List.nil Int) ≤ big) →
                        (((decide ((↑x_1 : Int) < (↑(List.length (@List.nil Int)) : Int))) = true →
                          ((0 : Int) ≤ (↑x_1 : Int) ∧ (↑x_1 : Int) < (↑(List.length (@List.nil Int)) : Int)) ∧
                          (∃ (x : Nat), x ≤ List.length l ∧ (nth (Ty.int IntKind.i64) (@List.nil Int) (Int.toNat (↑x_1 : Int)) = firstOf l (Int.toNat many) (Int.toNat (↑x_1 : Int)) x ∧ True) ∧ seenT l (Int.toNat many) x_1 (0 : Nat) = seenT l (Int.toNat many) (Int.toNat (↑x_1 : Int)) x ∧ True) ∧
                          (∀ x_2 : Nat,
                          ((x_2 ≤ List.length l) →
                          (((decide (firstOf l (Int.toNat many) (Int.toNat (↑x_1 : Int)) x_2 ≥ (0 : Int))) = true →
                            ((List.length l ≤ big) →
                            (((decide (firstOf l (Int.toNat many) (Int.toNat (↑x_1 : Int)) x_2 ≥ (↑(List.length l) : Int))) = true →
                              (false = true)) ∧
                            ((decide (firstOf l (Int.toNat many) (Int.toNat (↑x_1 : Int)) x_2 ≥ (↑(List.length l) : Int))) = false →
                              ((0 : Int) ≤ firstOf l (Int.toNat many) (Int.toNat (↑x_1 : Int)) x_2 ∧ firstOf l (Int.toNat many) (Int.toNat (↑x_1 : Int)) x_2 < (↑(List.length (seenT l (Int.toNat many) (Int.toNat (↑x_1 : Int)) x_2)) : Int)) ∧
                              (Int.toNat (firstOf l (Int.toNat many) (Int.toNat (↑x_1 : Int)) x_2) < List.length (seenT l (Int.toNat many) (Int.toNat (↑x_1 : Int)) x_2)) ∧
                              (((nth Ty.bool (seenT l (Int.toNat many) (Int.toNat (↑x_1 : Int)) x_2) (Int.toNat (firstOf l (Int.toNat many) (Int.toNat (↑x_1 : Int)) x_2))) = true →
                                (false = true)) ∧
                              ((nth Ty.bool (seenT l (Int.toNat many) (Int.toNat (↑x_1 : Int)) x_2) (Int.toNat (firstOf l (Int.toNat many) (Int.toNat (↑x_1 : Int)) x_2))) = false →
                                ((0 : Int) ≤ firstOf l (Int.toNat many) (Int.toNat (↑x_1 : Int)) x_2 ∧ firstOf l (Int.toNat many) (Int.toNat (↑x_1 : Int)) x_2 < (↑(List.length l) : Int)) ∧
                                (True) ∧
                                (many ≠ (0 : Int)) ∧
                                (∀ x_3 : Int,
                                ((x_3 = Int.tmod (↑(hashF (nth tSymbol l (Int.toNat (firstOf l (Int.toNat many) (Int.toNat (↑x_1 : Int)) x_2))).fst) : Int) many) →
                                (((x_3 != (↑x_1 : Int)) = true →
                                  (false = true)) ∧
                                ((x_3 != (↑x_1 : Int)) = false →
                                  ((0 : Int) ≤ firstOf l (Int.toNat many) (Int.toNat (↑x_1 : Int)) x_2 ∧ firstOf l (Int.toNat many) (Int.toNat (↑x_1 : Int)) x_2 < (↑(List.length (seenT l (Int.toNat many) (Int.toNat (↑x_1 : Int)) x_2)) : Int)) ∧
                                  (Int.toNat (firstOf l (Int.toNat many) (Int.toNat (↑x_1 : Int)) x_2) < List.length (seenT l (Int.toNat many) (Int.toNat (↑x_1 : Int)) x_2)) ∧
                                  ((0 : Int) ≤ firstOf l (Int.toNat many) (Int.toNat (↑x_1 : Int)) x_2 ∧ firstOf l (Int.toNat many) (Int.toNat (↑x_1 : Int)) x_2 < (↑(List.length (@List.nil Int)) : Int)) ∧
                                  (∃ (x' : Nat), x' ≤ List.length l ∧ List.length l - x' < List.length l - x_2 ∧ (nth (Ty.int IntKind.i64) (@List.nil Int) (Int.toNat (firstOf l (Int.toNat many) (Int.toNat (↑x_1 : Int)) x_2)) = firstOf l (Int.toNat many) (Int.toNat (↑x_1 : Int)) x' ∧ True) ∧ List.set (seenT l (Int.toNat many) (Int.toNat (↑x_1 : Int)) x_2) (Int.toNat (firstOf l (Int.toNat many) (Int.toNat (↑x_1 : Int)) x_2)) true = seenT l (Int.toNat many) (Int.toNat (↑x_1 : Int)) x' ∧ (@List.nil Int = @List.nil Int ∧ @List.nil Int = @List.nil Int ∧ True) ∧ @List.nil Int = @List.nil Int ∧ @List.nil Int = @List.nil Int ∧ True))))))))))) ∧
                          ((decide (firstOf l (Int.toNat many) (Int.toNat (↑x_1 : Int)) x_2 ≥ (0 : Int))) = false →
                            ((I64 (↑x_1 : Int)) →
                            ((I64 (1 : Int)) →
                            (I64 ((↑x_1 : Int) + (1 : Int))) ∧
                            (∃ (x' : Nat), x' ≤ Int.toNat many ∧ Int.toNat many - x' < Int.toNat many - x_1 ∧ ((↑x_1 : Int) + (1 : Int) = (↑x' : Int) ∧ True) ∧ seenT l (Int.toNat many) (Int.toNat (↑x_1 : Int)) x_2 = seenT l (Int.toNat many) x' (0 : Nat) ∧ (@List.nil Int = @List.nil Int ∧ @List.nil Int = @List.nil Int ∧ True) ∧ @List.nil Int = @List.nil Int ∧ @List.nil Int = @List.nil Int ∧ True)))))))) ∧
                        ((decide ((↑x_1 : Int) < (↑(List.length (@List.nil Int)) : Int))) = false →
                          (∃ (x : Nat), x ≤ List.length l ∧ ((0 : Int) = (↑x : Int) ∧ True) ∧ True) ∧
                          (∀ x_2 : Nat,
                          ((x_2 ≤ List.length l) →
                          ((List.length l ≤ big) →
                          (((decide ((↑x_2 : Int) < (↑(List.length l) : Int))) = true →
                            ((0 : Int) ≤ (↑x_2 : Int) ∧ (↑x_2 : Int) < (↑(List.length (seenT l (Int.toNat many) x_1 (0 : Nat))) : Int)) ∧
                            (Int.toNat (↑x_2 : Int) < List.length (seenT l (Int.toNat many) x_1 (0 : Nat))) ∧
                            (((!nth Ty.bool (seenT l (Int.toNat many) x_1 (0 : Nat)) (Int.toNat (↑x_2 : Int))) = true →
                              (false = true)) ∧
                            ((!nth Ty.bool (seenT l (Int.toNat many) x_1 (0 : Nat)) (Int.toNat (↑x_2 : Int))) = false →
                              ((I64 (↑x_2 : Int)) →
                              ((I64 (1 : Int)) →
                              (I64 ((↑x_2 : Int) + (1 : Int))) ∧
                              (∃ (x' : Nat), x' ≤ List.length l ∧ List.length l - x' < List.length l - x_2 ∧ ((↑x_2 : Int) + (1 : Int) = (↑x' : Int) ∧ True) ∧ seenT l (Int.toNat many) x_1 (0 : Nat) = seenT l (Int.toNat many) x_1 (0 : Nat) ∧ (@List.nil Int = @List.nil Int ∧ @List.nil Int = @List.nil Int ∧ True) ∧ @List.nil Int = @List.nil Int ∧ @List.nil Int = @List.nil Int ∧ True)))))) ∧
                          ((decide ((↑x_2 : Int) < (↑(List.length l) : Int))) = false →
                            (List.length (@List.nil Int) ≤ (40 : Nat)) ∧
                            (∃ (x : Nat), (x ≤ List.length l ∧ ∀ (j : Nat), j < x → nameIs l s j = false) ∧ ((0 : Int) = (↑x : Int) ∧ True) ∧ True) ∧
                            (∀ x_3 : Nat,
                            ((x_3 ≤ List.length l ∧ ∀ (j : Nat), j < x_3 → nameIs l s j = false) →
                            ((List.length l ≤ big) →
                            (((decide ((↑x_3 : Int) < (↑(List.length l) : Int))) = true →
                              ((0 : Int) ≤ (↑x_3 : Int) ∧ (↑x_3 : Int) < (↑(List.length l) : Int)) ∧
                              ((((nth tSymbol l (Int.toNat (↑x_3 : Int))).fst == s) = true →
                                ((findF (([], [], ()), l, s) == (↑x_3 : Int)) = true)) ∧
                              (((nth tSymbol l (Int.toNat (↑x_3 : Int))).fst == s) = false →
                                ((I64 (↑x_3 : Int)) →
                                ((I64 (1 : Int)) →
                                (I64 ((↑x_3 : Int) + (1 : Int))) ∧
                                (∃ (x' : Nat), (x' ≤ List.length l ∧ ∀ (j : Nat), j < x' → nameIs l s j = false) ∧ List.length l - x' < List.length l - x_3 ∧ ((↑x_3 : Int) + (1 : Int) = (↑x' : Int) ∧ True) ∧ seenT l (Int.toNat many) x_1 (0 : Nat) = seenT l (Int.toNat many) x_1 (0 : Nat) ∧ (@List.nil Int = @List.nil Int ∧ @List.nil Int = @List.nil Int ∧ True) ∧ @List.nil Int = @List.nil Int ∧ @List.nil Int = @List.nil Int ∧ True)))))) ∧
                            ((decide ((↑x_3 : Int) < (↑(List.length l) : Int))) = false →
                              (decide (findF (([], [], ()), l, s) < (0 : Int)) = true)))))))))))))))))))) ∧
                    ((decide ((16 : Int) < many)) = false →
                      (((decide ((8 : Nat) < List.length l)) = true →
                        (((!Err.isNil (Err.no (2 : Int))) = true →
                          (((decide (many < (1 : Int))) = true →
                            (true = true)) ∧
                          ((decide (many < (1 : Int))) = false →
                            (decide (many > (16 : Int)) = true)))) ∧
                        ((!Err.isNil (Err.no (2 : Int))) = false →
                          ((List.length l ≤ big) →
                          ((0 : Int) ≤ (↑(List.length l) : Int) ∧ (↑(List.length l) : Int) = (↑(List.length l) : Int) ∧ (↑(List.length l) : Int) ≤ (1000000000 : Int)) ∧
                          (∃ (x : Nat), x ≤ Int.toNat many ∧ ((0 : Int) = (↑x : Int) ∧ True) ∧ List.replicate (Int.toNat (↑(List.length l) : Int)) (zeroD Ty.bool) = seenT l (Int.toNat many) x (0 : Nat) ∧ True) ∧
                          (∀ x_1 : Nat,
                          ((x_1 ≤ Int.toNat many) →
                          ((List.length (@List.nil Int) ≤ big) →
                          (((decide ((↑x_1 : Int) < (↑(List.length (@List.nil Int)) : Int))) = true →
                            ((0 : Int) ≤ (↑x_1 : Int) ∧ (↑x_1 : Int) < (↑(List.length (@List.nil Int)) : Int)) ∧
                            (∃ (x : Nat), x ≤ List.length l ∧ (nth (Ty.int IntKind.i64) (@List.nil Int) (Int.toNat (↑x_1 : Int)) = firstOf l (Int.toNat many) (Int.toNat (↑x_1 : Int)) x ∧ True) ∧ seenT l (Int.toNat many) x_1 (0 : Nat) = seenT l (Int.toNat many) (Int.toNat (↑x_1 : Int)) x ∧ True) ∧
                            (∀ x_2 : Nat,
                            ((x_2 ≤ List.length l) →
                            (((decide (firstOf l (Int.toNat many) (Int.toNat (↑x_1 : Int)) x_2 ≥ (0 : Int))) = true →
                              ((List.length l ≤ big) →
                              (((decide (firstOf l (Int.toNat many) (Int.toNat (↑x_1 : Int)) x_2 ≥ (↑(List.length l) : Int))) = true →
                                (false = true)) ∧
                              ((decide (firstOf l (Int.toNat many) (Int.toNat (↑x_1 : Int)) x_2 ≥ (↑(List.length l) : Int))) = false →
                                ((0 : Int) ≤ firstOf l (Int.toNat many) (Int.toNat (↑x_1 : Int)) x_2 ∧ firstOf l (Int.toNat many) (Int.toNat (↑x_1 : Int)) x_2 < (↑(List.length (seenT l (Int.toNat many) (Int.toNat (↑x_1 : Int)) x_2)) : Int)) ∧
                                (Int.toNat (firstOf l (Int.toNat many) (Int.toNat (↑x_1 : Int)) x_2) < List.length (seenT l (Int.toNat many) (Int.toNat (↑x_1 : Int)) x_2)) ∧
                                (((nth Ty.bool (seenT l (Int.toNat many) (Int.toNat (↑x_1 : Int)) x_2) (Int.toNat (firstOf l (Int.toNat many) (Int.toNat (↑x_1 : Int)) x_2))) = true →
                                  (false = true)) ∧
                                ((nth Ty.bool (seenT l (Int.toNat many) (Int.toNat (↑x_1 : Int)) x_2) (Int.toNat (firstOf l (Int.toNat many) (Int.toNat (↑x_1 : Int)) x_2))) = false →
                                  ((0 : Int) ≤ firstOf l (Int.toNat many) (Int.toNat (↑x_1 : Int)) x_2 ∧ firstOf l (Int.toNat many) (Int.toNat (↑x_1 : Int)) x_2 < (↑(List.length l) : Int)) ∧
                                  (True) ∧
                                  (many ≠ (0 : Int)) ∧
                                  (∀ x_3 : Int,
                                  ((x_3 = Int.tmod (↑(hashF (nth tSymbol l (Int.toNat (firstOf l (Int.toNat many) (Int.toNat (↑x_1 : Int)) x_2))).fst) : Int) many) →
                                  (((x_3 != (↑x_1 : Int)) = true →
                                    (false = true)) ∧
                                  ((x_3 != (↑x_1 : Int)) = false →
                                    ((0 : Int) ≤ firstOf l (Int.toNat many) (Int.toNat (↑x_1 : Int)) x_2 ∧ firstOf l (Int.toNat many) (Int.toNat (↑x_1 : Int)) x_2 < (↑(List.length (seenT l (Int.toNat many) (Int.toNat (↑x_1 : Int)) x_2)) : Int)) ∧
                                    (Int.toNat (firstOf l (Int.toNat many) (Int.toNat (↑x_1 : Int)) x_2) < List.length (seenT l (Int.toNat many) (Int.toNat (↑x_1 : Int)) x_2)) ∧
                                    ((0 : Int) ≤ firstOf l (Int.toNat many) (Int.toNat (↑x_1 : Int)) x_2 ∧ firstOf l (Int.toNat many) (Int.toNat (↑x_1 : Int)) x_2 < (↑(List.length (@List.nil Int)) : Int)) ∧
                                    (∃ (x' : Nat), x' ≤ List.length l ∧ List.length l - x' < List.length l - x_2 ∧ (nth (Ty.int IntKind.i64) (@List.nil Int) (Int.toNat (firstOf l (Int.toNat many) (Int.toNat (↑x_1 : Int)) x_2)) = firstOf l (Int.toNat many) (Int.toNat (↑x_1 : Int)) x' ∧ True) ∧ List.set (seenT l (Int.toNat many) (Int.toNat (↑x_1 : Int)) x_2) (Int.toNat (firstOf l (Int.toNat many) (Int.toNat (↑x_1 : Int)) x_2)) true = seenT l (Int.toNat many) (Int.toNat (↑x_1 : Int)) x' ∧ (@List.nil Int = @List.nil Int ∧ @List.nil Int = @List.nil Int ∧ True) ∧ @List.nil Int = @List.nil Int ∧ @List.nil Int = @List.nil Int ∧ True))))))))))) ∧
                            ((decide (firstOf l (Int.toNat many) (Int.toNat (↑x_1 : Int)) x_2 ≥ (0 : Int))) = false →
                              ((I64 (↑x_1 : Int)) →
                              ((I64 (1 : Int)) →
                              (I64 ((↑x_1 : Int) + (1 : Int))) ∧
                              (∃ (x' : Nat), x' ≤ Int.toNat many ∧ Int.toNat many - x' < Int.toNat many - x_1 ∧ ((↑x_1 : Int) + (1 : Int) = (↑x' : Int) ∧ True) ∧ seenT l (Int.toNat many) (Int.toNat (↑x_1 : Int)) x_2 = seenT l (Int.toNat many) x' (0 : Nat) ∧ (@List.nil Int = @List.nil Int ∧ @List.nil Int = @List.nil Int ∧ True) ∧ @List.nil Int = @List.nil Int ∧ @List.nil Int = @List.nil Int ∧ True)))))))) ∧
                          ((decide ((↑x_1 : Int) < (↑(List.length (@List.nil Int)) : Int))) = false →
                            (∃ (x : Nat), x ≤ List.length l ∧ ((0 : Int) = (↑x : Int) ∧ True) ∧ True) ∧
                            (∀ x_2 : Nat,
                            ((x_2 ≤ List.length l) →
                            ((List.length l ≤ big) →
                            (((decide ((↑x_2 : Int) < (↑(List.length l) : Int))) = true →
                              ((0 : Int) ≤ (↑x_2 : Int) ∧ (↑x_2 : Int) < (↑(List.length (seenT l (Int.toNat many) x_1 (0 : Nat))) : Int)) ∧
                              (Int.toNat (↑x_2 : Int) < List.length (seenT l (Int.toNat many) x_1 (0 : Nat))) ∧
                              (((!nth Ty.bool (seenT l (Int.toNat many) x_1 (0 : Nat)) (Int.toNat (↑x_2 : Int))) = true →
                                (false = true)) ∧
                              ((!nth Ty.bool (seenT l (Int.toNat many) x_1 (0 : Nat)) (Int.toNat (↑x_2 : Int))) = false →
                                ((I64 (↑x_2 : Int)) →
                                ((I64 (1 : Int)) →
                                (I64 ((↑x_2 : Int) + (1 : Int))) ∧
                                (∃ (x' : Nat), x' ≤ List.length l ∧ List.length l - x' < List.length l - x_2 ∧ ((↑x_2 : Int) + (1 : Int) = (↑x' : Int) ∧ True) ∧ seenT l (Int.toNat many) x_1 (0 : Nat) = seenT l (Int.toNat many) x_1 (0 : Nat) ∧ (@List.nil Int = @List.nil Int ∧ @List.nil Int = @List.nil Int ∧ True) ∧ @List.nil Int = @List.nil Int ∧ @List.nil Int = @List.nil Int ∧ True)))))) ∧
                            ((decide ((↑x_2 : Int) < (↑(List.length l) : Int))) = false →
                              (List.length (@List.nil Int) ≤ (40 : Nat)) ∧
                              (∃ (x : Nat), (x ≤ List.length l ∧ ∀ (j : Nat), j < x → nameIs l s j = false) ∧ ((0 : Int) = (↑x : Int) ∧ True) ∧ True) ∧
                              (∀ x_3 : Nat,
                              ((x_3 ≤ List.length l ∧ ∀ (j : Nat), j < x_3 → nameIs l s j = false) →
                              ((List.length l ≤ big) →
                              (((decide ((↑x_3 : Int) < (↑(List.length l) : Int))) = true →
                                ((0 : Int) ≤ (↑x_3 : Int) ∧ (↑x_3 : Int) < (↑(List.length l) : Int)) ∧
                                ((((nth tSymbol l (Int.toNat (↑x_3 : Int))).fst == s) = true →
                                  ((findF (([], [], ()), l, s) == (↑x_3 : Int)) = true)) ∧
                                (((nth tSymbol l (Int.toNat (↑x_3 : Int))).fst == s) = false →
                                  ((I64 (↑x_3 : Int)) →
                                  ((I64 (1 : Int)) →
                                  (I64 ((↑x_3 : Int) + (1 : Int))) ∧
                                  (∃ (x' : Nat), (x' ≤ List.length l ∧ ∀ (j : Nat), j < x' → nameIs l s j = false) ∧ List.length l - x' < List.length l - x_3 ∧ ((↑x_3 : Int) + (1 : Int) = (↑x' : Int) ∧ True) ∧ seenT l (Int.toNat many) x_1 (0 : Nat) = seenT l (Int.toNat many) x_1 (0 : Nat) ∧ (@List.nil Int = @List.nil Int ∧ @List.nil Int = @List.nil Int ∧ True) ∧ @List.nil Int = @List.nil Int ∧ @List.nil Int = @List.nil Int ∧ True)))))) ∧
                              ((decide ((↑x_3 : Int) < (↑(List.length l) : Int))) = false →
                                (decide (findF (([], [], ()), l, s) < (0 : Int)) = true)))))))))))))))))))) ∧
                      ((decide ((8 : Nat) < List.length l)) = false →
                        (((!Err.isNil Err.nil) = true →
                          (((decide (many < (1 : Int))) = true →
                            (true = true)) ∧
                          ((decide (many < (1 : Int))) = false →
                            (decide (many > (16 : Int)) = true)))) ∧
                        ((!Err.isNil Err.nil) = false →
                          ((List.length l ≤ big) →
                          ((0 : Int) ≤ (↑(List.length l) : Int) ∧ (↑(List.length l) : Int) = (↑(List.length l) : Int) ∧ (↑(List.length l) : Int) ≤ (1000000000 : Int)) ∧
                          (∃ (x : Nat), x ≤ Int.toNat many ∧ ((0 : Int) = (↑x : Int) ∧ True) ∧ List.replicate (Int.toNat (↑(List.length l) : Int)) (zeroD Ty.bool) = seenT l (Int.toNat many) x (0 : Nat) ∧ True) ∧
                          (∀ x_1 : Nat,
                          ((x_1 ≤ Int.toNat many) →
                          ((List.length (firstT l (Int.toNat many) (0 : Nat)) ≤ big) →
                          (((decide ((↑x_1 : Int) < (↑(List.length (firstT l (Int.toNat many) (0 : Nat))) : Int))) = true →
                            ((0 : Int) ≤ (↑x_1 : Int) ∧ (↑x_1 : Int) < (↑(List.length (firstT l (Int.toNat many) (0 : Nat))) : Int)) ∧
                            (∃ (x : Nat), x ≤ List.length l ∧ (nth (Ty.int IntKind.i64) (firstT l (Int.toNat many) (0 : Nat)) (Int.toNat (↑x_1 : Int)) = firstOf l (Int.toNat many) (Int.toNat (↑x_1 : Int)) x ∧ True) ∧ seenT l (Int.toNat many) x_1 (0 : Nat) = seenT l (Int.toNat many) (Int.toNat (↑x_1 : Int)) x ∧ True) ∧
                            (∀ x_2 : Nat,
                            ((x_2 ≤ List.length l) →
                            (((decide (firstOf l (Int.toNat many) (Int.toNat (↑x_1 : Int)) x_2 ≥ (0 : Int))) = true →
                              ((List.length l ≤ big) →
                              (((decide (firstOf l (Int.toNat many) (Int.toNat (↑x_1 : Int)) x_2 ≥ (↑(List.length l) : Int))) = true →
                                (false = true)) ∧
                              ((decide (firstOf l (Int.toNat many) (Int.toNat (↑x_1 : Int)) x_2 ≥ (↑(List.length l) : Int))) = false →
                                ((0 : Int) ≤ firstOf l (Int.toNat many) (Int.toNat (↑x_1 : Int)) x_2 ∧ firstOf l (Int.toNat many) (Int.toNat (↑x_1 : Int)) x_2 < (↑(List.length (seenT l (Int.toNat many) (Int.toNat (↑x_1 : Int)) x_2)) : Int)) ∧
                                (Int.toNat (firstOf l (Int.toNat many) (Int.toNat (↑x_1 : Int)) x_2) < List.length (seenT l (Int.toNat many) (Int.toNat (↑x_1 : Int)) x_2)) ∧
                                (((nth Ty.bool (seenT l (Int.toNat many) (Int.toNat (↑x_1 : Int)) x_2) (Int.toNat (firstOf l (Int.toNat many) (Int.toNat (↑x_1 : Int)) x_2))) = true →
                                  (false = true)) ∧
                                ((nth Ty.bool (seenT l (Int.toNat many) (Int.toNat (↑x_1 : Int)) x_2) (Int.toNat (firstOf l (Int.toNat many) (Int.toNat (↑x_1 : Int)) x_2))) = false →
                                  ((0 : Int) ≤ firstOf l (Int.toNat many) (Int.toNat (↑x_1 : Int)) x_2 ∧ firstOf l (Int.toNat many) (Int.toNat (↑x_1 : Int)) x_2 < (↑(List.length l) : Int)) ∧
                                  (True) ∧
                                  (many ≠ (0 : Int)) ∧
                                  (∀ x_3 : Int,
                                  ((x_3 = Int.tmod (↑(hashF (nth tSymbol l (Int.toNat (firstOf l (Int.toNat many) (Int.toNat (↑x_1 : Int)) x_2))).fst) : Int) many) →
                                  (((x_3 != (↑x_1 : Int)) = true →
                                    (false = true)) ∧
                                  ((x_3 != (↑x_1 : Int)) = false →
                                    ((0 : Int) ≤ firstOf l (Int.toNat many) (Int.toNat (↑x_1 : Int)) x_2 ∧ firstOf l (Int.toNat many) (Int.toNat (↑x_1 : Int)) x_2 < (↑(List.length (seenT l (Int.toNat many) (Int.toNat (↑x_1 : Int)) x_2)) : Int)) ∧
                                    (Int.toNat (firstOf l (Int.toNat many) (Int.toNat (↑x_1 : Int)) x_2) < List.length (seenT l (Int.toNat many) (Int.toNat (↑x_1 : Int)) x_2)) ∧
                                    ((0 : Int) ≤ firstOf l (Int.toNat many) (Int.toNat (↑x_1 : Int)) x_2 ∧ firstOf l (Int.toNat many) (Int.toNat (↑x_1 : Int)) x_2 < (↑(List.length (nextT l (Int.toNat many) (0 : Nat))) : Int)) ∧
                                    (∃ (x' : Nat), x' ≤ List.length l ∧ List.length l - x' < List.length l - x_2 ∧ (nth (Ty.int IntKind.i64) (nextT l (Int.toNat many) (0 : Nat)) (Int.toNat (firstOf l (Int.toNat many) (Int.toNat (↑x_1 : Int)) x_2)) = firstOf l (Int.toNat many) (Int.toNat (↑x_1 : Int)) x' ∧ True) ∧ List.set (seenT l (Int.toNat many) (Int.toNat (↑x_1 : Int)) x_2) (Int.toNat (firstOf l (Int.toNat many) (Int.toNat (↑x_1 : Int)) x_2)) true = seenT l (Int.toNat many) (Int.toNat (↑x_1 : Int)) x' ∧ (firstT l (Int.toNat many) (0 : Nat) = firstT l (Int.toNat many) (0 : Nat) ∧ nextT l (Int.toNat many) (0 : Nat) = nextT l (Int.toNat many) (0 : Nat) ∧ True) ∧ @List.nil Int = @List.nil Int ∧ @List.nil Int = @List.nil Int ∧ True))))))))))) ∧
                            ((decide (firstOf l (Int.toNat many) (Int.toNat (↑x_1 : Int)) x_2 ≥ (0 : Int))) = false →
                              ((I64 (↑x_1 : Int)) →
                              ((I64 (1 : Int)) →
                              (I64 ((↑x_1 : Int) + (1 : Int))) ∧
                              (∃ (x' : Nat), x' ≤ Int.toNat many ∧ Int.toNat many - x' < Int.toNat many - x_1 ∧ ((↑x_1 : Int) + (1 : Int) = (↑x' : Int) ∧ True) ∧ seenT l (Int.toNat many) (Int.toNat (↑x_1 : Int)) x_2 = seenT l (Int.toNat many) x' (0 : Nat) ∧ (firstT l (Int.toNat many) (0 : Nat) = firstT l (Int.toNat many) (0 : Nat) ∧ nextT l (Int.toNat many) (0 : Nat) = nextT l (Int.toNat many) (0 : Nat) ∧ True) ∧ @List.nil Int = @List.nil Int ∧ @List.nil Int = @List.nil Int ∧ True)))))))) ∧
                          ((decide ((↑x_1 : Int) < (↑(List.length (firstT l (Int.toNat many) (0 : Nat))) : Int))) = false →
                            (∃ (x : Nat), x ≤ List.length l ∧ ((0 : Int) = (↑x : Int) ∧ True) ∧ True) ∧
                            (∀ x_2 : Nat,
                            ((x_2 ≤ List.length l) →
                            ((List.length l ≤ big) →
                            (((decide ((↑x_2 : Int) < (↑(List.length l) : Int))) = true →
                              ((0 : Int) ≤ (↑x_2 : Int) ∧ (↑x_2 : Int) < (↑(List.length (seenT l (Int.toNat many) x_1 (0 : Nat))) : Int)) ∧
                              (Int.toNat (↑x_2 : Int) < List.length (seenT l (Int.toNat many) x_1 (0 : Nat))) ∧
                              (((!nth Ty.bool (seenT l (Int.toNat many) x_1 (0 : Nat)) (Int.toNat (↑x_2 : Int))) = true →
                                (false = true)) ∧
                              ((!nth Ty.bool (seenT l (Int.toNat many) x_1 (0 : Nat)) (Int.toNat (↑x_2 : Int))) = false →
                                ((I64 (↑x_2 : Int)) →
                                ((I64 (1 : Int)) →
                                (I64 ((↑x_2 : Int) + (1 : Int))) ∧
                                (∃ (x' : Nat), x' ≤ List.length l ∧ List.length l - x' < List.length l - x_2 ∧ ((↑x_2 : Int) + (1 : Int) = (↑x' : Int) ∧ True) ∧ seenT l (Int.toNat many) x_1 (0 : Nat) = seenT l (Int.toNat many) x_1 (0 : Nat) ∧ (firstT l (Int.toNat many) (0 : Nat) = firstT l (Int.toNat many) (0 : Nat) ∧ nextT l (Int.toNat many) (0 : Nat) = nextT l (Int.toNat many) (0 : Nat) ∧ True) ∧ @List.nil Int = @List.nil Int ∧ @List.nil Int = @List.nil Int ∧ True)))))) ∧
                            ((decide ((↑x_2 : Int) < (↑(List.length l) : Int))) = false →
                              (List.length (firstT l (Int.toNat many) (0 : Nat)) ≤ (40 : Nat)) ∧
                              (∃ (x : Nat), (x ≤ List.length l ∧ ∀ (j : Nat), j < x → nameIs l s j = false) ∧ ((0 : Int) = (↑x : Int) ∧ True) ∧ True) ∧
                              (∀ x_3 : Nat,
                              ((x_3 ≤ List.length l ∧ ∀ (j : Nat), j < x_3 → nameIs l s j = false) →
                              ((List.length l ≤ big) →
                              (((decide ((↑x_3 : Int) < (↑(List.length l) : Int))) = true →
                                ((0 : Int) ≤ (↑x_3 : Int) ∧ (↑x_3 : Int) < (↑(List.length l) : Int)) ∧
                                ((((nth tSymbol l (Int.toNat (↑x_3 : Int))).fst == s) = true →
                                  ((findF ((firstT l (Int.toNat many) (0 : Nat), nextT l (Int.toNat many) (0 : Nat), ()), l, s) == (↑x_3 : Int)) = true)) ∧
                                (((nth tSymbol l (Int.toNat (↑x_3 : Int))).fst == s) = false →
                                  ((I64 (↑x_3 : Int)) →
                                  ((I64 (1 : Int)) →
                                  (I64 ((↑x_3 : Int) + (1 : Int))) ∧
                                  (∃ (x' : Nat), (x' ≤ List.length l ∧ ∀ (j : Nat), j < x' → nameIs l s j = false) ∧ List.length l - x' < List.length l - x_3 ∧ ((↑x_3 : Int) + (1 : Int) = (↑x' : Int) ∧ True) ∧ seenT l (Int.toNat many) x_1 (0 : Nat) = seenT l (Int.toNat many) x_1 (0 : Nat) ∧ (firstT l (Int.toNat many) (0 : Nat) = firstT l (Int.toNat many) (0 : Nat) ∧ nextT l (Int.toNat many) (0 : Nat) = nextT l (Int.toNat many) (0 : Nat) ∧ True) ∧ @List.nil Int = @List.nil Int ∧ @List.nil Int = @List.nil Int ∧ True)))))) ∧
                              ((decide ((↑x_3 : Int) < (↑(List.length l) : Int))) = false →
                                (decide (findF ((firstT l (Int.toNat many) (0 : Nat), nextT l (Int.toNat many) (0 : Nat), ()), l, s) < (0 : Int)) = true))))))))))))))))))))))))))))))))))))))))) ∧
      ((decide ((1 : Int) < (1 : Int))) = false →
        (((decide ((16 : Int) < (1 : Int))) = true →
          (((!Err.isNil (Err.no (1 : Int))) = true →
            (false = true)) ∧
          ((!Err.isNil (Err.no (1 : Int))) = false →
            (List.length (@List.nil Int) ≤ (40 : Nat)) ∧
            (((findF (([], [], ()), [([(120 : UInt8)], (0 : Int), false, ())], [(120 : UInt8)]) != (0 : Int)) = true →
              (false = true)) ∧
            ((findF (([], [], ()), [([(120 : UInt8)], (0 : Int), false, ())], [(120 : UInt8)]) != (0 : Int)) = false →
              ((List.length l ≤ big) →
              (((decide ((↑(List.length l) : Int) > (8 : Int))) = true →
                (true = true)) ∧
              ((decide ((↑(List.length l) : Int) > (8 : Int))) = false →
                ((List.length s ≤ big) →
                (((decide ((↑(List.length s) : Int) > (30 : Int))) = true →
                  (true = true)) ∧
                ((decide ((↑(List.length s) : Int) > (30 : Int))) = false →
                  (∃ (x : Nat), x ≤ List.length l ∧ ((0 : Int) = (↑x : Int) ∧ True) ∧ True) ∧
                  (∀ x_0 : Nat,
                  ((x_0 ≤ List.length l) →
                  ((List.length l ≤ big) →
                  (((decide ((↑x_0 : Int) < (↑(List.length l) : Int))) = true →
                    ((0 : Int) ≤ (↑x_0 : Int) ∧ (↑x_0 : Int) < (↑(List.length l) : Int)) ∧
                    ((List.length (nth tSymbol l (Int.toNat (↑x_0 : Int))).fst ≤ big) →
                    (((decide ((↑(List.length (nth tSymbol l (Int.toNat (↑x_0 : Int))).fst) : Int) > (30 : Int))) = true →
                      (true = true)) ∧
                    ((decide ((↑(List.length (nth tSymbol l (Int.toNat (↑x_0 : Int))).fst) : Int) > (30 : Int))) = false →
                      ((I64 (↑x_0 : Int)) →
                      ((I64 (1 : Int)) →
                      (I64 ((↑x_0 : Int) + (1 : Int))) ∧
                      (∃ (x' : Nat), x' ≤ List.length l ∧ List.length l - x' < List.length l - x_0 ∧ ((↑x_0 : Int) + (1 : Int) = (↑x' : Int) ∧ True) ∧ (@List.nil Int = @List.nil Int ∧ @List.nil Int = @List.nil Int ∧ True) ∧ @List.nil Int = @List.nil Int ∧ @List.nil Int = @List.nil Int ∧ True))))))) ∧
                  ((decide ((↑x_0 : Int) < (↑(List.length l) : Int))) = false →
                    (True) ∧
                    (((decide (many < (1 : Int))) = true →
                      (((!Err.isNil (Err.no (1 : Int))) = true →
                        (((decide (many < (1 : Int))) = true →
                          (true = true)) ∧
                        ((decide (many < (1 : Int))) = false →
                          (decide (many > (16 : Int)) = true)))) ∧
                      ((!Err.isNil (Err.no (1 : Int))) = false →
                        ((List.length l ≤ big) →
                        ((0 : Int) ≤ (↑(List.length l) : Int) ∧ (↑(List.length l) : Int) = (↑(List.length l) : Int) ∧ (↑(List.length l) : Int) ≤ (1000000000 : Int)) ∧
                        (∃ (x : Nat), x ≤ Int.toNat many ∧ ((0 : Int) = (↑x : Int) ∧ True) ∧ List.replicate (Int.toNat (↑(List.length l) : Int)) (zeroD Ty.bool) = seenT l (Int.toNat many) x (0 : Nat) ∧ True) ∧
                        (∀ x_1 : Nat,
                        ((x_1 ≤ Int.toNat many) →
                        ((List.length (@List.nil Int) ≤ big) →
                        (((decide ((↑x_1 : Int) < (↑(List.length (@List.nil Int)) : Int))) = true →
                          ((0 : Int) ≤ (↑x_1 : Int) ∧ (↑x_1 : Int) < (↑(List.length (@List.nil Int)) : Int)) ∧
                          (∃ (x : Nat), x ≤ List.length l ∧ (nth (Ty.int IntKind.i64) (@List.nil Int) (Int.toNat (↑x_1 : Int)) = firstOf l (Int.toNat many) (Int.toNat (↑x_1 : Int)) x ∧ True) ∧ seenT l (Int.toNat many) x_1 (0 : Nat) = seenT l (Int.toNat many) (Int.toNat (↑x_1 : Int)) x ∧ True) ∧
                          (∀ x_2 : Nat,
                          ((x_2 ≤ List.length l) →
                          (((decide (firstOf l (Int.toNat many) (Int.toNat (↑x_1 : Int)) x_2 ≥ (0 : Int))) = true →
                            ((List.length l ≤ big) →
                            (((decide (firstOf l (Int.toNat many) (Int.toNat (↑x_1 : Int)) x_2 ≥ (↑(List.length l) : Int))) = true →
                              (false = true)) ∧
                            ((decide (firstOf l (Int.toNat many) (Int.toNat (↑x_1 : Int)) x_2 ≥ (↑(List.length l) : Int))) = false →
                              ((0 : Int) ≤ firstOf l (Int.toNat many) (Int.toNat (↑x_1 : Int)) x_2 ∧ firstOf l (Int.toNat many) (Int.toNat (↑x_1 : Int)) x_2 < (↑(List.length (seenT l (Int.toNat many) (Int.toNat (↑x_1 : Int)) x_2)) : Int)) ∧
                              (Int.toNat (firstOf l (Int.toNat many) (Int.toNat (↑x_1 : Int)) x_2) < List.length (seenT l (Int.toNat many) (Int.toNat (↑x_1 : Int)) x_2)) ∧
                              (((nth Ty.bool (seenT l (Int.toNat many) (Int.toNat (↑x_1 : Int)) x_2) (Int.toNat (firstOf l (Int.toNat many) (Int.toNat (↑x_1 : Int)) x_2))) = true →
                                (false = true)) ∧
                              ((nth Ty.bool (seenT l (Int.toNat many) (Int.toNat (↑x_1 : Int)) x_2) (Int.toNat (firstOf l (Int.toNat many) (Int.toNat (↑x_1 : Int)) x_2))) = false →
                                ((0 : Int) ≤ firstOf l (Int.toNat many) (Int.toNat (↑x_1 : Int)) x_2 ∧ firstOf l (Int.toNat many) (Int.toNat (↑x_1 : Int)) x_2 < (↑(List.length l) : Int)) ∧
                                (True) ∧
                                (many ≠ (0 : Int)) ∧
                                (∀ x_3 : Int,
                                ((x_3 = Int.tmod (↑(hashF (nth tSymbol l (Int.toNat (firstOf l (Int.toNat many) (Int.toNat (↑x_1 : Int)) x_2))).fst) : Int) many) →
                                (((x_3 != (↑x_1 : Int)) = true →
                                  (false = true)) ∧
                                ((x_3 != (↑x_1 : Int)) = false →
                                  ((0 : Int) ≤ firstOf l (Int.toNat many) (Int.toNat (↑x_1 : Int)) x_2 ∧ firstOf l (Int.toNat many) (Int.toNat (↑x_1 : Int)) x_2 < (↑(List.length (seenT l (Int.toNat many) (Int.toNat (↑x_1 : Int)) x_2)) : Int)) ∧
                                  (Int.toNat (firstOf l (Int.toNat many) (Int.toNat (↑x_1 : Int)) x_2) < List.length (seenT l (Int.toNat many) (Int.toNat (↑x_1 : Int)) x_2)) ∧
                                  ((0 : Int) ≤ firstOf l (Int.toNat many) (Int.toNat (↑x_1 : Int)) x_2 ∧ firstOf l (Int.toNat many) (Int.toNat (↑x_1 : Int)) x_2 < (↑(List.length (@List.nil Int)) : Int)) ∧
                                  (∃ (x' : Nat), x' ≤ List.length l ∧ List.length l - x' < List.length l - x_2 ∧ (nth (Ty.int IntKind.i64) (@List.nil Int) (Int.toNat (firstOf l (Int.toNat many) (Int.toNat (↑x_1 : Int)) x_2)) = firstOf l (Int.toNat many) (Int.toNat (↑x_1 : Int)) x' ∧ True) ∧ List.set (seenT l (Int.toNat many) (Int.toNat (↑x_1 : Int)) x_2) (Int.toNat (firstOf l (Int.toNat many) (Int.toNat (↑x_1 : Int)) x_2)) true = seenT l (Int.toNat many) (Int.toNat (↑x_1 : Int)) x' ∧ (@List.nil Int = @List.nil Int ∧ @List.nil Int = @List.nil Int ∧ True) ∧ @List.nil Int = @List.nil Int ∧ @List.nil Int = @List.nil Int ∧ True))))))))))) ∧
                          ((decide (firstOf l (Int.toNat many) (Int.toNat (↑x_1 : Int)) x_2 ≥ (0 : Int))) = false →
                            ((I64 (↑x_1 : Int)) →
                            ((I64 (1 : Int)) →
                            (I64 ((↑x_1 : Int) + (1 : Int))) ∧
                            (∃ (x' : Nat), x' ≤ Int.toNat many ∧ Int.toNat many - x' < Int.toNat many - x_1 ∧ ((↑x_1 : Int) + (1 : Int) = (↑x' : Int) ∧ True) ∧ seenT l (Int.toNat many) (Int.toNat (↑x_1 : Int)) x_2 = seenT l (Int.toNat many) x' (0 : Nat) ∧ (@List.nil Int = @List.nil Int ∧ @List.nil Int = @List.nil Int ∧ True) ∧ @List.nil Int = @List.nil Int ∧ @List.nil Int = @List.nil Int ∧ True)))))))) ∧
                        ((decide ((↑x_1 : Int) < (↑(List.length (@List.nil Int)) : Int))) = false →
                          (∃ (x : Nat), x ≤ List.length l ∧ ((0 : Int) = (↑x : Int) ∧ True) ∧ True) ∧
                          (∀ x_2 : Nat,
                          ((x_2 ≤ List.length l) →
                          ((List.length l ≤ big) →
                          (((decide ((↑x_2 : Int) < (↑(List.length l) : Int))) = true →
                            ((0 : Int) ≤ (↑x_2 : Int) ∧ (↑x_2 : Int) < (↑(List.length (seenT l (Int.toNat many) x_1 (0 : Nat))) : Int)) ∧
                            (Int.toNat (↑x_2 : Int) < List.length (seenT l (Int.toNat many) x_1 (0 : Nat))) ∧
                            (((!nth Ty.bool (seenT l (Int.toNat many) x_1 (0 : Nat)) (Int.toNat (↑x_2 : Int))) = true →
                              (false = true)) ∧
                            ((!nth Ty.bool (seenT l (Int.toNat many) x_1 (0 : Nat)) (Int.toNat (↑x_2 : Int))) = false →
                              ((I64 (↑x_2 : Int)) →
                              ((I64 (1 : Int)) →
                              (I64 ((↑x_2 : Int) + (1 : Int))) ∧
                              (∃ (x' : Nat), x' ≤ List.length l ∧ List.length l - x' < List.length l - x_2 ∧ ((↑x_2 : Int) + (1 : Int) = (↑x' : Int) ∧ True) ∧ seenT l (Int.toNat many) x_1 (0 : Nat) = seenT l (Int.toNat many) x_1 (0 : Nat) ∧ (@List.nil Int = @List.nil Int ∧ @List.nil Int = @List.nil Int ∧ True) ∧ @List.nil Int = @List.nil Int ∧ @List.nil Int = @List.nil Int ∧ True)))))) ∧
                          ((decide ((↑x_2 : Int) < (↑(List.length l) : Int))) = false →
                            (List.length (@List.nil Int) ≤ (40 : Nat)) ∧
                            (∃ (x : Nat), (x ≤ List.length l ∧ ∀ (j : Nat), j < x → nameIs l s j = false) ∧ ((0 : Int) = (↑x : Int) ∧ True) ∧ True) ∧
                            (∀ x_3 : Nat,
                            ((x_3 ≤ List.length l ∧ ∀ (j : Nat), j < x_3 → nameIs l s j = false) →
                            ((List.length l ≤ big) →
                            (((decide ((↑x_3 : Int) < (↑(List.length l) : Int))) = true →
                              ((0 : Int) ≤ (↑x_3 : Int) ∧ (↑x_3 : Int) < (↑(List.length l) : Int)) ∧
                              ((((nth tSymbol l (Int.toNat (↑x_3 : Int))).fst == s) = true →
                                ((findF (([], [], ()), l, s) == (↑x_3 : Int)) = true)) ∧
                              (((nth tSymbol l (Int.toNat (↑x_3 : Int))).fst == s) = false →
                                ((I64 (↑x_3 : Int)) →
                                ((I64 (1 : Int)) →
                                (I64 ((↑x_3 : Int) + (1 : Int))) ∧
                                (∃ (x' : Nat), (x' ≤ List.length l ∧ ∀ (j : Nat), j < x' → nameIs l s j = false) ∧ List.length l - x' < List.length l - x_3 ∧ ((↑x_3 : Int) + (1 : Int) = (↑x' : Int) ∧ True) ∧ seenT l (Int.toNat many) x_1 (0 : Nat) = seenT l (Int.toNat many) x_1 (0 : Nat) ∧ (@List.nil Int = @List.nil Int ∧ @List.nil Int = @List.nil Int ∧ True) ∧ @List.nil Int = @List.nil Int ∧ @List.nil Int = @List.nil Int ∧ True)))))) ∧
                            ((decide ((↑x_3 : Int) < (↑(List.length l) : Int))) = false →
                              (decide (findF (([], [], ()), l, s) < (0 : Int)) = true)))))))))))))))))))) ∧
                    ((decide (many < (1 : Int))) = false →
                      (((decide ((16 : Int) < many)) = true →
                        (((!Err.isNil (Err.no (1 : Int))) = true →
                          (((decide (many < (1 : Int))) = true →
                            (true = true)) ∧
                          ((decide (many < (1 : Int))) = false →
                            (decide (many > (16 : Int)) = true)))) ∧
                        ((!Err.isNil (Err.no (1 : Int))) = false →
                          ((List.length l ≤ big) →
                          ((0 : Int) ≤ (↑(List.length l) : Int) ∧ (↑(List.length l) : Int) = (↑(List.length l) : Int) ∧ (↑(List.length l) : Int) ≤ (1000000000 : Int)) ∧
                          (∃ (x : Nat), x ≤ Int.toNat many ∧ ((0 : Int) = (↑x : Int) ∧ True) ∧ List.replicate (Int.toNat (↑(List.length l) : Int)) (zeroD Ty.bool) = seenT l (Int.toNat many) x (0 : Nat) ∧ True) ∧
                          (∀ x_1 : Nat,
                          ((x_1 ≤ Int.toNat many) →
                          ((List.length (@List.nil Int) ≤ big) →
                          (((decide ((↑x_1 : Int) < (↑(List.length (@List.nil Int)) : Int))) = true →
                            ((0 : Int) ≤ (↑x_1 : Int) ∧ (↑x_1 : Int) < (↑(List.length (@List.nil Int)) : Int)) ∧
                            (∃ (x : Nat), x ≤ List.length l ∧ (nth (Ty.int IntKind.i64) (@List.nil Int) (Int.toNat (↑x_1 : Int)) = firstOf l (Int.toNat many) (Int.toNat (↑x_1 : Int)) x ∧ True) ∧ seenT l (Int.toNat many) x_1 (0 : Nat) = seenT l (Int.toNat many) (Int.toNat (↑x_1 : Int)) x ∧ True) ∧
                            (∀ x_2 : Nat,
                            ((x_2 ≤ List.length l) →
                            (((decide (firstOf l (Int.toNat many) (Int.toNat (↑x_1 : Int)) x_2 ≥ (0 : Int))) = true →
                              ((List.length l ≤ big) →
                              (((decide (firstOf l (Int.toNat many) (Int.toNat (↑x_1 : Int)) x_2 ≥ (↑(List.length l) : Int))) = true →
                                (false = true)) ∧
                              ((decide (firstOf l (Int.toNat many) (Int.toNat (↑x_1 : Int)) x_2 ≥ (↑(List.length l) : Int))) = false →
                                ((0 : Int) ≤ firstOf l (Int.toNat many) (Int.toNat (↑x_1 : Int)) x_2 ∧ firstOf l (Int.toNat many) (Int.toNat (↑x_1 : Int)) x_2 < (↑(List.length (seenT l (Int.toNat many) (Int.toNat (↑x_1 : Int)) x_2)) : Int)) ∧
                                (Int.toNat (firstOf l (Int.toNat many) (Int.toNat (↑x_1 : Int)) x_2) < List.length (seenT l (Int.toNat many) (Int.toNat (↑x_1 : Int)) x_2)) ∧
                                (((nth Ty.bool (seenT l (Int.toNat many) (Int.toNat (↑x_1 : Int)) x_2) (Int.toNat (firstOf l (Int.toNat many) (Int.toNat (↑x_1 : Int)) x_2))) = true →
                                  (false = true)) ∧
                                ((nth Ty.bool (seenT l (Int.toNat many) (Int.toNat (↑x_1 : Int)) x_2) (Int.toNat (firstOf l (Int.toNat many) (Int.toNat (↑x_1 : Int)) x_2))) = false →
                                  ((0 : Int) ≤ firstOf l (Int.toNat many) (Int.toNat (↑x_1 : Int)) x_2 ∧ firstOf l (Int.toNat many) (Int.toNat (↑x_1 : Int)) x_2 < (↑(List.length l) : Int)) ∧
                                  (True) ∧
                                  (many ≠ (0 : Int)) ∧
                                  (∀ x_3 : Int,
                                  ((x_3 = Int.tmod (↑(hashF (nth tSymbol l (Int.toNat (firstOf l (Int.toNat many) (Int.toNat (↑x_1 : Int)) x_2))).fst) : Int) many) →
                                  (((x_3 != (↑x_1 : Int)) = true →
                                    (false = true)) ∧
                                  ((x_3 != (↑x_1 : Int)) = false →
                                    ((0 : Int) ≤ firstOf l (Int.toNat many) (Int.toNat (↑x_1 : Int)) x_2 ∧ firstOf l (Int.toNat many) (Int.toNat (↑x_1 : Int)) x_2 < (↑(List.length (seenT l (Int.toNat many) (Int.toNat (↑x_1 : Int)) x_2)) : Int)) ∧
                                    (Int.toNat (firstOf l (Int.toNat many) (Int.toNat (↑x_1 : Int)) x_2) < List.length (seenT l (Int.toNat many) (Int.toNat (↑x_1 : Int)) x_2)) ∧
                                    ((0 : Int) ≤ firstOf l (Int.toNat many) (Int.toNat (↑x_1 : Int)) x_2 ∧ firstOf l (Int.toNat many) (Int.toNat (↑x_1 : Int)) x_2 < (↑(List.length (@List.nil Int)) : Int)) ∧
                                    (∃ (x' : Nat), x' ≤ List.length l ∧ List.length l - x' < List.length l - x_2 ∧ (nth (Ty.int IntKind.i64) (@List.nil Int) (Int.toNat (firstOf l (Int.toNat many) (Int.toNat (↑x_1 : Int)) x_2)) = firstOf l (Int.toNat many) (Int.toNat (↑x_1 : Int)) x' ∧ True) ∧ List.set (seenT l (Int.toNat many) (Int.toNat (↑x_1 : Int)) x_2) (Int.toNat (firstOf l (Int.toNat many) (Int.toNat (↑x_1 : Int)) x_2)) true = seenT l (Int.toNat many) (Int.toNat (↑x_1 : Int)) x' ∧ (@List.nil Int = @List.nil Int ∧ @List.nil Int = @List.nil Int ∧ True) ∧ @List.nil Int = @List.nil Int ∧ @List.nil Int = @List.nil Int ∧ True))))))))))) ∧
                            ((decide (firstOf l (Int.toNat many) (Int.toNat (↑x_1 : Int)) x_2 ≥ (0 : Int))) = false →
                              ((I64 (↑x_1 : Int)) →
                              ((I64 (1 : Int)) →
                              (I64 ((↑x_1 : Int) + (1 : Int))) ∧
                              (∃ (x' : Nat), x' ≤ Int.toNat many ∧ Int.toNat many - x' < Int.toNat many - x_1 ∧ ((↑x_1 : Int) + (1 : Int) = (↑x' : Int) ∧ True) ∧ seenT l (Int.toNat many) (Int.toNat (↑x_1 : Int)) x_2 = seenT l (Int.toNat many) x' (0 : Nat) ∧ (@List.nil Int = @List.nil Int ∧ @List.nil Int = @List.nil Int ∧ True) ∧ @List.nil Int = @List.nil Int ∧ @List.nil Int = @List.nil Int ∧ True)))))))) ∧
                          ((decide ((↑x_1 : Int) < (↑(List.length (@List.nil Int)) : Int))) = false →
                            (∃ (x : Nat), x ≤ List.length l ∧ ((0 : Int) = (↑x : Int) ∧ True) ∧ True) ∧
                            (∀ x_2 : Nat,
                            ((x_2 ≤ List.length l) →
                            ((List.length l ≤ big) →
                            (((decide ((↑x_2 : Int) < (↑(List.length l) : Int))) = true →
                              ((0 : Int) ≤ (↑x_2 : Int) ∧ (↑x_2 : Int) < (↑(List.length (seenT l (Int.toNat many) x_1 (0 : Nat))) : Int)) ∧
                              (Int.toNat (↑x_2 : Int) < List.length (seenT l (Int.toNat many) x_1 (0 : Nat))) ∧
                              (((!nth Ty.bool (seenT l (Int.toNat many) x_1 (0 : Nat)) (Int.toNat (↑x_2 : Int))) = true →
                                (false = true)) ∧
                              ((!nth Ty.bool (seenT l (Int.toNat many) x_1 (0 : Nat)) (Int.toNat (↑x_2 : Int))) = false →
                                ((I64 (↑x_2 : Int)) →
                                ((I64 (1 : Int)) →
                                (I64 ((↑x_2 : Int) + (1 : Int))) ∧
                                (∃ (x' : Nat), x' ≤ List.length l ∧ List.length l - x' < List.length l - x_2 ∧ ((↑x_2 : Int) + (1 : Int) = (↑x' : Int) ∧ True) ∧ seenT l (Int.toNat many) x_1 (0 : Nat) = seenT l (Int.toNat many) x_1 (0 : Nat) ∧ (@List.nil Int = @List.nil Int ∧ @List.nil Int = @List.nil Int ∧ True) ∧ @List.nil Int = @List.nil Int ∧ @List.nil Int = @List.nil Int ∧ True)))))) ∧
                            ((decide ((↑x_2 : Int) < (↑(List.length l) : Int))) = false →
                              (List.length (@List.nil Int) ≤ (40 : Nat)) ∧
                              (∃ (x : Nat), (x ≤ List.length l ∧ ∀ (j : Nat), j < x → nameIs l s j = false) ∧ ((0 : Int) = (↑x : Int) ∧ True) ∧ True) ∧
                              (∀ x_3 : Nat,
                              ((x_3 ≤ List.length l ∧ ∀ (j : Nat), j < x_3 → nameIs l s j = false) →
                              ((List.length l ≤ big) →
                              (((decide ((↑x_3 : Int) < (↑(List.length l) : Int))) = true →
                                ((0 : Int) ≤ (↑x_3 : Int) ∧ (↑x_3 : Int) < (↑(List.length l) : Int)) ∧
                                ((((nth tSymbol l (Int.toNat (↑x_3 : Int))).fst == s) = true →
                                  ((findF (([], [], ()), l, s) == (↑x_3 : Int)) = true)) ∧
                                (((nth tSymbol l (Int.toNat (↑x_3 : Int))).fst == s) = false →
                                  ((I64 (↑x_3 : Int)) →
                                  ((I64 (1 : Int)) →
                                  (I64 ((↑x_3 : Int) + (1 : Int))) ∧
                                  (∃ (x' : Nat), (x' ≤ List.length l ∧ ∀ (j : Nat), j < x' → nameIs l s j = false) ∧ List.length l - x' < List.length l - x_3 ∧ ((↑x_3 : Int) + (1 : Int) = (↑x' : Int) ∧ True) ∧ seenT l (Int.toNat many) x_1 (0 : Nat) = seenT l (Int.toNat many) x_1 (0 : Nat) ∧ (@List.nil Int = @List.nil Int ∧ @List.nil Int = @List.nil Int ∧ True) ∧ @List.nil Int = @List.nil Int ∧ @List.nil Int = @List.nil Int ∧ True)))))) ∧
                              ((decide ((↑x_3 : Int) < (↑(List.length l) : Int))) = false →
                                (decide (findF (([], [], ()), l, s) < (0 : Int)) = true)))))))))))))))))))) ∧
                      ((decide ((16 : Int) < many)) = false →
                        (((decide ((8 : Nat) < List.length l)) = true →
                          (((!Err.isNil (Err.no (2 : Int))) = true →
                            (((decide (many < (1 : Int))) = true →
                              (true = true)) ∧
                            ((decide (many < (1 : Int))) = false →
                              (decide (many > (16 : Int)) = true)))) ∧
                          ((!Err.isNil (Err.no (2 : Int))) = false →
                            ((List.length l ≤ big) →
                            ((0 : Int) ≤ (↑(List.length l) : Int) ∧ (↑(List.length l) : Int) = (↑(List.length l) : Int) ∧ (↑(List.length l) : Int) ≤ (1000000000 : Int)) ∧
                            (∃ (x : Nat), x ≤ Int.toNat many ∧ ((0 : Int) = (↑x : Int) ∧ True) ∧ List.replicate (Int.toNat (↑(List.length l) : Int)) (zeroD Ty.bool) = seenT l (Int.toNat many) x (0 : Nat) ∧ True) ∧
                            (∀ x_1 : Nat,
                            ((x_1 ≤ Int.toNat many) →
                            ((List.length (@List.nil Int) ≤ big) →
                            (((decide ((↑x_1 : Int) < (↑(List.length (@List.nil Int)) : Int))) = true →
                              ((0 : Int) ≤ (↑x_1 : Int) ∧ (↑x_1 : Int) < (↑(List.length (@List.nil Int)) : Int)) ∧
                              (∃ (x : Nat), x ≤ List.length l ∧ (nth (Ty.int IntKind.i64) (@List.nil Int) (Int.toNat (↑x_1 : Int)) = firstOf l (Int.toNat many) (Int.toNat (↑x_1 : Int)) x ∧ True) ∧ seenT l (Int.toNat many) x_1 (0 : Nat) = seenT l (Int.toNat many) (Int.toNat (↑x_1 : Int)) x ∧ True) ∧
                              (∀ x_2 : Nat,
                              ((x_2 ≤ List.length l) →
                              (((decide (firstOf l (Int.toNat many) (Int.toNat (↑x_1 : Int)) x_2 ≥ (0 : Int))) = true →
                                ((List.length l ≤ big) →
                                (((decide (firstOf l (Int.toNat many) (Int.toNat (↑x_1 : Int)) x_2 ≥ (↑(List.length l) : Int))) = true →
                                  (false = true)) ∧
                                ((decide (firstOf l (Int.toNat many) (Int.toNat (↑x_1 : Int)) x_2 ≥ (↑(List.length l) : Int))) = false →
                                  ((0 : Int) ≤ firstOf l (Int.toNat many) (Int.toNat (↑x_1 : Int)) x_2 ∧ firstOf l (Int.toNat many) (Int.toNat (↑x_1 : Int)) x_2 < (↑(List.length (seenT l (Int.toNat many) (Int.toNat (↑x_1 : Int)) x_2)) : Int)) ∧
                                  (Int.toNat (firstOf l (Int.toNat many) (Int.toNat (↑x_1 : Int)) x_2) < List.length (seenT l (Int.toNat many) (Int.toNat (↑x_1 : Int)) x_2)) ∧
                                  (((nth Ty.bool (seenT l (Int.toNat many) (Int.toNat (↑x_1 : Int)) x_2) (Int.toNat (firstOf l (Int.toNat many) (Int.toNat (↑x_1 : Int)) x_2))) = true →
                                    (false = true)) ∧
                                  ((nth Ty.bool (seenT l (Int.toNat many) (Int.toNat (↑x_1 : Int)) x_2) (Int.toNat (firstOf l (Int.toNat many) (Int.toNat (↑x_1 : Int)) x_2))) = false →
                                    ((0 : Int) ≤ firstOf l (Int.toNat many) (Int.toNat (↑x_1 : Int)) x_2 ∧ firstOf l (Int.toNat many) (Int.toNat (↑x_1 : Int)) x_2 < (↑(List.length l) : Int)) ∧
                                    (True) ∧
                                    (many ≠ (0 : Int)) ∧
                                    (∀ x_3 : Int,
                                    ((x_3 = Int.tmod (↑(hashF (nth tSymbol l (Int.toNat (firstOf l (Int.toNat many) (Int.toNat (↑x_1 : Int)) x_2))).fst) : Int) many) →
                                    (((x_3 != (↑x_1 : Int)) = true →
                                      (false = true)) ∧
                                    ((x_3 != (↑x_1 : Int)) = false →
                                      ((0 : Int) ≤ firstOf l (Int.toNat many) (Int.toNat (↑x_1 : Int)) x_2 ∧ firstOf l (Int.toNat many) (Int.toNat (↑x_1 : Int)) x_2 < (↑(List.length (seenT l (Int.toNat many) (Int.toNat (↑x_1 : Int)) x_2)) : Int)) ∧
                                      (Int.toNat (firstOf l (Int.toNat many) (Int.toNat (↑x_1 : Int)) x_2) < List.length (seenT l (Int.toNat many) (Int.toNat (↑x_1 : Int)) x_2)) ∧
                                      ((0 : Int) ≤ firstOf l (Int.toNat many) (Int.toNat (↑x_1 : Int)) x_2 ∧ firstOf l (Int.toNat many) (Int.toNat (↑x_1 : Int)) x_2 < (↑(List.length (@List.nil Int)) : Int)) ∧
                                      (∃ (x' : Nat), x' ≤ List.length l ∧ List.length l - x' < List.length l - x_2 ∧ (nth (Ty.int IntKind.i64) (@List.nil Int) (Int.toNat (firstOf l (Int.toNat many) (Int.toNat (↑x_1 : Int)) x_2)) = firstOf l (Int.toNat many) (Int.toNat (↑x_1 : Int)) x' ∧ True) ∧ List.set (seenT l (Int.toNat many) (Int.toNat (↑x_1 : Int)) x_2) (Int.toNat (firstOf l (Int.toNat many) (Int.toNat (↑x_1 : Int)) x_2)) true = seenT l (Int.toNat many) (Int.toNat (↑x_1 : Int)) x' ∧ (@List.nil Int = @List.nil Int ∧ @List.nil Int = @List.nil Int ∧ True) ∧ @List.nil Int = @List.nil Int ∧ @List.nil Int = @List.nil Int ∧ True))))))))))) ∧
                              ((decide (firstOf l (Int.toNat many) (Int.toNat (↑x_1 : Int)) x_2 ≥ (0 : Int))) = false →
                                ((I64 (↑x_1 : Int)) →
                                ((I64 (1 : Int)) →
                                (I64 ((↑x_1 : Int) + (1 : Int))) ∧
                                (∃ (x' : Nat), x' ≤ Int.toNat many ∧ Int.toNat many - x' < Int.toNat many - x_1 ∧ ((↑x_1 : Int) + (1 : Int) = (↑x' : Int) ∧ True) ∧ seenT l (Int.toNat many) (Int.toNat (↑x_1 : Int)) x_2 = seenT l (Int.toNat many) x' (0 : Nat) ∧ (@List.nil Int = @List.nil Int ∧ @List.nil Int = @List.nil Int ∧ True) ∧ @List.nil Int = @List.nil Int ∧ @List.nil Int = @List.nil Int ∧ True)))))))) ∧
                            ((decide ((↑x_1 : Int) < (↑(List.length (@List.nil Int)) : Int))) = false →
                              (∃ (x : Nat), x ≤ List.length l ∧ ((0 : Int) = (↑x : Int) ∧ True) ∧ True) ∧
                              (∀ x_2 : Nat,
                              ((x_2 ≤ List.length l) →
                              ((List.length l ≤ big) →
                              (((decide ((↑x_2 : Int) < (↑(List.length l) : Int))) = true →
                                ((0 : Int) ≤ (↑x_2 : Int) ∧ (↑x_2 : Int) < (↑(List.length (seenT l (Int.toNat many) x_1 (0 : Nat))) : Int)) ∧
                                (Int.toNat (↑x_2 : Int) < List.length (seenT l (Int.toNat many) x_1 (0 : Nat))) ∧
                                (((!nth Ty.bool (seenT l (Int.toNat many) x_1 (0 : Nat)) (Int.toNat (↑x_2 : Int))) = true →
                                  (false = true)) ∧
                                ((!nth Ty.bool (seenT l (Int.toNat many) x_1 (0 : Nat)) (Int.toNat (↑x_2 : Int))) = false →
                                  ((I64 (↑x_2 : Int)) →
                                  ((I64 (1 : Int)) →
                                  (I64 ((↑x_2 : Int) + (1 : Int))) ∧
                                  (∃ (x' : Nat), x' ≤ List.length l ∧ List.length l - x' < List.length l - x_2 ∧ ((↑x_2 : Int) + (1 : Int) = (↑x' : Int) ∧ True) ∧ seenT l (Int.toNat many) x_1 (0 : Nat) = seenT l (Int.toNat many) x_1 (0 : Nat) ∧ (@List.nil Int = @List.nil Int ∧ @List.nil Int = @List.nil Int ∧ True) ∧ @List.nil Int = @List.nil Int ∧ @List.nil Int = @List.nil Int ∧ True)))))) ∧
                              ((decide ((↑x_2 : Int) < (↑(List.length l) : Int))) = false →
                                (List.length (@List.nil Int) ≤ (40 : Nat)) ∧
                                (∃ (x : Nat), (x ≤ List.length l ∧ ∀ (j : Nat), j < x → nameIs l s j = false) ∧ ((0 : Int) = (↑x : Int) ∧ True) ∧ True) ∧
                                (∀ x_3 : Nat,
                                ((x_3 ≤ List.length l ∧ ∀ (j : Nat), j < x_3 → nameIs l s j = false) →
                                ((List.length l ≤ big) →
                                (((decide ((↑x_3 : Int) < (↑(List.length l) : Int))) = true →
                                  ((0 : Int) ≤ (↑x_3 : Int) ∧ (↑x_3 : Int) < (↑(List.length l) : Int)) ∧
                                  ((((nth tSymbol l (Int.toNat (↑x_3 : Int))).fst == s) = true →
                                    ((findF (([], [], ()), l, s) == (↑x_3 : Int)) = true)) ∧
                                  (((nth tSymbol l (Int.toNat (↑x_3 : Int))).fst == s) = false →
                                    ((I64 (↑x_3 : Int)) →
                                    ((I64 (1 : Int)) →
                                    (I64 ((↑x_3 : Int) + (1 : Int))) ∧
                                    (∃ (x' : Nat), (x' ≤ List.length l ∧ ∀ (j : Nat), j < x' → nameIs l s j = false) ∧ List.length l - x' < List.length l - x_3 ∧ ((↑x_3 : Int) + (1 : Int) = (↑x' : Int) ∧ True) ∧ seenT l (Int.toNat many) x_1 (0 : Nat) = seenT l (Int.toNat many) x_1 (0 : Nat) ∧ (@List.nil Int = @List.nil Int ∧ @List.nil Int = @List.nil Int ∧ True) ∧ @List.nil Int = @List.nil Int ∧ @List.nil Int = @List.nil Int ∧ True)))))) ∧
                                ((decide ((↑x_3 : Int) < (↑(List.length l) : Int))) = false →
                                  (decide (findF (([], [], ()), l, s) < (0 : Int)) = true)))))))))))))))))))) ∧
                        ((decide ((8 : Nat) < List.length l)) = false →
                          (((!Err.isNil Err.nil) = true →
                            (((decide (many < (1 : Int))) = true →
                              (true = true)) ∧
                            ((decide (many < (1 : Int))) = false →
                              (decide (many > (16 : Int)) = true)))) ∧
                          ((!Err.isNil Err.nil) = false →
                            ((List.length l ≤ big) →
                            ((0 : Int) ≤ (↑(List.length l) : Int) ∧ (↑(List.length l) : Int) = (↑(List.length l) : Int) ∧ (↑(List.length l) : Int) ≤ (1000000000 : Int)) ∧
                            (∃ (x : Nat), x ≤ Int.toNat many ∧ ((0 : Int) = (↑x : Int) ∧ True) ∧ List.replicate (Int.toNat (↑(List.length l) : Int)) (zeroD Ty.bool) = seenT l (Int.toNat many) x (0 : Nat) ∧ True) ∧
                            (∀ x_1 : Nat,
                            ((x_1 ≤ Int.toNat many) →
                            ((List.length (firstT l (Int.toNat many) (0 : Nat)) ≤ big) →
                            (((decide ((↑x_1 : Int) < (↑(List.length (firstT l (Int.toNat many) (0 : Nat))) : Int))) = true →
                              ((0 : Int) ≤ (↑x_1 : Int) ∧ (↑x_1 : Int) < (↑(List.length (firstT l (Int.toNat many) (0 : Nat))) : Int)) ∧
                              (∃ (x : Nat), x ≤ List.length l ∧ (nth (Ty.int IntKind.i64) (firstT l (Int.toNat many) (0 : Nat)) (Int.toNat (↑x_1 : Int)) = firstOf l (Int.toNat many) (Int.toNat (↑x_1 : Int)) x ∧ True) ∧ seenT l (Int.toNat many) x_1 (0 : Nat) = seenT l (Int.toNat many) (Int.toNat (↑x_1 : Int)) x ∧ True) ∧
                              (∀ x_2 : Nat,
                              ((x_2 ≤ List.length l) →
                              (((decide (firstOf l (Int.toNat many) (Int.toNat (↑x_1 : Int)) x_2 ≥ (0 : Int))) = true →
                                ((List.length l ≤ big) →
                                (((decide (firstOf l (Int.toNat many) (Int.toNat (↑x_1 : Int)) x_2 ≥ (↑(List.length l) : Int))) = true →
                                  (false = true)) ∧
                                ((decide (firstOf l (Int.toNat many) (Int.toNat (↑x_1 : Int)) x_2 ≥ (↑(List.length l) : Int))) = false →
                                  ((0 : Int) ≤ firstOf l (Int.toNat many) (Int.toNat (↑x_1 : Int)) x_2 ∧ firstOf l (Int.toNat many) (Int.toNat (↑x_1 : Int)) x_2 < (↑(List.length (seenT l (Int.toNat many) (Int.toNat (↑x_1 : Int)) x_2)) : Int)) ∧
                                  (Int.toNat (firstOf l (Int.toNat many) (Int.toNat (↑x_1 : Int)) x_2) < List.length (seenT l (Int.toNat many) (Int.toNat (↑x_1 : Int)) x_2)) ∧
                                  (((nth Ty.bool (seenT l (Int.toNat many) (Int.toNat (↑x_1 : Int)) x_2) (Int.toNat (firstOf l (Int.toNat many) (Int.toNat (↑x_1 : Int)) x_2))) = true →
                                    (false = true)) ∧
                                  ((nth Ty.bool (seenT l (Int.toNat many) (Int.toNat (↑x_1 : Int)) x_2) (Int.toNat (firstOf l (Int.toNat many) (Int.toNat (↑x_1 : Int)) x_2))) = false →
                                    ((0 : Int) ≤ firstOf l (Int.toNat many) (Int.toNat (↑x_1 : Int)) x_2 ∧ firstOf l (Int.toNat many) (Int.toNat (↑x_1 : Int)) x_2 < (↑(List.length l) : Int)) ∧
                                    (True) ∧
                                    (many ≠ (0 : Int)) ∧
                                    (∀ x_3 : Int,
                                    ((x_3 = Int.tmod (↑(hashF (nth tSymbol l (Int.toNat (firstOf l (Int.toNat many) (Int.toNat (↑x_1 : Int)) x_2))).fst) : Int) many) →
                                    (((x_3 != (↑x_1 : Int)) = true →
                                      (false = true)) ∧
                                    ((x_3 != (↑x_1 : Int)) = false →
                                      ((0 : Int) ≤ firstOf l (Int.toNat many) (Int.toNat (↑x_1 : Int)) x_2 ∧ firstOf l (Int.toNat many) (Int.toNat (↑x_1 : Int)) x_2 < (↑(List.length (seenT l (Int.toNat many) (Int.toNat (↑x_1 : Int)) x_2)) : Int)) ∧
                                      (Int.toNat (firstOf l (Int.toNat many) (Int.toNat (↑x_1 : Int)) x_2) < List.length (seenT l (Int.toNat many) (Int.toNat (↑x_1 : Int)) x_2)) ∧
                                      ((0 : Int) ≤ firstOf l (Int.toNat many) (Int.toNat (↑x_1 : Int)) x_2 ∧ firstOf l (Int.toNat many) (Int.toNat (↑x_1 : Int)) x_2 < (↑(List.length (nextT l (Int.toNat many) (0 : Nat))) : Int)) ∧
                                      (∃ (x' : Nat), x' ≤ List.length l ∧ List.length l - x' < List.length l - x_2 ∧ (nth (Ty.int IntKind.i64) (nextT l (Int.toNat many) (0 : Nat)) (Int.toNat (firstOf l (Int.toNat many) (Int.toNat (↑x_1 : Int)) x_2)) = firstOf l (Int.toNat many) (Int.toNat (↑x_1 : Int)) x' ∧ True) ∧ List.set (seenT l (Int.toNat many) (Int.toNat (↑x_1 : Int)) x_2) (Int.toNat (firstOf l (Int.toNat many) (Int.toNat (↑x_1 : Int)) x_2)) true = seenT l (Int.toNat many) (Int.toNat (↑x_1 : Int)) x' ∧ (firstT l (Int.toNat many) (0 : Nat) = firstT l (Int.toNat many) (0 : Nat) ∧ nextT l (Int.toNat many) (0 : Nat) = nextT l (Int.toNat many) (0 : Nat) ∧ True) ∧ @List.nil Int = @List.nil Int ∧ @List.nil Int = @List.nil Int ∧ True))))))))))) ∧
                              ((decide (firstOf l (Int.toNat many) (Int.toNat (↑x_1 : Int)) x_2 ≥ (0 : Int))) = false →
                                ((I64 (↑x_1 : Int)) →
                                ((I64 (1 : Int)) →
                                (I64 ((↑x_1 : Int) + (1 : Int))) ∧
                                (∃ (x' : Nat), x' ≤ Int.toNat many ∧ Int.toNat many - x' < Int.toNat many - x_1 ∧ ((↑x_1 : Int) + (1 : Int) = (↑x' : Int) ∧ True) ∧ seenT l (Int.toNat many) (Int.toNat (↑x_1 : Int)) x_2 = seenT l (Int.toNat many) x' (0 : Nat) ∧ (firstT l (Int.toNat many) (0 : Nat) = firstT l (Int.toNat many) (0 : Nat) ∧ nextT l (Int.toNat many) (0 : Nat) = nextT l (Int.toNat many) (0 : Nat) ∧ True) ∧ @List.nil Int = @List.nil Int ∧ @List.nil Int = @List.nil Int ∧ True)))))))) ∧
                            ((decide ((↑x_1 : Int) < (↑(List.length (firstT l (Int.toNat many) (0 : Nat))) : Int))) = false →
                              (∃ (x : Nat), x ≤ List.length l ∧ ((0 : Int) = (↑x : Int) ∧ True) ∧ True) ∧
                              (∀ x_2 : Nat,
                              ((x_2 ≤ List.length l) →
                              ((List.length l ≤ big) →
                              (((decide ((↑x_2 : Int) < (↑(List.length l) : Int))) = true →
                                ((0 : Int) ≤ (↑x_2 : Int) ∧ (↑x_2 : Int) < (↑(List.length (seenT l (Int.toNat many) x_1 (0 : Nat))) : Int)) ∧
                                (Int.toNat (↑x_2 : Int) < List.length (seenT l (Int.toNat many) x_1 (0 : Nat))) ∧
                                (((!nth Ty.bool (seenT l (Int.toNat many) x_1 (0 : Nat)) (Int.toNat (↑x_2 : Int))) = true →
                                  (false = true)) ∧
                                ((!nth Ty.bool (seenT l (Int.toNat many) x_1 (0 : Nat)) (Int.toNat (↑x_2 : Int))) = false →
                                  ((I64 (↑x_2 : Int)) →
                                  ((I64 (1 : Int)) →
                                  (I64 ((↑x_2 : Int) + (1 : Int))) ∧
                                  (∃ (x' : Nat), x' ≤ List.length l ∧ List.length l - x' < List.length l - x_2 ∧ ((↑x_2 : Int) + (1 : Int) = (↑x' : Int) ∧ True) ∧ seenT l (Int.toNat many) x_1 (0 : Nat) = seenT l (Int.toNat many) x_1 (0 : Nat) ∧ (firstT l (Int.toNat many) (0 : Nat) = firstT l (Int.toNat many) (0 : Nat) ∧ nextT l (Int.toNat many) (0 : Nat) = nextT l (Int.toNat many) (0 : Nat) ∧ True) ∧ @List.nil Int = @List.nil Int ∧ @List.nil Int = @List.nil Int ∧ True)))))) ∧
                              ((decide ((↑x_2 : Int) < (↑(List.length l) : Int))) = false →
                                (List.length (firstT l (Int.toNat many) (0 : Nat)) ≤ (40 : Nat)) ∧
                                (∃ (x : Nat), (x ≤ List.length l ∧ ∀ (j : Nat), j < x → nameIs l s j = false) ∧ ((0 : Int) = (↑x : Int) ∧ True) ∧ True) ∧
                                (∀ x_3 : Nat,
                                ((x_3 ≤ List.length l ∧ ∀ (j : Nat), j < x_3 → nameIs l s j = false) →
                                ((List.length l ≤ big) →
                                (((decide ((↑x_3 : Int) < (↑(List.length l) : Int))) = true →
                                  ((0 : Int) ≤ (↑x_3 : Int) ∧ (↑x_3 : Int) < (↑(List.length l) : Int)) ∧
                                  ((((nth tSymbol l (Int.toNat (↑x_3 : Int))).fst == s) = true →
                                    ((findF ((firstT l (Int.toNat many) (0 : Nat), nextT l (Int.toNat many) (0 : Nat), ()), l, s) == (↑x_3 : Int)) = true)) ∧
                                  (((nth tSymbol l (Int.toNat (↑x_3 : Int))).fst == s) = false →
                                    ((I64 (↑x_3 : Int)) →
                                    ((I64 (1 : Int)) →
                                    (I64 ((↑x_3 : Int) + (1 : Int))) ∧
                                    (∃ (x' : Nat), (x' ≤ List.length l ∧ ∀ (j : Nat), j < x' → nameIs l s j = false) ∧ List.length l - x' < List.length l - x_3 ∧ ((↑x_3 : Int) + (1 : Int) = (↑x' : Int) ∧ True) ∧ seenT l (Int.toNat many) x_1 (0 : Nat) = seenT l (Int.toNat many) x_1 (0 : Nat) ∧ (firstT l (Int.toNat many) (0 : Nat) = firstT l (Int.toNat many) (0 : Nat) ∧ nextT l (Int.toNat many) (0 : Nat) = nextT l (Int.toNat many) (0 : Nat) ∧ True) ∧ @List.nil Int = @List.nil Int ∧ @List.nil Int = @List.nil Int ∧ True)))))) ∧
                                ((decide ((↑x_3 : Int) < (↑(List.length l) : Int))) = false →
                                  (decide (findF ((firstT l (Int.toNat many) (0 : Nat), nextT l (Int.toNat many) (0 : Nat), ()), l, s) < (0 : Int)) = true))))))))))))))))))))))))))))))))))))))))) ∧
        ((decide ((16 : Int) < (1 : Int))) = false →
          (((decide ((8 : Nat) < List.length [([(120 : UInt8)], (0 : Int), false, ())])) = true →
            (((!Err.isNil (Err.no (2 : Int))) = true →
              (false = true)) ∧
            ((!Err.isNil (Err.no (2 : Int))) = false →
              (List.length (@List.nil Int) ≤ (40 : Nat)) ∧
              (((findF (([], [], ()), [([(120 : UInt8)], (0 : Int), false, ())], [(120 : UInt8)]) != (0 : Int)) = true →
                (false = true)) ∧
              ((findF (([], [], ()), [([(120 : UInt8)], (0 : Int), false, ())], [(120 : UInt8)]) != (0 : Int)) = false →
                ((List.length l ≤ big) →
                (((decide ((↑(List.length l) : Int) > (8 : Int))) = true →
                  (true = true)) ∧
                ((decide ((↑(List.length l) : Int) > (8 : Int))) = false →
                  ((List.length s ≤ big) →
                  (((decide ((↑(List.length s) : Int) > (30 : Int))) = true →
                    (true = true)) ∧
                  ((decide ((↑(List.length s) : Int) > (30 : Int))) = false →
                    (∃ (x : Nat), x ≤ List.length l ∧ ((0 : Int) = (↑x : Int) ∧ True) ∧ True) ∧
                    (∀ x_0 : Nat,
                    ((x_0 ≤ List.length l) →
                    ((List.length l ≤ big) →
                    (((decide ((↑x_0 : Int) < (↑(List.length l) : Int))) = true →
                      ((0 : Int) ≤ (↑x_0 : Int) ∧ (↑x_0 : Int) < (↑(List.length l) : Int)) ∧
                      ((List.length (nth tSymbol l (Int.toNat (↑x_0 : Int))).fst ≤ big) →
                      (((decide ((↑(List.length (nth tSymbol l (Int.toNat (↑x_0 : Int))).fst) : Int) > (30 : Int))) = true →
                        (true = true)) ∧
                      ((decide ((↑(List.length (nth tSymbol l (Int.toNat (↑x_0 : Int))).fst) : Int) > (30 : Int))) = false →
                        ((I64 (↑x_0 : Int)) →
                        ((I64 (1 : Int)) →
                        (I64 ((↑x_0 : Int) + (1 : Int))) ∧
                        (∃ (x' : Nat), x' ≤ List.length l ∧ List.length l - x' < List.length l - x_0 ∧ ((↑x_0 : Int) + (1 : Int) = (↑x' : Int) ∧ True) ∧ (@List.nil Int = @List.nil Int ∧ @List.nil Int = @List.nil Int ∧ True) ∧ @List.nil Int = @List.nil Int ∧ @List.nil Int = @List.nil Int ∧ True))))))) ∧
                    ((decide ((↑x_0 : Int) < (↑(List.length l) : Int))) = false →
                      (True) ∧
                      (((decide (many < (1 : Int))) = true →
                        (((!Err.isNil (Err.no (1 : Int))) = true →
                          (((decide (many < (1 : Int))) = true →
                            (true = true)) ∧
                          ((decide (many < (1 : Int))) = false →
                            (decide (many > (16 : Int)) = true)))) ∧
                        ((!Err.isNil (Err.no (1 : Int))) = false →
                          ((List.length l ≤ big) →
                          ((0 : Int) ≤ (↑(List.length l) : Int) ∧ (↑(List.length l) : Int) = (↑(List.length l) : Int) ∧ (↑(List.length l) : Int) ≤ (1000000000 : Int)) ∧
                          (∃ (x : Nat), x ≤ Int.toNat many ∧ ((0 : Int) = (↑x : Int) ∧ True) ∧ List.replicate (Int.toNat (↑(List.length l) : Int)) (zeroD Ty.bool) = seenT l (Int.toNat many) x (0 : Nat) ∧ True) ∧
                          (∀ x_1 : Nat,
                          ((x_1 ≤ Int.toNat many) →
                          ((List.length (@List.nil Int) ≤ big) →
                          (((decide ((↑x_1 : Int) < (↑(List.length (@List.nil Int)) : Int))) = true →
                            ((0 : Int) ≤ (↑x_1 : Int) ∧ (↑x_1 : Int) < (↑(List.length (@List.nil Int)) : Int)) ∧
                            (∃ (x : Nat), x ≤ List.length l ∧ (nth (Ty.int IntKind.i64) (@List.nil Int) (Int.toNat (↑x_1 : Int)) = firstOf l (Int.toNat many) (Int.toNat (↑x_1 : Int)) x ∧ True) ∧ seenT l (Int.toNat many) x_1 (0 : Nat) = seenT l (Int.toNat many) (Int.toNat (↑x_1 : Int)) x ∧ True) ∧
                            (∀ x_2 : Nat,
                            ((x_2 ≤ List.length l) →
                            (((decide (firstOf l (Int.toNat many) (Int.toNat (↑x_1 : Int)) x_2 ≥ (0 : Int))) = true →
                              ((List.length l ≤ big) →
                              (((decide (firstOf l (Int.toNat many) (Int.toNat (↑x_1 : Int)) x_2 ≥ (↑(List.length l) : Int))) = true →
                                (false = true)) ∧
                              ((decide (firstOf l (Int.toNat many) (Int.toNat (↑x_1 : Int)) x_2 ≥ (↑(List.length l) : Int))) = false →
                                ((0 : Int) ≤ firstOf l (Int.toNat many) (Int.toNat (↑x_1 : Int)) x_2 ∧ firstOf l (Int.toNat many) (Int.toNat (↑x_1 : Int)) x_2 < (↑(List.length (seenT l (Int.toNat many) (Int.toNat (↑x_1 : Int)) x_2)) : Int)) ∧
                                (Int.toNat (firstOf l (Int.toNat many) (Int.toNat (↑x_1 : Int)) x_2) < List.length (seenT l (Int.toNat many) (Int.toNat (↑x_1 : Int)) x_2)) ∧
                                (((nth Ty.bool (seenT l (Int.toNat many) (Int.toNat (↑x_1 : Int)) x_2) (Int.toNat (firstOf l (Int.toNat many) (Int.toNat (↑x_1 : Int)) x_2))) = true →
                                  (false = true)) ∧
                                ((nth Ty.bool (seenT l (Int.toNat many) (Int.toNat (↑x_1 : Int)) x_2) (Int.toNat (firstOf l (Int.toNat many) (Int.toNat (↑x_1 : Int)) x_2))) = false →
                                  ((0 : Int) ≤ firstOf l (Int.toNat many) (Int.toNat (↑x_1 : Int)) x_2 ∧ firstOf l (Int.toNat many) (Int.toNat (↑x_1 : Int)) x_2 < (↑(List.length l) : Int)) ∧
                                  (True) ∧
                                  (many ≠ (0 : Int)) ∧
                                  (∀ x_3 : Int,
                                  ((x_3 = Int.tmod (↑(hashF (nth tSymbol l (Int.toNat (firstOf l (Int.toNat many) (Int.toNat (↑x_1 : Int)) x_2))).fst) : Int) many) →
                                  (((x_3 != (↑x_1 : Int)) = true →
                                    (false = true)) ∧
                                  ((x_3 != (↑x_1 : Int)) = false →
                                    ((0 : Int) ≤ firstOf l (Int.toNat many) (Int.toNat (↑x_1 : Int)) x_2 ∧ firstOf l (Int.toNat many) (Int.toNat (↑x_1 : Int)) x_2 < (↑(List.length (seenT l (Int.toNat many) (Int.toNat (↑x_1 : Int)) x_2)) : Int)) ∧
                                    (Int.toNat (firstOf l (Int.toNat many) (Int.toNat (↑x_1 : Int)) x_2) < List.length (seenT l (Int.toNat many) (Int.toNat (↑x_1 : Int)) x_2)) ∧
                                    ((0 : Int) ≤ firstOf l (Int.toNat many) (Int.toNat (↑x_1 : Int)) x_2 ∧ firstOf l (Int.toNat many) (Int.toNat (↑x_1 : Int)) x_2 < (↑(List.length (@List.nil Int)) : Int)) ∧
                                    (∃ (x' : Nat), x' ≤ List.length l ∧ List.length l - x' < List.length l - x_2 ∧ (nth (Ty.int IntKind.i64) (@List.nil Int) (Int.toNat (firstOf l (Int.toNat many) (Int.toNat (↑x_1 : Int)) x_2)) = firstOf l (Int.toNat many) (Int.toNat (↑x_1 : Int)) x' ∧ True) ∧ List.set (seenT l (Int.toNat many) (Int.toNat (↑x_1 : Int)) x_2) (Int.toNat (firstOf l (Int.toNat many) (Int.toNat (↑x_1 : Int)) x_2)) true = seenT l (Int.toNat many) (Int.toNat (↑x_1 : Int)) x' ∧ (@List.nil Int = @List.nil Int ∧ @List.nil Int = @List.nil Int ∧ True) ∧ @List.nil Int = @List.nil Int ∧ @List.nil Int = @List.nil Int ∧ True))))))))))) ∧
                            ((decide (firstOf l (Int.toNat many) (Int.toNat (↑x_1 : Int)) x_2 ≥ (0 : Int))) = false →
                              ((I64 (↑x_1 : Int)) →
                              ((I64 (1 : Int)) →
                              (I64 ((↑x_1 : Int) + (1 : Int))) ∧
                              (∃ (x' : Nat), x' ≤ Int.toNat many ∧ Int.toNat many - x' < Int.toNat many - x_1 ∧ ((↑x_1 : Int) + (1 : Int) = (↑x' : Int) ∧ True) ∧ seenT l (Int.toNat many) (Int.toNat (↑x_1 : Int)) x_2 = seenT l (Int.toNat many) x' (0 : Nat) ∧ (@List.nil Int = @List.nil Int ∧ @List.nil Int = @List.nil Int ∧ True) ∧ @List.nil Int = @List.nil Int ∧ @List.nil Int = @List.nil Int ∧ True)))))))) ∧
                          ((decide ((↑x_1 : Int) < (↑(List.length (@List.nil Int)) : Int))) = false →
                            (∃ (x : Nat), x ≤ List.length l ∧ ((0 : Int) = (↑x : Int) ∧ True) ∧ True) ∧
                            (∀ x_2 : Nat,
                            ((x_2 ≤ List.length l) →
                            ((List.length l ≤ big) →
                            (((decide ((↑x_2 : Int) < (↑(List.length l) : Int))) = true →
                              ((0 : Int) ≤ (↑x_2 : Int) ∧ (↑x_2 : Int) < (↑(List.length (seenT l (Int.toNat many) x_1 (0 : Nat))) : Int)) ∧
                              (Int.toNat (↑x_2 : Int) < List.length (seenT l (Int.toNat many) x_1 (0 : Nat))) ∧
                              (((!nth Ty.bool (seenT l (Int.toNat many) x_1 (0 : Nat)) (Int.toNat (↑x_2 : Int))) = true →
                                (false = true)) ∧
                              ((!nth Ty.bool (seenT l (Int.toNat many) x_1 (0 : Nat)) (Int.toNat (↑x_2 : Int))) = false →
                                ((I64 (↑x_2 : Int)) →
                                ((I64 (1 : Int)) →
                                (I64 ((↑x_2 : Int) + (1 : Int))) ∧
                                (∃ (x' : Nat), x' ≤ List.length l ∧ List.length l - x' < List.length l - x_2 ∧ ((↑x_2 : Int) + (1 : Int) = (↑x' : Int) ∧ True) ∧ seenT l (Int.toNat many) x_1 (0 : Nat) = seenT l (Int.toNat many) x_1 (0 : Nat) ∧ (@List.nil Int = @List.nil Int ∧ @List.nil Int = @List.nil Int ∧ True) ∧ @List.nil Int = @List.nil Int ∧ @List.nil Int = @List.nil Int ∧ True)))))) ∧
                            ((decide ((↑x_2 : Int) < (↑(List.length l) : Int))) = false →
                              (List.length (@List.nil Int) ≤ (40 : Nat)) ∧
                              (∃ (x : Nat), (x ≤ List.length l ∧ ∀ (j : Nat), j < x → nameIs l s j = false) ∧ ((0 : Int) = (↑x : Int) ∧ True) ∧ True) ∧
                              (∀ x_3 : Nat,
                              ((x_3 ≤ List.length l ∧ ∀ (j : Nat), j < x_3 → nameIs l s j = false) →
                              ((List.length l ≤ big) →
                              (((decide ((↑x_3 : Int) < (↑(List.length l) : Int))) = true →
                                ((0 : Int) ≤ (↑x_3 : Int) ∧ (↑x_3 : Int) < (↑(List.length l) : Int)) ∧
                                ((((nth tSymbol l (Int.toNat (↑x_3 : Int))).fst == s) = true →
                                  ((findF (([], [], ()), l, s) == (↑x_3 : Int)) = true)) ∧
                                (((nth tSymbol l (Int.toNat (↑x_3 : Int))).fst == s) = false →
                                  ((I64 (↑x_3 : Int)) →
                                  ((I64 (1 : Int)) →
                                  (I64 ((↑x_3 : Int) + (1 : Int))) ∧
                                  (∃ (x' : Nat), (x' ≤ List.length l ∧ ∀ (j : Nat), j < x' → nameIs l s j = false) ∧ List.length l - x' < List.length l - x_3 ∧ ((↑x_3 : Int) + (1 : Int) = (↑x' : Int) ∧ True) ∧ seenT l (Int.toNat many) x_1 (0 : Nat) = seenT l (Int.toNat many) x_1 (0 : Nat) ∧ (@List.nil Int = @List.nil Int ∧ @List.nil Int = @List.nil Int ∧ True) ∧ @List.nil Int = @List.nil Int ∧ @List.nil Int = @List.nil Int ∧ True)))))) ∧
                              ((decide ((↑x_3 : Int) < (↑(List.length l) : Int))) = false →
                                (decide (findF (([], [], ()), l, s) < (0 : Int)) = true)))))))))))))))))))) ∧
                      ((decide (many < (1 : Int))) = false →
                        (((decide ((16 : Int) < many)) = true →
                          (((!Err.isNil (Err.no (1 : Int))) = true →
                            (((decide (many < (1 : Int))) = true →
                              (true = true)) ∧
                            ((decide (many < (1 : Int))) = false →
                              (decide (many > (16 : Int)) = true)))) ∧
                          ((!Err.isNil (Err.no (1 : Int))) = false →
                            ((List.length l ≤ big) →
                            ((0 : Int) ≤ (↑(List.length l) : Int) ∧ (↑(List.length l) : Int) = (↑(List.length l) : Int) ∧ (↑(List.length l) : Int) ≤ (1000000000 : Int)) ∧
                            (∃ (x : Nat), x ≤ Int.toNat many ∧ ((0 : Int) = (↑x : Int) ∧ True) ∧ List.replicate (Int.toNat (↑(List.length l) : Int)) (zeroD Ty.bool) = seenT l (Int.toNat many) x (0 : Nat) ∧ True) ∧
                            (∀ x_1 : Nat,
                            ((x_1 ≤ Int.toNat many) →
                            ((List.length (@List.nil Int) ≤ big) →
                            (((decide ((↑x_1 : Int) < (↑(List.length (@List.nil Int)) : Int))) = true →
                              ((0 : Int) ≤ (↑x_1 : Int) ∧ (↑x_1 : Int) < (↑(List.length (@List.nil Int)) : Int)) ∧
                              (∃ (x : Nat), x ≤ List.length l ∧ (nth (Ty.int IntKind.i64) (@List.nil Int) (Int.toNat (↑x_1 : Int)) = firstOf l (Int.toNat many) (Int.toNat (↑x_1 : Int)) x ∧ True) ∧ seenT l (Int.toNat many) x_1 (0 : Nat) = seenT l (Int.toNat many) (Int.toNat (↑x_1 : Int)) x ∧ True) ∧
                              (∀ x_2 : Nat,
                              ((x_2 ≤ List.length l) →
                              (((decide (firstOf l (Int.toNat many) (Int.toNat (↑x_1 : Int)) x_2 ≥ (0 : Int))) = true →
                                ((List.length l ≤ big) →
                                (((decide (firstOf l (Int.toNat many) (Int.toNat (↑x_1 : Int)) x_2 ≥ (↑(List.length l) : Int))) = true →
                                  (false = true)) ∧
                                ((decide (firstOf l (Int.toNat many) (Int.toNat (↑x_1 : Int)) x_2 ≥ (↑(List.length l) : Int))) = false →
                                  ((0 : Int) ≤ firstOf l (Int.toNat many) (Int.toNat (↑x_1 : Int)) x_2 ∧ firstOf l (Int.toNat many) (Int.toNat (↑x_1 : Int)) x_2 < (↑(List.length (seenT l (Int.toNat many) (Int.toNat (↑x_1 : Int)) x_2)) : Int)) ∧
                                  (Int.toNat (firstOf l (Int.toNat many) (Int.toNat (↑x_1 : Int)) x_2) < List.length (seenT l (Int.toNat many) (Int.toNat (↑x_1 : Int)) x_2)) ∧
                                  (((nth Ty.bool (seenT l (Int.toNat many) (Int.toNat (↑x_1 : Int)) x_2) (Int.toNat (firstOf l (Int.toNat many) (Int.toNat (↑x_1 : Int)) x_2))) = true →
                                    (false = true)) ∧
                                  ((nth Ty.bool (seenT l (Int.toNat many) (Int.toNat (↑x_1 : Int)) x_2) (Int.toNat (firstOf l (Int.toNat many) (Int.toNat (↑x_1 : Int)) x_2))) = false →
                                    ((0 : Int) ≤ firstOf l (Int.toNat many) (Int.toNat (↑x_1 : Int)) x_2 ∧ firstOf l (Int.toNat many) (Int.toNat (↑x_1 : Int)) x_2 < (↑(List.length l) : Int)) ∧
                                    (True) ∧
                                    (many ≠ (0 : Int)) ∧
                                    (∀ x_3 : Int,
                                    ((x_3 = Int.tmod (↑(hashF (nth tSymbol l (Int.toNat (firstOf l (Int.toNat many) (Int.toNat (↑x_1 : Int)) x_2))).fst) : Int) many) →
                                    (((x_3 != (↑x_1 : Int)) = true →
                                      (false = true)) ∧
                                    ((x_3 != (↑x_1 : Int)) = false →
                                      ((0 : Int) ≤ firstOf l (Int.toNat many) (Int.toNat (↑x_1 : Int)) x_2 ∧ firstOf l (Int.toNat many) (Int.toNat (↑x_1 : Int)) x_2 < (↑(List.length (seenT l (Int.toNat many) (Int.toNat (↑x_1 : Int)) x_2)) : Int)) ∧
                                      (Int.toNat (firstOf l (Int.toNat many) (Int.toNat (↑x_1 : Int)) x_2) < List.length (seenT l (Int.toNat many) (Int.toNat (↑x_1 : Int)) x_2)) ∧
                                      ((0 : Int) ≤ firstOf l (Int.toNat many) (Int.toNat (↑x_1 : Int)) x_2 ∧ firstOf l (Int.toNat many) (Int.toNat (↑x_1 : Int)) x_2 < (↑(List.length (@List.nil Int)) : Int)) ∧
                                      (∃ (x' : Nat), x' ≤ List.length l ∧ List.length l - x' < List.length l - x_2 ∧ (nth (Ty.int IntKind.i64) (@List.nil Int) (Int.toNat (firstOf l (Int.toNat many) (Int.toNat (↑x_1 : Int)) x_2)) = firstOf l (Int.toNat many) (Int.toNat (↑x_1 : Int)) x' ∧ True) ∧ List.set (seenT l (Int.toNat many) (Int.toNat (↑x_1 : Int)) x_2) (Int.toNat (firstOf l (Int.toNat many) (Int.toNat (↑x_1 : Int)) x_2)) true = seenT l (Int.toNat many) (Int.toNat (↑x_1 : Int)) x' ∧ (@List.nil Int = @List.nil Int ∧ @List.nil Int = @List.nil Int ∧ True) ∧ @List.nil Int = @List.nil Int ∧ @List.nil Int = @List.nil Int ∧ True))))))))))) ∧
                              ((decide (firstOf l (Int.toNat many) (Int.toNat (↑x_1 : Int)) x_2 ≥ (0 : Int))) = false →
                                ((I64 (↑x_1 : Int)) →
                                ((I64 (1 : Int)) →
                                (I64 ((↑x_1 : Int) + (1 : Int))) ∧
                                (∃ (x' : Nat), x' ≤ Int.toNat many ∧ Int.toNat many - x' < Int.toNat many - x_1 ∧ ((↑x_1 : Int) + (1 : Int) = (↑x' : Int) ∧ True) ∧ seenT l (Int.toNat many) (Int.toNat (↑x_1 : Int)) x_2 = seenT l (Int.toNat many) x' (0 : Nat) ∧ (@List.nil Int = @List.nil Int ∧ @List.nil Int = @List.nil Int ∧ True) ∧ @List.nil Int = @List.nil Int ∧ @List.nil Int = @List.nil Int ∧ True)))))))) ∧
                            ((decide ((↑x_1 : Int) < (↑(List.length (@List.nil Int)) : Int))) = false →
                              (∃ (x : Nat), x ≤ List.length l ∧ ((0 : Int) = (↑x : Int) ∧ True) ∧ True) ∧
                              (∀ x_2 : Nat,
                              ((x_2 ≤ List.length l) →
                              ((List.length l ≤ big) →
                              (((decide ((↑x_2 : Int) < (↑(List.length l) : Int))) = true →
                                ((0 : Int) ≤ (↑x_2 : Int) ∧ (↑x_2 : Int) < (↑(List.length (seenT l (Int.toNat many) x_1 (0 : Nat))) : Int)) ∧
                                (Int.toNat (↑x_2 : Int) < List.length (seenT l (Int.toNat many) x_1 (0 : Nat))) ∧
                                (((!nth Ty.bool (seenT l (Int.toNat many) x_1 (0 : Nat)) (Int.toNat (↑x_2 : Int))) = true →
                                  (false = true)) ∧
                                ((!nth Ty.bool (seenT l (Int.toNat many) x_1 (0 : Nat)) (Int.toNat (↑x_2 : Int))) = false →
                                  ((I64 (↑x_2 : Int)) →
                                  ((I64 (1 : Int)) →
                                  (I64 ((↑x_2 : Int) + (1 : Int))) ∧
                                  (∃ (x' : Nat), x' ≤ List.length l ∧ List.length l - x' < List.length l - x_2 ∧ ((↑x_2 : Int) + (1 : Int) = (↑x' : Int) ∧ True) ∧ seenT l (Int.toNat many) x_1 (0 : Nat) = seenT l (Int.toNat many) x_1 (0 : Nat) ∧ (@List.nil Int = @List.nil Int ∧ @List.nil Int = @List.nil Int ∧ True) ∧ @List.nil Int = @List.nil Int ∧ @List.nil Int = @List.nil Int ∧ True)))))) ∧
                              ((decide ((↑x_2 : Int) < (↑(List.length l) : Int))) = false →
                                (List.length (@List.nil Int) ≤ (40 : Nat)) ∧
                                (∃ (x : Nat), (x ≤ List.length l ∧ ∀ (j : Nat), j < x → nameIs l s j = false) ∧ ((0 : Int) = (↑x : Int) ∧ True) ∧ True) ∧
                                (∀ x_3 : Nat,
                                ((x_3 ≤ List.length l ∧ ∀ (j : Nat), j < x_3 → nameIs l s j = false) →
                                ((List.length l ≤ big) →
                                (((decide ((↑x_3 : Int) < (↑(List.length l) : Int))) = true →
                                  ((0 : Int) ≤ (↑x_3 : Int) ∧ (↑x_3 : Int) < (↑(List.length l) : Int)) ∧
                                  ((((nth tSymbol l (Int.toNat (↑x_3 : Int))).fst == s) = true →
                                    ((findF (([], [], ()), l, s) == (↑x_3 : Int)) = true)) ∧
                                  (((nth tSymbol l (Int.toNat (↑x_3 : Int))).fst == s) = false →
                                    ((I64 (↑x_3 : Int)) →
                                    ((I64 (1 : Int)) →
                                    (I64 ((↑x_3 : Int) + (1 : Int))) ∧
                                    (∃ (x' : Nat), (x' ≤ List.length l ∧ ∀ (j : Nat), j < x' → nameIs l s j = false) ∧ List.length l - x' < List.length l - x_3 ∧ ((↑x_3 : Int) + (1 : Int) = (↑x' : Int) ∧ True) ∧ seenT l (Int.toNat many) x_1 (0 : Nat) = seenT l (Int.toNat many) x_1 (0 : Nat) ∧ (@List.nil Int = @List.nil Int ∧ @List.nil Int = @List.nil Int ∧ True) ∧ @List.nil Int = @List.nil Int ∧ @List.nil Int = @List.nil Int ∧ True)))))) ∧
                                ((decide ((↑x_3 : Int) < (↑(List.length l) : Int))) = false →
                                  (decide (findF (([], [], ()), l, s) < (0 : Int)) = true)))))))))))))))))))) ∧
                        ((decide ((16 : Int) < many)) = false →
                          (((decide ((8 : Nat) < List.length l)) = true →
                            (((!Err.isNil (Err.no (2 : Int))) = true →
                              (((decide (many < (1 : Int))) = true →
                                (true = true)) ∧
                              ((decide (many < (1 : Int))) = false →
                                (decide (many > (16 : Int)) = true)))) ∧
                            ((!Err.isNil (Err.no (2 : Int))) = false →
                              ((List.length l ≤ big) →
                              ((0 : Int) ≤ (↑(List.length l) : Int) ∧ (↑(List.length l) : Int) = (↑(List.length l) : Int) ∧ (↑(List.length l) : Int) ≤ (1000000000 : Int)) ∧
                              (∃ (x : Nat), x ≤ Int.toNat many ∧ ((0 : Int) = (↑x : Int) ∧ True) ∧ List.replicate (Int.toNat (↑(List.length l) : Int)) (zeroD Ty.bool) = seenT l (Int.toNat many) x (0 : Nat) ∧ True) ∧
                              (∀ x_1 : Nat,
                              ((x_1 ≤ Int.toNat many) →
                              ((List.length (@List.nil Int) ≤ big) →
                              (((decide ((↑x_1 : Int) < (↑(List.length (@List.nil Int)) : Int))) = true →
                                ((0 : Int) ≤ (↑x_1 : Int) ∧ (↑x_1 : Int) < (↑(List.length (@List.nil Int)) : Int)) ∧
                                (∃ (x : Nat), x ≤ List.length l ∧ (nth (Ty.int IntKind.i64) (@List.nil Int) (Int.toNat (↑x_1 : Int)) = firstOf l (Int.toNat many) (Int.toNat (↑x_1 : Int)) x ∧ True) ∧ seenT l (Int.toNat many) x_1 (0 : Nat) = seenT l (Int.toNat many) (Int.toNat (↑x_1 : Int)) x ∧ True) ∧
                                (∀ x_2 : Nat,
                                ((x_2 ≤ List.length l) →
                                (((decide (firstOf l (Int.toNat many) (Int.toNat (↑x_1 : Int)) x_2 ≥ (0 : Int))) = true →
                                  ((List.length l ≤ big) →
                                  (((decide (firstOf l (Int.toNat many) (Int.toNat (↑x_1 : Int)) x_2 ≥ (↑(List.length l) : Int))) = true →
                                    (false = true)) ∧
                                  ((decide (firstOf l (Int.toNat many) (Int.toNat (↑x_1 : Int)) x_2 ≥ (↑(List.length l) : Int))) = false →
                                    ((0 : Int) ≤ firstOf l (Int.toNat many) (Int.toNat (↑x_1 : Int)) x_2 ∧ firstOf l (Int.toNat many) (Int.toNat (↑x_1 : Int)) x_2 < (↑(List.length (seenT l (Int.toNat many) (Int.toNat (↑x_1 : Int)) x_2)) : Int)) ∧
                                    (Int.toNat (firstOf l (Int.toNat many) (Int.toNat (↑x_1 : Int)) x_2) < List.length (seenT l (Int.toNat many) (Int.toNat (↑x_1 : Int)) x_2)) ∧
                                    (((nth Ty.bool (seenT l (Int.toNat many) (Int.toNat (↑x_1 : Int)) x_2) (Int.toNat (firstOf l (Int.toNat many) (Int.toNat (↑x_1 : Int)) x_2))) = true →
                                      (false = true)) ∧
                                    ((nth Ty.bool (seenT l (Int.toNat many) (Int.toNat (↑x_1 : Int)) x_2) (Int.toNat (firstOf l (Int.toNat many) (Int.toNat (↑x_1 : Int)) x_2))) = false →
                                      ((0 : Int) ≤ firstOf l (Int.toNat many) (Int.toNat (↑x_1 : Int)) x_2 ∧ firstOf l (Int.toNat many) (Int.toNat (↑x_1 : Int)) x_2 < (↑(List.length l) : Int)) ∧
                                      (True) ∧
                                      (many ≠ (0 : Int)) ∧
                                      (∀ x_3 : Int,
                                      ((x_3 = Int.tmod (↑(hashF (nth tSymbol l (Int.toNat (firstOf l (Int.toNat many) (Int.toNat (↑x_1 : Int)) x_2))).fst) : Int) many) →
                                      (((x_3 != (↑x_1 : Int)) = true →
                                        (false = true)) ∧
                                      ((x_3 != (↑x_1 : Int)) = false →
                                        ((0 : Int) ≤ firstOf l (Int.toNat many) (Int.toNat (↑x_1 : Int)) x_2 ∧ firstOf l (Int.toNat many) (Int.toNat (↑x_1 : Int)) x_2 < (↑(List.length (seenT l (Int.toNat many) (Int.toNat (↑x_1 : Int)) x_2)) : Int)) ∧
                                        (Int.toNat (firstOf l (Int.toNat many) (Int.toNat (↑x_1 : Int)) x_2) < List.length (seenT l (Int.toNat many) (Int.toNat (↑x_1 : Int)) x_2)) ∧
                                        ((0 : Int) ≤ firstOf l (Int.toNat many) (Int.toNat (↑x_1 : Int)) x_2 ∧ firstOf l (Int.toNat many) (Int.toNat (↑x_1 : Int)) x_2 < (↑(List.length (@List.nil Int)) : Int)) ∧
                                        (∃ (x' : Nat), x' ≤ List.length l ∧ List.length l - x' < List.length l - x_2 ∧ (nth (Ty.int IntKind.i64) (@List.nil Int) (Int.toNat (firstOf l (Int.toNat many) (Int.toNat (↑x_1 : Int)) x_2)) = firstOf l (Int.toNat many) (Int.toNat (↑x_1 : Int)) x' ∧ True) ∧ List.set (seenT l (Int.toNat many) (Int.toNat (↑x_1 : Int)) x_2) (Int.toNat (firstOf l (Int.toNat many) (Int.toNat (↑x_1 : Int)) x_2)) true = seenT l (Int.toNat many) (Int.toNat (↑x_1 : Int)) x' ∧ (@List.nil Int = @List.nil Int ∧ @List.nil Int = @List.nil Int ∧ True) ∧ @List.nil Int = @List.nil Int ∧ @List.nil Int = @List.nil Int ∧ True))))))))))) ∧
                                ((decide (firstOf l (Int.toNat many) (Int.toNat (↑x_1 : Int)) x_2 ≥ (0 : Int))) = false →
                                  ((I64 (↑x_1 : Int)) →
                                  ((I64 (1 : Int)) →
                                  (I64 ((↑x_1 : Int) + (1 : Int))) ∧
                                  (∃ (x' : Nat), x' ≤ Int.toNat many ∧ Int.toNat many - x' < Int.toNat many - x_1 ∧ ((↑x_1 : Int) + (1 : Int) = (↑x' : Int) ∧ True) ∧ seenT l (Int.toNat many) (Int.toNat (↑x_1 : Int)) x_2 = seenT l (Int.toNat many) x' (0 : Nat) ∧ (@List.nil Int = @List.nil Int ∧ @List.nil Int = @List.nil Int ∧ True) ∧ @List.nil Int = @List.nil Int ∧ @List.nil Int = @List.nil Int ∧ True)))))))) ∧
                              ((decide ((↑x_1 : Int) < (↑(List.length (@List.nil Int)) : Int))) = false →
                                (∃ (x : Nat), x ≤ List.length l ∧ ((0 : Int) = (↑x : Int) ∧ True) ∧ True) ∧
                                (∀ x_2 : Nat,
                                ((x_2 ≤ List.length l) →
                                ((List.length l ≤ big) →
                                (((decide ((↑x_2 : Int) < (↑(List.length l) : Int))) = true →
                                  ((0 : Int) ≤ (↑x_2 : Int) ∧ (↑x_2 : Int) < (↑(List.length (seenT l (Int.toNat many) x_1 (0 : Nat))) : Int)) ∧
                                  (Int.toNat (↑x_2 : Int) < List.length (seenT l (Int.toNat many) x_1 (0 : Nat))) ∧
                                  (((!nth Ty.bool (seenT l (Int.toNat many) x_1 (0 : Nat)) (Int.toNat (↑x_2 : Int))) = true →
                                    (false = true)) ∧
                                  ((!nth Ty.bool (seenT l (Int.toNat many) x_1 (0 : Nat)) (Int.toNat (↑x_2 : Int))) = false →
                                    ((I64 (↑x_2 : Int)) →
                                    ((I64 (1 : Int)) →
                                    (I64 ((↑x_2 : Int) + (1 : Int))) ∧
                                    (∃ (x' : Nat), x' ≤ List.length l ∧ List.length l - x' < List.length l - x_2 ∧ ((↑x_2 : Int) + (1 : Int) = (↑x' : Int) ∧ True) ∧ seenT l (Int.toNat many) x_1 (0 : Nat) = seenT l (Int.toNat many) x_1 (0 : Nat) ∧ (@List.nil Int = @List.nil Int ∧ @List.nil Int = @List.nil Int ∧ True) ∧ @List.nil Int = @List.nil Int ∧ @List.nil Int = @List.nil Int ∧ True)))))) ∧
                                ((decide ((↑x_2 : Int) < (↑(List.length l) : Int))) = false →
                                  (List.length (@List.nil Int) ≤ (40 : Nat)) ∧
                                  (∃ (x : Nat), (x ≤ List.length l ∧ ∀ (j : Nat), j < x → nameIs l s j = false) ∧ ((0 : Int) = (↑x : Int) ∧ True) ∧ True) ∧
                                  (∀ x_3 : Nat,
                                  ((x_3 ≤ List.length l ∧ ∀ (j : Nat), j < x_3 → nameIs l s j = false) →
                                  ((List.length l ≤ big) →
                                  (((decide ((↑x_3 : Int) < (↑(List.length l) : Int))) = true →
                                    ((0 : Int) ≤ (↑x_3 : Int) ∧ (↑x_3 : Int) < (↑(List.length l) : Int)) ∧
                                    ((((nth tSymbol l (Int.toNat (↑x_3 : Int))).fst == s) = true →
                                      ((findF (([], [], ()), l, s) == (↑x_3 : Int)) = true)) ∧
                                    (((nth tSymbol l (Int.toNat (↑x_3 : Int))).fst == s) = false →
                                      ((I64 (↑x_3 : Int)) →
                                      ((I64 (1 : Int)) →
                                      (I64 ((↑x_3 : Int) + (1 : Int))) ∧
                                      (∃ (x' : Nat), (x' ≤ List.length l ∧ ∀ (j : Nat), j < x' → nameIs l s j = false) ∧ List.length l - x' < List.length l - x_3 ∧ ((↑x_3 : Int) + (1 : Int) = (↑x' : Int) ∧ True) ∧ seenT l (Int.toNat many) x_1 (0 : Nat) = seenT l (Int.toNat many) x_1 (0 : Nat) ∧ (@List.nil Int = @List.nil Int ∧ @List.nil Int = @List.nil Int ∧ True) ∧ @List.nil Int = @List.nil Int ∧ @List.nil Int = @List.nil Int ∧ True)))))) ∧
                                  ((decide ((↑x_3 : Int) < (↑(List.length l) : Int))) = false →
                                    (decide (findF (([], [], ()), l, s) < (0 : Int)) = true)))))))))))))))))))) ∧
                          ((decide ((8 : Nat) < List.length l)) = false →
                            (((!Err.isNil Err.nil) = true →
                              (((decide (many < (1 : Int))) = true →
                                (true = true)) ∧
                              ((decide (many < (1 : Int))) = false →
                                (decide (many > (16 : Int)) = true)))) ∧
                            ((!Err.isNil Err.nil) = false →
                              ((List.length l ≤ big) →
                              ((0 : Int) ≤ (↑(List.length l) : Int) ∧ (↑(List.length l) : Int) = (↑(List.length l) : Int) ∧ (↑(List.length l) : Int) ≤ (1000000000 : Int)) ∧
                              (∃ (x : Nat), x ≤ Int.toNat many ∧ ((0 : Int) = (↑x : Int) ∧ True) ∧ List.replicate (Int.toNat (↑(List.length l) : Int)) (zeroD Ty.bool) = seenT l (Int.toNat many) x (0 : Nat) ∧ True) ∧
                              (∀ x_1 : Nat,
                              ((x_1 ≤ Int.toNat many) →
                              ((List.length (firstT l (Int.toNat many) (0 : Nat)) ≤ big) →
                              (((decide ((↑x_1 : Int) < (↑(List.length (firstT l (Int.toNat many) (0 : Nat))) : Int))) = true →
                                ((0 : Int) ≤ (↑x_1 : Int) ∧ (↑x_1 : Int) < (↑(List.length (firstT l (Int.toNat many) (0 : Nat))) : Int)) ∧
                                (∃ (x : Nat), x ≤ List.length l ∧ (nth (Ty.int IntKind.i64) (firstT l (Int.toNat many) (0 : Nat)) (Int.toNat (↑x_1 : Int)) = firstOf l (Int.toNat many) (Int.toNat (↑x_1 : Int)) x ∧ True) ∧ seenT l (Int.toNat many) x_1 (0 : Nat) = seenT l (Int.toNat many) (Int.toNat (↑x_1 : Int)) x ∧ True) ∧
                                (∀ x_2 : Nat,
                                ((x_2 ≤ List.length l) →
                                (((decide (firstOf l (Int.toNat many) (Int.toNat (↑x_1 : Int)) x_2 ≥ (0 : Int))) = true →
                                  ((List.length l ≤ big) →
                                  (((decide (firstOf l (Int.toNat many) (Int.toNat (↑x_1 : Int)) x_2 ≥ (↑(List.length l) : Int))) = true →
                                    (false = true)) ∧
                                  ((decide (firstOf l (Int.toNat many) (Int.toNat (↑x_1 : Int)) x_2 ≥ (↑(List.length l) : Int))) = false →
                                    ((0 : Int) ≤ firstOf l (Int.toNat many) (Int.toNat (↑x_1 : Int)) x_2 ∧ firstOf l (Int.toNat many) (Int.toNat (↑x_1 : Int)) x_2 < (↑(List.length (seenT l (Int.toNat many) (Int.toNat (↑x_1 : Int)) x_2)) : Int)) ∧
                                    (Int.toNat (firstOf l (Int.toNat many) (Int.toNat (↑x_1 : Int)) x_2) < List.length (seenT l (Int.toNat many) (Int.toNat (↑x_1 : Int)) x_2)) ∧
                                    (((nth Ty.bool (seenT l (Int.toNat many) (Int.toNat (↑x_1 : Int)) x_2) (Int.toNat (firstOf l (Int.toNat many) (Int.toNat (↑x_1 : Int)) x_2))) = true →
                                      (false = true)) ∧
                                    ((nth Ty.bool (seenT l (Int.toNat many) (Int.toNat (↑x_1 : Int)) x_2) (Int.toNat (firstOf l (Int.toNat many) (Int.toNat (↑x_1 : Int)) x_2))) = false →
                                      ((0 : Int) ≤ firstOf l (Int.toNat many) (Int.toNat (↑x_1 : Int)) x_2 ∧ firstOf l (Int.toNat many) (Int.toNat (↑x_1 : Int)) x_2 < (↑(List.length l) : Int)) ∧
                                      (True) ∧
                                      (many ≠ (0 : Int)) ∧
                                      (∀ x_3 : Int,
                                      ((x_3 = Int.tmod (↑(hashF (nth tSymbol l (Int.toNat (firstOf l (Int.toNat many) (Int.toNat (↑x_1 : Int)) x_2))).fst) : Int) many) →
                                      (((x_3 != (↑x_1 : Int)) = true →
                                        (false = true)) ∧
                                      ((x_3 != (↑x_1 : Int)) = false →
                                        ((0 : Int) ≤ firstOf l (Int.toNat many) (Int.toNat (↑x_1 : Int)) x_2 ∧ firstOf l (Int.toNat many) (Int.toNat (↑x_1 : Int)) x_2 < (↑(List.length (seenT l (Int.toNat many) (Int.toNat (↑x_1 : Int)) x_2)) : Int)) ∧
                                        (Int.toNat (firstOf l (Int.toNat many) (Int.toNat (↑x_1 : Int)) x_2) < List.length (seenT l (Int.toNat many) (Int.toNat (↑x_1 : Int)) x_2)) ∧
                                        ((0 : Int) ≤ firstOf l (Int.toNat many) (Int.toNat (↑x_1 : Int)) x_2 ∧ firstOf l (Int.toNat many) (Int.toNat (↑x_1 : Int)) x_2 < (↑(List.length (nextT l (Int.toNat many) (0 : Nat))) : Int)) ∧
                                        (∃ (x' : Nat), x' ≤ List.length l ∧ List.length l - x' < List.length l - x_2 ∧ (nth (Ty.int IntKind.i64) (nextT l (Int.toNat many) (0 : Nat)) (Int.toNat (firstOf l (Int.toNat many) (Int.toNat (↑x_1 : Int)) x_2)) = firstOf l (Int.toNat many) (Int.toNat (↑x_1 : Int)) x' ∧ True) ∧ List.set (seenT l (Int.toNat many) (Int.toNat (↑x_1 : Int)) x_2) (Int.toNat (firstOf l (Int.toNat many) (Int.toNat (↑x_1 : Int)) x_2)) true = seenT l (Int.toNat many) (Int.toNat (↑x_1 : Int)) x' ∧ (firstT l (Int.toNat many) (0 : Nat) = firstT l (Int.toNat many) (0 : Nat) ∧ nextT l (Int.toNat many) (0 : Nat) = nextT l (Int.toNat many) (0 : Nat) ∧ True) ∧ @List.nil Int = @List.nil Int ∧ @List.nil Int = @List.nil Int ∧ True))))))))))) ∧
                                ((decide (firstOf l (Int.toNat many) (Int.toNat (↑x_1 : Int)) x_2 ≥ (0 : Int))) = false →
                                  ((I64 (↑x_1 : Int)) →
                                  ((I64 (1 : Int)) →
                                  (I64 ((↑x_1 : Int) + (1 : Int))) ∧
                                  (∃ (x' : Nat), x' ≤ Int.toNat many ∧ Int.toNat many - x' < Int.toNat many - x_1 ∧ ((↑x_1 : Int) + (1 : Int) = (↑x' : Int) ∧ True) ∧ seenT l (Int.toNat many) (Int.toNat (↑x_1 : Int)) x_2 = seenT l (Int.toNat many) x' (0 : Nat) ∧ (firstT l (Int.toNat many) (0 : Nat) = firstT l (Int.toNat many) (0 : Nat) ∧ nextT l (Int.toNat many) (0 : Nat) = nextT l (Int.toNat many) (0 : Nat) ∧ True) ∧ @List.nil Int = @List.nil Int ∧ @List.nil Int = @List.nil Int ∧ True)))))))) ∧
                              ((decide ((↑x_1 : Int) < (↑(List.length (firstT l (Int.toNat many) (0 : Nat))) : Int))) = false →
                                (∃ (x : Nat), x ≤ List.length l ∧ ((0 : Int) = (↑x : Int) ∧ True) ∧ True) ∧
                                (∀ x_2 : Nat,
                                ((x_2 ≤ List.length l) →
                                ((List.length l ≤ big) →
                                (((decide ((↑x_2 : Int) < (↑(List.length l) : Int))) = true →
                                  ((0 : Int) ≤ (↑x_2 : Int) ∧ (↑x_2 : Int) < (↑(List.length (seenT l (Int.toNat many) x_1 (0 : Nat))) : Int)) ∧
                                  (Int.toNat (↑x_2 : Int) < List.length (seenT l (Int.toNat many) x_1 (0 : Nat))) ∧
                                  (((!nth Ty.bool (seenT l (Int.toNat many) x_1 (0 : Nat)) (Int.toNat (↑x_2 : Int))) = true →
                                    (false = true)) ∧
                                  ((!nth Ty.bool (seenT l (Int.toNat many) x_1 (0 : Nat)) (Int.toNat (↑x_2 : Int))) = false →
                                    ((I64 (↑x_2 : Int)) →
                                    ((I64 (1 : Int)) →
                                    (I64 ((↑x_2 : Int) + (1 : Int))) ∧
                                    (∃ (x' : Nat), x' ≤ List.length l ∧ List.length l - x' < List.length l - x_2 ∧ ((↑x_2 : Int) + (1 : Int) = (↑x' : Int) ∧ True) ∧ seenT l (Int.toNat many) x_1 (0 : Nat) = seenT l (Int.toNat many) x_1 (0 : Nat) ∧ (firstT l (Int.toNat many) (0 : Nat) = firstT l (Int.toNat many) (0 : Nat) ∧ nextT l (Int.toNat many) (0 : Nat) = nextT l (Int.toNat many) (0 : Nat) ∧ True) ∧ @List.nil Int = @List.nil Int ∧ @List.nil Int = @List.nil Int ∧ True)))))) ∧
                                ((decide ((↑x_2 : Int) < (↑(List.length l) : Int))) = false →
                                  (List.length (firstT l (Int.toNat many) (0 : Nat)) ≤ (40 : Nat)) ∧
                                  (∃ (x : Nat), (x ≤ List.length l ∧ ∀ (j : Nat), j < x → nameIs l s j = false) ∧ ((0 : Int) = (↑x : Int) ∧ True) ∧ True) ∧
                                  (∀ x_3 : Nat,
                                  ((x_3 ≤ List.length l ∧ ∀ (j : Nat), j < x_3 → nameIs l s j = false) →
                                  ((List.length l ≤ big) →
                                  (((decide ((↑x_3 : Int) < (↑(List.length l) : Int))) = true →
                                    ((0 : Int) ≤ (↑x_3 : Int) ∧ (↑x_3 : Int) < (↑(List.length l) : Int)) ∧
                                    ((((nth tSymbol l (Int.toNat (↑x_3 : Int))).fst == s) = true →
                                      ((findF ((firstT l (Int.toNat many) (0 : Nat), nextT l (Int.toNat many) (0 : Nat), ()), l, s) == (↑x_3 : Int)) = true)) ∧
                                    (((nth tSymbol l (Int.toNat (↑x_3 : Int))).fst == s) = false →
                                      ((I64 (↑x_3 : Int)) →
                                      ((I64 (1 : Int)) →
                                      (I64 ((↑x_3 : Int) + (1 : Int))) ∧
                                      (∃ (x' : Nat), (x' ≤ List.length l ∧ ∀ (j : Nat), j < x' → nameIs l s j = false) ∧ List.length l - x' < List.length l - x_3 ∧ ((↑x_3 : Int) + (1 : Int) = (↑x' : Int) ∧ True) ∧ seenT l (Int.toNat many) x_1 (0 : Nat) = seenT l (Int.toNat many) x_1 (0 : Nat) ∧ (firstT l (Int.toNat many) (0 : Nat) = firstT l (Int.toNat many) (0 : Nat) ∧ nextT l (Int.toNat many) (0 : Nat) = nextT l (Int.toNat many) (0 : Nat) ∧ True) ∧ @List.nil Int = @List.nil Int ∧ @List.nil Int = @List.nil Int ∧ True)))))) ∧
                                  ((decide ((↑x_3 : Int) < (↑(List.length l) : Int))) = false →
                                    (decide (findF ((firstT l (Int.toNat many) (0 : Nat), nextT l (Int.toNat many) (0 : Nat), ()), l, s) < (0 : Int)) = true))))))))))))))))))))))))))))))))))))))))) ∧
          ((decide ((8 : Nat) < List.length [([(120 : UInt8)], (0 : Int), false, ())])) = false →
            (((!Err.isNil Err.nil) = true →
              (false = true)) ∧
            ((!Err.isNil Err.nil) = false →
              (List.length (firstT [([(120 : UInt8)], (0 : Int), false, ())] (Int.toNat (1 : Int)) (0 : Nat)) ≤ (40 : Nat)) ∧
              (((findF ((firstT [([(120 : UInt8)], (0 : Int), false, ())] (Int.toNat (1 : Int)) (0 : Nat), nextT [([(120 : UInt8)], (0 : Int), false, ())] (Int.toNat (1 : Int)) (0 : Nat), ()), [([(120 : UInt8)], (0 : Int), false, ())], [(120 : UInt8)]) != (0 : Int)) = true →
                (false = true)) ∧
              ((findF ((firstT [([(120 : UInt8)], (0 : Int), false, ())] (Int.toNat (1 : Int)) (0 : Nat), nextT [([(120 : UInt8)], (0 : Int), false, ())] (Int.toNat (1 : Int)) (0 : Nat), ()), [([(120 : UInt8)], (0 : Int), false, ())], [(120 : UInt8)]) != (0 : Int)) = false →
                ((List.length l ≤ big) →
                (((decide ((↑(List.length l) : Int) > (8 : Int))) = true →
                  (true = true)) ∧
                ((decide ((↑(List.length l) : Int) > (8 : Int))) = false →
                  ((List.length s ≤ big) →
                  (((decide ((↑(List.length s) : Int) > (30 : Int))) = true →
                    (true = true)) ∧
                  ((decide ((↑(List.length s) : Int) > (30 : Int))) = false →
                    (∃ (x : Nat), x ≤ List.length l ∧ ((0 : Int) = (↑x : Int) ∧ True) ∧ True) ∧
                    (∀ x_0 : Nat,
                    ((x_0 ≤ List.length l) →
                    ((List.length l ≤ big) →
                    (((decide ((↑x_0 : Int) < (↑(List.length l) : Int))) = true →
                      ((0 : Int) ≤ (↑x_0 : Int) ∧ (↑x_0 : Int) < (↑(List.length l) : Int)) ∧
                      ((List.length (nth tSymbol l (Int.toNat (↑x_0 : Int))).fst ≤ big) →
                      (((decide ((↑(List.length (nth tSymbol l (Int.toNat (↑x_0 : Int))).fst) : Int) > (30 : Int))) = true →
                        (true = true)) ∧
                      ((decide ((↑(List.length (nth tSymbol l (Int.toNat (↑x_0 : Int))).fst) : Int) > (30 : Int))) = false →
                        ((I64 (↑x_0 : Int)) →
                        ((I64 (1 : Int)) →
                        (I64 ((↑x_0 : Int) + (1 : Int))) ∧
                        (∃ (x' : Nat), x' ≤ List.length l ∧ List.length l - x' < List.length l - x_0 ∧ ((↑x_0 : Int) + (1 : Int) = (↑x' : Int) ∧ True) ∧ (firstT [([(120 : UInt8)], (0 : Int), false, ())] (Int.toNat (1 : Int)) (0 : Nat) = firstT [([(120 : UInt8)], (0 : Int), false, ())] (Int.toNat (1 : Int)) (0 : Nat) ∧ nextT [([(120 : UInt8)], (0 : Int), false, ())] (Int.toNat (1 : Int)) (0 : Nat) = nextT [([(120 : UInt8)], (0 : Int), false, ())] (Int.toNat (1 : Int)) (0 : Nat) ∧ True) ∧ @List.nil Int = @List.nil Int ∧ @List.nil Int = @List.nil Int ∧ True))))))) ∧
                    ((decide ((↑x_0 : Int) < (↑(List.length l) : Int))) = false →
                      (True) ∧
                      (((decide (many < (1 : Int))) = true →
                        (((!Err.isNil (Err.no (1 : Int))) = true →
                          (((decide (many < (1 : Int))) = true →
                            (true = true)) ∧
                          ((decide (many < (1 : Int))) = false →
                            (decide (many > (16 : Int)) = true)))) ∧
                        ((!Err.isNil (Err.no (1 : Int))) = false →
                          ((List.length l ≤ big) →
                          ((0 : Int) ≤ (↑(List.length l) : Int) ∧ (↑(List.length l) : Int) = (↑(List.length l) : Int) ∧ (↑(List.length l) : Int) ≤ (1000000000 : Int)) ∧
                          (∃ (x : Nat), x ≤ Int.toNat many ∧ ((0 : Int) = (↑x : Int) ∧ True) ∧ List.replicate (Int.toNat (↑(List.length l) : Int)) (zeroD Ty.bool) = seenT l (Int.toNat many) x (0 : Nat) ∧ True) ∧
                          (∀ x_1 : Nat,
                          ((x_1 ≤ Int.toNat many) →
                          ((List.length (@List.nil Int) ≤ big) →
                          (((decide ((↑x_1 : Int) < (↑(List.length (@List.nil Int)) : Int))) = true →
                            ((0 : Int) ≤ (↑x_1 : Int) ∧ (↑x_1 : Int) < (↑(List.length (@List.nil Int)) : Int)) ∧
                            (∃ (x : Nat), x ≤ List.length l ∧ (nth (Ty.int IntKind.i64) (@List.nil Int) (Int.toNat (↑x_1 : Int)) = firstOf l (Int.toNat many) (Int.toNat (↑x_1 : Int)) x ∧ True) ∧ seenT l (Int.toNat many) x_1 (0 : Nat) = seenT l (Int.toNat many) (Int.toNat (↑x_1 : Int)) x ∧ True) ∧
                            (∀ x_2 : Nat,
                            ((x_2 ≤ List.length l) →
                            (((decide (firstOf l (Int.toNat many) (Int.toNat (↑x_1 : Int)) x_2 ≥ (0 : Int))) = true →
                              ((List.length l ≤ big) →
                              (((decide (firstOf l (Int.toNat many) (Int.toNat (↑x_1 : Int)) x_2 ≥ (↑(List.length l) : Int))) = true →
                                (false = true)) ∧
                              ((decide (firstOf l (Int.toNat many) (Int.toNat (↑x_1 : Int)) x_2 ≥ (↑(List.length l) : Int))) = false →
                                ((0 : Int) ≤ firstOf l (Int.toNat many) (Int.toNat (↑x_1 : Int)) x_2 ∧ firstOf l (Int.toNat many) (Int.toNat (↑x_1 : Int)) x_2 < (↑(List.length (seenT l (Int.toNat many) (Int.toNat (↑x_1 : Int)) x_2)) : Int)) ∧
                                (Int.toNat (firstOf l (Int.toNat many) (Int.toNat (↑x_1 : Int)) x_2) < List.length (seenT l (Int.toNat many) (Int.toNat (↑x_1 : Int)) x_2)) ∧
                                (((nth Ty.bool (seenT l (Int.toNat many) (Int.toNat (↑x_1 : Int)) x_2) (Int.toNat (firstOf l (Int.toNat many) (Int.toNat (↑x_1 : Int)) x_2))) = true →
                                  (false = true)) ∧
                                ((nth Ty.bool (seenT l (Int.toNat many) (Int.toNat (↑x_1 : Int)) x_2) (Int.toNat (firstOf l (Int.toNat many) (Int.toNat (↑x_1 : Int)) x_2))) = false →
                                  ((0 : Int) ≤ firstOf l (Int.toNat many) (Int.toNat (↑x_1 : Int)) x_2 ∧ firstOf l (Int.toNat many) (Int.toNat (↑x_1 : Int)) x_2 < (↑(List.length l) : Int)) ∧
                                  (True) ∧
                                  (many ≠ (0 : Int)) ∧
                                  (∀ x_3 : Int,
                                  ((x_3 = Int.tmod (↑(hashF (nth tSymbol l (Int.toNat (firstOf l (Int.toNat many) (Int.toNat (↑x_1 : Int)) x_2))).fst) : Int) many) →
                                  (((x_3 != (↑x_1 : Int)) = true →
                                    (false = true)) ∧
                                  ((x_3 != (↑x_1 : Int)) = false →
                                    ((0 : Int) ≤ firstOf l (Int.toNat many) (Int.toNat (↑x_1 : Int)) x_2 ∧ firstOf l (Int.toNat many) (Int.toNat (↑x_1 : Int)) x_2 < (↑(List.length (seenT l (Int.toNat many) (Int.toNat (↑x_1 : Int)) x_2)) : Int)) ∧
                                    (Int.toNat (firstOf l (Int.toNat many) (Int.toNat (↑x_1 : Int)) x_2) < List.length (seenT l (Int.toNat many) (Int.toNat (↑x_1 : Int)) x_2)) ∧
                                    ((0 : Int) ≤ firstOf l (Int.toNat many) (Int.toNat (↑x_1 : Int)) x_2 ∧ firstOf l (Int.toNat many) (Int.toNat (↑x_1 : Int)) x_2 < (↑(List.length (@List.nil Int)) : Int)) ∧
                                    (∃ (x' : Nat), x' ≤ List.length l ∧ List.length l - x' < List.length l - x_2 ∧ (nth (Ty.int IntKind.i64) (@List.nil Int) (Int.toNat (firstOf l (Int.toNat many) (Int.toNat (↑x_1 : Int)) x_2)) = firstOf l (Int.toNat many) (Int.toNat (↑x_1 : Int)) x' ∧ True) ∧ List.set (seenT l (Int.toNat many) (Int.toNat (↑x_1 : Int)) x_2) (Int.toNat (firstOf l (Int.toNat many) (Int.toNat (↑x_1 : Int)) x_2)) true = seenT l (Int.toNat many) (Int.toNat (↑x_1 : Int)) x' ∧ (@List.nil Int = @List.nil Int ∧ @List.nil Int = @List.nil Int ∧ True) ∧ @List.nil Int = @List.nil Int ∧ @List.nil Int = @List.nil Int ∧ True))))))))))) ∧
                            ((decide (firstOf l (Int.toNat many) (Int.toNat (↑x_1 : Int)) x_2 ≥ (0 : Int))) = false →
                              ((I64 (↑x_1 : Int)) →
                              ((I64 (1 : Int)) →
                              (I64 ((↑x_1 : Int) + (1 : Int))) ∧
                              (∃ (x' : Nat), x' ≤ Int.toNat many ∧ Int.toNat many - x' < Int.toNat many - x_1 ∧ ((↑x_1 : Int) + (1 : Int) = (↑x' : Int) ∧ True) ∧ seenT l (Int.toNat many) (Int.toNat (↑x_1 : Int)) x_2 = seenT l (Int.toNat many) x' (0 : Nat) ∧ (@List.nil Int = @List.nil Int ∧ @List.nil Int = @List.nil Int ∧ True) ∧ @List.nil Int = @List.nil Int ∧ @List.nil Int = @List.nil Int ∧ True)))))))) ∧
                          ((decide ((↑x_1 : Int) < (↑(List.length (@List.nil Int)) : Int))) = false →
                            (∃ (x : Nat), x ≤ List.length l ∧ ((0 : Int) = (↑x : Int) ∧ True) ∧ True) ∧
                            (∀ x_2 : Nat,
                            ((x_2 ≤ List.length l) →
                            ((List.length l ≤ big) →
                            (((decide ((↑x_2 : Int) < (↑(List.length l) : Int))) = true →
                              ((0 : Int) ≤ (↑x_2 : Int) ∧ (↑x_2 : Int) < (↑(List.length (seenT l (Int.toNat many) x_1 (0 : Nat))) : Int)) ∧
                              (Int.toNat (↑x_2 : Int) < List.length (seenT l (Int.toNat many) x_1 (0 : Nat))) ∧
                              (((!nth Ty.bool (seenT l (Int.toNat many) x_1 (0 : Nat)) (Int.toNat (↑x_2 : Int))) = true →
                                (false = true)) ∧
                              ((!nth Ty.bool (seenT l (Int.toNat many) x_1 (0 : Nat)) (Int.toNat (↑x_2 : Int))) = false →
                                ((I64 (↑x_2 : Int)) →
                                ((I64 (1 : Int)) →
                                (I64 ((↑x_2 : Int) + (1 : Int))) ∧
                                (∃ (x' : Nat), x' ≤ List.length l ∧ List.length l - x' < List.length l - x_2 ∧ ((↑x_2 : Int) + (1 : Int) = (↑x' : Int) ∧ True) ∧ seenT l (Int.toNat many) x_1 (0 : Nat) = seenT l (Int.toNat many) x_1 (0 : Nat) ∧ (@List.nil Int = @List.nil Int ∧ @List.nil Int = @List.nil Int ∧ True) ∧ @List.nil Int = @List.nil Int ∧ @List.nil Int = @List.nil Int ∧ True)))))) ∧
                            ((decide ((↑x_2 : Int) < (↑(List.length l) : Int))) = false →
                              (List.length (@List.nil Int) ≤ (40 : Nat)) ∧
                              (∃ (x : Nat), (x ≤ List.length l ∧ ∀ (j : Nat), j < x → nameIs l s j = false) ∧ ((0 : Int) = (↑x : Int) ∧ True) ∧ True) ∧
                              (∀ x_3 : Nat,
                              ((x_3 ≤ List.length l ∧ ∀ (j : Nat), j < x_3 → nameIs l s j = false) →
                              ((List.length l ≤ big) →
                              (((decide ((↑x_3 : Int) < (↑(List.length l) : Int))) = true →
                                ((0 : Int) ≤ (↑x_3 : Int) ∧ (↑x_3 : Int) < (↑(List.length l) : Int)) ∧
                                ((((nth tSymbol l (Int.toNat (↑x_3 : Int))).fst == s) = true →
                                  ((findF (([], [], ()), l, s) == (↑x_3 : Int)) = true)) ∧
                                (((nth tSymbol l (Int.toNat (↑x_3 : Int))).fst == s) = false →
                                  ((I64 (↑x_3 : Int)) →
                                  ((I64 (1 : Int)) →
                                  (I64 ((↑x_3 : Int) + (1 : Int))) ∧
                                  (∃ (x' : Nat), (x' ≤ List.length l ∧ ∀ (j : Nat), j < x' → nameIs l s j = false) ∧ List.length l - x' < List.length l - x_3 ∧ ((↑x_3 : Int) + (1 : Int) = (↑x' : Int) ∧ True) ∧ seenT l (Int.toNat many) x_1 (0 : Nat) = seenT l (Int.toNat many) x_1 (0 : Nat) ∧ (@List.nil Int = @List.nil Int ∧ @List.nil Int = @List.nil Int ∧ True) ∧ @List.nil Int = @List.nil Int ∧ @List.nil Int = @List.nil Int ∧ True)))))) ∧
                              ((decide ((↑x_3 : Int) < (↑(List.length l) : Int))) = false →
                                (decide (findF (([], [], ()), l, s) < (0 : Int)) = true)))))))))))))))))))) ∧
                      ((decide (many < (1 : Int))) = false →
                        (((decide ((16 : Int) < many)) = true →
                          (((!Err.isNil (Err.no (1 : Int))) = true →
                            (((decide (many < (1 : Int))) = true →
                              (true = true)) ∧
                            ((decide (many < (1 : Int))) = false →
                              (decide (many > (16 : Int)) = true)))) ∧
                          ((!Err.isNil (Err.no (1 : Int))) = false →
                            ((List.length l ≤ big) →
                            ((0 : Int) ≤ (↑(List.length l) : Int) ∧ (↑(List.length l) : Int) = (↑(List.length l) : Int) ∧ (↑(List.length l) : Int) ≤ (1000000000 : Int)) ∧
                            (∃ (x : Nat), x ≤ Int.toNat many ∧ ((0 : Int) = (↑x : Int) ∧ True) ∧ List.replicate (Int.toNat (↑(List.length l) : Int)) (zeroD Ty.bool) = seenT l (Int.toNat many) x (0 : Nat) ∧ True) ∧
                            (∀ x_1 : Nat,
                            ((x_1 ≤ Int.toNat many) →
                            ((List.length (@List.nil Int) ≤ big) →
                            (((decide ((↑x_1 : Int) < (↑(List.length (@List.nil Int)) : Int))) = true →
                              ((0 : Int) ≤ (↑x_1 : Int) ∧ (↑x_1 : Int) < (↑(List.length (@List.nil Int)) : Int)) ∧
                              (∃ (x : Nat), x ≤ List.length l ∧ (nth (Ty.int IntKind.i64) (@List.nil Int) (Int.toNat (↑x_1 : Int)) = firstOf l (Int.toNat many) (Int.toNat (↑x_1 : Int)) x ∧ True) ∧ seenT l (Int.toNat many) x_1 (0 : Nat) = seenT l (Int.toNat many) (Int.toNat (↑x_1 : Int)) x ∧ True) ∧
                              (∀ x_2 : Nat,
                              ((x_2 ≤ List.length l) →
                              (((decide (firstOf l (Int.toNat many) (Int.toNat (↑x_1 : Int)) x_2 ≥ (0 : Int))) = true →
                                ((List.length l ≤ big) →
                                (((decide (firstOf l (Int.toNat many) (Int.toNat (↑x_1 : Int)) x_2 ≥ (↑(List.length l) : Int))) = true →
                                  (false = true)) ∧
                                ((decide (firstOf l (Int.toNat many) (Int.toNat (↑x_1 : Int)) x_2 ≥ (↑(List.length l) : Int))) = false →
                                  ((0 : Int) ≤ firstOf l (Int.toNat many) (Int.toNat (↑x_1 : Int)) x_2 ∧ firstOf l (Int.toNat many) (Int.toNat (↑x_1 : Int)) x_2 < (↑(List.length (seenT l (Int.toNat many) (Int.toNat (↑x_1 : Int)) x_2)) : Int)) ∧
                                  (Int.toNat (firstOf l (Int.toNat many) (Int.toNat (↑x_1 : Int)) x_2) < List.length (seenT l (Int.toNat many) (Int.toNat (↑x_1 : Int)) x_2)) ∧
                                  (((nth Ty.bool (seenT l (Int.toNat many) (Int.toNat (↑x_1 : Int)) x_2) (Int.toNat (firstOf l (Int.toNat many) (Int.toNat (↑x_1 : Int)) x_2))) = true →
                                    (false = true)) ∧
                                  ((nth Ty.bool (seenT l (Int.toNat many) (Int.toNat (↑x_1 : Int)) x_2) (Int.toNat (firstOf l (Int.toNat many) (Int.toNat (↑x_1 : Int)) x_2))) = false →
                                    ((0 : Int) ≤ firstOf l (Int.toNat many) (Int.toNat (↑x_1 : Int)) x_2 ∧ firstOf l (Int.toNat many) (Int.toNat (↑x_1 : Int)) x_2 < (↑(List.length l) : Int)) ∧
                                    (True) ∧
                                    (many ≠ (0 : Int)) ∧
                                    (∀ x_3 : Int,
                                    ((x_3 = Int.tmod (↑(hashF (nth tSymbol l (Int.toNat (firstOf l (Int.toNat many) (Int.toNat (↑x_1 : Int)) x_2))).fst) : Int) many) →
                                    (((x_3 != (↑x_1 : Int)) = true →
                                      (false = true)) ∧
                                    ((x_3 != (↑x_1 : Int)) = false →
                                      ((0 : Int) ≤ firstOf l (Int.toNat many) (Int.toNat (↑x_1 : Int)) x_2 ∧ firstOf l (Int.toNat many) (Int.toNat (↑x_1 : Int)) x_2 < (↑(List.length (seenT l (Int.toNat many) (Int.toNat (↑x_1 : Int)) x_2)) : Int)) ∧
                                      (Int.toNat (firstOf l (Int.toNat many) (Int.toNat (↑x_1 : Int)) x_2) < List.length (seenT l (Int.toNat many) (Int.toNat (↑x_1 : Int)) x_2)) ∧
                                      ((0 : Int) ≤ firstOf l (Int.toNat many) (Int.toNat (↑x_1 : Int)) x_2 ∧ firstOf l (Int.toNat many) (Int.toNat (↑x_1 : Int)) x_2 < (↑(List.length (@List.nil Int)) : Int)) ∧
                                      (∃ (x' : Nat), x' ≤ List.length l ∧ List.length l - x' < List.length l - x_2 ∧ (nth (Ty.int IntKind.i64) (@List.nil Int) (Int.toNat (firstOf l (Int.toNat many) (Int.toNat (↑x_1 : Int)) x_2)) = firstOf l (Int.toNat many) (Int.toNat (↑x_1 : Int)) x' ∧ True) ∧ List.set (seenT l (Int.toNat many) (Int.toNat (↑x_1 : Int)) x_2) (Int.toNat (firstOf l (Int.toNat many) (Int.toNat (↑x_1 : Int)) x_2)) true = seenT l (Int.toNat many) (Int.toNat (↑x_1 : Int)) x' ∧ (@List.nil Int = @List.nil Int ∧ @List.nil Int = @List.nil Int ∧ True) ∧ @List.nil Int = @List.nil Int ∧ @List.nil Int = @List.nil Int ∧ True))))))))))) ∧
                              ((decide (firstOf l (Int.toNat many) (Int.toNat (↑x_1 : Int)) x_2 ≥ (0 : Int))) = false →
                                ((I64 (↑x_1 : Int)) →
                                ((I64 (1 : Int)) →
                                (I64 ((↑x_1 : Int) + (1 : Int))) ∧
                                (∃ (x' : Nat), x' ≤ Int.toNat many ∧ Int.toNat many - x' < Int.toNat many - x_1 ∧ ((↑x_1 : Int) + (1 : Int) = (↑x' : Int) ∧ True) ∧ seenT l (Int.toNat many) (Int.toNat (↑x_1 : Int)) x_2 = seenT l (Int.toNat many) x' (0 : Nat) ∧ (@List.nil Int = @List.nil Int ∧ @List.nil Int = @List.nil Int ∧ True) ∧ @List.nil Int = @List.nil Int ∧ @List.nil Int = @List.nil Int ∧ True)))))))) ∧
                            ((decide ((↑x_1 : Int) < (↑(List.length (@List.nil Int)) : Int))) = false →
                              (∃ (x : Nat), x ≤ List.length l ∧ ((0 : Int) = (↑x : Int) ∧ True) ∧ True) ∧
                              (∀ x_2 : Nat,
                              ((x_2 ≤ List.length l) →
                              ((List.length l ≤ big) →
                              (((decide ((↑x_2 : Int) < (↑(List.length l) : Int))) = true →
                                ((0 : Int) ≤ (↑x_2 : Int) ∧ (↑x_2 : Int) < (↑(List.length (seenT l (Int.toNat many) x_1 (0 : Nat))) : Int)) ∧
                                (Int.toNat (↑x_2 : Int) < List.length (seenT l (Int.toNat many) x_1 (0 : Nat))) ∧
                                (((!nth Ty.bool (seenT l (Int.toNat many) x_1 (0 : Nat)) (Int.toNat (↑x_2 : Int))) = true →
                                  (false = true)) ∧
                                ((!nth Ty.bool (seenT l (Int.toNat many) x_1 (0 : Nat)) (Int.toNat (↑x_2 : Int))) = false →
                                  ((I64 (↑x_2 : Int)) →
                                  ((I64 (1 : Int)) →
                                  (I64 ((↑x_2 : Int) + (1 : Int))) ∧
                                  (∃ (x' : Nat), x' ≤ List.length l ∧ List.length l - x' < List.length l - x_2 ∧ ((↑x_2 : Int) + (1 : Int) = (↑x' : Int) ∧ True) ∧ seenT l (Int.toNat many) x_1 (0 : Nat) = seenT l (Int.toNat many) x_1 (0 : Nat) ∧ (@List.nil Int = @List.nil Int ∧ @List.nil Int = @List.nil Int ∧ True) ∧ @List.nil Int = @List.nil Int ∧ @List.nil Int = @List.nil Int ∧ True)))))) ∧
                              ((decide ((↑x_2 : Int) < (↑(List.length l) : Int))) = false →
                                (List.length (@List.nil Int) ≤ (40 : Nat)) ∧
                                (∃ (x : Nat), (x ≤ List.length l ∧ ∀ (j : Nat), j < x → nameIs l s j = false) ∧ ((0 : Int) = (↑x : Int) ∧ True) ∧ True) ∧
                                (∀ x_3 : Nat,
                                ((x_3 ≤ List.length l ∧ ∀ (j : Nat), j < x_3 → nameIs l s j = false) →
                                ((List.length l ≤ big) →
                                (((decide ((↑x_3 : Int) < (↑(List.length l) : Int))) = true →
                                  ((0 : Int) ≤ (↑x_3 : Int) ∧ (↑x_3 : Int) < (↑(List.length l) : Int)) ∧
                                  ((((nth tSymbol l (Int.toNat (↑x_3 : Int))).fst == s) = true →
                                    ((findF (([], [], ()), l, s) == (↑x_3 : Int)) = true)) ∧
                                  (((nth tSymbol l (Int.toNat (↑x_3 : Int))).fst == s) = false →
                                    ((I64 (↑x_3 : Int)) →
                                    ((I64 (1 : Int)) →
                                    (I64 ((↑x_3 : Int) + (1 : Int))) ∧
                                    (∃ (x' : Nat), (x' ≤ List.length l ∧ ∀ (j : Nat), j < x' → nameIs l s j = false) ∧ List.length l - x' < List.length l - x_3 ∧ ((↑x_3 : Int) + (1 : Int) = (↑x' : Int) ∧ True) ∧ seenT l (Int.toNat many) x_1 (0 : Nat) = seenT l (Int.toNat many) x_1 (0 : Nat) ∧ (@List.nil Int = @List.nil Int ∧ @List.nil Int = @List.nil Int ∧ True) ∧ @List.nil Int = @List.nil Int ∧ @List.nil Int = @List.nil Int ∧ True)))))) ∧
                                ((decide ((↑x_3 : Int) < (↑(List.length l) : Int))) = false →
                                  (decide (findF (([], [], ()), l, s) < (0 : Int)) = true)))))))))))))))))))) ∧
                        ((decide ((16 : Int) < many)) = false →
                          (((decide ((8 : Nat) < List.length l)) = true →
                            (((!Err.isNil (Err.no (2 : Int))) = true →
                              (((decide (many < (1 : Int))) = true →
                                (true = true)) ∧
                              ((decide (many < (1 : Int))) = false →
                                (decide (many > (16 : Int)) = true)))) ∧
                            ((!Err.isNil (Err.no (2 : Int))) = false →
                              ((List.length l ≤ big) →
                              ((0 : Int) ≤ (↑(List.length l) : Int) ∧ (↑(List.length l) : Int) = (↑(List.length l) : Int) ∧ (↑(List.length l) : Int) ≤ (1000000000 : Int)) ∧
                              (∃ (x : Nat), x ≤ Int.toNat many ∧ ((0 : Int) = (↑x : Int) ∧ True) ∧ List.replicate (Int.toNat (↑(List.length l) : Int)) (zeroD Ty.bool) = seenT l (Int.toNat many) x (0 : Nat) ∧ True) ∧
                              (∀ x_1 : Nat,
                              ((x_1 ≤ Int.toNat many) →
                              ((List.length (@List.nil Int) ≤ big) →
                              (((decide ((↑x_1 : Int) < (↑(List.length (@List.nil Int)) : Int))) = true →
                                ((0 : Int) ≤ (↑x_1 : Int) ∧ (↑x_1 : Int) < (↑(List.length (@List.nil Int)) : Int)) ∧
                                (∃ (x : Nat), x ≤ List.length l ∧ (nth (Ty.int IntKind.i64) (@List.nil Int) (Int.toNat (↑x_1 : Int)) = firstOf l (Int.toNat many) (Int.toNat (↑x_1 : Int)) x ∧ True) ∧ seenT l (Int.toNat many) x_1 (0 : Nat) = seenT l (Int.toNat many) (Int.toNat (↑x_1 : Int)) x ∧ True) ∧
                                (∀ x_2 : Nat,
                                ((x_2 ≤ List.length l) →
                                (((decide (firstOf l (Int.toNat many) (Int.toNat (↑x_1 : Int)) x_2 ≥ (0 : Int))) = true →
                                  ((List.length l ≤ big) →
                                  (((decide (firstOf l (Int.toNat many) (Int.toNat (↑x_1 : Int)) x_2 ≥ (↑(List.length l) : Int))) = true →
                                    (false = true)) ∧
                                  ((decide (firstOf l (Int.toNat many) (Int.toNat (↑x_1 : Int)) x_2 ≥ (↑(List.length l) : Int))) = false →
                                    ((0 : Int) ≤ firstOf l (Int.toNat many) (Int.toNat (↑x_1 : Int)) x_2 ∧ firstOf l (Int.toNat many) (Int.toNat (↑x_1 : Int)) x_2 < (↑(List.length (seenT l (Int.toNat many) (Int.toNat (↑x_1 : Int)) x_2)) : Int)) ∧
                                    (Int.toNat (firstOf l (Int.toNat many) (Int.toNat (↑x_1 : Int)) x_2) < List.length (seenT l (Int.toNat many) (Int.toNat (↑x_1 : Int)) x_2)) ∧
                                    (((nth Ty.bool (seenT l (Int.toNat many) (Int.toNat (↑x_1 : Int)) x_2) (Int.toNat (firstOf l (Int.toNat many) (Int.toNat (↑x_1 : Int)) x_2))) = true →
                                      (false = true)) ∧
                                    ((nth Ty.bool (seenT l (Int.toNat many) (Int.toNat (↑x_1 : Int)) x_2) (Int.toNat (firstOf l (Int.toNat many) (Int.toNat (↑x_1 : Int)) x_2))) = false →
                                      ((0 : Int) ≤ firstOf l (Int.toNat many) (Int.toNat (↑x_1 : Int)) x_2 ∧ firstOf l (Int.toNat many) (Int.toNat (↑x_1 : Int)) x_2 < (↑(List.length l) : Int)) ∧
                                      (True) ∧
                                      (many ≠ (0 : Int)) ∧
                                      (∀ x_3 : Int,
                                      ((x_3 = Int.tmod (↑(hashF (nth tSymbol l (Int.toNat (firstOf l (Int.toNat many) (Int.toNat (↑x_1 : Int)) x_2))).fst) : Int) many) →
                                      (((x_3 != (↑x_1 : Int)) = true →
                                        (false = true)) ∧
                                      ((x_3 != (↑x_1 : Int)) = false →
                                        ((0 : Int) ≤ firstOf l (Int.toNat many) (Int.toNat (↑x_1 : Int)) x_2 ∧ firstOf l (Int.toNat many) (Int.toNat (↑x_1 : Int)) x_2 < (↑(List.length (seenT l (Int.toNat many) (Int.toNat (↑x_1 : Int)) x_2)) : Int)) ∧
                                        (Int.toNat (firstOf l (Int.toNat many) (Int.toNat (↑x_1 : Int)) x_2) < List.length (seenT l (Int.toNat many) (Int.toNat (↑x_1 : Int)) x_2)) ∧
                                        ((0 : Int) ≤ firstOf l (Int.toNat many) (Int.toNat (↑x_1 : Int)) x_2 ∧ firstOf l (Int.toNat many) (Int.toNat (↑x_1 : Int)) x_2 < (↑(List.length (@List.nil Int)) : Int)) ∧
                                        (∃ (x' : Nat), x' ≤ List.length l ∧ List.length l - x' < List.length l - x_2 ∧ (nth (Ty.int IntKind.i64) (@List.nil Int) (Int.toNat (firstOf l (Int.toNat many) (Int.toNat (↑x_1 : Int)) x_2)) = firstOf l (Int.toNat many) (Int.toNat (↑x_1 : Int)) x' ∧ True) ∧ List.set (seenT l (Int.toNat many) (Int.toNat (↑x_1 : Int)) x_2) (Int.toNat (firstOf l (Int.toNat many) (Int.toNat (↑x_1 : Int)) x_2)) true = seenT l (Int.toNat many) (Int.toNat (↑x_1 : Int)) x' ∧ (@List.nil Int = @List.nil Int ∧ @List.nil Int = @List.nil Int ∧ True) ∧ @List.nil Int = @List.nil Int ∧ @List.nil Int = @List.nil Int ∧ True))))))))))) ∧
                                ((decide (firstOf l (Int.toNat many) (Int.toNat (↑x_1 : Int)) x_2 ≥ (0 : Int))) = false →
                                  ((I64 (↑x_1 : Int)) →
                                  ((I64 (1 : Int)) →
                                  (I64 ((↑x_1 : Int) + (1 : Int))) ∧
                                  (∃ (x' : Nat), x' ≤ Int.toNat many ∧ Int.toNat many - x' < Int.toNat many - x_1 ∧ ((↑x_1 : Int) + (1 : Int) = (↑x' : Int) ∧ True) ∧ seenT l (Int.toNat many) (Int.toNat (↑x_1 : Int)) x_2 = seenT l (Int.toNat many) x' (0 : Nat) ∧ (@List.nil Int = @List.nil Int ∧ @List.nil Int = @List.nil Int ∧ True) ∧ @List.nil Int = @List.nil Int ∧ @List.nil Int = @List.nil Int ∧ True)))))))) ∧
                              ((decide ((↑x_1 : Int) < (↑(List.length (@List.nil Int)) : Int))) = false →
                                (∃ (x : Nat), x ≤ List.length l ∧ ((0 : Int) = (↑x : Int) ∧ True) ∧ True) ∧
                                (∀ x_2 : Nat,
                                ((x_2 ≤ List.length l) →
                                ((List.length l ≤ big) →
                                (((decide ((↑x_2 : Int) < (↑(List.length l) : Int))) = true →
                                  ((0 : Int) ≤ (↑x_2 : Int) ∧ (↑x_2 : Int) < (↑(List.length (seenT l (Int.toNat many) x_1 (0 : Nat))) : Int)) ∧
                                  (Int.toNat (↑x_2 : Int) < List.length (seenT l (Int.toNat many) x_1 (0 : Nat))) ∧
                                  (((!nth Ty.bool (seenT l (Int.toNat many) x_1 (0 : Nat)) (Int.toNat (↑x_2 : Int))) = true →
                                    (false = true)) ∧
                                  ((!nth Ty.bool (seenT l (Int.toNat many) x_1 (0 : Nat)) (Int.toNat (↑x_2 : Int))) = false →
                                    ((I64 (↑x_2 : Int)) →
                                    ((I64 (1 : Int)) →
                                    (I64 ((↑x_2 : Int) + (1 : Int))) ∧
                                    (∃ (x' : Nat), x' ≤ List.length l ∧ List.length l - x' < List.length l - x_2 ∧ ((↑x_2 : Int) + (1 : Int) = (↑x' : Int) ∧ True) ∧ seenT l (Int.toNat many) x_1 (0 : Nat) = seenT l (Int.toNat many) x_1 (0 : Nat) ∧ (@List.nil Int = @List.nil Int ∧ @List.nil Int = @List.nil Int ∧ True) ∧ @List.nil Int = @List.nil Int ∧ @List.nil Int = @List.nil Int ∧ True)))))) ∧
                                ((decide ((↑x_2 : Int) < (↑(List.length l) : Int))) = false →
                                  (List.length (@List.nil Int) ≤ (40 : Nat)) ∧
                                  (∃ (x : Nat), (x ≤ List.length l ∧ ∀ (j : Nat), j < x → nameIs l s j = false) ∧ ((0 : Int) = (↑x : Int) ∧ True) ∧ True) ∧
                                  (∀ x_3 : Nat,
                                  ((x_3 ≤ List.length l ∧ ∀ (j : Nat), j < x_3 → nameIs l s j = false) →
                                  ((List.length l ≤ big) →
                                  (((decide ((↑x_3 : Int) < (↑(List.length l) : Int))) = true →
                                    ((0 : Int) ≤ (↑x_3 : Int) ∧ (↑x_3 : Int) < (↑(List.length l) : Int)) ∧
                                    ((((nth tSymbol l (Int.toNat (↑x_3 : Int))).fst == s) = true →
                                      ((findF (([], [], ()), l, s) == (↑x_3 : Int)) = true)) ∧
                                    (((nth tSymbol l (Int.toNat (↑x_3 : Int))).fst == s) = false →
                                      ((I64 (↑x_3 : Int)) →
                                      ((I64 (1 : Int)) →
                                      (I64 ((↑x_3 : Int) + (1 : Int))) ∧
                                      (∃ (x' : Nat), (x' ≤ List.length l ∧ ∀ (j : Nat), j < x' → nameIs l s j = false) ∧ List.length l - x' < List.length l - x_3 ∧ ((↑x_3 : Int) + (1 : Int) = (↑x' : Int) ∧ True) ∧ seenT l (Int.toNat many) x_1 (0 : Nat) = seenT l (Int.toNat many) x_1 (0 : Nat) ∧ (@List.nil Int = @List.nil Int ∧ @List.nil Int = @List.nil Int ∧ True) ∧ @List.nil Int = @List.nil Int ∧ @List.nil Int = @List.nil Int ∧ True)))))) ∧
                                  ((decide ((↑x_3 : Int) < (↑(List.length l) : Int))) = false →
                                    (decide (findF (([], [], ()), l, s) < (0 : Int)) = true)))))))))))))))))))) ∧
                          ((decide ((8 : Nat) < List.length l)) = false →
                            (((!Err.isNil Err.nil) = true →
                              (((decide (many < (1 : Int))) = true →
                                (true = true)) ∧
                              ((decide (many < (1 : Int))) = false →
                                (decide (many > (16 : Int)) = true)))) ∧
                            ((!Err.isNil Err.nil) = false →
                              ((List.length l ≤ big) →
                              ((0 : Int) ≤ (↑(List.length l) : Int) ∧ (↑(List.length l) : Int) = (↑(List.length l) : Int) ∧ (↑(List.length l) : Int) ≤ (1000000000 : Int)) ∧
                              (∃ (x : Nat), x ≤ Int.toNat many ∧ ((0 : Int) = (↑x : Int) ∧ True) ∧ List.replicate (Int.toNat (↑(List.length l) : Int)) (zeroD Ty.bool) = seenT l (Int.toNat many) x (0 : Nat) ∧ True) ∧
                              (∀ x_1 : Nat,
                              ((x_1 ≤ Int.toNat many) →
                              ((List.length (firstT l (Int.toNat many) (0 : Nat)) ≤ big) →
                              (((decide ((↑x_1 : Int) < (↑(List.length (firstT l (Int.toNat many) (0 : Nat))) : Int))) = true →
                                ((0 : Int) ≤ (↑x_1 : Int) ∧ (↑x_1 : Int) < (↑(List.length (firstT l (Int.toNat many) (0 : Nat))) : Int)) ∧
                                (∃ (x : Nat), x ≤ List.length l ∧ (nth (Ty.int IntKind.i64) (firstT l (Int.toNat many) (0 : Nat)) (Int.toNat (↑x_1 : Int)) = firstOf l (Int.toNat many) (Int.toNat (↑x_1 : Int)) x ∧ True) ∧ seenT l (Int.toNat many) x_1 (0 : Nat) = seenT l (Int.toNat many) (Int.toNat (↑x_1 : Int)) x ∧ True) ∧
                                (∀ x_2 : Nat,
                                ((x_2 ≤ List.length l) →
                                (((decide (firstOf l (Int.toNat many) (Int.toNat (↑x_1 : Int)) x_2 ≥ (0 : Int))) = true →
                                  ((List.length l ≤ big) →
                                  (((decide (firstOf l (Int.toNat many) (Int.toNat (↑x_1 : Int)) x_2 ≥ (↑(List.length l) : Int))) = true →
                                    (false = true)) ∧
                                  ((decide (firstOf l (Int.toNat many) (Int.toNat (↑x_1 : Int)) x_2 ≥ (↑(List.length l) : Int))) = false →
                                    ((0 : Int) ≤ firstOf l (Int.toNat many) (Int.toNat (↑x_1 : Int)) x_2 ∧ firstOf l (Int.toNat many) (Int.toNat (↑x_1 : Int)) x_2 < (↑(List.length (seenT l (Int.toNat many) (Int.toNat (↑x_1 : Int)) x_2)) : Int)) ∧
                                    (Int.toNat (firstOf l (Int.toNat many) (Int.toNat (↑x_1 : Int)) x_2) < List.length (seenT l (Int.toNat many) (Int.toNat (↑x_1 : Int)) x_2)) ∧
                                    (((nth Ty.bool (seenT l (Int.toNat many) (Int.toNat (↑x_1 : Int)) x_2) (Int.toNat (firstOf l (Int.toNat many) (Int.toNat (↑x_1 : Int)) x_2))) = true →
                                      (false = true)) ∧
                                    ((nth Ty.bool (seenT l (Int.toNat many) (Int.toNat (↑x_1 : Int)) x_2) (Int.toNat (firstOf l (Int.toNat many) (Int.toNat (↑x_1 : Int)) x_2))) = false →
                                      ((0 : Int) ≤ firstOf l (Int.toNat many) (Int.toNat (↑x_1 : Int)) x_2 ∧ firstOf l (Int.toNat many) (Int.toNat (↑x_1 : Int)) x_2 < (↑(List.length l) : Int)) ∧
                                      (True) ∧
                                      (many ≠ (0 : Int)) ∧
                                      (∀ x_3 : Int,
                                      ((x_3 = Int.tmod (↑(hashF (nth tSymbol l (Int.toNat (firstOf l (Int.toNat many) (Int.toNat (↑x_1 : Int)) x_2))).fst) : Int) many) →
                                      (((x_3 != (↑x_1 : Int)) = true →
                                        (false = true)) ∧
                                      ((x_3 != (↑x_1 : Int)) = false →
                                        ((0 : Int) ≤ firstOf l (Int.toNat many) (Int.toNat (↑x_1 : Int)) x_2 ∧ firstOf l (Int.toNat many) (Int.toNat (↑x_1 : Int)) x_2 < (↑(List.length (seenT l (Int.toNat many) (Int.toNat (↑x_1 : Int)) x_2)) : Int)) ∧
                                        (Int.toNat (firstOf l (Int.toNat many) (Int.toNat (↑x_1 : Int)) x_2) < List.length (seenT l (Int.toNat many) (Int.toNat (↑x_1 : Int)) x_2)) ∧
                                        ((0 : Int) ≤ firstOf l (Int.toNat many) (Int.toNat (↑x_1 : Int)) x_2 ∧ firstOf l (Int.toNat many) (Int.toNat (↑x_1 : Int)) x_2 < (↑(List.length (nextT l (Int.toNat many) (0 : Nat))) : Int)) ∧
                                        (∃ (x' : Nat), x' ≤ List.length l ∧ List.length l - x' < List.length l - x_2 ∧ (nth (Ty.int IntKind.i64) (nextT l (Int.toNat many) (0 : Nat)) (Int.toNat (firstOf l (Int.toNat many) (Int.toNat (↑x_1 : Int)) x_2)) = firstOf l (Int.toNat many) (Int.toNat (↑x_1 : Int)) x' ∧ True) ∧ List.set (seenT l (Int.toNat many) (Int.toNat (↑x_1 : Int)) x_2) (Int.toNat (firstOf l (Int.toNat many) (Int.toNat (↑x_1 : Int)) x_2)) true = seenT l (Int.toNat many) (Int.toNat (↑x_1 : Int)) x' ∧ (firstT l (Int.toNat many) (0 : Nat) = firstT l (Int.toNat many) (0 : Nat) ∧ nextT l (Int.toNat many) (0 : Nat) = nextT l (Int.toNat many) (0 : Nat) ∧ True) ∧ @List.nil Int = @List.nil Int ∧ @List.nil Int = @List.nil Int ∧ True))))))))))) ∧
                                ((decide (firstOf l (Int.toNat many) (Int.toNat (↑x_1 : Int)) x_2 ≥ (0 : Int))) = false →
                                  ((I64 (↑x_1 : Int)) →
                                  ((I64 (1 : Int)) →
                                  (I64 ((↑x_1 : Int) + (1 : Int))) ∧
                                  (∃ (x' : Nat), x' ≤ Int.toNat many ∧ Int.toNat many - x' < Int.toNat many - x_1 ∧ ((↑x_1 : Int) + (1 : Int) = (↑x' : Int) ∧ True) ∧ seenT l (Int.toNat many) (Int.toNat (↑x_1 : Int)) x_2 = seenT l (Int.toNat many) x' (0 : Nat) ∧ (firstT l (Int.toNat many) (0 : Nat) = firstT l (Int.toNat many) (0 : Nat) ∧ nextT l (Int.toNat many) (0 : Nat) = nextT l (Int.toNat many) (0 : Nat) ∧ True) ∧ @List.nil Int = @List.nil Int ∧ @List.nil Int = @List.nil Int ∧ True)))))))) ∧
                              ((decide ((↑x_1 : Int) < (↑(List.length (firstT l (Int.toNat many) (0 : Nat))) : Int))) = false →
                                (∃ (x : Nat), x ≤ List.length l ∧ ((0 : Int) = (↑x : Int) ∧ True) ∧ True) ∧
                                (∀ x_2 : Nat,
                                ((x_2 ≤ List.length l) →
                                ((List.length l ≤ big) →
                                (((decide ((↑x_2 : Int) < (↑(List.length l) : Int))) = true →
                                  ((0 : Int) ≤ (↑x_2 : Int) ∧ (↑x_2 : Int) < (↑(List.length (seenT l (Int.toNat many) x_1 (0 : Nat))) : Int)) ∧
                                  (Int.toNat (↑x_2 : Int) < List.length (seenT l (Int.toNat many) x_1 (0 : Nat))) ∧
                                  (((!nth Ty.bool (seenT l (Int.toNat many) x_1 (0 : Nat)) (Int.toNat (↑x_2 : Int))) = true →
                                    (false = true)) ∧
                                  ((!nth Ty.bool (seenT l (Int.toNat many) x_1 (0 : Nat)) (Int.toNat (↑x_2 : Int))) = false →
                                    ((I64 (↑x_2 : Int)) →
                                    ((I64 (1 : Int)) →
                                    (I64 ((↑x_2 : Int) + (1 : Int))) ∧
                                    (∃ (x' : Nat), x' ≤ List.length l ∧ List.length l - x' < List.length l - x_2 ∧ ((↑x_2 : Int) + (1 : Int) = (↑x' : Int) ∧ True) ∧ seenT l (Int.toNat many) x_1 (0 : Nat) = seenT l (Int.toNat many) x_1 (0 : Nat) ∧ (firstT l (Int.toNat many) (0 : Nat) = firstT l (Int.toNat many) (0 : Nat) ∧ nextT l (Int.toNat many) (0 : Nat) = nextT l (Int.toNat many) (0 : Nat) ∧ True) ∧ @List.nil Int = @List.nil Int ∧ @List.nil Int = @List.nil Int ∧ True)))))) ∧
                                ((decide ((↑x_2 : Int) < (↑(List.length l) : Int))) = false →
                                  (List.length (firstT l (Int.toNat many) (0 : Nat)) ≤ (40 : Nat)) ∧
                                  (∃ (x : Nat), (x ≤ List.length l ∧ ∀ (j : Nat), j < x → nameIs l s j = false) ∧ ((0 : Int) = (↑x : Int) ∧ True) ∧ True) ∧
                                  (∀ x_3 : Nat,
                                  ((x_3 ≤ List.length l ∧ ∀ (j : Nat), j < x_3 → nameIs l s j = false) →
                                  ((List.length l ≤ big) →
                                  (((decide ((↑x_3 : Int) < (↑(List.length l) : Int))) = true →
                                    ((0 : Int) ≤ (↑x_3 : Int) ∧ (↑x_3 : Int) < (↑(List.length l) : Int)) ∧
                                    ((((nth tSymbol l (Int.toNat (↑x_3 : Int))).fst == s) = true →
                                      ((findF ((firstT l (Int.toNat many) (0 : Nat), nextT l (Int.toNat many) (0 : Nat), ()), l, s) == (↑x_3 : Int)) = true)) ∧
                                    (((nth tSymbol l (Int.toNat (↑x_3 : Int))).fst == s) = false →
                                      ((I64 (↑x_3 : Int)) →
                                      ((I64 (1 : Int)) →
                                      (I64 ((↑x_3 : Int) + (1 : Int))) ∧
                                      (∃ (x' : Nat), (x' ≤ List.length l ∧ ∀ (j : Nat), j < x' → nameIs l s j = false) ∧ List.length l - x' < List.length l - x_3 ∧ ((↑x_3 : Int) + (1 : Int) = (↑x' : Int) ∧ True) ∧ seenT l (Int.toNat many) x_1 (0 : Nat) = seenT l (Int.toNat many) x_1 (0 : Nat) ∧ (firstT l (Int.toNat many) (0 : Nat) = firstT l (Int.toNat many) (0 : Nat) ∧ nextT l (Int.toNat many) (0 : Nat) = nextT l (Int.toNat many) (0 : Nat) ∧ True) ∧ @List.nil Int = @List.nil Int ∧ @List.nil Int = @List.nil Int ∧ True)))))) ∧
                                  ((decide ((↑x_3 : Int) < (↑(List.length l) : Int))) = false →
                                    (decide (findF ((firstT l (Int.toNat many) (0 : Nat), nextT l (Int.toNat many) (0 : Nat), ()), l, s) < (0 : Int)) = true))))))))))))))))))))))))))))))))))))))))))))))) (by kernel_rfl) ?_
  have hfl := firstT_length l many.toNat 0
  refine ⟨?_, ?_⟩
  · first | exact True.intro | rfl | omega | assumption | (simp only [I64, big] at *; omega) | (simp_all; done)
  refine ⟨fun h0 => ?_, fun h0 => ?_⟩
  · exact absurd (show false = true from h0) (by decide)
  ·
    refine ⟨fun h1 => ?_, fun h1 => ?_⟩
    · exact absurd (show false = true from h1) (by decide)
    ·
      refine ⟨fun h2 => ?_, fun h2 => ?_⟩
      · exact absurd (show false = true from h2) (by decide)
      ·
        refine ⟨fun h3 => ?_, fun h3 => ?_⟩
        · exact absurd (show false = true from h3) (by decide)
        ·
          refine ⟨?_, ?_⟩
          · rw [firstT_length]; omega
          refine ⟨fun h4 => ?_, fun h4 => ?_⟩
          · exact absurd (show false = true from h4) (by decide)
          ·
            intro h5
            refine ⟨fun h6 => ?_, fun h6 => ?_⟩
            · try simp only [decide_eq_true_eq, decide_eq_false_iff_not, beq_iff_eq, beq_eq_false_iff_ne, bne_iff_ne, bne_eq_false_iff_eq, Bool.not_eq_true', Bool.not_eq_false', Bool.not_eq_true, Bool.not_eq_false, ne_eq, Bool.and_eq_true, Bool.or_eq_true, Bool.and_eq_false_iff, Bool.or_eq_false_iff, reduceCtorEq, Int.not_lt, Int.not_le] at h6
              first | exact True.intro | rfl | omega | assumption | (simp only [I64, big] at *; omega) | (simp_all; done)
            · try simp only [decide_eq_true_eq, decide_eq_false_iff_not, beq_iff_eq, beq_eq_false_iff_ne, bne_iff_ne, bne_eq_false_iff_eq, Bool.not_eq_true', Bool.not_eq_false', Bool.not_eq_true, Bool.not_eq_false, ne_eq, Bool.and_eq_true, Bool.or_eq_true, Bool.and_eq_false_iff, Bool.or_eq_false_iff, reduceCtorEq, Int.not_lt, Int.not_le] at h6
              intro h7
              refine ⟨fun h8 => ?_, fun h8 => ?_⟩
              · try simp only [decide_eq_true_eq, decide_eq_false_iff_not, beq_iff_eq, beq_eq_false_iff_ne, bne_iff_ne, bne_eq_false_iff_eq, Bool.not_eq_true', Bool.not_eq_false', Bool.not_eq_true, Bool.not_eq_false, ne_eq, Bool.and_eq_true, Bool.or_eq_true, Bool.and_eq_false_iff, Bool.or_eq_false_iff, reduceCtorEq, Int.not_lt, Int.not_le] at h8
                first | exact True.intro | rfl | omega | assumption | (simp only [I64, big] at *; omega) | (simp_all; done)
              · try simp only [decide_eq_true_eq, decide_eq_false_iff_not, beq_iff_eq, beq_eq_false_iff_ne, bne_iff_ne, bne_eq_false_iff_eq, Bool.not_eq_true', Bool.not_eq_false', Bool.not_eq_true, Bool.not_eq_false, ne_eq, Bool.and_eq_true, Bool.or_eq_true, Bool.and_eq_false_iff, Bool.or_eq_false_iff, reduceCtorEq, Int.not_lt, Int.not_le] at h8
                refine ⟨?_, ?_⟩
                · refine ⟨0, ?_⟩; (repeat' (first | exact trivial | rfl | omega | assumption | apply And.intro))
                intro x_0
                intro h9
                intro h10
                refine ⟨fun h11 => ?_, fun h11 => ?_⟩
                · try simp only [decide_eq_true_eq, decide_eq_false_iff_not, beq_iff_eq, beq_eq_false_iff_ne, bne_iff_ne, bne_eq_false_iff_eq, Bool.not_eq_true', Bool.not_eq_false', Bool.not_eq_true, Bool.not_eq_false, ne_eq, Bool.and_eq_true, Bool.or_eq_true, Bool.and_eq_false_iff, Bool.or_eq_false_iff, reduceCtorEq, Int.not_lt, Int.not_le] at h11
                  refine ⟨?_, ?_⟩
                  · first | exact True.intro | rfl | omega | assumption | (simp only [I64, big] at *; omega) | (simp_all; done)
                  intro h12
                  refine ⟨fun h13 => ?_, fun h13 => ?_⟩
                  · try simp only [decide_eq_true_eq, decide_eq_false_iff_not, beq_iff_eq, beq_eq_false_iff_ne, bne_iff_ne, bne_eq_false_iff_eq, Bool.not_eq_true', Bool.not_eq_false', Bool.not_eq_true, Bool.not_eq_false, ne_eq, Bool.and_eq_true, Bool.or_eq_true, Bool.and_eq_false_iff, Bool.or_eq_false_iff, reduceCtorEq, Int.not_lt, Int.not_le] at h13
                    first | exact True.intro | rfl | omega | assumption | (simp only [I64, big] at *; omega) | (simp_all; done)
                  · try simp only [decide_eq_true_eq, decide_eq_false_iff_not, beq_iff_eq, beq_eq_false_iff_ne, bne_iff_ne, bne_eq_false_iff_eq, Bool.not_eq_true', Bool.not_eq_false', Bool.not_eq_true, Bool.not_eq_false, ne_eq, Bool.and_eq_true, Bool.or_eq_true, Bool.and_eq_false_iff, Bool.or_eq_false_iff, reduceCtorEq, Int.not_lt, Int.not_le] at h13
                    intro h14
                    intro h15
                    refine ⟨?_, ?_⟩
                    · first | exact True.intro | rfl | omega | assumption | (simp only [I64, big] at *; omega) | (simp_all; done)
                    refine ⟨x_0 + 1, ?_⟩; (repeat' (first | exact trivial | rfl | omega | assumption | apply And.intro))
                · try simp only [decide_eq_true_eq, decide_eq_false_iff_not, beq_iff_eq, beq_eq_false_iff_ne, bne_iff_ne, bne_eq_false_iff_eq, Bool.not_eq_true', Bool.not_eq_false', Bool.not_eq_true, Bool.not_eq_false, ne_eq, Bool.and_eq_true, Bool.or_eq_true, Bool.and_eq_false_iff, Bool.or_eq_false_iff, reduceCtorEq, Int.not_lt, Int.not_le] at h11
                  refine ⟨?_, ?_⟩
                  · first | exact True.intro | rfl | omega | assumption | (simp only [I64, big] at *; omega) | (simp_all; done)
                  refine ⟨fun h12 => ?_, fun h12 => ?_⟩
                  · try simp only [decide_eq_true_eq, decide_eq_false_iff_not, beq_iff_eq, beq_eq_false_iff_ne, bne_iff_ne, bne_eq_false_iff_eq, Bool.not_eq_true', Bool.not_eq_false', Bool.not_eq_true, Bool.not_eq_false, ne_eq, Bool.and_eq_true, Bool.or_eq_true, Bool.and_eq_false_iff, Bool.or_eq_false_iff, reduceCtorEq, Int.not_lt, Int.not_le] at h12
                    refine ⟨fun h13 => ?_, fun h13 => ?_⟩
                    ·
                      refine ⟨fun h14 => ?_, fun h14 => ?_⟩
                      · try simp only [decide_eq_true_eq, decide_eq_false_iff_not, beq_iff_eq, beq_eq_false_iff_ne, bne_iff_ne, bne_eq_false_iff_eq, Bool.not_eq_true', Bool.not_eq_false', Bool.not_eq_true, Bool.not_eq_false, ne_eq, Bool.and_eq_true, Bool.or_eq_true, Bool.and_eq_false_iff, Bool.or_eq_false_iff, reduceCtorEq, Int.not_lt, Int.not_le] at h14
                        first | exact True.intro | rfl | omega | assumption | (simp only [I64, big] at *; omega) | (simp_all; done)
                      · try simp only [decide_eq_true_eq, decide_eq_false_iff_not, beq_iff_eq, beq_eq_false_iff_ne, bne_iff_ne, bne_eq_false_iff_eq, Bool.not_eq_true', Bool.not_eq_false', Bool.not_eq_true, Bool.not_eq_false, ne_eq, Bool.and_eq_true, Bool.or_eq_true, Bool.and_eq_false_iff, Bool.or_eq_false_iff, reduceCtorEq, Int.not_lt, Int.not_le] at h14
                        first | exact True.intro | rfl | omega | assumption | (simp only [I64, big] at *; omega) | (simp_all; done)
                    · exact absurd (show true = false from h13) (by decide)
                  · try simp only [decide_eq_true_eq, decide_eq_false_iff_not, beq_iff_eq, beq_eq_false_iff_ne, bne_iff_ne, bne_eq_false_iff_eq, Bool.not_eq_true', Bool.not_eq_false', Bool.not_eq_true, Bool.not_eq_false, ne_eq, Bool.and_eq_true, Bool.or_eq_true, Bool.and_eq_false_iff, Bool.or_eq_false_iff, reduceCtorEq, Int.not_lt, Int.not_le] at h12
                    refine ⟨fun h13 => ?_, fun h13 => ?_⟩
                    · try simp only [decide_eq_true_eq, decide_eq_false_iff_not, beq_iff_eq, beq_eq_false_iff_ne, bne_iff_ne, bne_eq_false_iff_eq, Bool.not_eq_true', Bool.not_eq_false', Bool.not_eq_true, Bool.not_eq_false, ne_eq, Bool.and_eq_true, Bool.or_eq_true, Bool.and_eq_false_iff, Bool.or_eq_false_iff, reduceCtorEq, Int.not_lt, Int.not_le] at h13
                      refine ⟨fun h14 => ?_, fun h14 => ?_⟩
                      ·
                        refine ⟨fun h15 => ?_, fun h15 => ?_⟩
                        · try simp only [decide_eq_true_eq, decide_eq_false_iff_not, beq_iff_eq, beq_eq_false_iff_ne, bne_iff_ne, bne_eq_false_iff_eq, Bool.not_eq_true', Bool.not_eq_false', Bool.not_eq_true, Bool.not_eq_false, ne_eq, Bool.and_eq_true, Bool.or_eq_true, Bool.and_eq_false_iff, Bool.or_eq_false_iff, reduceCtorEq, Int.not_lt, Int.not_le] at h15
                          first | exact True.intro | rfl | omega | assumption | (simp only [I64, big] at *; omega) | (simp_all; done)
                        · try simp only [decide_eq_true_eq, decide_eq_false_iff_not, beq_iff_eq, beq_eq_false_iff_ne, bne_iff_ne, bne_eq_false_iff_eq, Bool.not_eq_true', Bool.not_eq_false', Bool.not_eq_true, Bool.not_eq_false, ne_eq, Bool.and_eq_true, Bool.or_eq_true, Bool.and_eq_false_iff, Bool.or_eq_false_iff, reduceCtorEq, Int.not_lt, Int.not_le] at h15
                          first | exact True.intro | rfl | omega | assumption | (simp only [I64, big] at *; omega) | (simp_all; done)
                      · exact absurd (show true = false from h14) (by decide)
                    · try simp only [decide_eq_true_eq, decide_eq_false_iff_not, beq_iff_eq, beq_eq_false_iff_ne, bne_iff_ne, bne_eq_false_iff_eq, Bool.not_eq_true', Bool.not_eq_false', Bool.not_eq_true, Bool.not_eq_false, ne_eq, Bool.and_eq_true, Bool.or_eq_true, Bool.and_eq_false_iff, Bool.or_eq_false_iff, reduceCtorEq, Int.not_lt, Int.not_le] at h13
                      refine ⟨fun h14 => ?_, fun h14 => ?_⟩
                      · try simp only [decide_eq_true_eq, decide_eq_false_iff_not, beq_iff_eq, beq_eq_false_iff_ne, bne_iff_ne, bne_eq_false_iff_eq, Bool.not_eq_true', Bool.not_eq_false', Bool.not_eq_true, Bool.not_eq_false, ne_eq, Bool.and_eq_true, Bool.or_eq_true, Bool.and_eq_false_iff, Bool.or_eq_false_iff, reduceCtorEq, Int.not_lt, Int.not_le] at h14
                        refine ⟨fun h15 => ?_, fun h15 => ?_⟩
                        ·
                          refine ⟨fun h16 => ?_, fun h16 => ?_⟩
                          · try simp only [decide_eq_true_eq, decide_eq_false_iff_not, beq_iff_eq, beq_eq_false_iff_ne, bne_iff_ne, bne_eq_false_iff_eq, Bool.not_eq_true', Bool.not_eq_false', Bool.not_eq_true, Bool.not_eq_false, ne_eq, Bool.and_eq_true, Bool.or_eq_true, Bool.and_eq_false_iff, Bool.or_eq_false_iff, reduceCtorEq, Int.not_lt, Int.not_le] at h16
                            first | exact True.intro | rfl | omega | assumption | (simp only [I64, big] at *; omega) | (simp_all; done)
                          · try simp only [decide_eq_true_eq, decide_eq_false_iff_not, beq_iff_eq, beq_eq_false_iff_ne, bne_iff_ne, bne_eq_false_iff_eq, Bool.not_eq_true', Bool.not_eq_false', Bool.not_eq_true, Bool.not_eq_false, ne_eq, Bool.and_eq_true, Bool.or_eq_true, Bool.and_eq_false_iff, Bool.or_eq_false_iff, reduceCtorEq, Int.not_lt, Int.not_le] at h16
                            first | exact True.intro | rfl | omega | assumption | (simp only [I64, big] at *; omega) | (simp_all; done)
                        · exact absurd (show true = false from h15) (by decide)
                      · try simp only [decide_eq_true_eq, decide_eq_false_iff_not, beq_iff_eq, beq_eq_false_iff_ne, bne_iff_ne, bne_eq_false_iff_eq, Bool.not_eq_true', Bool.not_eq_false', Bool.not_eq_true, Bool.not_eq_false, ne_eq, Bool.and_eq_true, Bool.or_eq_true, Bool.and_eq_false_iff, Bool.or_eq_false_iff, reduceCtorEq, Int.not_lt, Int.not_le] at h14
                        refine ⟨fun h15 => ?_, fun h15 => ?_⟩
                        · exact absurd (show false = true from h15) (by decide)
                        ·
                          intro h16
                          refine ⟨?_, ?_⟩
                          · first | exact True.intro | rfl | omega | assumption | (simp only [I64, big] at *; omega) | (simp_all; done)
                          refine ⟨?_, ?_⟩
                          · exact ⟨0, by omega, ⟨rfl, trivial⟩, by rw [Int.toNat_natCast]; exact seenT_zero _ _, (by repeat' (first | exact trivial | rfl | apply And.intro))⟩
                          intro x_1
                          intro h17
                          intro h18
                          refine ⟨fun h19 => ?_, fun h19 => ?_⟩
                          · try simp only [decide_eq_true_eq, decide_eq_false_iff_not, beq_iff_eq, beq_eq_false_iff_ne, bne_iff_ne, bne_eq_false_iff_eq, Bool.not_eq_true', Bool.not_eq_false', Bool.not_eq_true, Bool.not_eq_false, ne_eq, Bool.and_eq_true, Bool.or_eq_true, Bool.and_eq_false_iff, Bool.or_eq_false_iff, reduceCtorEq, Int.not_lt, Int.not_le] at h19
                            refine ⟨?_, ?_⟩
                            · first | exact True.intro | rfl | omega | assumption | (simp only [I64, big] at *; omega) | (simp_all; done)
                            refine ⟨?_, ?_⟩
                            · exact ⟨0, by omega, ⟨firstT_nth (by omega), trivial⟩, (by repeat' (first | exact trivial | rfl | apply And.intro))⟩
                            intro x_2
                            intro h20
                            refine ⟨fun h21 => ?_, fun h21 => ?_⟩
                            · try simp only [decide_eq_true_eq, decide_eq_false_iff_not, beq_iff_eq, beq_eq_false_iff_ne, bne_iff_ne, bne_eq_false_iff_eq, Bool.not_eq_true', Bool.not_eq_false', Bool.not_eq_true, Bool.not_eq_false, ne_eq, Bool.and_eq_true, Bool.or_eq_true, Bool.and_eq_false_iff, Bool.or_eq_false_iff, reduceCtorEq, Int.not_lt, Int.not_le] at h21
                              intro h22
                              refine ⟨fun h23 => ?_, fun h23 => ?_⟩
                              · try simp only [decide_eq_true_eq, decide_eq_false_iff_not, beq_iff_eq, beq_eq_false_iff_ne, bne_iff_ne, bne_eq_false_iff_eq, Bool.not_eq_true', Bool.not_eq_false', Bool.not_eq_true, Bool.not_eq_false, ne_eq, Bool.and_eq_true, Bool.or_eq_true, Bool.and_eq_false_iff, Bool.or_eq_false_iff, reduceCtorEq, Int.not_lt, Int.not_le] at h23
                                obtain ⟨j, hj, hkj, hjl, hjb, hno, hseen, hset⟩ := firstOf_pos (l := l) (m := many.toNat) (b := (x_1 : Int).toNat) (k := x_2) (by omega)
                                omega
                              · try simp only [decide_eq_true_eq, decide_eq_false_iff_not, beq_iff_eq, beq_eq_false_iff_ne, bne_iff_ne, bne_eq_false_iff_eq, Bool.not_eq_true', Bool.not_eq_false', Bool.not_eq_true, Bool.not_eq_false, ne_eq, Bool.and_eq_true, Bool.or_eq_true, Bool.and_eq_false_iff, Bool.or_eq_false_iff, reduceCtorEq, Int.not_lt, Int.not_le] at h23
                                refine ⟨?_, ?_⟩
                                · obtain ⟨j, hj, hkj, hjl, hjb, hno, hseen, hset⟩ := firstOf_pos (l := l) (m := many.toNat) (b := (x_1 : Int).toNat) (k := x_2) (by omega)
                                  rw [seenT_length]; omega
                                refine ⟨?_, ?_⟩
                                · obtain ⟨j, hj, hkj, hjl, hjb, hno, hseen, hset⟩ := firstOf_pos (l := l) (m := many.toNat) (b := (x_1 : Int).toNat) (k := x_2) (by omega)
                                  rw [seenT_length]; omega
                                refine ⟨fun h24 => ?_, fun h24 => ?_⟩
                                · try simp only [decide_eq_true_eq, decide_eq_false_iff_not, beq_iff_eq, beq_eq_false_iff_ne, bne_iff_ne, bne_eq_false_iff_eq, Bool.not_eq_true', Bool.not_eq_false', Bool.not_eq_true, Bool.not_eq_false, ne_eq, Bool.and_eq_true, Bool.or_eq_true, Bool.and_eq_false_iff, Bool.or_eq_false_iff, reduceCtorEq, Int.not_lt, Int.not_le] at h24
                                  obtain ⟨j, hj, hkj, hjl, hjb, hno, hseen, hset⟩ := firstOf_pos (l := l) (m := many.toNat) (b := (x_1 : Int).toNat) (k := x_2) (by omega)
                                  rw [hj, Int.toNat_natCast j, hseen] at h24; cases h24
                                · try simp only [decide_eq_true_eq, decide_eq_false_iff_not, beq_iff_eq, beq_eq_false_iff_ne, bne_iff_ne, bne_eq_false_iff_eq, Bool.not_eq_true', Bool.not_eq_false', Bool.not_eq_true, Bool.not_eq_false, ne_eq, Bool.and_eq_true, Bool.or_eq_true, Bool.and_eq_false_iff, Bool.or_eq_false_iff, reduceCtorEq, Int.not_lt, Int.not_le] at h24
                                  refine ⟨?_, ?_⟩
                                  · first | exact True.intro | rfl | omega | assumption | (simp only [I64, big] at *; omega) | (simp_all; done)
                                  refine ⟨?_, ?_⟩
                                  · first | exact True.intro | rfl | omega | assumption | (simp only [I64, big] at *; omega) | (simp_all; done)
                                  refine ⟨?_, ?_⟩
                                  · first | exact True.intro | rfl | omega | assumption | (simp only [I64, big] at *; omega) | (simp_all; done)
                                  intro x_3
                                  intro h25
                                  refine ⟨fun h26 => ?_, fun h26 => ?_⟩
                                  · try simp only [decide_eq_true_eq, decide_eq_false_iff_not, beq_iff_eq, beq_eq_false_iff_ne, bne_iff_ne, bne_eq_false_iff_eq, Bool.not_eq_true', Bool.not_eq_false', Bool.not_eq_true, Bool.not_eq_false, ne_eq, Bool.and_eq_true, Bool.or_eq_true, Bool.and_eq_false_iff, Bool.or_eq_false_iff, reduceCtorEq, Int.not_lt, Int.not_le] at h26
                                    obtain ⟨j, hj, hkj, hjl, hjb, hno, hseen, hset⟩ := firstOf_pos (l := l) (m := many.toNat) (b := (x_1 : Int).toNat) (k := x_2) (by omega)
                                    have hb := rem_bucket (by omega) ‹x_3 = _›
                                    rw [hj, Int.toNat_natCast j, hjb] at hb; omega
                                  · try simp only [decide_eq_true_eq, decide_eq_false_iff_not, beq_iff_eq, beq_eq_false_iff_ne, bne_iff_ne, bne_eq_false_iff_eq, Bool.not_eq_true', Bool.not_eq_false', Bool.not_eq_true, Bool.not_eq_false, ne_eq, Bool.and_eq_true, Bool.or_eq_true, Bool.and_eq_false_iff, Bool.or_eq_false_iff, reduceCtorEq, Int.not_lt, Int.not_le] at h26
                                    refine ⟨?_, ?_⟩
                                    · obtain ⟨j, hj, hkj, hjl, hjb, hno, hseen, hset⟩ := firstOf_pos (l := l) (m := many.toNat) (b := (x_1 : Int).toNat) (k := x_2) (by omega)
                                      rw [seenT_length]; omega
                                    refine ⟨?_, ?_⟩
                                    · obtain ⟨j, hj, hkj, hjl, hjb, hno, hseen, hset⟩ := firstOf_pos (l := l) (m := many.toNat) (b := (x_1 : Int).toNat) (k := x_2) (by omega)
                                      rw [seenT_length]; omega
                                    refine ⟨?_, ?_⟩
                                    · obtain ⟨j, hj, hkj, hjl, hjb, hno, hseen, hset⟩ := firstOf_pos (l := l) (m := many.toNat) (b := (x_1 : Int).toNat) (k := x_2) (by omega)
                                      rw [nextT_length]; omega
                                    obtain ⟨j, hj, hkj, hjl, hjb, hno, hseen, hset⟩ := firstOf_pos (l := l) (m := many.toNat) (b := (x_1 : Int).toNat) (k := x_2) (by omega)
                                    exact ⟨j + 1, by omega, by omega, ⟨by rw [hj, Int.toNat_natCast j, nextT_nth (by omega), hjb], trivial⟩, by rw [hj, Int.toNat_natCast j]; exact hset, (by repeat' (first | exact trivial | rfl | apply And.intro))⟩
                            · try simp only [decide_eq_true_eq, decide_eq_false_iff_not, beq_iff_eq, beq_eq_false_iff_ne, bne_iff_ne, bne_eq_false_iff_eq, Bool.not_eq_true', Bool.not_eq_false', Bool.not_eq_true, Bool.not_eq_false, ne_eq, Bool.and_eq_true, Bool.or_eq_true, Bool.and_eq_false_iff, Bool.or_eq_false_iff, reduceCtorEq, Int.not_lt, Int.not_le] at h21
                              intro h22
                              intro h23
                              refine ⟨?_, ?_⟩
                              · first | exact True.intro | rfl | omega | assumption | (simp only [I64, big] at *; omega) | (simp_all; done)
                              exact ⟨x_1 + 1, by omega, by omega, ⟨by omega, trivial⟩, seenT_next (by omega), (by repeat' (first | exact trivial | rfl | apply And.intro))⟩
                          · try simp only [decide_eq_true_eq, decide_eq_false_iff_not, beq_iff_eq, beq_eq_false_iff_ne, bne_iff_ne, bne_eq_false_iff_eq, Bool.not_eq_true', Bool.not_eq_false', Bool.not_eq_true, Bool.not_eq_false, ne_eq, Bool.and_eq_true, Bool.or_eq_true, Bool.and_eq_false_iff, Bool.or_eq_false_iff, reduceCtorEq, Int.not_lt, Int.not_le] at h19
                            refine ⟨?_, ?_⟩
                            · refine ⟨0, ?_⟩; (repeat' (first | exact trivial | rfl | omega | assumption | apply And.intro))
                            intro x_2
                            intro h20
                            intro h21
                            refine ⟨fun h22 => ?_, fun h22 => ?_⟩
                            · try simp only [decide_eq_true_eq, decide_eq_false_iff_not, beq_iff_eq, beq_eq_false_iff_ne, bne_iff_ne, bne_eq_false_iff_eq, Bool.not_eq_true', Bool.not_eq_false', Bool.not_eq_true, Bool.not_eq_false, ne_eq, Bool.and_eq_true, Bool.or_eq_true, Bool.and_eq_false_iff, Bool.or_eq_false_iff, reduceCtorEq, Int.not_lt, Int.not_le] at h22
                              refine ⟨?_, ?_⟩
                              · rw [seenT_length]; omega
                              refine ⟨?_, ?_⟩
                              · rw [seenT_length]; omega
                              refine ⟨fun h23 => ?_, fun h23 => ?_⟩
                              · try simp only [decide_eq_true_eq, decide_eq_false_iff_not, beq_iff_eq, beq_eq_false_iff_ne, bne_iff_ne, bne_eq_false_iff_eq, Bool.not_eq_true', Bool.not_eq_false', Bool.not_eq_true, Bool.not_eq_false, ne_eq, Bool.and_eq_true, Bool.or_eq_true, Bool.and_eq_false_iff, Bool.or_eq_false_iff, reduceCtorEq, Int.not_lt, Int.not_le] at h23
                                have : x_1 = many.toNat := by omega
                                subst this
                                rw [Int.toNat_natCast, seenT_all (by omega) (by omega)] at h23; cases h23
                              · try simp only [decide_eq_true_eq, decide_eq_false_iff_not, beq_iff_eq, beq_eq_false_iff_ne, bne_iff_ne, bne_eq_false_iff_eq, Bool.not_eq_true', Bool.not_eq_false', Bool.not_eq_true, Bool.not_eq_false, ne_eq, Bool.and_eq_true, Bool.or_eq_true, Bool.and_eq_false_iff, Bool.or_eq_false_iff, reduceCtorEq, Int.not_lt, Int.not_le] at h23
                                intro h24
                                intro h25
                                refine ⟨?_, ?_⟩
                                · first | exact True.intro | rfl | omega | assumption | (simp only [I64, big] at *; omega) | (simp_all; done)
                                refine ⟨x_2 + 1, ?_⟩; (repeat' (first | exact trivial | rfl | omega | assumption | apply And.intro))
                            · try simp only [decide_eq_true_eq, decide_eq_false_iff_not, beq_iff_eq, beq_eq_false_iff_ne, bne_iff_ne, bne_eq_false_iff_eq, Bool.not_eq_true', Bool.not_eq_false', Bool.not_eq_true, Bool.not_eq_false, ne_eq, Bool.and_eq_true, Bool.or_eq_true, Bool.and_eq_false_iff, Bool.or_eq_false_iff, reduceCtorEq, Int.not_lt, Int.not_le] at h22
                              refine ⟨?_, ?_⟩
                              · rw [firstT_length]; omega
                              refine ⟨?_, ?_⟩
                              · refine ⟨0, ?_⟩; (repeat' (first | exact trivial | rfl | omega | assumption | apply And.intro))
                              intro x_3
                              intro h23
                              intro h24
                              refine ⟨fun h25 => ?_, fun h25 => ?_⟩
                              · try simp only [decide_eq_true_eq, decide_eq_false_iff_not, beq_iff_eq, beq_eq_false_iff_ne, bne_iff_ne, bne_eq_false_iff_eq, Bool.not_eq_true', Bool.not_eq_false', Bool.not_eq_true, Bool.not_eq_false, ne_eq, Bool.and_eq_true, Bool.or_eq_true, Bool.and_eq_false_iff, Bool.or_eq_false_iff, reduceCtorEq, Int.not_lt, Int.not_le] at h25
                                refine ⟨?_, ?_⟩
                                · first | exact True.intro | rfl | omega | assumption | (simp only [I64, big] at *; omega) | (simp_all; done)
                                refine ⟨fun h26 => ?_, fun h26 => ?_⟩
                                · try simp only [decide_eq_true_eq, decide_eq_false_iff_not, beq_iff_eq, beq_eq_false_iff_ne, bne_iff_ne, bne_eq_false_iff_eq, Bool.not_eq_true', Bool.not_eq_false', Bool.not_eq_true, Bool.not_eq_false, ne_eq, Bool.and_eq_true, Bool.or_eq_true, Bool.and_eq_false_iff, Bool.or_eq_false_iff, reduceCtorEq, Int.not_lt, Int.not_le] at h26
                                  have : findF (tableOf l many.toNat, l, s) = wantF l s 0 := findF_table (by omega)
                                  rw [beq_iff_eq]; refine this.trans (wantF_first (by omega) (by assumption) h23.2)
                                · try simp only [decide_eq_true_eq, decide_eq_false_iff_not, beq_iff_eq, beq_eq_false_iff_ne, bne_iff_ne, bne_eq_false_iff_eq, Bool.not_eq_true', Bool.not_eq_false', Bool.not_eq_true, Bool.not_eq_false, ne_eq, Bool.and_eq_true, Bool.or_eq_true, Bool.and_eq_false_iff, Bool.or_eq_false_iff, reduceCtorEq, Int.not_lt, Int.not_le] at h26
                                  intro h27
                                  intro h28
                                  refine ⟨?_, ?_⟩
                                  · first | exact True.intro | rfl | omega | assumption | (simp only [I64, big] at *; omega) | (simp_all; done)
                                  exact ⟨x_3 + 1, ⟨by omega, fun j hj => nameIs_next (by assumption) h23.2 hj⟩, by omega, ⟨by omega, trivial⟩, (by repeat' (first | exact trivial | rfl | apply And.intro))⟩
                              · try simp only [decide_eq_true_eq, decide_eq_false_iff_not, beq_iff_eq, beq_eq_false_iff_ne, bne_iff_ne, bne_eq_false_iff_eq, Bool.not_eq_true', Bool.not_eq_false', Bool.not_eq_true, Bool.not_eq_false, ne_eq, Bool.and_eq_true, Bool.or_eq_true, Bool.and_eq_false_iff, Bool.or_eq_false_iff, reduceCtorEq, Int.not_lt, Int.not_le] at h25
                                have : findF (tableOf l many.toNat, l, s) = wantF l s 0 := findF_table (by omega)
                                rw [decide_eq_true_eq]; refine Int.lt_of_le_of_lt (Int.le_of_eq (this.trans (wantF_none fun j hj => h23.2 j (by omega)))) (by decide)
theorem Try.ok_TopTable : PureOK Try.prog Try.B.eT 6 [.slice tSymbol, .int .i64, .str] [.bool] (fun _ => True) (fun _ y => y = true) :=
  pure_fn (X := noExt) Try.tableCtxOK Try.func6 (by kernel_rfl) (fun x => ttAnn x.1 x.2.1 x.2.2) (fun x hw hp => vc_TopTable x.1 x.2.1 x.2.2 hw)
open Go.ChangeShapes Go.WideShapes Go.ChangeAt Go.RowKit in
set_option maxRecDepth 100000 in
theorem topTable_lifted (os : Os) (started : os.Started) (H : Type) (enc : TypeId × Value → H) :
    ReturnsInHanded {} Try.checked os 6 .any (Rows.topTableSpec.pre6 enc Try.prog Try.f6 Rows.topTableRow.domain false) (Rows.topTableSpec.post enc Try.prog Try.f6 false true false false) := by
  refine returnsInHanded_of_change (C := Try.checked) (by kernel_rfl) started (by kernel_rfl) Try.func6
    (ChangeSpec.witness6 (enc := enc) (C := Try.checked) false ⟨#[], #[.slice none 0 0, .int .i64 0, .string ⟨#[]⟩], []⟩ 8 (by kernel_rfl) (by kernel_rfl) (by kernel_rfl) (by kernel_rfl)) ?_
  intro W base args ds gs before hval hW hcnd _
  exact law_calls (C := Try.checked) (n := 16) rfl (by kernel_rfl) (fun ds h => by match ds, h with | [_, _, _], _ => rfl) (by kernel_rfl) (by kernel_rfl) (by kernel_rfl) (tb := 4) (by kernel_rfl) Try.ok_TopTable hval hW (fun _ _ => trivial)
open Go.ChangeShapes Go.WideShapes Go.ChangeAt Go.RowKit in
theorem topTable_holds : Rows.TopTableSaid :=
  OpenClaim.holds_of_wide 6 Try.f6 rfl rfl rfl rfl rfl rfl rfl ⟨rfl, rfl, rfl, rfl, rfl⟩ rfl rfl rfl rfl rfl (by kernel_rfl) Try.func6 (by kernel_rfl)
    (of_decide_eq_true (by kernel_rfl)) (by unfold Func.isWrapper; first | (rw [if_pos (by decide +kernel)]; kernel_rfl) | (rw [if_neg (by decide +kernel)]; exact ⟨rfl, rfl⟩))
    (fun os started H enc _ => topTable_lifted os started H enc)
#print axioms topTable_holds
end Go.Proofs.Ytgokjhhcfemnhab

