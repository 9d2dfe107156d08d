/- A part of the proof that the law TopFind holds of the given program: facts that are used there. -/
import Derived.Test.YtgokjhhcfemnhabScope
import Derived.Test.YtgokjhhcfemnhabRows
set_option linter.unusedSimpArgs false
set_option linter.unusedVariables false
namespace Go.Proofs.Ytgokjhhcfemnhab
open Go.Vg Go.Mrl
/-! The law TopFind. -/
def tfindAnn (l : List (D tObject)) (s : List UInt8) : Anns := [
  (0, fun st => { X := Nat, inv := fun i => i ≤ l.length, meas := fun i => l.length - i, slots := fun i => [(7, sI i)], keep := [0, 1, 5, 6] }),
  (2, fun st => { X := Nat, inv := fun k => k ≤ (nth tObject l (tmpD (.int .i64) st 7).toNat).2.2.1.length, meas := fun k => (nth tObject l (tmpD (.int .i64) st 7).toNat).2.2.1.length - k, slots := fun k => [(8, sI k)], keep := [0, 1, 5, 6, 7, 86, 87, 88, 89] })]
set_option maxRecDepth 100000 in
set_option maxHeartbeats 1000000 in
theorem vc_TopFind (l : List (D tObject)) (s : List UInt8) (hw : wfL [.slice tObject, .str] (l, s)) : (fnVCs Try.B Try.scopeCtx Try.f4 (tfindAnn l s) [.slice tObject, .str] [.bool] (fun _ y => y = true) (l, s)).holds := by
  refine holds_of (p :=
    (True) ∧
      ((((findS ([([], [], [([(120 : UInt8)], (0 : Int), true, ())], [], ()), ([], [], [([(120 : UInt8)], (0 : Int), false, ())], [], ())], [(120 : UInt8)])).fst != (1 : Int)) = true →
        (false = true)) ∧
      (((findS ([([], [], [([(120 : UInt8)], (0 : Int), true, ())], [], ()), ([], [], [([(120 : UInt8)], (0 : Int), false, ())], [], ())], [(120 : UInt8)])).fst != (1 : Int)) = false →
        ((((findS ([([], [], [([(120 : UInt8)], (0 : Int), true, ())], [], ()), ([], [], [([(120 : UInt8)], (0 : Int), false, ())], [], ())], [(120 : UInt8)])).snd != (0 : Int)) = true →
          (false = true)) ∧
        (((findS ([([], [], [([(120 : UInt8)], (0 : Int), true, ())], [], ()), ([], [], [([(120 : UInt8)], (0 : Int), false, ())], [], ())], [(120 : UInt8)])).snd != (0 : Int)) = false →
          (True) ∧
          (∀ x_0 : Bool,
          ((x_0 = true → LightOs l) →
          (((!x_0) = true →
            (true = true)) ∧
          ((!x_0) = false →
            ((List.length s ≤ big) →
            (((decide ((↑(List.length s) : Int) > (20 : Int))) = true →
              (true = true)) ∧
            ((decide ((↑(List.length s) : Int) > (20 : Int))) = false →
              (True) ∧
              ((List.length l ≤ big) →
              (((decide ((findS (l, s)).fst ≥ (↑(List.length l) : Int))) = true →
                (false = true)) ∧
              ((decide ((findS (l, s)).fst ≥ (↑(List.length l) : Int))) = false →
                (((decide ((findS (l, s)).fst ≥ (0 : Int))) = true →
                  (((decide ((findS (l, s)).snd < (0 : Int))) = true →
                    (false = true)) ∧
                  ((decide ((findS (l, s)).snd < (0 : Int))) = false →
                    ((0 : Int) ≤ (findS (l, s)).fst ∧ (findS (l, s)).fst < (↑(List.length l) : Int)) ∧
                    ((List.length (nth tObject l (Int.toNat (findS (l, s)).fst)).snd.snd.fst ≤ big) →
                    (((decide ((findS (l, s)).snd ≥ (↑(List.length (nth tObject l (Int.toNat (findS (l, s)).fst)).snd.snd.fst) : Int))) = true →
                      (false = true)) ∧
                    ((decide ((findS (l, s)).snd ≥ (↑(List.length (nth tObject l (Int.toNat (findS (l, s)).fst)).snd.snd.fst) : Int))) = false →
                      ((0 : Int) ≤ (findS (l, s)).fst ∧ (findS (l, s)).fst < (↑(List.length l) : Int)) ∧
                      ((0 : Int) ≤ (findS (l, s)).snd ∧ (findS (l, s)).snd < (↑(List.length (nth tObject l (Int.toNat (findS (l, s)).fst)).snd.snd.fst) : Int)) ∧
                      (((!(nth tSymbol (nth tObject l (Int.toNat (findS (l, s)).fst)).snd.snd.fst (Int.toNat (findS (l, s)).snd)).fst == s) = true →
                        (false = true)) ∧
                      ((!(nth tSymbol (nth tObject l (Int.toNat (findS (l, s)).fst)).snd.snd.fst (Int.toNat (findS (l, s)).snd)).fst == s) = false →
                        (((decide ((findS (l, s)).fst < (0 : Int))) = true →
                          (((decide ((findS (l, s)).snd ≥ (0 : Int))) = true →
                            (false = true)) ∧
                          ((decide ((findS (l, s)).snd ≥ (0 : Int))) = false →
                            (∃ (x : Nat), x ≤ List.length l ∧ ((0 : Int) = (↑x : Int) ∧ True) ∧ True) ∧
                            (∀ x_1 : Nat,
                            ((x_1 ≤ List.length l) →
                            ((List.length l ≤ big) →
                            (((decide ((↑x_1 : Int) < (↑(List.length l) : Int))) = true →
                              (∃ (x : Nat), x ≤ List.length (nth tObject l x_1).snd.snd.fst ∧ ((0 : Int) = (↑x : Int) ∧ True) ∧ True) ∧
                              (∀ x_2 : Nat,
                              ((x_2 ≤ List.length (nth tObject l x_1).snd.snd.fst) →
                              ((0 : Int) ≤ (↑x_1 : Int) ∧ (↑x_1 : Int) < (↑(List.length l) : Int)) ∧
                              ((List.length (nth tObject l x_1).snd.snd.fst ≤ big) →
                              (((decide ((↑x_2 : Int) < (↑(List.length (nth tObject l x_1).snd.snd.fst) : Int))) = true →
                                ((0 : Int) ≤ (↑x_1 : Int) ∧ (↑x_1 : Int) < (↑(List.length l) : Int)) ∧
                                ((0 : Int) ≤ (↑x_2 : Int) ∧ (↑x_2 : Int) < (↑(List.length (nth tObject l x_1).snd.snd.fst) : Int)) ∧
                                (((!(nth tSymbol (nth tObject l x_1).snd.snd.fst x_2).fst == s) = true →
                                  ((I64 (↑x_2 : Int)) →
                                  ((I64 (1 : Int)) →
                                  (I64 ((↑x_2 : Int) + (1 : Int))) ∧
                                  (∃ (x' : Nat), x' ≤ List.length (nth tObject l x_1).snd.snd.fst ∧ List.length (nth tObject l x_1).snd.snd.fst - x' < List.length (nth tObject l x_1).snd.snd.fst - x_2 ∧ ((↑x_2 : Int) + (1 : Int) = (↑x' : Int) ∧ True) ∧ True)))) ∧
                                ((!(nth tSymbol (nth tObject l x_1).snd.snd.fst x_2).fst == s) = false →
                                  (((decide ((findS (l, s)).fst < (0 : Int))) = true →
                                    (false = true)) ∧
                                  ((decide ((findS (l, s)).fst < (0 : Int))) = false →
                                    ((0 : Int) ≤ (findS (l, s)).fst ∧ (findS (l, s)).fst < (↑(List.length l) : Int)) ∧
                                    ((0 : Int) ≤ (findS (l, s)).snd ∧ (findS (l, s)).snd < (↑(List.length (nth tObject l (Int.toNat (findS (l, s)).fst)).snd.snd.fst) : Int)) ∧
                                    (((decide ((↑x_1 : Int) < (findS (l, s)).fst)) = true →
                                      (((!(nth tSymbol (nth tObject l x_1).snd.snd.fst x_2).snd.snd.fst) = true →
                                        (false = true)) ∧
                                      ((!(nth tSymbol (nth tObject l x_1).snd.snd.fst x_2).snd.snd.fst) = false →
                                        ((((nth tSymbol (nth tObject l (Int.toNat (findS (l, s)).fst)).snd.snd.fst (Int.toNat (findS (l, s)).snd)).snd.snd.fst) = true →
                                          (false = true)) ∧
                                        (((nth tSymbol (nth tObject l (Int.toNat (findS (l, s)).fst)).snd.snd.fst (Int.toNat (findS (l, s)).snd)).snd.snd.fst) = false →
                                          ((I64 (↑x_2 : Int)) →
                                          ((I64 (1 : Int)) →
                                          (I64 ((↑x_2 : Int) + (1 : Int))) ∧
                                          (∃ (x' : Nat), x' ≤ List.length (nth tObject l x_1).snd.snd.fst ∧ List.length (nth tObject l x_1).snd.snd.fst - x' < List.length (nth tObject l x_1).snd.snd.fst - x_2 ∧ ((↑x_2 : Int) + (1 : Int) = (↑x' : Int) ∧ True) ∧ True)))))))) ∧
                                    ((decide ((↑x_1 : Int) < (findS (l, s)).fst)) = false →
                                      ((((↑x_1 : Int) == (findS (l, s)).fst) = true →
                                        (((decide ((↑x_2 : Int) < (findS (l, s)).snd)) = true →
                                          (((!(nth tSymbol (nth tObject l x_1).snd.snd.fst x_2).snd.snd.fst) = true →
                                            (false = true)) ∧
                                          ((!(nth tSymbol (nth tObject l x_1).snd.snd.fst x_2).snd.snd.fst) = false →
                                            ((((nth tSymbol (nth tObject l (Int.toNat (findS (l, s)).fst)).snd.snd.fst (Int.toNat (findS (l, s)).snd)).snd.snd.fst) = true →
                                              (false = true)) ∧
                                            (((nth tSymbol (nth tObject l (Int.toNat (findS (l, s)).fst)).snd.snd.fst (Int.toNat (findS (l, s)).snd)).snd.snd.fst) = false →
                                              (((!decide ((↑x_2 : Int) < (findS (l, s)).snd)) = true →
                                                ((((nth tSymbol (nth tObject l (Int.toNat (findS (l, s)).fst)).snd.snd.fst (Int.toNat (findS (l, s)).snd)).snd.snd.fst) = true →
                                                  (((!(nth tSymbol (nth tObject l x_1).snd.snd.fst x_2).snd.snd.fst) = true →
                                                    (false = true)) ∧
                                                  ((!(nth tSymbol (nth tObject l x_1).snd.snd.fst x_2).snd.snd.fst) = false →
                                                    ((I64 (↑x_2 : Int)) →
                                                    ((I64 (1 : Int)) →
                                                    (I64 ((↑x_2 : Int) + (1 : Int))) ∧
                                                    (∃ (x' : Nat), x' ≤ List.length (nth tObject l x_1).snd.snd.fst ∧ List.length (nth tObject l x_1).snd.snd.fst - x' < List.length (nth tObject l x_1).snd.snd.fst - x_2 ∧ ((↑x_2 : Int) + (1 : Int) = (↑x' : Int) ∧ True) ∧ True)))))) ∧
                                                (((nth tSymbol (nth tObject l (Int.toNat (findS (l, s)).fst)).snd.snd.fst (Int.toNat (findS (l, s)).snd)).snd.snd.fst) = false →
                                                  ((I64 (↑x_2 : Int)) →
                                                  ((I64 (1 : Int)) →
                                                  (I64 ((↑x_2 : Int) + (1 : Int))) ∧
                                                  (∃ (x' : Nat), x' ≤ List.length (nth tObject l x_1).snd.snd.fst ∧ List.length (nth tObject l x_1).snd.snd.fst - x' < List.length (nth tObject l x_1).snd.snd.fst - x_2 ∧ ((↑x_2 : Int) + (1 : Int) = (↑x' : Int) ∧ True) ∧ True)))))) ∧
                                              ((!decide ((↑x_2 : Int) < (findS (l, s)).snd)) = false →
                                                ((I64 (↑x_2 : Int)) →
                                                ((I64 (1 : Int)) →
                                                (I64 ((↑x_2 : Int) + (1 : Int))) ∧
                                                (∃ (x' : Nat), x' ≤ List.length (nth tObject l x_1).snd.snd.fst ∧ List.length (nth tObject l x_1).snd.snd.fst - x' < List.length (nth tObject l x_1).snd.snd.fst - x_2 ∧ ((↑x_2 : Int) + (1 : Int) = (↑x' : Int) ∧ True) ∧ True)))))))))) ∧
                                        ((decide ((↑x_2 : Int) < (findS (l, s)).snd)) = false →
                                          (((!decide ((↑x_2 : Int) < (findS (l, s)).snd)) = true →
                                            ((((nth tSymbol (nth tObject l (Int.toNat (findS (l, s)).fst)).snd.snd.fst (Int.toNat (findS (l, s)).snd)).snd.snd.fst) = true →
                                              (((!(nth tSymbol (nth tObject l x_1).snd.snd.fst x_2).snd.snd.fst) = true →
                                                (false = true)) ∧
                                              ((!(nth tSymbol (nth tObject l x_1).snd.snd.fst x_2).snd.snd.fst) = false →
                                                ((I64 (↑x_2 : Int)) →
                                                ((I64 (1 : Int)) →
                                                (I64 ((↑x_2 : Int) + (1 : Int))) ∧
                                                (∃ (x' : Nat), x' ≤ List.length (nth tObject l x_1).snd.snd.fst ∧ List.length (nth tObject l x_1).snd.snd.fst - x' < List.length (nth tObject l x_1).snd.snd.fst - x_2 ∧ ((↑x_2 : Int) + (1 : Int) = (↑x' : Int) ∧ True) ∧ True)))))) ∧
                                            (((nth tSymbol (nth tObject l (Int.toNat (findS (l, s)).fst)).snd.snd.fst (Int.toNat (findS (l, s)).snd)).snd.snd.fst) = false →
                                              ((I64 (↑x_2 : Int)) →
                                              ((I64 (1 : Int)) →
                                              (I64 ((↑x_2 : Int) + (1 : Int))) ∧
                                              (∃ (x' : Nat), x' ≤ List.length (nth tObject l x_1).snd.snd.fst ∧ List.length (nth tObject l x_1).snd.snd.fst - x' < List.length (nth tObject l x_1).snd.snd.fst - x_2 ∧ ((↑x_2 : Int) + (1 : Int) = (↑x' : Int) ∧ True) ∧ True)))))) ∧
                                          ((!decide ((↑x_2 : Int) < (findS (l, s)).snd)) = false →
                                            ((I64 (↑x_2 : Int)) →
                                            ((I64 (1 : Int)) →
                                            (I64 ((↑x_2 : Int) + (1 : Int))) ∧
                                            (∃ (x' : Nat), x' ≤ List.length (nth tObject l x_1).snd.snd.fst ∧ List.length (nth tObject l x_1).snd.snd.fst - x' < List.length (nth tObject l x_1).snd.snd.fst - x_2 ∧ ((↑x_2 : Int) + (1 : Int) = (↑x' : Int) ∧ True) ∧ True)))))))) ∧
                                      (((↑x_1 : Int) == (findS (l, s)).fst) = false →
                                        ((((nth tSymbol (nth tObject l (Int.toNat (findS (l, s)).fst)).snd.snd.fst (Int.toNat (findS (l, s)).snd)).snd.snd.fst) = true →
                                          (((!(nth tSymbol (nth tObject l x_1).snd.snd.fst x_2).snd.snd.fst) = true →
                                            (false = true)) ∧
                                          ((!(nth tSymbol (nth tObject l x_1).snd.snd.fst x_2).snd.snd.fst) = false →
                                            ((I64 (↑x_2 : Int)) →
                                            ((I64 (1 : Int)) →
                                            (I64 ((↑x_2 : Int) + (1 : Int))) ∧
                                            (∃ (x' : Nat), x' ≤ List.length (nth tObject l x_1).snd.snd.fst ∧ List.length (nth tObject l x_1).snd.snd.fst - x' < List.length (nth tObject l x_1).snd.snd.fst - x_2 ∧ ((↑x_2 : Int) + (1 : Int) = (↑x' : Int) ∧ True) ∧ True)))))) ∧
                                        (((nth tSymbol (nth tObject l (Int.toNat (findS (l, s)).fst)).snd.snd.fst (Int.toNat (findS (l, s)).snd)).snd.snd.fst) = false →
                                          ((I64 (↑x_2 : Int)) →
                                          ((I64 (1 : Int)) →
                                          (I64 ((↑x_2 : Int) + (1 : Int))) ∧
                                          (∃ (x' : Nat), x' ≤ List.length (nth tObject l x_1).snd.snd.fst ∧ List.length (nth tObject l x_1).snd.snd.fst - x' < List.length (nth tObject l x_1).snd.snd.fst - x_2 ∧ ((↑x_2 : Int) + (1 : Int) = (↑x' : Int) ∧ True) ∧ True)))))))))))))) ∧
                              ((decide ((↑x_2 : Int) < (↑(List.length (nth tObject l x_1).snd.snd.fst) : Int))) = false →
                                ((I64 (↑x_1 : Int)) →
                                ((I64 (1 : Int)) →
                                (I64 ((↑x_1 : Int) + (1 : Int))) ∧
                                (∃ (x' : Nat), x' ≤ List.length l ∧ List.length l - x' < List.length l - x_1 ∧ ((↑x_1 : Int) + (1 : Int) = (↑x' : Int) ∧ True) ∧ True))))))))) ∧
                            ((decide ((↑x_1 : Int) < (↑(List.length l) : Int))) = false →
                              (true = true))))))))) ∧
                        ((decide ((findS (l, s)).fst < (0 : Int))) = false →
                          (∃ (x : Nat), x ≤ List.length l ∧ ((0 : Int) = (↑x : Int) ∧ True) ∧ True) ∧
                          (∀ x_1 : Nat,
                          ((x_1 ≤ List.length l) →
                          ((List.length l ≤ big) →
                          (((decide ((↑x_1 : Int) < (↑(List.length l) : Int))) = true →
                            (∃ (x : Nat), x ≤ List.length (nth tObject l x_1).snd.snd.fst ∧ ((0 : Int) = (↑x : Int) ∧ True) ∧ True) ∧
                            (∀ x_2 : Nat,
                            ((x_2 ≤ List.length (nth tObject l x_1).snd.snd.fst) →
                            ((0 : Int) ≤ (↑x_1 : Int) ∧ (↑x_1 : Int) < (↑(List.length l) : Int)) ∧
                            ((List.length (nth tObject l x_1).snd.snd.fst ≤ big) →
                            (((decide ((↑x_2 : Int) < (↑(List.length (nth tObject l x_1).snd.snd.fst) : Int))) = true →
                              ((0 : Int) ≤ (↑x_1 : Int) ∧ (↑x_1 : Int) < (↑(List.length l) : Int)) ∧
                              ((0 : Int) ≤ (↑x_2 : Int) ∧ (↑x_2 : Int) < (↑(List.length (nth tObject l x_1).snd.snd.fst) : Int)) ∧
                              (((!(nth tSymbol (nth tObject l x_1).snd.snd.fst x_2).fst == s) = true →
                                ((I64 (↑x_2 : Int)) →
                                ((I64 (1 : Int)) →
                                (I64 ((↑x_2 : Int) + (1 : Int))) ∧
                                (∃ (x' : Nat), x' ≤ List.length (nth tObject l x_1).snd.snd.fst ∧ List.length (nth tObject l x_1).snd.snd.fst - x' < List.length (nth tObject l x_1).snd.snd.fst - x_2 ∧ ((↑x_2 : Int) + (1 : Int) = (↑x' : Int) ∧ True) ∧ True)))) ∧
                              ((!(nth tSymbol (nth tObject l x_1).snd.snd.fst x_2).fst == s) = false →
                                (((decide ((findS (l, s)).fst < (0 : Int))) = true →
                                  (false = true)) ∧
                                ((decide ((findS (l, s)).fst < (0 : Int))) = false →
                                  ((0 : Int) ≤ (findS (l, s)).fst ∧ (findS (l, s)).fst < (↑(List.length l) : Int)) ∧
                                  ((0 : Int) ≤ (findS (l, s)).snd ∧ (findS (l, s)).snd < (↑(List.length (nth tObject l (Int.toNat (findS (l, s)).fst)).snd.snd.fst) : Int)) ∧
                                  (((decide ((↑x_1 : Int) < (findS (l, s)).fst)) = true →
                                    (((!(nth tSymbol (nth tObject l x_1).snd.snd.fst x_2).snd.snd.fst) = true →
                                      (false = true)) ∧
                                    ((!(nth tSymbol (nth tObject l x_1).snd.snd.fst x_2).snd.snd.fst) = false →
                                      ((((nth tSymbol (nth tObject l (Int.toNat (findS (l, s)).fst)).snd.snd.fst (Int.toNat (findS (l, s)).snd)).snd.snd.fst) = true →
                                        (false = true)) ∧
                                      (((nth tSymbol (nth tObject l (Int.toNat (findS (l, s)).fst)).snd.snd.fst (Int.toNat (findS (l, s)).snd)).snd.snd.fst) = false →
                                        ((I64 (↑x_2 : Int)) →
                                        ((I64 (1 : Int)) →
                                        (I64 ((↑x_2 : Int) + (1 : Int))) ∧
                                        (∃ (x' : Nat), x' ≤ List.length (nth tObject l x_1).snd.snd.fst ∧ List.length (nth tObject l x_1).snd.snd.fst - x' < List.length (nth tObject l x_1).snd.snd.fst - x_2 ∧ ((↑x_2 : Int) + (1 : Int) = (↑x' : Int) ∧ True) ∧ True)))))))) ∧
                                  ((decide ((↑x_1 : Int) < (findS (l, s)).fst)) = false →
                                    ((((↑x_1 : Int) == (findS (l, s)).fst) = true →
                                      (((decide ((↑x_2 : Int) < (findS (l, s)).snd)) = true →
                                        (((!(nth tSymbol (nth tObject l x_1).snd.snd.fst x_2).snd.snd.fst) = true →
                                          (false = true)) ∧
                                        ((!(nth tSymbol (nth tObject l x_1).snd.snd.fst x_2).snd.snd.fst) = false →
                                          ((((nth tSymbol (nth tObject l (Int.toNat (findS (l, s)).fst)).snd.snd.fst (Int.toNat (findS (l, s)).snd)).snd.snd.fst) = true →
                                            (false = true)) ∧
                                          (((nth tSymbol (nth tObject l (Int.toNat (findS (l, s)).fst)).snd.snd.fst (Int.toNat (findS (l, s)).snd)).snd.snd.fst) = false →
                                            (((!decide ((↑x_2 : Int) < (findS (l, s)).snd)) = true →
                                              ((((nth tSymbol (nth tObject l (Int.toNat (findS (l, s)).fst)).snd.snd.fst (Int.toNat (findS (l, s)).snd)).snd.snd.fst) = true →
                                                (((!(nth tSymbol (nth tObject l x_1).snd.snd.fst x_2).snd.snd.fst) = true →
                                                  (false = true)) ∧
                                                ((!(nth tSymbol (nth tObject l x_1).snd.snd.fst x_2).snd.snd.fst) = false →
                                                  ((I64 (↑x_2 : Int)) →
                                                  ((I64 (1 : Int)) →
                                                  (I64 ((↑x_2 : Int) + (1 : Int))) ∧
                                                  (∃ (x' : Nat), x' ≤ List.length (nth tObject l x_1).snd.snd.fst ∧ List.length (nth tObject l x_1).snd.snd.fst - x' < List.length (nth tObject l x_1).snd.snd.fst - x_2 ∧ ((↑x_2 : Int) + (1 : Int) = (↑x' : Int) ∧ True) ∧ True)))))) ∧
                                              (((nth tSymbol (nth tObject l (Int.toNat (findS (l, s)).fst)).snd.snd.fst (Int.toNat (findS (l, s)).snd)).snd.snd.fst) = false →
                                                ((I64 (↑x_2 : Int)) →
                                                ((I64 (1 : Int)) →
                                                (I64 ((↑x_2 : Int) + (1 : Int))) ∧
                                                (∃ (x' : Nat), x' ≤ List.length (nth tObject l x_1).snd.snd.fst ∧ List.length (nth tObject l x_1).snd.snd.fst - x' < List.length (nth tObject l x_1).snd.snd.fst - x_2 ∧ ((↑x_2 : Int) + (1 : Int) = (↑x' : Int) ∧ True) ∧ True)))))) ∧
                                            ((!decide ((↑x_2 : Int) < (findS (l, s)).snd)) = false →
                                              ((I64 (↑x_2 : Int)) →
                                              ((I64 (1 : Int)) →
                                              (I64 ((↑x_2 : Int) + (1 : Int))) ∧
                                              (∃ (x' : Nat), x' ≤ List.length (nth tObject l x_1).snd.snd.fst ∧ List.length (nth tObject l x_1).snd.snd.fst - x' < List.length (nth tObject l x_1).snd.snd.fst - x_2 ∧ ((↑x_2 : Int) + (1 : Int) = (↑x' : Int) ∧ True) ∧ True)))))))))) ∧
                                      ((decide ((↑x_2 : Int) < (findS (l, s)).snd)) = false →
                                        (((!decide ((↑x_2 : Int) < (findS (l, s)).snd)) = true →
                                          ((((nth tSymbol (nth tObject l (Int.toNat (findS (l, s)).fst)).snd.snd.fst (Int.toNat (findS (l, s)).snd)).snd.snd.fst) = true →
                                            (((!(nth tSymbol (nth tObject l x_1).snd.snd.fst x_2).snd.snd.fst) = true →
                                              (false = true)) ∧
                                            ((!(nth tSymbol (nth tObject l x_1).snd.snd.fst x_2).snd.snd.fst) = false →
                                              ((I64 (↑x_2 : Int)) →
                                              ((I64 (1 : Int)) →
                                              (I64 ((↑x_2 : Int) + (1 : Int))) ∧
                                              (∃ (x' : Nat), x' ≤ List.length (nth tObject l x_1).snd.snd.fst ∧ List.length (nth tObject l x_1).snd.snd.fst - x' < List.length (nth tObject l x_1).snd.snd.fst - x_2 ∧ ((↑x_2 : Int) + (1 : Int) = (↑x' : Int) ∧ True) ∧ True)))))) ∧
                                          (((nth tSymbol (nth tObject l (Int.toNat (findS (l, s)).fst)).snd.snd.fst (Int.toNat (findS (l, s)).snd)).snd.snd.fst) = false →
                                            ((I64 (↑x_2 : Int)) →
                                            ((I64 (1 : Int)) →
                                            (I64 ((↑x_2 : Int) + (1 : Int))) ∧
                                            (∃ (x' : Nat), x' ≤ List.length (nth tObject l x_1).snd.snd.fst ∧ List.length (nth tObject l x_1).snd.snd.fst - x' < List.length (nth tObject l x_1).snd.snd.fst - x_2 ∧ ((↑x_2 : Int) + (1 : Int) = (↑x' : Int) ∧ True) ∧ True)))))) ∧
                                        ((!decide ((↑x_2 : Int) < (findS (l, s)).snd)) = false →
                                          ((I64 (↑x_2 : Int)) →
                                          ((I64 (1 : Int)) →
                                          (I64 ((↑x_2 : Int) + (1 : Int))) ∧
                                          (∃ (x' : Nat), x' ≤ List.length (nth tObject l x_1).snd.snd.fst ∧ List.length (nth tObject l x_1).snd.snd.fst - x' < List.length (nth tObject l x_1).snd.snd.fst - x_2 ∧ ((↑x_2 : Int) + (1 : Int) = (↑x' : Int) ∧ True) ∧ True)))))))) ∧
                                    (((↑x_1 : Int) == (findS (l, s)).fst) = false →
                                      ((((nth tSymbol (nth tObject l (Int.toNat (findS (l, s)).fst)).snd.snd.fst (Int.toNat (findS (l, s)).snd)).snd.snd.fst) = true →
                                        (((!(nth tSymbol (nth tObject l x_1).snd.snd.fst x_2).snd.snd.fst) = true →
                                          (false = true)) ∧
                                        ((!(nth tSymbol (nth tObject l x_1).snd.snd.fst x_2).snd.snd.fst) = false →
                                          ((I64 (↑x_2 : Int)) →
                                          ((I64 (1 : Int)) →
                                          (I64 ((↑x_2 : Int) + (1 : Int))) ∧
                                          (∃ (x' : Nat), x' ≤ List.length (nth tObject l x_1).snd.snd.fst ∧ List.length (nth tObject l x_1).snd.snd.fst - x' < List.length (nth tObject l x_1).snd.snd.fst - x_2 ∧ ((↑x_2 : Int) + (1 : Int) = (↑x' : Int) ∧ True) ∧ True)))))) ∧
                                      (((nth tSymbol (nth tObject l (Int.toNat (findS (l, s)).fst)).snd.snd.fst (Int.toNat (findS (l, s)).snd)).snd.snd.fst) = false →
                                        ((I64 (↑x_2 : Int)) →
                                        ((I64 (1 : Int)) →
                                        (I64 ((↑x_2 : Int) + (1 : Int))) ∧
                                        (∃ (x' : Nat), x' ≤ List.length (nth tObject l x_1).snd.snd.fst ∧ List.length (nth tObject l x_1).snd.snd.fst - x' < List.length (nth tObject l x_1).snd.snd.fst - x_2 ∧ ((↑x_2 : Int) + (1 : Int) = (↑x' : Int) ∧ True) ∧ True)))))))))))))) ∧
                            ((decide ((↑x_2 : Int) < (↑(List.length (nth tObject l x_1).snd.snd.fst) : Int))) = false →
                              ((I64 (↑x_1 : Int)) →
                              ((I64 (1 : Int)) →
                              (I64 ((↑x_1 : Int) + (1 : Int))) ∧
                              (∃ (x' : Nat), x' ≤ List.length l ∧ List.length l - x' < List.length l - x_1 ∧ ((↑x_1 : Int) + (1 : Int) = (↑x' : Int) ∧ True) ∧ True))))))))) ∧
                          ((decide ((↑x_1 : Int) < (↑(List.length l) : Int))) = false →
                            (true = true)))))))))))))))) ∧
                ((decide ((findS (l, s)).fst ≥ (0 : Int))) = false →
                  (((decide ((findS (l, s)).fst < (0 : Int))) = true →
                    (((decide ((findS (l, s)).snd ≥ (0 : Int))) = true →
                      (false = true)) ∧
                    ((decide ((findS (l, s)).snd ≥ (0 : Int))) = false →
                      (∃ (x : Nat), x ≤ List.length l ∧ ((0 : Int) = (↑x : Int) ∧ True) ∧ True) ∧
                      (∀ x_1 : Nat,
                      ((x_1 ≤ List.length l) →
                      ((List.length l ≤ big) →
                      (((decide ((↑x_1 : Int) < (↑(List.length l) : Int))) = true →
                        (∃ (x : Nat), x ≤ List.length (nth tObject l x_1).snd.snd.fst ∧ ((0 : Int) = (↑x : Int) ∧ True) ∧ True) ∧
                        (∀ x_2 : Nat,
                        ((x_2 ≤ List.length (nth tObject l x_1).snd.snd.fst) →
                        ((0 : Int) ≤ (↑x_1 : Int) ∧ (↑x_1 : Int) < (↑(List.length l) : Int)) ∧
                        ((List.length (nth tObject l x_1).snd.snd.fst ≤ big) →
                        (((decide ((↑x_2 : Int) < (↑(List.length (nth tObject l x_1).snd.snd.fst) : Int))) = true →
                          ((0 : Int) ≤ (↑x_1 : Int) ∧ (↑x_1 : Int) < (↑(List.length l) : Int)) ∧
                          ((0 : Int) ≤ (↑x_2 : Int) ∧ (↑x_2 : Int) < (↑(List.length (nth tObject l x_1).snd.snd.fst) : Int)) ∧
                          (((!(nth tSymbol (nth tObject l x_1).snd.snd.fst x_2).fst == s) = true →
                            ((I64 (↑x_2 : Int)) →
                            ((I64 (1 : Int)) →
                            (I64 ((↑x_2 : Int) + (1 : Int))) ∧
                            (∃ (x' : Nat), x' ≤ List.length (nth tObject l x_1).snd.snd.fst ∧ List.length (nth tObject l x_1).snd.snd.fst - x' < List.length (nth tObject l x_1).snd.snd.fst - x_2 ∧ ((↑x_2 : Int) + (1 : Int) = (↑x' : Int) ∧ True) ∧ True)))) ∧
                          ((!(nth tSymbol (nth tObject l x_1).snd.snd.fst x_2).fst == s) = false →
                            (((decide ((findS (l, s)).fst < (0 : Int))) = true →
                              (false = true)) ∧
                            ((decide ((findS (l, s)).fst < (0 : Int))) = false →
                              ((0 : Int) ≤ (findS (l, s)).fst ∧ (findS (l, s)).fst < (↑(List.length l) : Int)) ∧
                              ((0 : Int) ≤ (findS (l, s)).snd ∧ (findS (l, s)).snd < (↑(List.length (nth tObject l (Int.toNat (findS (l, s)).fst)).snd.snd.fst) : Int)) ∧
                              (((decide ((↑x_1 : Int) < (findS (l, s)).fst)) = true →
                                (((!(nth tSymbol (nth tObject l x_1).snd.snd.fst x_2).snd.snd.fst) = true →
                                  (false = true)) ∧
                                ((!(nth tSymbol (nth tObject l x_1).snd.snd.fst x_2).snd.snd.fst) = false →
                                  ((((nth tSymbol (nth tObject l (Int.toNat (findS (l, s)).fst)).snd.snd.fst (Int.toNat (findS (l, s)).snd)).snd.snd.fst) = true →
                                    (false = true)) ∧
                                  (((nth tSymbol (nth tObject l (Int.toNat (findS (l, s)).fst)).snd.snd.fst (Int.toNat (findS (l, s)).snd)).snd.snd.fst) = false →
                                    ((I64 (↑x_2 : Int)) →
                                    ((I64 (1 : Int)) →
                                    (I64 ((↑x_2 : Int) + (1 : Int))) ∧
                                    (∃ (x' : Nat), x' ≤ List.length (nth tObject l x_1).snd.snd.fst ∧ List.length (nth tObject l x_1).snd.snd.fst - x' < List.length (nth tObject l x_1).snd.snd.fst - x_2 ∧ ((↑x_2 : Int) + (1 : Int) = (↑x' : Int) ∧ True) ∧ True)))))))) ∧
                              ((decide ((↑x_1 : Int) < (findS (l, s)).fst)) = false →
                                ((((↑x_1 : Int) == (findS (l, s)).fst) = true →
                                  (((decide ((↑x_2 : Int) < (findS (l, s)).snd)) = true →
                                    (((!(nth tSymbol (nth tObject l x_1).snd.snd.fst x_2).snd.snd.fst) = true →
                                      (false = true)) ∧
                                    ((!(nth tSymbol (nth tObject l x_1).snd.snd.fst x_2).snd.snd.fst) = false →
                                      ((((nth tSymbol (nth tObject l (Int.toNat (findS (l, s)).fst)).snd.snd.fst (Int.toNat (findS (l, s)).snd)).snd.snd.fst) = true →
                                        (false = true)) ∧
                                      (((nth tSymbol (nth tObject l (Int.toNat (findS (l, s)).fst)).snd.snd.fst (Int.toNat (findS (l, s)).snd)).snd.snd.fst) = false →
                                        (((!decide ((↑x_2 : Int) < (findS (l, s)).snd)) = true →
                                          ((((nth tSymbol (nth tObject l (Int.toNat (findS (l, s)).fst)).snd.snd.fst (Int.toNat (findS (l, s)).snd)).snd.snd.fst) = true →
                                            (((!(nth tSymbol (nth tObject l x_1).snd.snd.fst x_2).snd.snd.fst) = true →
                                              (false = true)) ∧
                                            ((!(nth tSymbol (nth tObject l x_1).snd.snd.fst x_2).snd.snd.fst) = false →
                                              ((I64 (↑x_2 : Int)) →
                                              ((I64 (1 : Int)) →
                                              (I64 ((↑x_2 : Int) + (1 : Int))) ∧
                                              (∃ (x' : Nat), x' ≤ List.length (nth tObject l x_1).snd.snd.fst ∧ List.length (nth tObject l x_1).snd.snd.fst - x' < List.length (nth tObject l x_1).snd.snd.fst - x_2 ∧ ((↑x_2 : Int) + (1 : Int) = (↑x' : Int) ∧ True) ∧ True)))))) ∧
                                          (((nth tSymbol (nth tObject l (Int.toNat (findS (l, s)).fst)).snd.snd.fst (Int.toNat (findS (l, s)).snd)).snd.snd.fst) = false →
                                            ((I64 (↑x_2 : Int)) →
                                            ((I64 (1 : Int)) →
                                            (I64 ((↑x_2 : Int) + (1 : Int))) ∧
                                            (∃ (x' : Nat), x' ≤ List.length (nth tObject l x_1).snd.snd.fst ∧ List.length (nth tObject l x_1).snd.snd.fst - x' < List.length (nth tObject l x_1).snd.snd.fst - x_2 ∧ ((↑x_2 : Int) + (1 : Int) = (↑x' : Int) ∧ True) ∧ True)))))) ∧
                                        ((!decide ((↑x_2 : Int) < (findS (l, s)).snd)) = false →
                                          ((I64 (↑x_2 : Int)) →
                                          ((I64 (1 : Int)) →
                                          (I64 ((↑x_2 : Int) + (1 : Int))) ∧
                                          (∃ (x' : Nat), x' ≤ List.length (nth tObject l x_1).snd.snd.fst ∧ List.length (nth tObject l x_1).snd.snd.fst - x' < List.length (nth tObject l x_1).snd.snd.fst - x_2 ∧ ((↑x_2 : Int) + (1 : Int) = (↑x' : Int) ∧ True) ∧ True)))))))))) ∧
                                  ((decide ((↑x_2 : Int) < (findS (l, s)).snd)) = false →
                                    (((!decide ((↑x_2 : Int) < (findS (l, s)).snd)) = true →
                                      ((((nth tSymbol (nth tObject l (Int.toNat (findS (l, s)).fst)).snd.snd.fst (Int.toNat (findS (l, s)).snd)).snd.snd.fst) = true →
                                        (((!(nth tSymbol (nth tObject l x_1).snd.snd.fst x_2).snd.snd.fst) = true →
                                          (false = true)) ∧
                                        ((!(nth tSymbol (nth tObject l x_1).snd.snd.fst x_2).snd.snd.fst) = false →
                                          ((I64 (↑x_2 : Int)) →
                                          ((I64 (1 : Int)) →
                                          (I64 ((↑x_2 : Int) + (1 : Int))) ∧
                                          (∃ (x' : Nat), x' ≤ List.length (nth tObject l x_1).snd.snd.fst ∧ List.length (nth tObject l x_1).snd.snd.fst - x' < List.length (nth tObject l x_1).snd.snd.fst - x_2 ∧ ((↑x_2 : Int) + (1 : Int) = (↑x' : Int) ∧ True) ∧ True)))))) ∧
                                      (((nth tSymbol (nth tObject l (Int.toNat (findS (l, s)).fst)).snd.snd.fst (Int.toNat (findS (l, s)).snd)).snd.snd.fst) = false →
                                        ((I64 (↑x_2 : Int)) →
                                        ((I64 (1 : Int)) →
                                        (I64 ((↑x_2 : Int) + (1 : Int))) ∧
                                        (∃ (x' : Nat), x' ≤ List.length (nth tObject l x_1).snd.snd.fst ∧ List.length (nth tObject l x_1).snd.snd.fst - x' < List.length (nth tObject l x_1).snd.snd.fst - x_2 ∧ ((↑x_2 : Int) + (1 : Int) = (↑x' : Int) ∧ True) ∧ True)))))) ∧
                                    ((!decide ((↑x_2 : Int) < (findS (l, s)).snd)) = false →
                                      ((I64 (↑x_2 : Int)) →
                                      ((I64 (1 : Int)) →
                                      (I64 ((↑x_2 : Int) + (1 : Int))) ∧
                                      (∃ (x' : Nat), x' ≤ List.length (nth tObject l x_1).snd.snd.fst ∧ List.length (nth tObject l x_1).snd.snd.fst - x' < List.length (nth tObject l x_1).snd.snd.fst - x_2 ∧ ((↑x_2 : Int) + (1 : Int) = (↑x' : Int) ∧ True) ∧ True)))))))) ∧
                                (((↑x_1 : Int) == (findS (l, s)).fst) = false →
                                  ((((nth tSymbol (nth tObject l (Int.toNat (findS (l, s)).fst)).snd.snd.fst (Int.toNat (findS (l, s)).snd)).snd.snd.fst) = true →
                                    (((!(nth tSymbol (nth tObject l x_1).snd.snd.fst x_2).snd.snd.fst) = true →
                                      (false = true)) ∧
                                    ((!(nth tSymbol (nth tObject l x_1).snd.snd.fst x_2).snd.snd.fst) = false →
                                      ((I64 (↑x_2 : Int)) →
                                      ((I64 (1 : Int)) →
                                      (I64 ((↑x_2 : Int) + (1 : Int))) ∧
                                      (∃ (x' : Nat), x' ≤ List.length (nth tObject l x_1).snd.snd.fst ∧ List.length (nth tObject l x_1).snd.snd.fst - x' < List.length (nth tObject l x_1).snd.snd.fst - x_2 ∧ ((↑x_2 : Int) + (1 : Int) = (↑x' : Int) ∧ True) ∧ True)))))) ∧
                                  (((nth tSymbol (nth tObject l (Int.toNat (findS (l, s)).fst)).snd.snd.fst (Int.toNat (findS (l, s)).snd)).snd.snd.fst) = false →
                                    ((I64 (↑x_2 : Int)) →
                                    ((I64 (1 : Int)) →
                                    (I64 ((↑x_2 : Int) + (1 : Int))) ∧
                                    (∃ (x' : Nat), x' ≤ List.length (nth tObject l x_1).snd.snd.fst ∧ List.length (nth tObject l x_1).snd.snd.fst - x' < List.length (nth tObject l x_1).snd.snd.fst - x_2 ∧ ((↑x_2 : Int) + (1 : Int) = (↑x' : Int) ∧ True) ∧ True)))))))))))))) ∧
                        ((decide ((↑x_2 : Int) < (↑(List.length (nth tObject l x_1).snd.snd.fst) : Int))) = false →
                          ((I64 (↑x_1 : Int)) →
                          ((I64 (1 : Int)) →
                          (I64 ((↑x_1 : Int) + (1 : Int))) ∧
                          (∃ (x' : Nat), x' ≤ List.length l ∧ List.length l - x' < List.length l - x_1 ∧ ((↑x_1 : Int) + (1 : Int) = (↑x' : Int) ∧ True) ∧ True))))))))) ∧
                      ((decide ((↑x_1 : Int) < (↑(List.length l) : Int))) = false →
                        (true = true))))))))) ∧
                  ((decide ((findS (l, s)).fst < (0 : Int))) = false →
                    (∃ (x : Nat), x ≤ List.length l ∧ ((0 : Int) = (↑x : Int) ∧ True) ∧ True) ∧
                    (∀ x_1 : Nat,
                    ((x_1 ≤ List.length l) →
                    ((List.length l ≤ big) →
                    (((decide ((↑x_1 : Int) < (↑(List.length l) : Int))) = true →
                      (∃ (x : Nat), x ≤ List.length (nth tObject l x_1).snd.snd.fst ∧ ((0 : Int) = (↑x : Int) ∧ True) ∧ True) ∧
                      (∀ x_2 : Nat,
                      ((x_2 ≤ List.length (nth tObject l x_1).snd.snd.fst) →
                      ((0 : Int) ≤ (↑x_1 : Int) ∧ (↑x_1 : Int) < (↑(List.length l) : Int)) ∧
                      ((List.length (nth tObject l x_1).snd.snd.fst ≤ big) →
                      (((decide ((↑x_2 : Int) < (↑(List.length (nth tObject l x_1).snd.snd.fst) : Int))) = true →
                        ((0 : Int) ≤ (↑x_1 : Int) ∧ (↑x_1 : Int) < (↑(List.length l) : Int)) ∧
                        ((0 : Int) ≤ (↑x_2 : Int) ∧ (↑x_2 : Int) < (↑(List.length (nth tObject l x_1).snd.snd.fst) : Int)) ∧
                        (((!(nth tSymbol (nth tObject l x_1).snd.snd.fst x_2).fst == s) = true →
                          ((I64 (↑x_2 : Int)) →
                          ((I64 (1 : Int)) →
                          (I64 ((↑x_2 : Int) + (1 : Int))) ∧
                          (∃ (x' : Nat), x' ≤ List.length (nth tObject l x_1).snd.snd.fst ∧ List.length (nth tObject l x_1).snd.snd.fst - x' < List.length (nth tObject l x_1).snd.snd.fst - x_2 ∧ ((↑x_2 : Int) + (1 : Int) = (↑x' : Int) ∧ True) ∧ True)))) ∧
                        ((!(nth tSymbol (nth tObject l x_1).snd.snd.fst x_2).fst == s) = false →
                          (((decide ((findS (l, s)).fst < (0 : Int))) = true →
                            (false = true)) ∧
                          ((decide ((findS (l, s)).fst < (0 : Int))) = false →
                            ((0 : Int) ≤ (findS (l, s)).fst ∧ (findS (l, s)).fst < (↑(List.length l) : Int)) ∧
                            ((0 : Int) ≤ (findS (l, s)).snd ∧ (findS (l, s)).snd < (↑(List.length (nth tObject l (Int.toNat (findS (l, s)).fst)).snd.snd.fst) : Int)) ∧
                            (((decide ((↑x_1 : Int) < (findS (l, s)).fst)) = true →
                              (((!(nth tSymbol (nth tObject l x_1).snd.snd.fst x_2).snd.snd.fst) = true →
                                (false = true)) ∧
                              ((!(nth tSymbol (nth tObject l x_1).snd.snd.fst x_2).snd.snd.fst) = false →
                                ((((nth tSymbol (nth tObject l (Int.toNat (findS (l, s)).fst)).snd.snd.fst (Int.toNat (findS (l, s)).snd)).snd.snd.fst) = true →
                                  (false = true)) ∧
                                (((nth tSymbol (nth tObject l (Int.toNat (findS (l, s)).fst)).snd.snd.fst (Int.toNat (findS (l, s)).snd)).snd.snd.fst) = false →
                                  ((I64 (↑x_2 : Int)) →
                                  ((I64 (1 : Int)) →
                                  (I64 ((↑x_2 : Int) + (1 : Int))) ∧
                                  (∃ (x' : Nat), x' ≤ List.length (nth tObject l x_1).snd.snd.fst ∧ List.length (nth tObject l x_1).snd.snd.fst - x' < List.length (nth tObject l x_1).snd.snd.fst - x_2 ∧ ((↑x_2 : Int) + (1 : Int) = (↑x' : Int) ∧ True) ∧ True)))))))) ∧
                            ((decide ((↑x_1 : Int) < (findS (l, s)).fst)) = false →
                              ((((↑x_1 : Int) == (findS (l, s)).fst) = true →
                                (((decide ((↑x_2 : Int) < (findS (l, s)).snd)) = true →
                                  (((!(nth tSymbol (nth tObject l x_1).snd.snd.fst x_2).snd.snd.fst) = true →
                                    (false = true)) ∧
                                  ((!(nth tSymbol (nth tObject l x_1).snd.snd.fst x_2).snd.snd.fst) = false →
                                    ((((nth tSymbol (nth tObject l (Int.toNat (findS (l, s)).fst)).snd.snd.fst (Int.toNat (findS (l, s)).snd)).snd.snd.fst) = true →
                                      (false = true)) ∧
                                    (((nth tSymbol (nth tObject l (Int.toNat (findS (l, s)).fst)).snd.snd.fst (Int.toNat (findS (l, s)).snd)).snd.snd.fst) = false →
                                      (((!decide ((↑x_2 : Int) < (findS (l, s)).snd)) = true →
                                        ((((nth tSymbol (nth tObject l (Int.toNat (findS (l, s)).fst)).snd.snd.fst (Int.toNat (findS (l, s)).snd)).snd.snd.fst) = true →
                                          (((!(nth tSymbol (nth tObject l x_1).snd.snd.fst x_2).snd.snd.fst) = true →
                                            (false = true)) ∧
                                          ((!(nth tSymbol (nth tObject l x_1).snd.snd.fst x_2).snd.snd.fst) = false →
                                            ((I64 (↑x_2 : Int)) →
                                            ((I64 (1 : Int)) →
                                            (I64 ((↑x_2 : Int) + (1 : Int))) ∧
                                            (∃ (x' : Nat), x' ≤ List.length (nth tObject l x_1).snd.snd.fst ∧ List.length (nth tObject l x_1).snd.snd.fst - x' < List.length (nth tObject l x_1).snd.snd.fst - x_2 ∧ ((↑x_2 : Int) + (1 : Int) = (↑x' : Int) ∧ True) ∧ True)))))) ∧
                                        (((nth tSymbol (nth tObject l (Int.toNat (findS (l, s)).fst)).snd.snd.fst (Int.toNat (findS (l, s)).snd)).snd.snd.fst) = false →
                                          ((I64 (↑x_2 : Int)) →
                                          ((I64 (1 : Int)) →
                                          (I64 ((↑x_2 : Int) + (1 : Int))) ∧
                                          (∃ (x' : Nat), x' ≤ List.length (nth tObject l x_1).snd.snd.fst ∧ List.length (nth tObject l x_1).snd.snd.fst - x' < List.length (nth tObject l x_1).snd.snd.fst - x_2 ∧ ((↑x_2 : Int) + (1 : Int) = (↑x' : Int) ∧ True) ∧ True)))))) ∧
                                      ((!decide ((↑x_2 : Int) < (findS (l, s)).snd)) = false →
                                        ((I64 (↑x_2 : Int)) →
                                        ((I64 (1 : Int)) →
                                        (I64 ((↑x_2 : Int) + (1 : Int))) ∧
                                        (∃ (x' : Nat), x' ≤ List.length (nth tObject l x_1).snd.snd.fst ∧ List.length (nth tObject l x_1).snd.snd.fst - x' < List.length (nth tObject l x_1).snd.snd.fst - x_2 ∧ ((↑x_2 : Int) + (1 : Int) = (↑x' : Int) ∧ True) ∧ True)))))))))) ∧
                                ((decide ((↑x_2 : Int) < (findS (l, s)).snd)) = false →
                                  (((!decide ((↑x_2 : Int) < (findS (l, s)).snd)) = true →
                                    ((((nth tSymbol (nth tObject l (Int.toNat (findS (l, s)).fst)).snd.snd.fst (Int.toNat (findS (l, s)).snd)).snd.snd.fst) = true →
                                      (((!(nth tSymbol (nth tObject l x_1).snd.snd.fst x_2).snd.snd.fst) = true →
                                        (false = true)) ∧
                                      ((!(nth tSymbol (nth tObject l x_1).snd.snd.fst x_2).snd.snd.fst) = false →
                                        ((I64 (↑x_2 : Int)) →
                                        ((I64 (1 : Int)) →
                                        (I64 ((↑x_2 : Int) + (1 : Int))) ∧
                                        (∃ (x' : Nat), x' ≤ List.length (nth tObject l x_1).snd.snd.fst ∧ List.length (nth tObject l x_1).snd.snd.fst - x' < List.length (nth tObject l x_1).snd.snd.fst - x_2 ∧ ((↑x_2 : Int) + (1 : Int) = (↑x' : Int) ∧ True) ∧ True)))))) ∧
                                    (((nth tSymbol (nth tObject l (Int.toNat (findS (l, s)).fst)).snd.snd.fst (Int.toNat (findS (l, s)).snd)).snd.snd.fst) = false →
                                      ((I64 (↑x_2 : Int)) →
                                      ((I64 (1 : Int)) →
                                      (I64 ((↑x_2 : Int) + (1 : Int))) ∧
                                      (∃ (x' : Nat), x' ≤ List.length (nth tObject l x_1).snd.snd.fst ∧ List.length (nth tObject l x_1).snd.snd.fst - x' < List.length (nth tObject l x_1).snd.snd.fst - x_2 ∧ ((↑x_2 : Int) + (1 : Int) = (↑x' : Int) ∧ True) ∧ True)))))) ∧
                                  ((!decide ((↑x_2 : Int) < (findS (l, s)).snd)) = false →
                                    ((I64 (↑x_2 : Int)) →
                                    ((I64 (1 : Int)) →
                                    (I64 ((↑x_2 : Int) + (1 : Int))) ∧
                                    (∃ (x' : Nat), x' ≤ List.length (nth tObject l x_1).snd.snd.fst ∧ List.length (nth tObject l x_1).snd.snd.fst - x' < List.length (nth tObject l x_1).snd.snd.fst - x_2 ∧ ((↑x_2 : Int) + (1 : Int) = (↑x' : Int) ∧ True) ∧ True)))))))) ∧
                              (((↑x_1 : Int) == (findS (l, s)).fst) = false →
                                ((((nth tSymbol (nth tObject l (Int.toNat (findS (l, s)).fst)).snd.snd.fst (Int.toNat (findS (l, s)).snd)).snd.snd.fst) = true →
                                  (((!(nth tSymbol (nth tObject l x_1).snd.snd.fst x_2).snd.snd.fst) = true →
                                    (false = true)) ∧
                                  ((!(nth tSymbol (nth tObject l x_1).snd.snd.fst x_2).snd.snd.fst) = false →
                                    ((I64 (↑x_2 : Int)) →
                                    ((I64 (1 : Int)) →
                                    (I64 ((↑x_2 : Int) + (1 : Int))) ∧
                                    (∃ (x' : Nat), x' ≤ List.length (nth tObject l x_1).snd.snd.fst ∧ List.length (nth tObject l x_1).snd.snd.fst - x' < List.length (nth tObject l x_1).snd.snd.fst - x_2 ∧ ((↑x_2 : Int) + (1 : Int) = (↑x' : Int) ∧ True) ∧ True)))))) ∧
                                (((nth tSymbol (nth tObject l (Int.toNat (findS (l, s)).fst)).snd.snd.fst (Int.toNat (findS (l, s)).snd)).snd.snd.fst) = false →
                                  ((I64 (↑x_2 : Int)) →
                                  ((I64 (1 : Int)) →
                                  (I64 ((↑x_2 : Int) + (1 : Int))) ∧
                                  (∃ (x' : Nat), x' ≤ List.length (nth tObject l x_1).snd.snd.fst ∧ List.length (nth tObject l x_1).snd.snd.fst - x' < List.length (nth tObject l x_1).snd.snd.fst - x_2 ∧ ((↑x_2 : Int) + (1 : Int) = (↑x' : Int) ∧ True) ∧ True)))))))))))))) ∧
                      ((decide ((↑x_2 : Int) < (↑(List.length (nth tObject l x_1).snd.snd.fst) : Int))) = false →
                        ((I64 (↑x_1 : Int)) →
                        ((I64 (1 : Int)) →
                        (I64 ((↑x_1 : Int) + (1 : Int))) ∧
                        (∃ (x' : Nat), x' ≤ List.length l ∧ List.length l - x' < List.length l - x_1 ∧ ((↑x_1 : Int) + (1 : Int) = (↑x' : Int) ∧ True) ∧ True))))))))) ∧
                    ((decide ((↑x_1 : Int) < (↑(List.length l) : Int))) = false →
                      (true = true))))))))))))))))))))))))) (by kernel_rfl) ?_
  refine ⟨?_, ?_⟩
  · first | exact True.intro | rfl | omega | assumption | (dsimp only [D] at *; omega) | (simp only [I64, big] at *; omega) | (simp_all; done)
  refine ⟨fun h0 => ?_, fun h0 => ?_⟩
  · try simp only [decide_eq_true_eq, decide_eq_false_iff_not, beq_iff_eq, beq_eq_false_iff_ne, bne_iff_ne, bne_eq_false_iff_eq, Bool.not_eq_true', Bool.not_eq_false', Bool.not_eq_true, Bool.not_eq_false, ne_eq, Bool.and_eq_true, Bool.or_eq_true, Bool.and_eq_false_iff, Bool.or_eq_false_iff, reduceCtorEq, Int.not_lt, Int.not_le] at h0
    exact absurd (congrArg Prod.fst two_x) (by simpa using h0)
  · try simp only [decide_eq_true_eq, decide_eq_false_iff_not, beq_iff_eq, beq_eq_false_iff_ne, bne_iff_ne, bne_eq_false_iff_eq, Bool.not_eq_true', Bool.not_eq_false', Bool.not_eq_true, Bool.not_eq_false, ne_eq, Bool.and_eq_true, Bool.or_eq_true, Bool.and_eq_false_iff, Bool.or_eq_false_iff, reduceCtorEq, Int.not_lt, Int.not_le] at h0
    refine ⟨fun h1 => ?_, fun h1 => ?_⟩
    · try simp only [decide_eq_true_eq, decide_eq_false_iff_not, beq_iff_eq, beq_eq_false_iff_ne, bne_iff_ne, bne_eq_false_iff_eq, Bool.not_eq_true', Bool.not_eq_false', Bool.not_eq_true, Bool.not_eq_false, ne_eq, Bool.and_eq_true, Bool.or_eq_true, Bool.and_eq_false_iff, Bool.or_eq_false_iff, reduceCtorEq, Int.not_lt, Int.not_le] at h1
      exact absurd (congrArg Prod.snd two_x) (by simpa using h1)
    · try simp only [decide_eq_true_eq, decide_eq_false_iff_not, beq_iff_eq, beq_eq_false_iff_ne, bne_iff_ne, bne_eq_false_iff_eq, Bool.not_eq_true', Bool.not_eq_false', Bool.not_eq_true, Bool.not_eq_false, ne_eq, Bool.and_eq_true, Bool.or_eq_true, Bool.and_eq_false_iff, Bool.or_eq_false_iff, reduceCtorEq, Int.not_lt, Int.not_le] at h1
      refine ⟨?_, ?_⟩
      · first | exact True.intro | rfl | omega | assumption | (dsimp only [D] at *; omega) | (simp only [I64, big] at *; omega) | (simp_all; done)
      intro x_0 q_0
      refine ⟨fun h2 => ?_, fun h2 => ?_⟩
      · try simp only [decide_eq_true_eq, decide_eq_false_iff_not, beq_iff_eq, beq_eq_false_iff_ne, bne_iff_ne, bne_eq_false_iff_eq, Bool.not_eq_true', Bool.not_eq_false', Bool.not_eq_true, Bool.not_eq_false, ne_eq, Bool.and_eq_true, Bool.or_eq_true, Bool.and_eq_false_iff, Bool.or_eq_false_iff, reduceCtorEq, Int.not_lt, Int.not_le] at h2
        first | exact True.intro | rfl | omega | assumption | (dsimp only [D] at *; omega) | (simp only [I64, big] at *; omega) | (simp_all; done)
      · try simp only [decide_eq_true_eq, decide_eq_false_iff_not, beq_iff_eq, beq_eq_false_iff_ne, bne_iff_ne, bne_eq_false_iff_eq, Bool.not_eq_true', Bool.not_eq_false', Bool.not_eq_true, Bool.not_eq_false, ne_eq, Bool.and_eq_true, Bool.or_eq_true, Bool.and_eq_false_iff, Bool.or_eq_false_iff, reduceCtorEq, Int.not_lt, Int.not_le] at h2
        intro h3
        refine ⟨fun h4 => ?_, fun h4 => ?_⟩
        · try simp only [decide_eq_true_eq, decide_eq_false_iff_not, beq_iff_eq, beq_eq_false_iff_ne, bne_iff_ne, bne_eq_false_iff_eq, Bool.not_eq_true', Bool.not_eq_false', Bool.not_eq_true, Bool.not_eq_false, ne_eq, Bool.and_eq_true, Bool.or_eq_true, Bool.and_eq_false_iff, Bool.or_eq_false_iff, reduceCtorEq, Int.not_lt, Int.not_le] at h4
          first | exact True.intro | rfl | omega | assumption | (dsimp only [D] at *; omega) | (simp only [I64, big] at *; omega) | (simp_all; done)
        · try simp only [decide_eq_true_eq, decide_eq_false_iff_not, beq_iff_eq, beq_eq_false_iff_ne, bne_iff_ne, bne_eq_false_iff_eq, Bool.not_eq_true', Bool.not_eq_false', Bool.not_eq_true, Bool.not_eq_false, ne_eq, Bool.and_eq_true, Bool.or_eq_true, Bool.and_eq_false_iff, Bool.or_eq_false_iff, reduceCtorEq, Int.not_lt, Int.not_le] at h4
          refine ⟨?_, ?_⟩
          · first | exact True.intro | rfl | omega | assumption | (dsimp only [D] at *; omega) | (simp only [I64, big] at *; omega) | (simp_all; done)
          intro h5
          refine ⟨fun h6 => ?_, fun h6 => ?_⟩
          · try simp only [decide_eq_true_eq, decide_eq_false_iff_not, beq_iff_eq, beq_eq_false_iff_ne, bne_iff_ne, bne_eq_false_iff_eq, Bool.not_eq_true', Bool.not_eq_false', Bool.not_eq_true, Bool.not_eq_false, ne_eq, Bool.and_eq_true, Bool.or_eq_true, Bool.and_eq_false_iff, Bool.or_eq_false_iff, reduceCtorEq, Int.not_lt, Int.not_le] at h6
            have := find_out (l := l) (s := s); have := find_in (l := l) (s := s); omega
          · try simp only [decide_eq_true_eq, decide_eq_false_iff_not, beq_iff_eq, beq_eq_false_iff_ne, bne_iff_ne, bne_eq_false_iff_eq, Bool.not_eq_true', Bool.not_eq_false', Bool.not_eq_true, Bool.not_eq_false, ne_eq, Bool.and_eq_true, Bool.or_eq_true, Bool.and_eq_false_iff, Bool.or_eq_false_iff, reduceCtorEq, Int.not_lt, Int.not_le] at h6
            refine ⟨fun h7 => ?_, fun h7 => ?_⟩
            · try simp only [decide_eq_true_eq, decide_eq_false_iff_not, beq_iff_eq, beq_eq_false_iff_ne, bne_iff_ne, bne_eq_false_iff_eq, Bool.not_eq_true', Bool.not_eq_false', Bool.not_eq_true, Bool.not_eq_false, ne_eq, Bool.and_eq_true, Bool.or_eq_true, Bool.and_eq_false_iff, Bool.or_eq_false_iff, reduceCtorEq, Int.not_lt, Int.not_le] at h7
              refine ⟨fun h8 => ?_, fun h8 => ?_⟩
              · try simp only [decide_eq_true_eq, decide_eq_false_iff_not, beq_iff_eq, beq_eq_false_iff_ne, bne_iff_ne, bne_eq_false_iff_eq, Bool.not_eq_true', Bool.not_eq_false', Bool.not_eq_true, Bool.not_eq_false, ne_eq, Bool.and_eq_true, Bool.or_eq_true, Bool.and_eq_false_iff, Bool.or_eq_false_iff, reduceCtorEq, Int.not_lt, Int.not_le] at h8
                have := find_in (l := l) (s := s); omega
              · try simp only [decide_eq_true_eq, decide_eq_false_iff_not, beq_iff_eq, beq_eq_false_iff_ne, bne_iff_ne, bne_eq_false_iff_eq, Bool.not_eq_true', Bool.not_eq_false', Bool.not_eq_true, Bool.not_eq_false, ne_eq, Bool.and_eq_true, Bool.or_eq_true, Bool.and_eq_false_iff, Bool.or_eq_false_iff, reduceCtorEq, Int.not_lt, Int.not_le] at h8
                refine ⟨?_, ?_⟩
                · first | exact True.intro | rfl | omega | assumption | (dsimp only [D] at *; omega) | (simp only [I64, big] at *; omega) | (simp_all; done)
                intro h9
                refine ⟨fun h10 => ?_, fun h10 => ?_⟩
                · try simp only [decide_eq_true_eq, decide_eq_false_iff_not, beq_iff_eq, beq_eq_false_iff_ne, bne_iff_ne, bne_eq_false_iff_eq, Bool.not_eq_true', Bool.not_eq_false', Bool.not_eq_true, Bool.not_eq_false, ne_eq, Bool.and_eq_true, Bool.or_eq_true, Bool.and_eq_false_iff, Bool.or_eq_false_iff, reduceCtorEq, Int.not_lt, Int.not_le] at h10
                  have := find_in (l := l) (s := s); omega
                · try simp only [decide_eq_true_eq, decide_eq_false_iff_not, beq_iff_eq, beq_eq_false_iff_ne, bne_iff_ne, bne_eq_false_iff_eq, Bool.not_eq_true', Bool.not_eq_false', Bool.not_eq_true, Bool.not_eq_false, ne_eq, Bool.and_eq_true, Bool.or_eq_true, Bool.and_eq_false_iff, Bool.or_eq_false_iff, reduceCtorEq, Int.not_lt, Int.not_le] at h10
                  refine ⟨?_, ?_⟩
                  · first | exact True.intro | rfl | omega | assumption | (dsimp only [D] at *; omega) | (simp only [I64, big] at *; omega) | (simp_all; done)
                  refine ⟨?_, ?_⟩
                  · first | exact True.intro | rfl | omega | assumption | (dsimp only [D] at *; omega) | (simp only [I64, big] at *; omega) | (simp_all; done)
                  refine ⟨fun h11 => ?_, fun h11 => ?_⟩
                  · try simp only [decide_eq_true_eq, decide_eq_false_iff_not, beq_iff_eq, beq_eq_false_iff_ne, bne_iff_ne, bne_eq_false_iff_eq, Bool.not_eq_true', Bool.not_eq_false', Bool.not_eq_true, Bool.not_eq_false, ne_eq, Bool.and_eq_true, Bool.or_eq_true, Bool.and_eq_false_iff, Bool.or_eq_false_iff, reduceCtorEq, Int.not_lt, Int.not_le] at h11
                    exact absurd (find_in (l := l) (s := s) (by omega)).2.2.2 (by assumption)
                  · try simp only [decide_eq_true_eq, decide_eq_false_iff_not, beq_iff_eq, beq_eq_false_iff_ne, bne_iff_ne, bne_eq_false_iff_eq, Bool.not_eq_true', Bool.not_eq_false', Bool.not_eq_true, Bool.not_eq_false, ne_eq, Bool.and_eq_true, Bool.or_eq_true, Bool.and_eq_false_iff, Bool.or_eq_false_iff, reduceCtorEq, Int.not_lt, Int.not_le] at h11
                    refine ⟨fun h12 => ?_, fun h12 => ?_⟩
                    · try simp only [decide_eq_true_eq, decide_eq_false_iff_not, beq_iff_eq, beq_eq_false_iff_ne, bne_iff_ne, bne_eq_false_iff_eq, Bool.not_eq_true', Bool.not_eq_false', Bool.not_eq_true, Bool.not_eq_false, ne_eq, Bool.and_eq_true, Bool.or_eq_true, Bool.and_eq_false_iff, Bool.or_eq_false_iff, reduceCtorEq, Int.not_lt, Int.not_le] at h12
                      refine ⟨fun h13 => ?_, fun h13 => ?_⟩
                      · try simp only [decide_eq_true_eq, decide_eq_false_iff_not, beq_iff_eq, beq_eq_false_iff_ne, bne_iff_ne, bne_eq_false_iff_eq, Bool.not_eq_true', Bool.not_eq_false', Bool.not_eq_true, Bool.not_eq_false, ne_eq, Bool.and_eq_true, Bool.or_eq_true, Bool.and_eq_false_iff, Bool.or_eq_false_iff, reduceCtorEq, Int.not_lt, Int.not_le] at h13
                        first | exact True.intro | rfl | omega | assumption | (dsimp only [D] at *; omega) | (simp only [I64, big] at *; omega) | (simp_all; done)
                      · try simp only [decide_eq_true_eq, decide_eq_false_iff_not, beq_iff_eq, beq_eq_false_iff_ne, bne_iff_ne, bne_eq_false_iff_eq, Bool.not_eq_true', Bool.not_eq_false', Bool.not_eq_true, Bool.not_eq_false, ne_eq, Bool.and_eq_true, Bool.or_eq_true, Bool.and_eq_false_iff, Bool.or_eq_false_iff, reduceCtorEq, Int.not_lt, Int.not_le] at h13
                        refine ⟨?_, ?_⟩
                        · refine ⟨0, ?_⟩; (repeat' (first | exact trivial | rfl | omega | assumption | apply And.intro))
                        intro x_1 q_1
                        intro h14
                        refine ⟨fun h15 => ?_, fun h15 => ?_⟩
                        · try simp only [decide_eq_true_eq, decide_eq_false_iff_not, beq_iff_eq, beq_eq_false_iff_ne, bne_iff_ne, bne_eq_false_iff_eq, Bool.not_eq_true', Bool.not_eq_false', Bool.not_eq_true, Bool.not_eq_false, ne_eq, Bool.and_eq_true, Bool.or_eq_true, Bool.and_eq_false_iff, Bool.or_eq_false_iff, reduceCtorEq, Int.not_lt, Int.not_le] at h15
                          refine ⟨?_, ?_⟩
                          · refine ⟨0, ?_⟩; (repeat' (first | exact trivial | rfl | omega | assumption | apply And.intro))
                          intro x_2 q_2
                          refine ⟨?_, ?_⟩
                          · first | exact True.intro | rfl | omega | assumption | (dsimp only [D] at *; omega) | (simp only [I64, big] at *; omega) | (simp_all; done)
                          intro h16
                          refine ⟨fun h17 => ?_, fun h17 => ?_⟩
                          · try simp only [decide_eq_true_eq, decide_eq_false_iff_not, beq_iff_eq, beq_eq_false_iff_ne, bne_iff_ne, bne_eq_false_iff_eq, Bool.not_eq_true', Bool.not_eq_false', Bool.not_eq_true, Bool.not_eq_false, ne_eq, Bool.and_eq_true, Bool.or_eq_true, Bool.and_eq_false_iff, Bool.or_eq_false_iff, reduceCtorEq, Int.not_lt, Int.not_le] at h17
                            refine ⟨?_, ?_⟩
                            · first | exact True.intro | rfl | omega | assumption | (dsimp only [D] at *; omega) | (simp only [I64, big] at *; omega) | (simp_all; done)
                            refine ⟨?_, ?_⟩
                            · first | exact True.intro | rfl | omega | assumption | (dsimp only [D] at *; omega) | (simp only [I64, big] at *; omega) | (simp_all; done)
                            refine ⟨fun h18 => ?_, fun h18 => ?_⟩
                            · try simp only [decide_eq_true_eq, decide_eq_false_iff_not, beq_iff_eq, beq_eq_false_iff_ne, bne_iff_ne, bne_eq_false_iff_eq, Bool.not_eq_true', Bool.not_eq_false', Bool.not_eq_true, Bool.not_eq_false, ne_eq, Bool.and_eq_true, Bool.or_eq_true, Bool.and_eq_false_iff, Bool.or_eq_false_iff, reduceCtorEq, Int.not_lt, Int.not_le] at h18
                              intro h19
                              intro h20
                              refine ⟨?_, ?_⟩
                              · first | exact True.intro | rfl | omega | assumption | (dsimp only [D] at *; omega) | (simp only [I64, big] at *; omega) | (simp_all; done)
                              refine ⟨x_2 + 1, ?_⟩; (repeat' (first | exact trivial | rfl | omega | assumption | apply And.intro))
                            · try simp only [decide_eq_true_eq, decide_eq_false_iff_not, beq_iff_eq, beq_eq_false_iff_ne, bne_iff_ne, bne_eq_false_iff_eq, Bool.not_eq_true', Bool.not_eq_false', Bool.not_eq_true, Bool.not_eq_false, ne_eq, Bool.and_eq_true, Bool.or_eq_true, Bool.and_eq_false_iff, Bool.or_eq_false_iff, reduceCtorEq, Int.not_lt, Int.not_le] at h18
                              refine ⟨fun h19 => ?_, fun h19 => ?_⟩
                              · try simp only [decide_eq_true_eq, decide_eq_false_iff_not, beq_iff_eq, beq_eq_false_iff_ne, bne_iff_ne, bne_eq_false_iff_eq, Bool.not_eq_true', Bool.not_eq_false', Bool.not_eq_true, Bool.not_eq_false, ne_eq, Bool.and_eq_true, Bool.or_eq_true, Bool.and_eq_false_iff, Bool.or_eq_false_iff, reduceCtorEq, Int.not_lt, Int.not_le] at h19
                                first | exact True.intro | rfl | omega | assumption | (dsimp only [D] at *; omega) | (simp only [I64, big] at *; omega) | (simp_all; done)
                              · try simp only [decide_eq_true_eq, decide_eq_false_iff_not, beq_iff_eq, beq_eq_false_iff_ne, bne_iff_ne, bne_eq_false_iff_eq, Bool.not_eq_true', Bool.not_eq_false', Bool.not_eq_true, Bool.not_eq_false, ne_eq, Bool.and_eq_true, Bool.or_eq_true, Bool.and_eq_false_iff, Bool.or_eq_false_iff, reduceCtorEq, Int.not_lt, Int.not_le] at h19
                                refine ⟨?_, ?_⟩
                                · first | exact True.intro | rfl | omega | assumption | (dsimp only [D] at *; omega) | (simp only [I64, big] at *; omega) | (simp_all; done)
                                refine ⟨?_, ?_⟩
                                · first | exact True.intro | rfl | omega | assumption | (dsimp only [D] at *; omega) | (simp only [I64, big] at *; omega) | (simp_all; done)
                                refine ⟨fun h20 => ?_, fun h20 => ?_⟩
                                · try simp only [decide_eq_true_eq, decide_eq_false_iff_not, beq_iff_eq, beq_eq_false_iff_ne, bne_iff_ne, bne_eq_false_iff_eq, Bool.not_eq_true', Bool.not_eq_false', Bool.not_eq_true, Bool.not_eq_false, ne_eq, Bool.and_eq_true, Bool.or_eq_true, Bool.and_eq_false_iff, Bool.or_eq_false_iff, reduceCtorEq, Int.not_lt, Int.not_le] at h20
                                  refine ⟨fun h21 => ?_, fun h21 => ?_⟩
                                  · try simp only [decide_eq_true_eq, decide_eq_false_iff_not, beq_iff_eq, beq_eq_false_iff_ne, bne_iff_ne, bne_eq_false_iff_eq, Bool.not_eq_true', Bool.not_eq_false', Bool.not_eq_true, Bool.not_eq_false, ne_eq, Bool.and_eq_true, Bool.or_eq_true, Bool.and_eq_false_iff, Bool.or_eq_false_iff, reduceCtorEq, Int.not_lt, Int.not_le] at h21
                                    first | exact True.intro | rfl | omega | assumption | (dsimp only [D] at *; omega) | (simp only [I64, big] at *; omega) | (simp_all; done)
                                  · try simp only [decide_eq_true_eq, decide_eq_false_iff_not, beq_iff_eq, beq_eq_false_iff_ne, bne_iff_ne, bne_eq_false_iff_eq, Bool.not_eq_true', Bool.not_eq_false', Bool.not_eq_true, Bool.not_eq_false, ne_eq, Bool.and_eq_true, Bool.or_eq_true, Bool.and_eq_false_iff, Bool.or_eq_false_iff, reduceCtorEq, Int.not_lt, Int.not_le] at h21
                                    refine ⟨fun h22 => ?_, fun h22 => ?_⟩
                                    · try simp only [decide_eq_true_eq, decide_eq_false_iff_not, beq_iff_eq, beq_eq_false_iff_ne, bne_iff_ne, bne_eq_false_iff_eq, Bool.not_eq_true', Bool.not_eq_false', Bool.not_eq_true, Bool.not_eq_false, ne_eq, Bool.and_eq_true, Bool.or_eq_true, Bool.and_eq_false_iff, Bool.or_eq_false_iff, reduceCtorEq, Int.not_lt, Int.not_le] at h22
                                      first | exact True.intro | rfl | omega | assumption | (dsimp only [D] at *; omega) | (simp only [I64, big] at *; omega) | (simp_all; done)
                                    · try simp only [decide_eq_true_eq, decide_eq_false_iff_not, beq_iff_eq, beq_eq_false_iff_ne, bne_iff_ne, bne_eq_false_iff_eq, Bool.not_eq_true', Bool.not_eq_false', Bool.not_eq_true, Bool.not_eq_false, ne_eq, Bool.and_eq_true, Bool.or_eq_true, Bool.and_eq_false_iff, Bool.or_eq_false_iff, reduceCtorEq, Int.not_lt, Int.not_le] at h22
                                      intro h23
                                      intro h24
                                      refine ⟨?_, ?_⟩
                                      · first | exact True.intro | rfl | omega | assumption | (dsimp only [D] at *; omega) | (simp only [I64, big] at *; omega) | (simp_all; done)
                                      refine ⟨x_2 + 1, ?_⟩; (repeat' (first | exact trivial | rfl | omega | assumption | apply And.intro))
                                · try simp only [decide_eq_true_eq, decide_eq_false_iff_not, beq_iff_eq, beq_eq_false_iff_ne, bne_iff_ne, bne_eq_false_iff_eq, Bool.not_eq_true', Bool.not_eq_false', Bool.not_eq_true, Bool.not_eq_false, ne_eq, Bool.and_eq_true, Bool.or_eq_true, Bool.and_eq_false_iff, Bool.or_eq_false_iff, reduceCtorEq, Int.not_lt, Int.not_le] at h20
                                  refine ⟨fun h21 => ?_, fun h21 => ?_⟩
                                  · try simp only [decide_eq_true_eq, decide_eq_false_iff_not, beq_iff_eq, beq_eq_false_iff_ne, bne_iff_ne, bne_eq_false_iff_eq, Bool.not_eq_true', Bool.not_eq_false', Bool.not_eq_true, Bool.not_eq_false, ne_eq, Bool.and_eq_true, Bool.or_eq_true, Bool.and_eq_false_iff, Bool.or_eq_false_iff, reduceCtorEq, Int.not_lt, Int.not_le] at h21
                                    refine ⟨fun h22 => ?_, fun h22 => ?_⟩
                                    · try simp only [decide_eq_true_eq, decide_eq_false_iff_not, beq_iff_eq, beq_eq_false_iff_ne, bne_iff_ne, bne_eq_false_iff_eq, Bool.not_eq_true', Bool.not_eq_false', Bool.not_eq_true, Bool.not_eq_false, ne_eq, Bool.and_eq_true, Bool.or_eq_true, Bool.and_eq_false_iff, Bool.or_eq_false_iff, reduceCtorEq, Int.not_lt, Int.not_le] at h22
                                      refine ⟨fun h23 => ?_, fun h23 => ?_⟩
                                      · try simp only [decide_eq_true_eq, decide_eq_false_iff_not, beq_iff_eq, beq_eq_false_iff_ne, bne_iff_ne, bne_eq_false_iff_eq, Bool.not_eq_true', Bool.not_eq_false', Bool.not_eq_true, Bool.not_eq_false, ne_eq, Bool.and_eq_true, Bool.or_eq_true, Bool.and_eq_false_iff, Bool.or_eq_false_iff, reduceCtorEq, Int.not_lt, Int.not_le] at h23
                                        first | exact True.intro | rfl | omega | assumption | (dsimp only [D] at *; omega) | (simp only [I64, big] at *; omega) | (simp_all; done)
                                      · try simp only [decide_eq_true_eq, decide_eq_false_iff_not, beq_iff_eq, beq_eq_false_iff_ne, bne_iff_ne, bne_eq_false_iff_eq, Bool.not_eq_true', Bool.not_eq_false', Bool.not_eq_true, Bool.not_eq_false, ne_eq, Bool.and_eq_true, Bool.or_eq_true, Bool.and_eq_false_iff, Bool.or_eq_false_iff, reduceCtorEq, Int.not_lt, Int.not_le] at h23
                                        refine ⟨fun h24 => ?_, fun h24 => ?_⟩
                                        · try simp only [decide_eq_true_eq, decide_eq_false_iff_not, beq_iff_eq, beq_eq_false_iff_ne, bne_iff_ne, bne_eq_false_iff_eq, Bool.not_eq_true', Bool.not_eq_false', Bool.not_eq_true, Bool.not_eq_false, ne_eq, Bool.and_eq_true, Bool.or_eq_true, Bool.and_eq_false_iff, Bool.or_eq_false_iff, reduceCtorEq, Int.not_lt, Int.not_le] at h24
                                          first | exact True.intro | rfl | omega | assumption | (dsimp only [D] at *; omega) | (simp only [I64, big] at *; omega) | (simp_all; done)
                                        · try simp only [decide_eq_true_eq, decide_eq_false_iff_not, beq_iff_eq, beq_eq_false_iff_ne, bne_iff_ne, bne_eq_false_iff_eq, Bool.not_eq_true', Bool.not_eq_false', Bool.not_eq_true, Bool.not_eq_false, ne_eq, Bool.and_eq_true, Bool.or_eq_true, Bool.and_eq_false_iff, Bool.or_eq_false_iff, reduceCtorEq, Int.not_lt, Int.not_le] at h24
                                          refine ⟨fun h25 => ?_, fun h25 => ?_⟩
                                          · try simp only [decide_eq_true_eq, decide_eq_false_iff_not, beq_iff_eq, beq_eq_false_iff_ne, bne_iff_ne, bne_eq_false_iff_eq, Bool.not_eq_true', Bool.not_eq_false', Bool.not_eq_true, Bool.not_eq_false, ne_eq, Bool.and_eq_true, Bool.or_eq_true, Bool.and_eq_false_iff, Bool.or_eq_false_iff, reduceCtorEq, Int.not_lt, Int.not_le] at h25
                                            refine ⟨fun h26 => ?_, fun h26 => ?_⟩
                                            · try simp only [decide_eq_true_eq, decide_eq_false_iff_not, beq_iff_eq, beq_eq_false_iff_ne, bne_iff_ne, bne_eq_false_iff_eq, Bool.not_eq_true', Bool.not_eq_false', Bool.not_eq_true, Bool.not_eq_false, ne_eq, Bool.and_eq_true, Bool.or_eq_true, Bool.and_eq_false_iff, Bool.or_eq_false_iff, reduceCtorEq, Int.not_lt, Int.not_le] at h26
                                              refine ⟨fun h27 => ?_, fun h27 => ?_⟩
                                              · try simp only [decide_eq_true_eq, decide_eq_false_iff_not, beq_iff_eq, beq_eq_false_iff_ne, bne_iff_ne, bne_eq_false_iff_eq, Bool.not_eq_true', Bool.not_eq_false', Bool.not_eq_true, Bool.not_eq_false, ne_eq, Bool.and_eq_true, Bool.or_eq_true, Bool.and_eq_false_iff, Bool.or_eq_false_iff, reduceCtorEq, Int.not_lt, Int.not_le] at h27
                                                first | exact True.intro | rfl | omega | assumption | (dsimp only [D] at *; omega) | (simp only [I64, big] at *; omega) | (simp_all; done)
                                              · try simp only [decide_eq_true_eq, decide_eq_false_iff_not, beq_iff_eq, beq_eq_false_iff_ne, bne_iff_ne, bne_eq_false_iff_eq, Bool.not_eq_true', Bool.not_eq_false', Bool.not_eq_true, Bool.not_eq_false, ne_eq, Bool.and_eq_true, Bool.or_eq_true, Bool.and_eq_false_iff, Bool.or_eq_false_iff, reduceCtorEq, Int.not_lt, Int.not_le] at h27
                                                intro h28
                                                intro h29
                                                refine ⟨?_, ?_⟩
                                                · first | exact True.intro | rfl | omega | assumption | (dsimp only [D] at *; omega) | (simp only [I64, big] at *; omega) | (simp_all; done)
                                                refine ⟨x_2 + 1, ?_⟩; (repeat' (first | exact trivial | rfl | omega | assumption | apply And.intro))
                                            · try simp only [decide_eq_true_eq, decide_eq_false_iff_not, beq_iff_eq, beq_eq_false_iff_ne, bne_iff_ne, bne_eq_false_iff_eq, Bool.not_eq_true', Bool.not_eq_false', Bool.not_eq_true, Bool.not_eq_false, ne_eq, Bool.and_eq_true, Bool.or_eq_true, Bool.and_eq_false_iff, Bool.or_eq_false_iff, reduceCtorEq, Int.not_lt, Int.not_le] at h26
                                              intro h27
                                              intro h28
                                              refine ⟨?_, ?_⟩
                                              · first | exact True.intro | rfl | omega | assumption | (dsimp only [D] at *; omega) | (simp only [I64, big] at *; omega) | (simp_all; done)
                                              refine ⟨x_2 + 1, ?_⟩; (repeat' (first | exact trivial | rfl | omega | assumption | apply And.intro))
                                          · try simp only [decide_eq_true_eq, decide_eq_false_iff_not, beq_iff_eq, beq_eq_false_iff_ne, bne_iff_ne, bne_eq_false_iff_eq, Bool.not_eq_true', Bool.not_eq_false', Bool.not_eq_true, Bool.not_eq_false, ne_eq, Bool.and_eq_true, Bool.or_eq_true, Bool.and_eq_false_iff, Bool.or_eq_false_iff, reduceCtorEq, Int.not_lt, Int.not_le] at h25
                                            intro h26
                                            intro h27
                                            refine ⟨?_, ?_⟩
                                            · first | exact True.intro | rfl | omega | assumption | (dsimp only [D] at *; omega) | (simp only [I64, big] at *; omega) | (simp_all; done)
                                            refine ⟨x_2 + 1, ?_⟩; (repeat' (first | exact trivial | rfl | omega | assumption | apply And.intro))
                                    · try simp only [decide_eq_true_eq, decide_eq_false_iff_not, beq_iff_eq, beq_eq_false_iff_ne, bne_iff_ne, bne_eq_false_iff_eq, Bool.not_eq_true', Bool.not_eq_false', Bool.not_eq_true, Bool.not_eq_false, ne_eq, Bool.and_eq_true, Bool.or_eq_true, Bool.and_eq_false_iff, Bool.or_eq_false_iff, reduceCtorEq, Int.not_lt, Int.not_le] at h22
                                      refine ⟨fun h23 => ?_, fun h23 => ?_⟩
                                      · try simp only [decide_eq_true_eq, decide_eq_false_iff_not, beq_iff_eq, beq_eq_false_iff_ne, bne_iff_ne, bne_eq_false_iff_eq, Bool.not_eq_true', Bool.not_eq_false', Bool.not_eq_true, Bool.not_eq_false, ne_eq, Bool.and_eq_true, Bool.or_eq_true, Bool.and_eq_false_iff, Bool.or_eq_false_iff, reduceCtorEq, Int.not_lt, Int.not_le] at h23
                                        refine ⟨fun h24 => ?_, fun h24 => ?_⟩
                                        · try simp only [decide_eq_true_eq, decide_eq_false_iff_not, beq_iff_eq, beq_eq_false_iff_ne, bne_iff_ne, bne_eq_false_iff_eq, Bool.not_eq_true', Bool.not_eq_false', Bool.not_eq_true, Bool.not_eq_false, ne_eq, Bool.and_eq_true, Bool.or_eq_true, Bool.and_eq_false_iff, Bool.or_eq_false_iff, reduceCtorEq, Int.not_lt, Int.not_le] at h24
                                          refine ⟨fun h25 => ?_, fun h25 => ?_⟩
                                          · try simp only [decide_eq_true_eq, decide_eq_false_iff_not, beq_iff_eq, beq_eq_false_iff_ne, bne_iff_ne, bne_eq_false_iff_eq, Bool.not_eq_true', Bool.not_eq_false', Bool.not_eq_true, Bool.not_eq_false, ne_eq, Bool.and_eq_true, Bool.or_eq_true, Bool.and_eq_false_iff, Bool.or_eq_false_iff, reduceCtorEq, Int.not_lt, Int.not_le] at h25
                                            first | exact True.intro | rfl | omega | assumption | (dsimp only [D] at *; omega) | (simp only [I64, big] at *; omega) | (simp_all; done)
                                          · try simp only [decide_eq_true_eq, decide_eq_false_iff_not, beq_iff_eq, beq_eq_false_iff_ne, bne_iff_ne, bne_eq_false_iff_eq, Bool.not_eq_true', Bool.not_eq_false', Bool.not_eq_true, Bool.not_eq_false, ne_eq, Bool.and_eq_true, Bool.or_eq_true, Bool.and_eq_false_iff, Bool.or_eq_false_iff, reduceCtorEq, Int.not_lt, Int.not_le] at h25
                                            intro h26
                                            intro h27
                                            refine ⟨?_, ?_⟩
                                            · first | exact True.intro | rfl | omega | assumption | (dsimp only [D] at *; omega) | (simp only [I64, big] at *; omega) | (simp_all; done)
                                            refine ⟨x_2 + 1, ?_⟩; (repeat' (first | exact trivial | rfl | omega | assumption | apply And.intro))
                                        · try simp only [decide_eq_true_eq, decide_eq_false_iff_not, beq_iff_eq, beq_eq_false_iff_ne, bne_iff_ne, bne_eq_false_iff_eq, Bool.not_eq_true', Bool.not_eq_false', Bool.not_eq_true, Bool.not_eq_false, ne_eq, Bool.and_eq_true, Bool.or_eq_true, Bool.and_eq_false_iff, Bool.or_eq_false_iff, reduceCtorEq, Int.not_lt, Int.not_le] at h24
                                          intro h25
                                          intro h26
                                          refine ⟨?_, ?_⟩
                                          · first | exact True.intro | rfl | omega | assumption | (dsimp only [D] at *; omega) | (simp only [I64, big] at *; omega) | (simp_all; done)
                                          refine ⟨x_2 + 1, ?_⟩; (repeat' (first | exact trivial | rfl | omega | assumption | apply And.intro))
                                      · try simp only [decide_eq_true_eq, decide_eq_false_iff_not, beq_iff_eq, beq_eq_false_iff_ne, bne_iff_ne, bne_eq_false_iff_eq, Bool.not_eq_true', Bool.not_eq_false', Bool.not_eq_true, Bool.not_eq_false, ne_eq, Bool.and_eq_true, Bool.or_eq_true, Bool.and_eq_false_iff, Bool.or_eq_false_iff, reduceCtorEq, Int.not_lt, Int.not_le] at h23
                                        intro h24
                                        intro h25
                                        refine ⟨?_, ?_⟩
                                        · first | exact True.intro | rfl | omega | assumption | (dsimp only [D] at *; omega) | (simp only [I64, big] at *; omega) | (simp_all; done)
                                        refine ⟨x_2 + 1, ?_⟩; (repeat' (first | exact trivial | rfl | omega | assumption | apply And.intro))
                                  · try simp only [decide_eq_true_eq, decide_eq_false_iff_not, beq_iff_eq, beq_eq_false_iff_ne, bne_iff_ne, bne_eq_false_iff_eq, Bool.not_eq_true', Bool.not_eq_false', Bool.not_eq_true, Bool.not_eq_false, ne_eq, Bool.and_eq_true, Bool.or_eq_true, Bool.and_eq_false_iff, Bool.or_eq_false_iff, reduceCtorEq, Int.not_lt, Int.not_le] at h21
                                    refine ⟨fun h22 => ?_, fun h22 => ?_⟩
                                    · try simp only [decide_eq_true_eq, decide_eq_false_iff_not, beq_iff_eq, beq_eq_false_iff_ne, bne_iff_ne, bne_eq_false_iff_eq, Bool.not_eq_true', Bool.not_eq_false', Bool.not_eq_true, Bool.not_eq_false, ne_eq, Bool.and_eq_true, Bool.or_eq_true, Bool.and_eq_false_iff, Bool.or_eq_false_iff, reduceCtorEq, Int.not_lt, Int.not_le] at h22
                                      refine ⟨fun h23 => ?_, fun h23 => ?_⟩
                                      · try simp only [decide_eq_true_eq, decide_eq_false_iff_not, beq_iff_eq, beq_eq_false_iff_ne, bne_iff_ne, bne_eq_false_iff_eq, Bool.not_eq_true', Bool.not_eq_false', Bool.not_eq_true, Bool.not_eq_false, ne_eq, Bool.and_eq_true, Bool.or_eq_true, Bool.and_eq_false_iff, Bool.or_eq_false_iff, reduceCtorEq, Int.not_lt, Int.not_le] at h23
                                        first | exact True.intro | rfl | omega | assumption | (dsimp only [D] at *; omega) | (simp only [I64, big] at *; omega) | (simp_all; done)
                                      · try simp only [decide_eq_true_eq, decide_eq_false_iff_not, beq_iff_eq, beq_eq_false_iff_ne, bne_iff_ne, bne_eq_false_iff_eq, Bool.not_eq_true', Bool.not_eq_false', Bool.not_eq_true, Bool.not_eq_false, ne_eq, Bool.and_eq_true, Bool.or_eq_true, Bool.and_eq_false_iff, Bool.or_eq_false_iff, reduceCtorEq, Int.not_lt, Int.not_le] at h23
                                        intro h24
                                        intro h25
                                        refine ⟨?_, ?_⟩
                                        · first | exact True.intro | rfl | omega | assumption | (dsimp only [D] at *; omega) | (simp only [I64, big] at *; omega) | (simp_all; done)
                                        refine ⟨x_2 + 1, ?_⟩; (repeat' (first | exact trivial | rfl | omega | assumption | apply And.intro))
                                    · try simp only [decide_eq_true_eq, decide_eq_false_iff_not, beq_iff_eq, beq_eq_false_iff_ne, bne_iff_ne, bne_eq_false_iff_eq, Bool.not_eq_true', Bool.not_eq_false', Bool.not_eq_true, Bool.not_eq_false, ne_eq, Bool.and_eq_true, Bool.or_eq_true, Bool.and_eq_false_iff, Bool.or_eq_false_iff, reduceCtorEq, Int.not_lt, Int.not_le] at h22
                                      intro h23
                                      intro h24
                                      refine ⟨?_, ?_⟩
                                      · first | exact True.intro | rfl | omega | assumption | (dsimp only [D] at *; omega) | (simp only [I64, big] at *; omega) | (simp_all; done)
                                      refine ⟨x_2 + 1, ?_⟩; (repeat' (first | exact trivial | rfl | omega | assumption | apply And.intro))
                          · try simp only [decide_eq_true_eq, decide_eq_false_iff_not, beq_iff_eq, beq_eq_false_iff_ne, bne_iff_ne, bne_eq_false_iff_eq, Bool.not_eq_true', Bool.not_eq_false', Bool.not_eq_true, Bool.not_eq_false, ne_eq, Bool.and_eq_true, Bool.or_eq_true, Bool.and_eq_false_iff, Bool.or_eq_false_iff, reduceCtorEq, Int.not_lt, Int.not_le] at h17
                            intro h18
                            intro h19
                            refine ⟨?_, ?_⟩
                            · first | exact True.intro | rfl | omega | assumption | (dsimp only [D] at *; omega) | (simp only [I64, big] at *; omega) | (simp_all; done)
                            refine ⟨x_1 + 1, ?_⟩; (repeat' (first | exact trivial | rfl | omega | assumption | apply And.intro))
                        · try simp only [decide_eq_true_eq, decide_eq_false_iff_not, beq_iff_eq, beq_eq_false_iff_ne, bne_iff_ne, bne_eq_false_iff_eq, Bool.not_eq_true', Bool.not_eq_false', Bool.not_eq_true, Bool.not_eq_false, ne_eq, Bool.and_eq_true, Bool.or_eq_true, Bool.and_eq_false_iff, Bool.or_eq_false_iff, reduceCtorEq, Int.not_lt, Int.not_le] at h15
                          first | exact True.intro | rfl | omega | assumption | (dsimp only [D] at *; omega) | (simp only [I64, big] at *; omega) | (simp_all; done)
                    · try simp only [decide_eq_true_eq, decide_eq_false_iff_not, beq_iff_eq, beq_eq_false_iff_ne, bne_iff_ne, bne_eq_false_iff_eq, Bool.not_eq_true', Bool.not_eq_false', Bool.not_eq_true, Bool.not_eq_false, ne_eq, Bool.and_eq_true, Bool.or_eq_true, Bool.and_eq_false_iff, Bool.or_eq_false_iff, reduceCtorEq, Int.not_lt, Int.not_le] at h12
                      refine ⟨?_, ?_⟩
                      · refine ⟨0, ?_⟩; (repeat' (first | exact trivial | rfl | omega | assumption | apply And.intro))
                      intro x_1 q_1
                      intro h13
                      refine ⟨fun h14 => ?_, fun h14 => ?_⟩
                      · try simp only [decide_eq_true_eq, decide_eq_false_iff_not, beq_iff_eq, beq_eq_false_iff_ne, bne_iff_ne, bne_eq_false_iff_eq, Bool.not_eq_true', Bool.not_eq_false', Bool.not_eq_true, Bool.not_eq_false, ne_eq, Bool.and_eq_true, Bool.or_eq_true, Bool.and_eq_false_iff, Bool.or_eq_false_iff, reduceCtorEq, Int.not_lt, Int.not_le] at h14
                        refine ⟨?_, ?_⟩
                        · refine ⟨0, ?_⟩; (repeat' (first | exact trivial | rfl | omega | assumption | apply And.intro))
                        intro x_2 q_2
                        refine ⟨?_, ?_⟩
                        · first | exact True.intro | rfl | omega | assumption | (dsimp only [D] at *; omega) | (simp only [I64, big] at *; omega) | (simp_all; done)
                        intro h15
                        refine ⟨fun h16 => ?_, fun h16 => ?_⟩
                        · try simp only [decide_eq_true_eq, decide_eq_false_iff_not, beq_iff_eq, beq_eq_false_iff_ne, bne_iff_ne, bne_eq_false_iff_eq, Bool.not_eq_true', Bool.not_eq_false', Bool.not_eq_true, Bool.not_eq_false, ne_eq, Bool.and_eq_true, Bool.or_eq_true, Bool.and_eq_false_iff, Bool.or_eq_false_iff, reduceCtorEq, Int.not_lt, Int.not_le] at h16
                          refine ⟨?_, ?_⟩
                          · first | exact True.intro | rfl | omega | assumption | (dsimp only [D] at *; omega) | (simp only [I64, big] at *; omega) | (simp_all; done)
                          refine ⟨?_, ?_⟩
                          · first | exact True.intro | rfl | omega | assumption | (dsimp only [D] at *; omega) | (simp only [I64, big] at *; omega) | (simp_all; done)
                          refine ⟨fun h17 => ?_, fun h17 => ?_⟩
                          · try simp only [decide_eq_true_eq, decide_eq_false_iff_not, beq_iff_eq, beq_eq_false_iff_ne, bne_iff_ne, bne_eq_false_iff_eq, Bool.not_eq_true', Bool.not_eq_false', Bool.not_eq_true, Bool.not_eq_false, ne_eq, Bool.and_eq_true, Bool.or_eq_true, Bool.and_eq_false_iff, Bool.or_eq_false_iff, reduceCtorEq, Int.not_lt, Int.not_le] at h17
                            intro h18
                            intro h19
                            refine ⟨?_, ?_⟩
                            · first | exact True.intro | rfl | omega | assumption | (dsimp only [D] at *; omega) | (simp only [I64, big] at *; omega) | (simp_all; done)
                            refine ⟨x_2 + 1, ?_⟩; (repeat' (first | exact trivial | rfl | omega | assumption | apply And.intro))
                          · try simp only [decide_eq_true_eq, decide_eq_false_iff_not, beq_iff_eq, beq_eq_false_iff_ne, bne_iff_ne, bne_eq_false_iff_eq, Bool.not_eq_true', Bool.not_eq_false', Bool.not_eq_true, Bool.not_eq_false, ne_eq, Bool.and_eq_true, Bool.or_eq_true, Bool.and_eq_false_iff, Bool.or_eq_false_iff, reduceCtorEq, Int.not_lt, Int.not_le] at h17
                            refine ⟨fun h18 => ?_, fun h18 => ?_⟩
                            · try simp only [decide_eq_true_eq, decide_eq_false_iff_not, beq_iff_eq, beq_eq_false_iff_ne, bne_iff_ne, bne_eq_false_iff_eq, Bool.not_eq_true', Bool.not_eq_false', Bool.not_eq_true, Bool.not_eq_false, ne_eq, Bool.and_eq_true, Bool.or_eq_true, Bool.and_eq_false_iff, Bool.or_eq_false_iff, reduceCtorEq, Int.not_lt, Int.not_le] at h18
                              first | exact True.intro | rfl | omega | assumption | (dsimp only [D] at *; omega) | (simp only [I64, big] at *; omega) | (simp_all; done)
                            · try simp only [decide_eq_true_eq, decide_eq_false_iff_not, beq_iff_eq, beq_eq_false_iff_ne, bne_iff_ne, bne_eq_false_iff_eq, Bool.not_eq_true', Bool.not_eq_false', Bool.not_eq_true, Bool.not_eq_false, ne_eq, Bool.and_eq_true, Bool.or_eq_true, Bool.and_eq_false_iff, Bool.or_eq_false_iff, reduceCtorEq, Int.not_lt, Int.not_le] at h18
                              refine ⟨?_, ?_⟩
                              · first | exact True.intro | rfl | omega | assumption | (dsimp only [D] at *; omega) | (simp only [I64, big] at *; omega) | (simp_all; done)
                              refine ⟨?_, ?_⟩
                              · first | exact True.intro | rfl | omega | assumption | (dsimp only [D] at *; omega) | (simp only [I64, big] at *; omega) | (simp_all; done)
                              refine ⟨fun h19 => ?_, fun h19 => ?_⟩
                              · try simp only [decide_eq_true_eq, decide_eq_false_iff_not, beq_iff_eq, beq_eq_false_iff_ne, bne_iff_ne, bne_eq_false_iff_eq, Bool.not_eq_true', Bool.not_eq_false', Bool.not_eq_true, Bool.not_eq_false, ne_eq, Bool.and_eq_true, Bool.or_eq_true, Bool.and_eq_false_iff, Bool.or_eq_false_iff, reduceCtorEq, Int.not_lt, Int.not_le] at h19
                                refine ⟨fun h20 => ?_, fun h20 => ?_⟩
                                · try simp only [decide_eq_true_eq, decide_eq_false_iff_not, beq_iff_eq, beq_eq_false_iff_ne, bne_iff_ne, bne_eq_false_iff_eq, Bool.not_eq_true', Bool.not_eq_false', Bool.not_eq_true, Bool.not_eq_false, ne_eq, Bool.and_eq_true, Bool.or_eq_true, Bool.and_eq_false_iff, Bool.or_eq_false_iff, reduceCtorEq, Int.not_lt, Int.not_le] at h20
                                  exact absurd (by omega) (find_strong (posS (l := l) (s := s) (i := x_1) (k := x_2) (by omega) (by omega) (by assumption) (by simp_all))).2
                                · try simp only [decide_eq_true_eq, decide_eq_false_iff_not, beq_iff_eq, beq_eq_false_iff_ne, bne_iff_ne, bne_eq_false_iff_eq, Bool.not_eq_true', Bool.not_eq_false', Bool.not_eq_true, Bool.not_eq_false, ne_eq, Bool.and_eq_true, Bool.or_eq_true, Bool.and_eq_false_iff, Bool.or_eq_false_iff, reduceCtorEq, Int.not_lt, Int.not_le] at h20
                                  refine ⟨fun h21 => ?_, fun h21 => ?_⟩
                                  · try simp only [decide_eq_true_eq, decide_eq_false_iff_not, beq_iff_eq, beq_eq_false_iff_ne, bne_iff_ne, bne_eq_false_iff_eq, Bool.not_eq_true', Bool.not_eq_false', Bool.not_eq_true, Bool.not_eq_false, ne_eq, Bool.and_eq_true, Bool.or_eq_true, Bool.and_eq_false_iff, Bool.or_eq_false_iff, reduceCtorEq, Int.not_lt, Int.not_le] at h21
                                    exact absurd (by omega) (find_weak (posI (l := l) (s := s) (i := x_1) (k := x_2) (by omega) (by omega) (by assumption)) (by simp_all))
                                  · try simp only [decide_eq_true_eq, decide_eq_false_iff_not, beq_iff_eq, beq_eq_false_iff_ne, bne_iff_ne, bne_eq_false_iff_eq, Bool.not_eq_true', Bool.not_eq_false', Bool.not_eq_true, Bool.not_eq_false, ne_eq, Bool.and_eq_true, Bool.or_eq_true, Bool.and_eq_false_iff, Bool.or_eq_false_iff, reduceCtorEq, Int.not_lt, Int.not_le] at h21
                                    intro h22
                                    intro h23
                                    refine ⟨?_, ?_⟩
                                    · first | exact True.intro | rfl | omega | assumption | (dsimp only [D] at *; omega) | (simp only [I64, big] at *; omega) | (simp_all; done)
                                    refine ⟨x_2 + 1, ?_⟩; (repeat' (first | exact trivial | rfl | omega | assumption | apply And.intro))
                              · try simp only [decide_eq_true_eq, decide_eq_false_iff_not, beq_iff_eq, beq_eq_false_iff_ne, bne_iff_ne, bne_eq_false_iff_eq, Bool.not_eq_true', Bool.not_eq_false', Bool.not_eq_true, Bool.not_eq_false, ne_eq, Bool.and_eq_true, Bool.or_eq_true, Bool.and_eq_false_iff, Bool.or_eq_false_iff, reduceCtorEq, Int.not_lt, Int.not_le] at h19
                                refine ⟨fun h20 => ?_, fun h20 => ?_⟩
                                · try simp only [decide_eq_true_eq, decide_eq_false_iff_not, beq_iff_eq, beq_eq_false_iff_ne, bne_iff_ne, bne_eq_false_iff_eq, Bool.not_eq_true', Bool.not_eq_false', Bool.not_eq_true, Bool.not_eq_false, ne_eq, Bool.and_eq_true, Bool.or_eq_true, Bool.and_eq_false_iff, Bool.or_eq_false_iff, reduceCtorEq, Int.not_lt, Int.not_le] at h20
                                  refine ⟨fun h21 => ?_, fun h21 => ?_⟩
                                  · try simp only [decide_eq_true_eq, decide_eq_false_iff_not, beq_iff_eq, beq_eq_false_iff_ne, bne_iff_ne, bne_eq_false_iff_eq, Bool.not_eq_true', Bool.not_eq_false', Bool.not_eq_true, Bool.not_eq_false, ne_eq, Bool.and_eq_true, Bool.or_eq_true, Bool.and_eq_false_iff, Bool.or_eq_false_iff, reduceCtorEq, Int.not_lt, Int.not_le] at h21
                                    refine ⟨fun h22 => ?_, fun h22 => ?_⟩
                                    · try simp only [decide_eq_true_eq, decide_eq_false_iff_not, beq_iff_eq, beq_eq_false_iff_ne, bne_iff_ne, bne_eq_false_iff_eq, Bool.not_eq_true', Bool.not_eq_false', Bool.not_eq_true, Bool.not_eq_false, ne_eq, Bool.and_eq_true, Bool.or_eq_true, Bool.and_eq_false_iff, Bool.or_eq_false_iff, reduceCtorEq, Int.not_lt, Int.not_le] at h22
                                      exact absurd (by omega) (find_strong (posS (l := l) (s := s) (i := x_1) (k := x_2) (by omega) (by omega) (by assumption) (by simp_all))).2
                                    · try simp only [decide_eq_true_eq, decide_eq_false_iff_not, beq_iff_eq, beq_eq_false_iff_ne, bne_iff_ne, bne_eq_false_iff_eq, Bool.not_eq_true', Bool.not_eq_false', Bool.not_eq_true, Bool.not_eq_false, ne_eq, Bool.and_eq_true, Bool.or_eq_true, Bool.and_eq_false_iff, Bool.or_eq_false_iff, reduceCtorEq, Int.not_lt, Int.not_le] at h22
                                      refine ⟨fun h23 => ?_, fun h23 => ?_⟩
                                      · try simp only [decide_eq_true_eq, decide_eq_false_iff_not, beq_iff_eq, beq_eq_false_iff_ne, bne_iff_ne, bne_eq_false_iff_eq, Bool.not_eq_true', Bool.not_eq_false', Bool.not_eq_true, Bool.not_eq_false, ne_eq, Bool.and_eq_true, Bool.or_eq_true, Bool.and_eq_false_iff, Bool.or_eq_false_iff, reduceCtorEq, Int.not_lt, Int.not_le] at h23
                                        exact absurd (by omega) (find_weak (posI (l := l) (s := s) (i := x_1) (k := x_2) (by omega) (by omega) (by assumption)) (by simp_all))
                                      · try simp only [decide_eq_true_eq, decide_eq_false_iff_not, beq_iff_eq, beq_eq_false_iff_ne, bne_iff_ne, bne_eq_false_iff_eq, Bool.not_eq_true', Bool.not_eq_false', Bool.not_eq_true, Bool.not_eq_false, ne_eq, Bool.and_eq_true, Bool.or_eq_true, Bool.and_eq_false_iff, Bool.or_eq_false_iff, reduceCtorEq, Int.not_lt, Int.not_le] at h23
                                        refine ⟨fun h24 => ?_, fun h24 => ?_⟩
                                        · try simp only [decide_eq_true_eq, decide_eq_false_iff_not, beq_iff_eq, beq_eq_false_iff_ne, bne_iff_ne, bne_eq_false_iff_eq, Bool.not_eq_true', Bool.not_eq_false', Bool.not_eq_true, Bool.not_eq_false, ne_eq, Bool.and_eq_true, Bool.or_eq_true, Bool.and_eq_false_iff, Bool.or_eq_false_iff, reduceCtorEq, Int.not_lt, Int.not_le] at h24
                                          refine ⟨fun h25 => ?_, fun h25 => ?_⟩
                                          · try simp only [decide_eq_true_eq, decide_eq_false_iff_not, beq_iff_eq, beq_eq_false_iff_ne, bne_iff_ne, bne_eq_false_iff_eq, Bool.not_eq_true', Bool.not_eq_false', Bool.not_eq_true, Bool.not_eq_false, ne_eq, Bool.and_eq_true, Bool.or_eq_true, Bool.and_eq_false_iff, Bool.or_eq_false_iff, reduceCtorEq, Int.not_lt, Int.not_le] at h25
                                            refine ⟨fun h26 => ?_, fun h26 => ?_⟩
                                            · try simp only [decide_eq_true_eq, decide_eq_false_iff_not, beq_iff_eq, beq_eq_false_iff_ne, bne_iff_ne, bne_eq_false_iff_eq, Bool.not_eq_true', Bool.not_eq_false', Bool.not_eq_true, Bool.not_eq_false, ne_eq, Bool.and_eq_true, Bool.or_eq_true, Bool.and_eq_false_iff, Bool.or_eq_false_iff, reduceCtorEq, Int.not_lt, Int.not_le] at h26
                                              first | exact True.intro | rfl | omega | assumption | (dsimp only [D] at *; omega) | (simp only [I64, big] at *; omega) | (simp_all; done)
                                            · try simp only [decide_eq_true_eq, decide_eq_false_iff_not, beq_iff_eq, beq_eq_false_iff_ne, bne_iff_ne, bne_eq_false_iff_eq, Bool.not_eq_true', Bool.not_eq_false', Bool.not_eq_true, Bool.not_eq_false, ne_eq, Bool.and_eq_true, Bool.or_eq_true, Bool.and_eq_false_iff, Bool.or_eq_false_iff, reduceCtorEq, Int.not_lt, Int.not_le] at h26
                                              intro h27
                                              intro h28
                                              refine ⟨?_, ?_⟩
                                              · first | exact True.intro | rfl | omega | assumption | (dsimp only [D] at *; omega) | (simp only [I64, big] at *; omega) | (simp_all; done)
                                              refine ⟨x_2 + 1, ?_⟩; (repeat' (first | exact trivial | rfl | omega | assumption | apply And.intro))
                                          · try simp only [decide_eq_true_eq, decide_eq_false_iff_not, beq_iff_eq, beq_eq_false_iff_ne, bne_iff_ne, bne_eq_false_iff_eq, Bool.not_eq_true', Bool.not_eq_false', Bool.not_eq_true, Bool.not_eq_false, ne_eq, Bool.and_eq_true, Bool.or_eq_true, Bool.and_eq_false_iff, Bool.or_eq_false_iff, reduceCtorEq, Int.not_lt, Int.not_le] at h25
                                            intro h26
                                            intro h27
                                            refine ⟨?_, ?_⟩
                                            · first | exact True.intro | rfl | omega | assumption | (dsimp only [D] at *; omega) | (simp only [I64, big] at *; omega) | (simp_all; done)
                                            refine ⟨x_2 + 1, ?_⟩; (repeat' (first | exact trivial | rfl | omega | assumption | apply And.intro))
                                        · try simp only [decide_eq_true_eq, decide_eq_false_iff_not, beq_iff_eq, beq_eq_false_iff_ne, bne_iff_ne, bne_eq_false_iff_eq, Bool.not_eq_true', Bool.not_eq_false', Bool.not_eq_true, Bool.not_eq_false, ne_eq, Bool.and_eq_true, Bool.or_eq_true, Bool.and_eq_false_iff, Bool.or_eq_false_iff, reduceCtorEq, Int.not_lt, Int.not_le] at h24
                                          intro h25
                                          intro h26
                                          refine ⟨?_, ?_⟩
                                          · first | exact True.intro | rfl | omega | assumption | (dsimp only [D] at *; omega) | (simp only [I64, big] at *; omega) | (simp_all; done)
                                          refine ⟨x_2 + 1, ?_⟩; (repeat' (first | exact trivial | rfl | omega | assumption | apply And.intro))
                                  · try simp only [decide_eq_true_eq, decide_eq_false_iff_not, beq_iff_eq, beq_eq_false_iff_ne, bne_iff_ne, bne_eq_false_iff_eq, Bool.not_eq_true', Bool.not_eq_false', Bool.not_eq_true, Bool.not_eq_false, ne_eq, Bool.and_eq_true, Bool.or_eq_true, Bool.and_eq_false_iff, Bool.or_eq_false_iff, reduceCtorEq, Int.not_lt, Int.not_le] at h21
                                    refine ⟨fun h22 => ?_, fun h22 => ?_⟩
                                    · try simp only [decide_eq_true_eq, decide_eq_false_iff_not, beq_iff_eq, beq_eq_false_iff_ne, bne_iff_ne, bne_eq_false_iff_eq, Bool.not_eq_true', Bool.not_eq_false', Bool.not_eq_true, Bool.not_eq_false, ne_eq, Bool.and_eq_true, Bool.or_eq_true, Bool.and_eq_false_iff, Bool.or_eq_false_iff, reduceCtorEq, Int.not_lt, Int.not_le] at h22
                                      refine ⟨fun h23 => ?_, fun h23 => ?_⟩
                                      · try simp only [decide_eq_true_eq, decide_eq_false_iff_not, beq_iff_eq, beq_eq_false_iff_ne, bne_iff_ne, bne_eq_false_iff_eq, Bool.not_eq_true', Bool.not_eq_false', Bool.not_eq_true, Bool.not_eq_false, ne_eq, Bool.and_eq_true, Bool.or_eq_true, Bool.and_eq_false_iff, Bool.or_eq_false_iff, reduceCtorEq, Int.not_lt, Int.not_le] at h23
                                        refine ⟨fun h24 => ?_, fun h24 => ?_⟩
                                        · try simp only [decide_eq_true_eq, decide_eq_false_iff_not, beq_iff_eq, beq_eq_false_iff_ne, bne_iff_ne, bne_eq_false_iff_eq, Bool.not_eq_true', Bool.not_eq_false', Bool.not_eq_true, Bool.not_eq_false, ne_eq, Bool.and_eq_true, Bool.or_eq_true, Bool.and_eq_false_iff, Bool.or_eq_false_iff, reduceCtorEq, Int.not_lt, Int.not_le] at h24
                                          have := (find_strong (posS (l := l) (s := s) (i := x_1) (k := x_2) (by omega) (by omega) (by assumption) (by simp_all))).1; simp_all
                                        · try simp only [decide_eq_true_eq, decide_eq_false_iff_not, beq_iff_eq, beq_eq_false_iff_ne, bne_iff_ne, bne_eq_false_iff_eq, Bool.not_eq_true', Bool.not_eq_false', Bool.not_eq_true, Bool.not_eq_false, ne_eq, Bool.and_eq_true, Bool.or_eq_true, Bool.and_eq_false_iff, Bool.or_eq_false_iff, reduceCtorEq, Int.not_lt, Int.not_le] at h24
                                          intro h25
                                          intro h26
                                          refine ⟨?_, ?_⟩
                                          · first | exact True.intro | rfl | omega | assumption | (dsimp only [D] at *; omega) | (simp only [I64, big] at *; omega) | (simp_all; done)
                                          refine ⟨x_2 + 1, ?_⟩; (repeat' (first | exact trivial | rfl | omega | assumption | apply And.intro))
                                      · try simp only [decide_eq_true_eq, decide_eq_false_iff_not, beq_iff_eq, beq_eq_false_iff_ne, bne_iff_ne, bne_eq_false_iff_eq, Bool.not_eq_true', Bool.not_eq_false', Bool.not_eq_true, Bool.not_eq_false, ne_eq, Bool.and_eq_true, Bool.or_eq_true, Bool.and_eq_false_iff, Bool.or_eq_false_iff, reduceCtorEq, Int.not_lt, Int.not_le] at h23
                                        intro h24
                                        intro h25
                                        refine ⟨?_, ?_⟩
                                        · first | exact True.intro | rfl | omega | assumption | (dsimp only [D] at *; omega) | (simp only [I64, big] at *; omega) | (simp_all; done)
                                        refine ⟨x_2 + 1, ?_⟩; (repeat' (first | exact trivial | rfl | omega | assumption | apply And.intro))
                                    · try simp only [decide_eq_true_eq, decide_eq_false_iff_not, beq_iff_eq, beq_eq_false_iff_ne, bne_iff_ne, bne_eq_false_iff_eq, Bool.not_eq_true', Bool.not_eq_false', Bool.not_eq_true, Bool.not_eq_false, ne_eq, Bool.and_eq_true, Bool.or_eq_true, Bool.and_eq_false_iff, Bool.or_eq_false_iff, reduceCtorEq, Int.not_lt, Int.not_le] at h22
                                      intro h23
                                      intro h24
                                      refine ⟨?_, ?_⟩
                                      · first | exact True.intro | rfl | omega | assumption | (dsimp only [D] at *; omega) | (simp only [I64, big] at *; omega) | (simp_all; done)
                                      refine ⟨x_2 + 1, ?_⟩; (repeat' (first | exact trivial | rfl | omega | assumption | apply And.intro))
                                · try simp only [decide_eq_true_eq, decide_eq_false_iff_not, beq_iff_eq, beq_eq_false_iff_ne, bne_iff_ne, bne_eq_false_iff_eq, Bool.not_eq_true', Bool.not_eq_false', Bool.not_eq_true, Bool.not_eq_false, ne_eq, Bool.and_eq_true, Bool.or_eq_true, Bool.and_eq_false_iff, Bool.or_eq_false_iff, reduceCtorEq, Int.not_lt, Int.not_le] at h20
                                  refine ⟨fun h21 => ?_, fun h21 => ?_⟩
                                  · try simp only [decide_eq_true_eq, decide_eq_false_iff_not, beq_iff_eq, beq_eq_false_iff_ne, bne_iff_ne, bne_eq_false_iff_eq, Bool.not_eq_true', Bool.not_eq_false', Bool.not_eq_true, Bool.not_eq_false, ne_eq, Bool.and_eq_true, Bool.or_eq_true, Bool.and_eq_false_iff, Bool.or_eq_false_iff, reduceCtorEq, Int.not_lt, Int.not_le] at h21
                                    refine ⟨fun h22 => ?_, fun h22 => ?_⟩
                                    · try simp only [decide_eq_true_eq, decide_eq_false_iff_not, beq_iff_eq, beq_eq_false_iff_ne, bne_iff_ne, bne_eq_false_iff_eq, Bool.not_eq_true', Bool.not_eq_false', Bool.not_eq_true, Bool.not_eq_false, ne_eq, Bool.and_eq_true, Bool.or_eq_true, Bool.and_eq_false_iff, Bool.or_eq_false_iff, reduceCtorEq, Int.not_lt, Int.not_le] at h22
                                      have := (find_strong (posS (l := l) (s := s) (i := x_1) (k := x_2) (by omega) (by omega) (by assumption) (by simp_all))).1; simp_all
                                    · try simp only [decide_eq_true_eq, decide_eq_false_iff_not, beq_iff_eq, beq_eq_false_iff_ne, bne_iff_ne, bne_eq_false_iff_eq, Bool.not_eq_true', Bool.not_eq_false', Bool.not_eq_true, Bool.not_eq_false, ne_eq, Bool.and_eq_true, Bool.or_eq_true, Bool.and_eq_false_iff, Bool.or_eq_false_iff, reduceCtorEq, Int.not_lt, Int.not_le] at h22
                                      intro h23
                                      intro h24
                                      refine ⟨?_, ?_⟩
                                      · first | exact True.intro | rfl | omega | assumption | (dsimp only [D] at *; omega) | (simp only [I64, big] at *; omega) | (simp_all; done)
                                      refine ⟨x_2 + 1, ?_⟩; (repeat' (first | exact trivial | rfl | omega | assumption | apply And.intro))
                                  · try simp only [decide_eq_true_eq, decide_eq_false_iff_not, beq_iff_eq, beq_eq_false_iff_ne, bne_iff_ne, bne_eq_false_iff_eq, Bool.not_eq_true', Bool.not_eq_false', Bool.not_eq_true, Bool.not_eq_false, ne_eq, Bool.and_eq_true, Bool.or_eq_true, Bool.and_eq_false_iff, Bool.or_eq_false_iff, reduceCtorEq, Int.not_lt, Int.not_le] at h21
                                    intro h22
                                    intro h23
                                    refine ⟨?_, ?_⟩
                                    · first | exact True.intro | rfl | omega | assumption | (dsimp only [D] at *; omega) | (simp only [I64, big] at *; omega) | (simp_all; done)
                                    refine ⟨x_2 + 1, ?_⟩; (repeat' (first | exact trivial | rfl | omega | assumption | apply And.intro))
                        · try simp only [decide_eq_true_eq, decide_eq_false_iff_not, beq_iff_eq, beq_eq_false_iff_ne, bne_iff_ne, bne_eq_false_iff_eq, Bool.not_eq_true', Bool.not_eq_false', Bool.not_eq_true, Bool.not_eq_false, ne_eq, Bool.and_eq_true, Bool.or_eq_true, Bool.and_eq_false_iff, Bool.or_eq_false_iff, reduceCtorEq, Int.not_lt, Int.not_le] at h16
                          intro h17
                          intro h18
                          refine ⟨?_, ?_⟩
                          · first | exact True.intro | rfl | omega | assumption | (dsimp only [D] at *; omega) | (simp only [I64, big] at *; omega) | (simp_all; done)
                          refine ⟨x_1 + 1, ?_⟩; (repeat' (first | exact trivial | rfl | omega | assumption | apply And.intro))
                      · try simp only [decide_eq_true_eq, decide_eq_false_iff_not, beq_iff_eq, beq_eq_false_iff_ne, bne_iff_ne, bne_eq_false_iff_eq, Bool.not_eq_true', Bool.not_eq_false', Bool.not_eq_true, Bool.not_eq_false, ne_eq, Bool.and_eq_true, Bool.or_eq_true, Bool.and_eq_false_iff, Bool.or_eq_false_iff, reduceCtorEq, Int.not_lt, Int.not_le] at h14
                        first | exact True.intro | rfl | omega | assumption | (dsimp only [D] at *; omega) | (simp only [I64, big] at *; omega) | (simp_all; done)
            · try simp only [decide_eq_true_eq, decide_eq_false_iff_not, beq_iff_eq, beq_eq_false_iff_ne, bne_iff_ne, bne_eq_false_iff_eq, Bool.not_eq_true', Bool.not_eq_false', Bool.not_eq_true, Bool.not_eq_false, ne_eq, Bool.and_eq_true, Bool.or_eq_true, Bool.and_eq_false_iff, Bool.or_eq_false_iff, reduceCtorEq, Int.not_lt, Int.not_le] at h7
              refine ⟨fun h8 => ?_, fun h8 => ?_⟩
              · try simp only [decide_eq_true_eq, decide_eq_false_iff_not, beq_iff_eq, beq_eq_false_iff_ne, bne_iff_ne, bne_eq_false_iff_eq, Bool.not_eq_true', Bool.not_eq_false', Bool.not_eq_true, Bool.not_eq_false, ne_eq, Bool.and_eq_true, Bool.or_eq_true, Bool.and_eq_false_iff, Bool.or_eq_false_iff, reduceCtorEq, Int.not_lt, Int.not_le] at h8
                refine ⟨fun h9 => ?_, fun h9 => ?_⟩
                · try simp only [decide_eq_true_eq, decide_eq_false_iff_not, beq_iff_eq, beq_eq_false_iff_ne, bne_iff_ne, bne_eq_false_iff_eq, Bool.not_eq_true', Bool.not_eq_false', Bool.not_eq_true, Bool.not_eq_false, ne_eq, Bool.and_eq_true, Bool.or_eq_true, Bool.and_eq_false_iff, Bool.or_eq_false_iff, reduceCtorEq, Int.not_lt, Int.not_le] at h9
                  have e := congrArg Prod.snd (find_out (l := l) (s := s) (by omega)).1; simp only at e; omega
                · try simp only [decide_eq_true_eq, decide_eq_false_iff_not, beq_iff_eq, beq_eq_false_iff_ne, bne_iff_ne, bne_eq_false_iff_eq, Bool.not_eq_true', Bool.not_eq_false', Bool.not_eq_true, Bool.not_eq_false, ne_eq, Bool.and_eq_true, Bool.or_eq_true, Bool.and_eq_false_iff, Bool.or_eq_false_iff, reduceCtorEq, Int.not_lt, Int.not_le] at h9
                  refine ⟨?_, ?_⟩
                  · refine ⟨0, ?_⟩; (repeat' (first | exact trivial | rfl | omega | assumption | apply And.intro))
                  intro x_1 q_1
                  intro h10
                  refine ⟨fun h11 => ?_, fun h11 => ?_⟩
                  · try simp only [decide_eq_true_eq, decide_eq_false_iff_not, beq_iff_eq, beq_eq_false_iff_ne, bne_iff_ne, bne_eq_false_iff_eq, Bool.not_eq_true', Bool.not_eq_false', Bool.not_eq_true, Bool.not_eq_false, ne_eq, Bool.and_eq_true, Bool.or_eq_true, Bool.and_eq_false_iff, Bool.or_eq_false_iff, reduceCtorEq, Int.not_lt, Int.not_le] at h11
                    refine ⟨?_, ?_⟩
                    · refine ⟨0, ?_⟩; (repeat' (first | exact trivial | rfl | omega | assumption | apply And.intro))
                    intro x_2 q_2
                    refine ⟨?_, ?_⟩
                    · first | exact True.intro | rfl | omega | assumption | (dsimp only [D] at *; omega) | (simp only [I64, big] at *; omega) | (simp_all; done)
                    intro h12
                    refine ⟨fun h13 => ?_, fun h13 => ?_⟩
                    · try simp only [decide_eq_true_eq, decide_eq_false_iff_not, beq_iff_eq, beq_eq_false_iff_ne, bne_iff_ne, bne_eq_false_iff_eq, Bool.not_eq_true', Bool.not_eq_false', Bool.not_eq_true, Bool.not_eq_false, ne_eq, Bool.and_eq_true, Bool.or_eq_true, Bool.and_eq_false_iff, Bool.or_eq_false_iff, reduceCtorEq, Int.not_lt, Int.not_le] at h13
                      refine ⟨?_, ?_⟩
                      · first | exact True.intro | rfl | omega | assumption | (dsimp only [D] at *; omega) | (simp only [I64, big] at *; omega) | (simp_all; done)
                      refine ⟨?_, ?_⟩
                      · first | exact True.intro | rfl | omega | assumption | (dsimp only [D] at *; omega) | (simp only [I64, big] at *; omega) | (simp_all; done)
                      refine ⟨fun h14 => ?_, fun h14 => ?_⟩
                      · try simp only [decide_eq_true_eq, decide_eq_false_iff_not, beq_iff_eq, beq_eq_false_iff_ne, bne_iff_ne, bne_eq_false_iff_eq, Bool.not_eq_true', Bool.not_eq_false', Bool.not_eq_true, Bool.not_eq_false, ne_eq, Bool.and_eq_true, Bool.or_eq_true, Bool.and_eq_false_iff, Bool.or_eq_false_iff, reduceCtorEq, Int.not_lt, Int.not_le] at h14
                        intro h15
                        intro h16
                        refine ⟨?_, ?_⟩
                        · first | exact True.intro | rfl | omega | assumption | (dsimp only [D] at *; omega) | (simp only [I64, big] at *; omega) | (simp_all; done)
                        refine ⟨x_2 + 1, ?_⟩; (repeat' (first | exact trivial | rfl | omega | assumption | apply And.intro))
                      · try simp only [decide_eq_true_eq, decide_eq_false_iff_not, beq_iff_eq, beq_eq_false_iff_ne, bne_iff_ne, bne_eq_false_iff_eq, Bool.not_eq_true', Bool.not_eq_false', Bool.not_eq_true, Bool.not_eq_false, ne_eq, Bool.and_eq_true, Bool.or_eq_true, Bool.and_eq_false_iff, Bool.or_eq_false_iff, reduceCtorEq, Int.not_lt, Int.not_le] at h14
                        refine ⟨fun h15 => ?_, fun h15 => ?_⟩
                        · try simp only [decide_eq_true_eq, decide_eq_false_iff_not, beq_iff_eq, beq_eq_false_iff_ne, bne_iff_ne, bne_eq_false_iff_eq, Bool.not_eq_true', Bool.not_eq_false', Bool.not_eq_true, Bool.not_eq_false, ne_eq, Bool.and_eq_true, Bool.or_eq_true, Bool.and_eq_false_iff, Bool.or_eq_false_iff, reduceCtorEq, Int.not_lt, Int.not_le] at h15
                          exact absurd (posI (l := l) (s := s) (i := x_1) (k := x_2) (by omega) (by omega) (by assumption)) ((find_out (by omega)).2 x_1 x_2)
                        · try simp only [decide_eq_true_eq, decide_eq_false_iff_not, beq_iff_eq, beq_eq_false_iff_ne, bne_iff_ne, bne_eq_false_iff_eq, Bool.not_eq_true', Bool.not_eq_false', Bool.not_eq_true, Bool.not_eq_false, ne_eq, Bool.and_eq_true, Bool.or_eq_true, Bool.and_eq_false_iff, Bool.or_eq_false_iff, reduceCtorEq, Int.not_lt, Int.not_le] at h15
                          refine ⟨?_, ?_⟩
                          · first | exact True.intro | rfl | omega | assumption | (dsimp only [D] at *; omega) | (simp only [I64, big] at *; omega) | (simp_all; done)
                          refine ⟨?_, ?_⟩
                          · first | exact True.intro | rfl | omega | assumption | (dsimp only [D] at *; omega) | (simp only [I64, big] at *; omega) | (simp_all; done)
                          refine ⟨fun h16 => ?_, fun h16 => ?_⟩
                          · try simp only [decide_eq_true_eq, decide_eq_false_iff_not, beq_iff_eq, beq_eq_false_iff_ne, bne_iff_ne, bne_eq_false_iff_eq, Bool.not_eq_true', Bool.not_eq_false', Bool.not_eq_true, Bool.not_eq_false, ne_eq, Bool.and_eq_true, Bool.or_eq_true, Bool.and_eq_false_iff, Bool.or_eq_false_iff, reduceCtorEq, Int.not_lt, Int.not_le] at h16
                            refine ⟨fun h17 => ?_, fun h17 => ?_⟩
                            · try simp only [decide_eq_true_eq, decide_eq_false_iff_not, beq_iff_eq, beq_eq_false_iff_ne, bne_iff_ne, bne_eq_false_iff_eq, Bool.not_eq_true', Bool.not_eq_false', Bool.not_eq_true, Bool.not_eq_false, ne_eq, Bool.and_eq_true, Bool.or_eq_true, Bool.and_eq_false_iff, Bool.or_eq_false_iff, reduceCtorEq, Int.not_lt, Int.not_le] at h17
                              first | exact True.intro | rfl | omega | assumption | (dsimp only [D] at *; omega) | (simp only [I64, big] at *; omega) | (simp_all; done)
                            · try simp only [decide_eq_true_eq, decide_eq_false_iff_not, beq_iff_eq, beq_eq_false_iff_ne, bne_iff_ne, bne_eq_false_iff_eq, Bool.not_eq_true', Bool.not_eq_false', Bool.not_eq_true, Bool.not_eq_false, ne_eq, Bool.and_eq_true, Bool.or_eq_true, Bool.and_eq_false_iff, Bool.or_eq_false_iff, reduceCtorEq, Int.not_lt, Int.not_le] at h17
                              refine ⟨fun h18 => ?_, fun h18 => ?_⟩
                              · try simp only [decide_eq_true_eq, decide_eq_false_iff_not, beq_iff_eq, beq_eq_false_iff_ne, bne_iff_ne, bne_eq_false_iff_eq, Bool.not_eq_true', Bool.not_eq_false', Bool.not_eq_true, Bool.not_eq_false, ne_eq, Bool.and_eq_true, Bool.or_eq_true, Bool.and_eq_false_iff, Bool.or_eq_false_iff, reduceCtorEq, Int.not_lt, Int.not_le] at h18
                                first | exact True.intro | rfl | omega | assumption | (dsimp only [D] at *; omega) | (simp only [I64, big] at *; omega) | (simp_all; done)
                              · try simp only [decide_eq_true_eq, decide_eq_false_iff_not, beq_iff_eq, beq_eq_false_iff_ne, bne_iff_ne, bne_eq_false_iff_eq, Bool.not_eq_true', Bool.not_eq_false', Bool.not_eq_true, Bool.not_eq_false, ne_eq, Bool.and_eq_true, Bool.or_eq_true, Bool.and_eq_false_iff, Bool.or_eq_false_iff, reduceCtorEq, Int.not_lt, Int.not_le] at h18
                                intro h19
                                intro h20
                                refine ⟨?_, ?_⟩
                                · first | exact True.intro | rfl | omega | assumption | (dsimp only [D] at *; omega) | (simp only [I64, big] at *; omega) | (simp_all; done)
                                refine ⟨x_2 + 1, ?_⟩; (repeat' (first | exact trivial | rfl | omega | assumption | apply And.intro))
                          · try simp only [decide_eq_true_eq, decide_eq_false_iff_not, beq_iff_eq, beq_eq_false_iff_ne, bne_iff_ne, bne_eq_false_iff_eq, Bool.not_eq_true', Bool.not_eq_false', Bool.not_eq_true, Bool.not_eq_false, ne_eq, Bool.and_eq_true, Bool.or_eq_true, Bool.and_eq_false_iff, Bool.or_eq_false_iff, reduceCtorEq, Int.not_lt, Int.not_le] at h16
                            refine ⟨fun h17 => ?_, fun h17 => ?_⟩
                            · try simp only [decide_eq_true_eq, decide_eq_false_iff_not, beq_iff_eq, beq_eq_false_iff_ne, bne_iff_ne, bne_eq_false_iff_eq, Bool.not_eq_true', Bool.not_eq_false', Bool.not_eq_true, Bool.not_eq_false, ne_eq, Bool.and_eq_true, Bool.or_eq_true, Bool.and_eq_false_iff, Bool.or_eq_false_iff, reduceCtorEq, Int.not_lt, Int.not_le] at h17
                              refine ⟨fun h18 => ?_, fun h18 => ?_⟩
                              · try simp only [decide_eq_true_eq, decide_eq_false_iff_not, beq_iff_eq, beq_eq_false_iff_ne, bne_iff_ne, bne_eq_false_iff_eq, Bool.not_eq_true', Bool.not_eq_false', Bool.not_eq_true, Bool.not_eq_false, ne_eq, Bool.and_eq_true, Bool.or_eq_true, Bool.and_eq_false_iff, Bool.or_eq_false_iff, reduceCtorEq, Int.not_lt, Int.not_le] at h18
                                refine ⟨fun h19 => ?_, fun h19 => ?_⟩
                                · try simp only [decide_eq_true_eq, decide_eq_false_iff_not, beq_iff_eq, beq_eq_false_iff_ne, bne_iff_ne, bne_eq_false_iff_eq, Bool.not_eq_true', Bool.not_eq_false', Bool.not_eq_true, Bool.not_eq_false, ne_eq, Bool.and_eq_true, Bool.or_eq_true, Bool.and_eq_false_iff, Bool.or_eq_false_iff, reduceCtorEq, Int.not_lt, Int.not_le] at h19
                                  first | exact True.intro | rfl | omega | assumption | (dsimp only [D] at *; omega) | (simp only [I64, big] at *; omega) | (simp_all; done)
                                · try simp only [decide_eq_true_eq, decide_eq_false_iff_not, beq_iff_eq, beq_eq_false_iff_ne, bne_iff_ne, bne_eq_false_iff_eq, Bool.not_eq_true', Bool.not_eq_false', Bool.not_eq_true, Bool.not_eq_false, ne_eq, Bool.and_eq_true, Bool.or_eq_true, Bool.and_eq_false_iff, Bool.or_eq_false_iff, reduceCtorEq, Int.not_lt, Int.not_le] at h19
                                  refine ⟨fun h20 => ?_, fun h20 => ?_⟩
                                  · try simp only [decide_eq_true_eq, decide_eq_false_iff_not, beq_iff_eq, beq_eq_false_iff_ne, bne_iff_ne, bne_eq_false_iff_eq, Bool.not_eq_true', Bool.not_eq_false', Bool.not_eq_true, Bool.not_eq_false, ne_eq, Bool.and_eq_true, Bool.or_eq_true, Bool.and_eq_false_iff, Bool.or_eq_false_iff, reduceCtorEq, Int.not_lt, Int.not_le] at h20
                                    first | exact True.intro | rfl | omega | assumption | (dsimp only [D] at *; omega) | (simp only [I64, big] at *; omega) | (simp_all; done)
                                  · try simp only [decide_eq_true_eq, decide_eq_false_iff_not, beq_iff_eq, beq_eq_false_iff_ne, bne_iff_ne, bne_eq_false_iff_eq, Bool.not_eq_true', Bool.not_eq_false', Bool.not_eq_true, Bool.not_eq_false, ne_eq, Bool.and_eq_true, Bool.or_eq_true, Bool.and_eq_false_iff, Bool.or_eq_false_iff, reduceCtorEq, Int.not_lt, Int.not_le] at h20
                                    refine ⟨fun h21 => ?_, fun h21 => ?_⟩
                                    · try simp only [decide_eq_true_eq, decide_eq_false_iff_not, beq_iff_eq, beq_eq_false_iff_ne, bne_iff_ne, bne_eq_false_iff_eq, Bool.not_eq_true', Bool.not_eq_false', Bool.not_eq_true, Bool.not_eq_false, ne_eq, Bool.and_eq_true, Bool.or_eq_true, Bool.and_eq_false_iff, Bool.or_eq_false_iff, reduceCtorEq, Int.not_lt, Int.not_le] at h21
                                      refine ⟨fun h22 => ?_, fun h22 => ?_⟩
                                      · try simp only [decide_eq_true_eq, decide_eq_false_iff_not, beq_iff_eq, beq_eq_false_iff_ne, bne_iff_ne, bne_eq_false_iff_eq, Bool.not_eq_true', Bool.not_eq_false', Bool.not_eq_true, Bool.not_eq_false, ne_eq, Bool.and_eq_true, Bool.or_eq_true, Bool.and_eq_false_iff, Bool.or_eq_false_iff, reduceCtorEq, Int.not_lt, Int.not_le] at h22
                                        refine ⟨fun h23 => ?_, fun h23 => ?_⟩
                                        · try simp only [decide_eq_true_eq, decide_eq_false_iff_not, beq_iff_eq, beq_eq_false_iff_ne, bne_iff_ne, bne_eq_false_iff_eq, Bool.not_eq_true', Bool.not_eq_false', Bool.not_eq_true, Bool.not_eq_false, ne_eq, Bool.and_eq_true, Bool.or_eq_true, Bool.and_eq_false_iff, Bool.or_eq_false_iff, reduceCtorEq, Int.not_lt, Int.not_le] at h23
                                          first | exact True.intro | rfl | omega | assumption | (dsimp only [D] at *; omega) | (simp only [I64, big] at *; omega) | (simp_all; done)
                                        · try simp only [decide_eq_true_eq, decide_eq_false_iff_not, beq_iff_eq, beq_eq_false_iff_ne, bne_iff_ne, bne_eq_false_iff_eq, Bool.not_eq_true', Bool.not_eq_false', Bool.not_eq_true, Bool.not_eq_false, ne_eq, Bool.and_eq_true, Bool.or_eq_true, Bool.and_eq_false_iff, Bool.or_eq_false_iff, reduceCtorEq, Int.not_lt, Int.not_le] at h23
                                          intro h24
                                          intro h25
                                          refine ⟨?_, ?_⟩
                                          · first | exact True.intro | rfl | omega | assumption | (dsimp only [D] at *; omega) | (simp only [I64, big] at *; omega) | (simp_all; done)
                                          refine ⟨x_2 + 1, ?_⟩; (repeat' (first | exact trivial | rfl | omega | assumption | apply And.intro))
                                      · try simp only [decide_eq_true_eq, decide_eq_false_iff_not, beq_iff_eq, beq_eq_false_iff_ne, bne_iff_ne, bne_eq_false_iff_eq, Bool.not_eq_true', Bool.not_eq_false', Bool.not_eq_true, Bool.not_eq_false, ne_eq, Bool.and_eq_true, Bool.or_eq_true, Bool.and_eq_false_iff, Bool.or_eq_false_iff, reduceCtorEq, Int.not_lt, Int.not_le] at h22
                                        intro h23
                                        intro h24
                                        refine ⟨?_, ?_⟩
                                        · first | exact True.intro | rfl | omega | assumption | (dsimp only [D] at *; omega) | (simp only [I64, big] at *; omega) | (simp_all; done)
                                        refine ⟨x_2 + 1, ?_⟩; (repeat' (first | exact trivial | rfl | omega | assumption | apply And.intro))
                                    · try simp only [decide_eq_true_eq, decide_eq_false_iff_not, beq_iff_eq, beq_eq_false_iff_ne, bne_iff_ne, bne_eq_false_iff_eq, Bool.not_eq_true', Bool.not_eq_false', Bool.not_eq_true, Bool.not_eq_false, ne_eq, Bool.and_eq_true, Bool.or_eq_true, Bool.and_eq_false_iff, Bool.or_eq_false_iff, reduceCtorEq, Int.not_lt, Int.not_le] at h21
                                      intro h22
                                      intro h23
                                      refine ⟨?_, ?_⟩
                                      · first | exact True.intro | rfl | omega | assumption | (dsimp only [D] at *; omega) | (simp only [I64, big] at *; omega) | (simp_all; done)
                                      refine ⟨x_2 + 1, ?_⟩; (repeat' (first | exact trivial | rfl | omega | assumption | apply And.intro))
                              · try simp only [decide_eq_true_eq, decide_eq_false_iff_not, beq_iff_eq, beq_eq_false_iff_ne, bne_iff_ne, bne_eq_false_iff_eq, Bool.not_eq_true', Bool.not_eq_false', Bool.not_eq_true, Bool.not_eq_false, ne_eq, Bool.and_eq_true, Bool.or_eq_true, Bool.and_eq_false_iff, Bool.or_eq_false_iff, reduceCtorEq, Int.not_lt, Int.not_le] at h18
                                refine ⟨fun h19 => ?_, fun h19 => ?_⟩
                                · try simp only [decide_eq_true_eq, decide_eq_false_iff_not, beq_iff_eq, beq_eq_false_iff_ne, bne_iff_ne, bne_eq_false_iff_eq, Bool.not_eq_true', Bool.not_eq_false', Bool.not_eq_true, Bool.not_eq_false, ne_eq, Bool.and_eq_true, Bool.or_eq_true, Bool.and_eq_false_iff, Bool.or_eq_false_iff, reduceCtorEq, Int.not_lt, Int.not_le] at h19
                                  refine ⟨fun h20 => ?_, fun h20 => ?_⟩
                                  · try simp only [decide_eq_true_eq, decide_eq_false_iff_not, beq_iff_eq, beq_eq_false_iff_ne, bne_iff_ne, bne_eq_false_iff_eq, Bool.not_eq_true', Bool.not_eq_false', Bool.not_eq_true, Bool.not_eq_false, ne_eq, Bool.and_eq_true, Bool.or_eq_true, Bool.and_eq_false_iff, Bool.or_eq_false_iff, reduceCtorEq, Int.not_lt, Int.not_le] at h20
                                    refine ⟨fun h21 => ?_, fun h21 => ?_⟩
                                    · try simp only [decide_eq_true_eq, decide_eq_false_iff_not, beq_iff_eq, beq_eq_false_iff_ne, bne_iff_ne, bne_eq_false_iff_eq, Bool.not_eq_true', Bool.not_eq_false', Bool.not_eq_true, Bool.not_eq_false, ne_eq, Bool.and_eq_true, Bool.or_eq_true, Bool.and_eq_false_iff, Bool.or_eq_false_iff, reduceCtorEq, Int.not_lt, Int.not_le] at h21
                                      first | exact True.intro | rfl | omega | assumption | (dsimp only [D] at *; omega) | (simp only [I64, big] at *; omega) | (simp_all; done)
                                    · try simp only [decide_eq_true_eq, decide_eq_false_iff_not, beq_iff_eq, beq_eq_false_iff_ne, bne_iff_ne, bne_eq_false_iff_eq, Bool.not_eq_true', Bool.not_eq_false', Bool.not_eq_true, Bool.not_eq_false, ne_eq, Bool.and_eq_true, Bool.or_eq_true, Bool.and_eq_false_iff, Bool.or_eq_false_iff, reduceCtorEq, Int.not_lt, Int.not_le] at h21
                                      intro h22
                                      intro h23
                                      refine ⟨?_, ?_⟩
                                      · first | exact True.intro | rfl | omega | assumption | (dsimp only [D] at *; omega) | (simp only [I64, big] at *; omega) | (simp_all; done)
                                      refine ⟨x_2 + 1, ?_⟩; (repeat' (first | exact trivial | rfl | omega | assumption | apply And.intro))
                                  · try simp only [decide_eq_true_eq, decide_eq_false_iff_not, beq_iff_eq, beq_eq_false_iff_ne, bne_iff_ne, bne_eq_false_iff_eq, Bool.not_eq_true', Bool.not_eq_false', Bool.not_eq_true, Bool.not_eq_false, ne_eq, Bool.and_eq_true, Bool.or_eq_true, Bool.and_eq_false_iff, Bool.or_eq_false_iff, reduceCtorEq, Int.not_lt, Int.not_le] at h20
                                    intro h21
                                    intro h22
                                    refine ⟨?_, ?_⟩
                                    · first | exact True.intro | rfl | omega | assumption | (dsimp only [D] at *; omega) | (simp only [I64, big] at *; omega) | (simp_all; done)
                                    refine ⟨x_2 + 1, ?_⟩; (repeat' (first | exact trivial | rfl | omega | assumption | apply And.intro))
                                · try simp only [decide_eq_true_eq, decide_eq_false_iff_not, beq_iff_eq, beq_eq_false_iff_ne, bne_iff_ne, bne_eq_false_iff_eq, Bool.not_eq_true', Bool.not_eq_false', Bool.not_eq_true, Bool.not_eq_false, ne_eq, Bool.and_eq_true, Bool.or_eq_true, Bool.and_eq_false_iff, Bool.or_eq_false_iff, reduceCtorEq, Int.not_lt, Int.not_le] at h19
                                  intro h20
                                  intro h21
                                  refine ⟨?_, ?_⟩
                                  · first | exact True.intro | rfl | omega | assumption | (dsimp only [D] at *; omega) | (simp only [I64, big] at *; omega) | (simp_all; done)
                                  refine ⟨x_2 + 1, ?_⟩; (repeat' (first | exact trivial | rfl | omega | assumption | apply And.intro))
                            · try simp only [decide_eq_true_eq, decide_eq_false_iff_not, beq_iff_eq, beq_eq_false_iff_ne, bne_iff_ne, bne_eq_false_iff_eq, Bool.not_eq_true', Bool.not_eq_false', Bool.not_eq_true, Bool.not_eq_false, ne_eq, Bool.and_eq_true, Bool.or_eq_true, Bool.and_eq_false_iff, Bool.or_eq_false_iff, reduceCtorEq, Int.not_lt, Int.not_le] at h17
                              refine ⟨fun h18 => ?_, fun h18 => ?_⟩
                              · try simp only [decide_eq_true_eq, decide_eq_false_iff_not, beq_iff_eq, beq_eq_false_iff_ne, bne_iff_ne, bne_eq_false_iff_eq, Bool.not_eq_true', Bool.not_eq_false', Bool.not_eq_true, Bool.not_eq_false, ne_eq, Bool.and_eq_true, Bool.or_eq_true, Bool.and_eq_false_iff, Bool.or_eq_false_iff, reduceCtorEq, Int.not_lt, Int.not_le] at h18
                                refine ⟨fun h19 => ?_, fun h19 => ?_⟩
                                · try simp only [decide_eq_true_eq, decide_eq_false_iff_not, beq_iff_eq, beq_eq_false_iff_ne, bne_iff_ne, bne_eq_false_iff_eq, Bool.not_eq_true', Bool.not_eq_false', Bool.not_eq_true, Bool.not_eq_false, ne_eq, Bool.and_eq_true, Bool.or_eq_true, Bool.and_eq_false_iff, Bool.or_eq_false_iff, reduceCtorEq, Int.not_lt, Int.not_le] at h19
                                  first | exact True.intro | rfl | omega | assumption | (dsimp only [D] at *; omega) | (simp only [I64, big] at *; omega) | (simp_all; done)
                                · try simp only [decide_eq_true_eq, decide_eq_false_iff_not, beq_iff_eq, beq_eq_false_iff_ne, bne_iff_ne, bne_eq_false_iff_eq, Bool.not_eq_true', Bool.not_eq_false', Bool.not_eq_true, Bool.not_eq_false, ne_eq, Bool.and_eq_true, Bool.or_eq_true, Bool.and_eq_false_iff, Bool.or_eq_false_iff, reduceCtorEq, Int.not_lt, Int.not_le] at h19
                                  intro h20
                                  intro h21
                                  refine ⟨?_, ?_⟩
                                  · first | exact True.intro | rfl | omega | assumption | (dsimp only [D] at *; omega) | (simp only [I64, big] at *; omega) | (simp_all; done)
                                  refine ⟨x_2 + 1, ?_⟩; (repeat' (first | exact trivial | rfl | omega | assumption | apply And.intro))
                              · try simp only [decide_eq_true_eq, decide_eq_false_iff_not, beq_iff_eq, beq_eq_false_iff_ne, bne_iff_ne, bne_eq_false_iff_eq, Bool.not_eq_true', Bool.not_eq_false', Bool.not_eq_true, Bool.not_eq_false, ne_eq, Bool.and_eq_true, Bool.or_eq_true, Bool.and_eq_false_iff, Bool.or_eq_false_iff, reduceCtorEq, Int.not_lt, Int.not_le] at h18
                                intro h19
                                intro h20
                                refine ⟨?_, ?_⟩
                                · first | exact True.intro | rfl | omega | assumption | (dsimp only [D] at *; omega) | (simp only [I64, big] at *; omega) | (simp_all; done)
                                refine ⟨x_2 + 1, ?_⟩; (repeat' (first | exact trivial | rfl | omega | assumption | apply And.intro))
                    · try simp only [decide_eq_true_eq, decide_eq_false_iff_not, beq_iff_eq, beq_eq_false_iff_ne, bne_iff_ne, bne_eq_false_iff_eq, Bool.not_eq_true', Bool.not_eq_false', Bool.not_eq_true, Bool.not_eq_false, ne_eq, Bool.and_eq_true, Bool.or_eq_true, Bool.and_eq_false_iff, Bool.or_eq_false_iff, reduceCtorEq, Int.not_lt, Int.not_le] at h13
                      intro h14
                      intro h15
                      refine ⟨?_, ?_⟩
                      · first | exact True.intro | rfl | omega | assumption | (dsimp only [D] at *; omega) | (simp only [I64, big] at *; omega) | (simp_all; done)
                      refine ⟨x_1 + 1, ?_⟩; (repeat' (first | exact trivial | rfl | omega | assumption | apply And.intro))
                  · try simp only [decide_eq_true_eq, decide_eq_false_iff_not, beq_iff_eq, beq_eq_false_iff_ne, bne_iff_ne, bne_eq_false_iff_eq, Bool.not_eq_true', Bool.not_eq_false', Bool.not_eq_true, Bool.not_eq_false, ne_eq, Bool.and_eq_true, Bool.or_eq_true, Bool.and_eq_false_iff, Bool.or_eq_false_iff, reduceCtorEq, Int.not_lt, Int.not_le] at h11
                    first | exact True.intro | rfl | omega | assumption | (dsimp only [D] at *; omega) | (simp only [I64, big] at *; omega) | (simp_all; done)
              · try simp only [decide_eq_true_eq, decide_eq_false_iff_not, beq_iff_eq, beq_eq_false_iff_ne, bne_iff_ne, bne_eq_false_iff_eq, Bool.not_eq_true', Bool.not_eq_false', Bool.not_eq_true, Bool.not_eq_false, ne_eq, Bool.and_eq_true, Bool.or_eq_true, Bool.and_eq_false_iff, Bool.or_eq_false_iff, reduceCtorEq, Int.not_lt, Int.not_le] at h8
                refine ⟨?_, ?_⟩
                · refine ⟨0, ?_⟩; (repeat' (first | exact trivial | rfl | omega | assumption | apply And.intro))
                intro x_1 q_1
                intro h9
                refine ⟨fun h10 => ?_, fun h10 => ?_⟩
                · try simp only [decide_eq_true_eq, decide_eq_false_iff_not, beq_iff_eq, beq_eq_false_iff_ne, bne_iff_ne, bne_eq_false_iff_eq, Bool.not_eq_true', Bool.not_eq_false', Bool.not_eq_true, Bool.not_eq_false, ne_eq, Bool.and_eq_true, Bool.or_eq_true, Bool.and_eq_false_iff, Bool.or_eq_false_iff, reduceCtorEq, Int.not_lt, Int.not_le] at h10
                  refine ⟨?_, ?_⟩
                  · refine ⟨0, ?_⟩; (repeat' (first | exact trivial | rfl | omega | assumption | apply And.intro))
                  intro x_2 q_2
                  refine ⟨?_, ?_⟩
                  · first | exact True.intro | rfl | omega | assumption | (dsimp only [D] at *; omega) | (simp only [I64, big] at *; omega) | (simp_all; done)
                  intro h11
                  refine ⟨fun h12 => ?_, fun h12 => ?_⟩
                  · try simp only [decide_eq_true_eq, decide_eq_false_iff_not, beq_iff_eq, beq_eq_false_iff_ne, bne_iff_ne, bne_eq_false_iff_eq, Bool.not_eq_true', Bool.not_eq_false', Bool.not_eq_true, Bool.not_eq_false, ne_eq, Bool.and_eq_true, Bool.or_eq_true, Bool.and_eq_false_iff, Bool.or_eq_false_iff, reduceCtorEq, Int.not_lt, Int.not_le] at h12
                    refine ⟨?_, ?_⟩
                    · first | exact True.intro | rfl | omega | assumption | (dsimp only [D] at *; omega) | (simp only [I64, big] at *; omega) | (simp_all; done)
                    refine ⟨?_, ?_⟩
                    · first | exact True.intro | rfl | omega | assumption | (dsimp only [D] at *; omega) | (simp only [I64, big] at *; omega) | (simp_all; done)
                    refine ⟨fun h13 => ?_, fun h13 => ?_⟩
                    · try simp only [decide_eq_true_eq, decide_eq_false_iff_not, beq_iff_eq, beq_eq_false_iff_ne, bne_iff_ne, bne_eq_false_iff_eq, Bool.not_eq_true', Bool.not_eq_false', Bool.not_eq_true, Bool.not_eq_false, ne_eq, Bool.and_eq_true, Bool.or_eq_true, Bool.and_eq_false_iff, Bool.or_eq_false_iff, reduceCtorEq, Int.not_lt, Int.not_le] at h13
                      intro h14
                      intro h15
                      refine ⟨?_, ?_⟩
                      · first | exact True.intro | rfl | omega | assumption | (dsimp only [D] at *; omega) | (simp only [I64, big] at *; omega) | (simp_all; done)
                      refine ⟨x_2 + 1, ?_⟩; (repeat' (first | exact trivial | rfl | omega | assumption | apply And.intro))
                    · try simp only [decide_eq_true_eq, decide_eq_false_iff_not, beq_iff_eq, beq_eq_false_iff_ne, bne_iff_ne, bne_eq_false_iff_eq, Bool.not_eq_true', Bool.not_eq_false', Bool.not_eq_true, Bool.not_eq_false, ne_eq, Bool.and_eq_true, Bool.or_eq_true, Bool.and_eq_false_iff, Bool.or_eq_false_iff, reduceCtorEq, Int.not_lt, Int.not_le] at h13
                      refine ⟨fun h14 => ?_, fun h14 => ?_⟩
                      · try simp only [decide_eq_true_eq, decide_eq_false_iff_not, beq_iff_eq, beq_eq_false_iff_ne, bne_iff_ne, bne_eq_false_iff_eq, Bool.not_eq_true', Bool.not_eq_false', Bool.not_eq_true, Bool.not_eq_false, ne_eq, Bool.and_eq_true, Bool.or_eq_true, Bool.and_eq_false_iff, Bool.or_eq_false_iff, reduceCtorEq, Int.not_lt, Int.not_le] at h14
                        first | exact True.intro | rfl | omega | assumption | (dsimp only [D] at *; omega) | (simp only [I64, big] at *; omega) | (simp_all; done)
                      · try simp only [decide_eq_true_eq, decide_eq_false_iff_not, beq_iff_eq, beq_eq_false_iff_ne, bne_iff_ne, bne_eq_false_iff_eq, Bool.not_eq_true', Bool.not_eq_false', Bool.not_eq_true, Bool.not_eq_false, ne_eq, Bool.and_eq_true, Bool.or_eq_true, Bool.and_eq_false_iff, Bool.or_eq_false_iff, reduceCtorEq, Int.not_lt, Int.not_le] at h14
                        refine ⟨?_, ?_⟩
                        · first | exact True.intro | rfl | omega | assumption | (dsimp only [D] at *; omega) | (simp only [I64, big] at *; omega) | (simp_all; done)
                        refine ⟨?_, ?_⟩
                        · first | exact True.intro | rfl | omega | assumption | (dsimp only [D] at *; omega) | (simp only [I64, big] at *; omega) | (simp_all; done)
                        refine ⟨fun h15 => ?_, fun h15 => ?_⟩
                        · try simp only [decide_eq_true_eq, decide_eq_false_iff_not, beq_iff_eq, beq_eq_false_iff_ne, bne_iff_ne, bne_eq_false_iff_eq, Bool.not_eq_true', Bool.not_eq_false', Bool.not_eq_true, Bool.not_eq_false, ne_eq, Bool.and_eq_true, Bool.or_eq_true, Bool.and_eq_false_iff, Bool.or_eq_false_iff, reduceCtorEq, Int.not_lt, Int.not_le] at h15
                          refine ⟨fun h16 => ?_, fun h16 => ?_⟩
                          · try simp only [decide_eq_true_eq, decide_eq_false_iff_not, beq_iff_eq, beq_eq_false_iff_ne, bne_iff_ne, bne_eq_false_iff_eq, Bool.not_eq_true', Bool.not_eq_false', Bool.not_eq_true, Bool.not_eq_false, ne_eq, Bool.and_eq_true, Bool.or_eq_true, Bool.and_eq_false_iff, Bool.or_eq_false_iff, reduceCtorEq, Int.not_lt, Int.not_le] at h16
                            first | exact True.intro | rfl | omega | assumption | (dsimp only [D] at *; omega) | (simp only [I64, big] at *; omega) | (simp_all; done)
                          · try simp only [decide_eq_true_eq, decide_eq_false_iff_not, beq_iff_eq, beq_eq_false_iff_ne, bne_iff_ne, bne_eq_false_iff_eq, Bool.not_eq_true', Bool.not_eq_false', Bool.not_eq_true, Bool.not_eq_false, ne_eq, Bool.and_eq_true, Bool.or_eq_true, Bool.and_eq_false_iff, Bool.or_eq_false_iff, reduceCtorEq, Int.not_lt, Int.not_le] at h16
                            refine ⟨fun h17 => ?_, fun h17 => ?_⟩
                            · try simp only [decide_eq_true_eq, decide_eq_false_iff_not, beq_iff_eq, beq_eq_false_iff_ne, bne_iff_ne, bne_eq_false_iff_eq, Bool.not_eq_true', Bool.not_eq_false', Bool.not_eq_true, Bool.not_eq_false, ne_eq, Bool.and_eq_true, Bool.or_eq_true, Bool.and_eq_false_iff, Bool.or_eq_false_iff, reduceCtorEq, Int.not_lt, Int.not_le] at h17
                              first | exact True.intro | rfl | omega | assumption | (dsimp only [D] at *; omega) | (simp only [I64, big] at *; omega) | (simp_all; done)
                            · try simp only [decide_eq_true_eq, decide_eq_false_iff_not, beq_iff_eq, beq_eq_false_iff_ne, bne_iff_ne, bne_eq_false_iff_eq, Bool.not_eq_true', Bool.not_eq_false', Bool.not_eq_true, Bool.not_eq_false, ne_eq, Bool.and_eq_true, Bool.or_eq_true, Bool.and_eq_false_iff, Bool.or_eq_false_iff, reduceCtorEq, Int.not_lt, Int.not_le] at h17
                              intro h18
                              intro h19
                              refine ⟨?_, ?_⟩
                              · first | exact True.intro | rfl | omega | assumption | (dsimp only [D] at *; omega) | (simp only [I64, big] at *; omega) | (simp_all; done)
                              refine ⟨x_2 + 1, ?_⟩; (repeat' (first | exact trivial | rfl | omega | assumption | apply And.intro))
                        · try simp only [decide_eq_true_eq, decide_eq_false_iff_not, beq_iff_eq, beq_eq_false_iff_ne, bne_iff_ne, bne_eq_false_iff_eq, Bool.not_eq_true', Bool.not_eq_false', Bool.not_eq_true, Bool.not_eq_false, ne_eq, Bool.and_eq_true, Bool.or_eq_true, Bool.and_eq_false_iff, Bool.or_eq_false_iff, reduceCtorEq, Int.not_lt, Int.not_le] at h15
                          refine ⟨fun h16 => ?_, fun h16 => ?_⟩
                          · try simp only [decide_eq_true_eq, decide_eq_false_iff_not, beq_iff_eq, beq_eq_false_iff_ne, bne_iff_ne, bne_eq_false_iff_eq, Bool.not_eq_true', Bool.not_eq_false', Bool.not_eq_true, Bool.not_eq_false, ne_eq, Bool.and_eq_true, Bool.or_eq_true, Bool.and_eq_false_iff, Bool.or_eq_false_iff, reduceCtorEq, Int.not_lt, Int.not_le] at h16
                            refine ⟨fun h17 => ?_, fun h17 => ?_⟩
                            · try simp only [decide_eq_true_eq, decide_eq_false_iff_not, beq_iff_eq, beq_eq_false_iff_ne, bne_iff_ne, bne_eq_false_iff_eq, Bool.not_eq_true', Bool.not_eq_false', Bool.not_eq_true, Bool.not_eq_false, ne_eq, Bool.and_eq_true, Bool.or_eq_true, Bool.and_eq_false_iff, Bool.or_eq_false_iff, reduceCtorEq, Int.not_lt, Int.not_le] at h17
                              refine ⟨fun h18 => ?_, fun h18 => ?_⟩
                              · try simp only [decide_eq_true_eq, decide_eq_false_iff_not, beq_iff_eq, beq_eq_false_iff_ne, bne_iff_ne, bne_eq_false_iff_eq, Bool.not_eq_true', Bool.not_eq_false', Bool.not_eq_true, Bool.not_eq_false, ne_eq, Bool.and_eq_true, Bool.or_eq_true, Bool.and_eq_false_iff, Bool.or_eq_false_iff, reduceCtorEq, Int.not_lt, Int.not_le] at h18
                                first | exact True.intro | rfl | omega | assumption | (dsimp only [D] at *; omega) | (simp only [I64, big] at *; omega) | (simp_all; done)
                              · try simp only [decide_eq_true_eq, decide_eq_false_iff_not, beq_iff_eq, beq_eq_false_iff_ne, bne_iff_ne, bne_eq_false_iff_eq, Bool.not_eq_true', Bool.not_eq_false', Bool.not_eq_true, Bool.not_eq_false, ne_eq, Bool.and_eq_true, Bool.or_eq_true, Bool.and_eq_false_iff, Bool.or_eq_false_iff, reduceCtorEq, Int.not_lt, Int.not_le] at h18
                                refine ⟨fun h19 => ?_, fun h19 => ?_⟩
                                · try simp only [decide_eq_true_eq, decide_eq_false_iff_not, beq_iff_eq, beq_eq_false_iff_ne, bne_iff_ne, bne_eq_false_iff_eq, Bool.not_eq_true', Bool.not_eq_false', Bool.not_eq_true, Bool.not_eq_false, ne_eq, Bool.and_eq_true, Bool.or_eq_true, Bool.and_eq_false_iff, Bool.or_eq_false_iff, reduceCtorEq, Int.not_lt, Int.not_le] at h19
                                  first | exact True.intro | rfl | omega | assumption | (dsimp only [D] at *; omega) | (simp only [I64, big] at *; omega) | (simp_all; done)
                                · try simp only [decide_eq_true_eq, decide_eq_false_iff_not, beq_iff_eq, beq_eq_false_iff_ne, bne_iff_ne, bne_eq_false_iff_eq, Bool.not_eq_true', Bool.not_eq_false', Bool.not_eq_true, Bool.not_eq_false, ne_eq, Bool.and_eq_true, Bool.or_eq_true, Bool.and_eq_false_iff, Bool.or_eq_false_iff, reduceCtorEq, Int.not_lt, Int.not_le] at h19
                                  refine ⟨fun h20 => ?_, fun h20 => ?_⟩
                                  · try simp only [decide_eq_true_eq, decide_eq_false_iff_not, beq_iff_eq, beq_eq_false_iff_ne, bne_iff_ne, bne_eq_false_iff_eq, Bool.not_eq_true', Bool.not_eq_false', Bool.not_eq_true, Bool.not_eq_false, ne_eq, Bool.and_eq_true, Bool.or_eq_true, Bool.and_eq_false_iff, Bool.or_eq_false_iff, reduceCtorEq, Int.not_lt, Int.not_le] at h20
                                    refine ⟨fun h21 => ?_, fun h21 => ?_⟩
                                    · try simp only [decide_eq_true_eq, decide_eq_false_iff_not, beq_iff_eq, beq_eq_false_iff_ne, bne_iff_ne, bne_eq_false_iff_eq, Bool.not_eq_true', Bool.not_eq_false', Bool.not_eq_true, Bool.not_eq_false, ne_eq, Bool.and_eq_true, Bool.or_eq_true, Bool.and_eq_false_iff, Bool.or_eq_false_iff, reduceCtorEq, Int.not_lt, Int.not_le] at h21
                                      refine ⟨fun h22 => ?_, fun h22 => ?_⟩
                                      · try simp only [decide_eq_true_eq, decide_eq_false_iff_not, beq_iff_eq, beq_eq_false_iff_ne, bne_iff_ne, bne_eq_false_iff_eq, Bool.not_eq_true', Bool.not_eq_false', Bool.not_eq_true, Bool.not_eq_false, ne_eq, Bool.and_eq_true, Bool.or_eq_true, Bool.and_eq_false_iff, Bool.or_eq_false_iff, reduceCtorEq, Int.not_lt, Int.not_le] at h22
                                        first | exact True.intro | rfl | omega | assumption | (dsimp only [D] at *; omega) | (simp only [I64, big] at *; omega) | (simp_all; done)
                                      · try simp only [decide_eq_true_eq, decide_eq_false_iff_not, beq_iff_eq, beq_eq_false_iff_ne, bne_iff_ne, bne_eq_false_iff_eq, Bool.not_eq_true', Bool.not_eq_false', Bool.not_eq_true, Bool.not_eq_false, ne_eq, Bool.and_eq_true, Bool.or_eq_true, Bool.and_eq_false_iff, Bool.or_eq_false_iff, reduceCtorEq, Int.not_lt, Int.not_le] at h22
                                        intro h23
                                        intro h24
                                        refine ⟨?_, ?_⟩
                                        · first | exact True.intro | rfl | omega | assumption | (dsimp only [D] at *; omega) | (simp only [I64, big] at *; omega) | (simp_all; done)
                                        refine ⟨x_2 + 1, ?_⟩; (repeat' (first | exact trivial | rfl | omega | assumption | apply And.intro))
                                    · try simp only [decide_eq_true_eq, decide_eq_false_iff_not, beq_iff_eq, beq_eq_false_iff_ne, bne_iff_ne, bne_eq_false_iff_eq, Bool.not_eq_true', Bool.not_eq_false', Bool.not_eq_true, Bool.not_eq_false, ne_eq, Bool.and_eq_true, Bool.or_eq_true, Bool.and_eq_false_iff, Bool.or_eq_false_iff, reduceCtorEq, Int.not_lt, Int.not_le] at h21
                                      intro h22
                                      intro h23
                                      refine ⟨?_, ?_⟩
                                      · first | exact True.intro | rfl | omega | assumption | (dsimp only [D] at *; omega) | (simp only [I64, big] at *; omega) | (simp_all; done)
                                      refine ⟨x_2 + 1, ?_⟩; (repeat' (first | exact trivial | rfl | omega | assumption | apply And.intro))
                                  · try simp only [decide_eq_true_eq, decide_eq_false_iff_not, beq_iff_eq, beq_eq_false_iff_ne, bne_iff_ne, bne_eq_false_iff_eq, Bool.not_eq_true', Bool.not_eq_false', Bool.not_eq_true, Bool.not_eq_false, ne_eq, Bool.and_eq_true, Bool.or_eq_true, Bool.and_eq_false_iff, Bool.or_eq_false_iff, reduceCtorEq, Int.not_lt, Int.not_le] at h20
                                    intro h21
                                    intro h22
                                    refine ⟨?_, ?_⟩
                                    · first | exact True.intro | rfl | omega | assumption | (dsimp only [D] at *; omega) | (simp only [I64, big] at *; omega) | (simp_all; done)
                                    refine ⟨x_2 + 1, ?_⟩; (repeat' (first | exact trivial | rfl | omega | assumption | apply And.intro))
                            · try simp only [decide_eq_true_eq, decide_eq_false_iff_not, beq_iff_eq, beq_eq_false_iff_ne, bne_iff_ne, bne_eq_false_iff_eq, Bool.not_eq_true', Bool.not_eq_false', Bool.not_eq_true, Bool.not_eq_false, ne_eq, Bool.and_eq_true, Bool.or_eq_true, Bool.and_eq_false_iff, Bool.or_eq_false_iff, reduceCtorEq, Int.not_lt, Int.not_le] at h17
                              refine ⟨fun h18 => ?_, fun h18 => ?_⟩
                              · try simp only [decide_eq_true_eq, decide_eq_false_iff_not, beq_iff_eq, beq_eq_false_iff_ne, bne_iff_ne, bne_eq_false_iff_eq, Bool.not_eq_true', Bool.not_eq_false', Bool.not_eq_true, Bool.not_eq_false, ne_eq, Bool.and_eq_true, Bool.or_eq_true, Bool.and_eq_false_iff, Bool.or_eq_false_iff, reduceCtorEq, Int.not_lt, Int.not_le] at h18
                                refine ⟨fun h19 => ?_, fun h19 => ?_⟩
                                · try simp only [decide_eq_true_eq, decide_eq_false_iff_not, beq_iff_eq, beq_eq_false_iff_ne, bne_iff_ne, bne_eq_false_iff_eq, Bool.not_eq_true', Bool.not_eq_false', Bool.not_eq_true, Bool.not_eq_false, ne_eq, Bool.and_eq_true, Bool.or_eq_true, Bool.and_eq_false_iff, Bool.or_eq_false_iff, reduceCtorEq, Int.not_lt, Int.not_le] at h19
                                  refine ⟨fun h20 => ?_, fun h20 => ?_⟩
                                  · try simp only [decide_eq_true_eq, decide_eq_false_iff_not, beq_iff_eq, beq_eq_false_iff_ne, bne_iff_ne, bne_eq_false_iff_eq, Bool.not_eq_true', Bool.not_eq_false', Bool.not_eq_true, Bool.not_eq_false, ne_eq, Bool.and_eq_true, Bool.or_eq_true, Bool.and_eq_false_iff, Bool.or_eq_false_iff, reduceCtorEq, Int.not_lt, Int.not_le] at h20
                                    first | exact True.intro | rfl | omega | assumption | (dsimp only [D] at *; omega) | (simp only [I64, big] at *; omega) | (simp_all; done)
                                  · try simp only [decide_eq_true_eq, decide_eq_false_iff_not, beq_iff_eq, beq_eq_false_iff_ne, bne_iff_ne, bne_eq_false_iff_eq, Bool.not_eq_true', Bool.not_eq_false', Bool.not_eq_true, Bool.not_eq_false, ne_eq, Bool.and_eq_true, Bool.or_eq_true, Bool.and_eq_false_iff, Bool.or_eq_false_iff, reduceCtorEq, Int.not_lt, Int.not_le] at h20
                                    intro h21
                                    intro h22
                                    refine ⟨?_, ?_⟩
                                    · first | exact True.intro | rfl | omega | assumption | (dsimp only [D] at *; omega) | (simp only [I64, big] at *; omega) | (simp_all; done)
                                    refine ⟨x_2 + 1, ?_⟩; (repeat' (first | exact trivial | rfl | omega | assumption | apply And.intro))
                                · try simp only [decide_eq_true_eq, decide_eq_false_iff_not, beq_iff_eq, beq_eq_false_iff_ne, bne_iff_ne, bne_eq_false_iff_eq, Bool.not_eq_true', Bool.not_eq_false', Bool.not_eq_true, Bool.not_eq_false, ne_eq, Bool.and_eq_true, Bool.or_eq_true, Bool.and_eq_false_iff, Bool.or_eq_false_iff, reduceCtorEq, Int.not_lt, Int.not_le] at h19
                                  intro h20
                                  intro h21
                                  refine ⟨?_, ?_⟩
                                  · first | exact True.intro | rfl | omega | assumption | (dsimp only [D] at *; omega) | (simp only [I64, big] at *; omega) | (simp_all; done)
                                  refine ⟨x_2 + 1, ?_⟩; (repeat' (first | exact trivial | rfl | omega | assumption | apply And.intro))
                              · try simp only [decide_eq_true_eq, decide_eq_false_iff_not, beq_iff_eq, beq_eq_false_iff_ne, bne_iff_ne, bne_eq_false_iff_eq, Bool.not_eq_true', Bool.not_eq_false', Bool.not_eq_true, Bool.not_eq_false, ne_eq, Bool.and_eq_true, Bool.or_eq_true, Bool.and_eq_false_iff, Bool.or_eq_false_iff, reduceCtorEq, Int.not_lt, Int.not_le] at h18
                                intro h19
                                intro h20
                                refine ⟨?_, ?_⟩
                                · first | exact True.intro | rfl | omega | assumption | (dsimp only [D] at *; omega) | (simp only [I64, big] at *; omega) | (simp_all; done)
                                refine ⟨x_2 + 1, ?_⟩; (repeat' (first | exact trivial | rfl | omega | assumption | apply And.intro))
                          · try simp only [decide_eq_true_eq, decide_eq_false_iff_not, beq_iff_eq, beq_eq_false_iff_ne, bne_iff_ne, bne_eq_false_iff_eq, Bool.not_eq_true', Bool.not_eq_false', Bool.not_eq_true, Bool.not_eq_false, ne_eq, Bool.and_eq_true, Bool.or_eq_true, Bool.and_eq_false_iff, Bool.or_eq_false_iff, reduceCtorEq, Int.not_lt, Int.not_le] at h16
                            refine ⟨fun h17 => ?_, fun h17 => ?_⟩
                            · try simp only [decide_eq_true_eq, decide_eq_false_iff_not, beq_iff_eq, beq_eq_false_iff_ne, bne_iff_ne, bne_eq_false_iff_eq, Bool.not_eq_true', Bool.not_eq_false', Bool.not_eq_true, Bool.not_eq_false, ne_eq, Bool.and_eq_true, Bool.or_eq_true, Bool.and_eq_false_iff, Bool.or_eq_false_iff, reduceCtorEq, Int.not_lt, Int.not_le] at h17
                              refine ⟨fun h18 => ?_, fun h18 => ?_⟩
                              · try simp only [decide_eq_true_eq, decide_eq_false_iff_not, beq_iff_eq, beq_eq_false_iff_ne, bne_iff_ne, bne_eq_false_iff_eq, Bool.not_eq_true', Bool.not_eq_false', Bool.not_eq_true, Bool.not_eq_false, ne_eq, Bool.and_eq_true, Bool.or_eq_true, Bool.and_eq_false_iff, Bool.or_eq_false_iff, reduceCtorEq, Int.not_lt, Int.not_le] at h18
                                first | exact True.intro | rfl | omega | assumption | (dsimp only [D] at *; omega) | (simp only [I64, big] at *; omega) | (simp_all; done)
                              · try simp only [decide_eq_true_eq, decide_eq_false_iff_not, beq_iff_eq, beq_eq_false_iff_ne, bne_iff_ne, bne_eq_false_iff_eq, Bool.not_eq_true', Bool.not_eq_false', Bool.not_eq_true, Bool.not_eq_false, ne_eq, Bool.and_eq_true, Bool.or_eq_true, Bool.and_eq_false_iff, Bool.or_eq_false_iff, reduceCtorEq, Int.not_lt, Int.not_le] at h18
                                intro h19
                                intro h20
                                refine ⟨?_, ?_⟩
                                · first | exact True.intro | rfl | omega | assumption | (dsimp only [D] at *; omega) | (simp only [I64, big] at *; omega) | (simp_all; done)
                                refine ⟨x_2 + 1, ?_⟩; (repeat' (first | exact trivial | rfl | omega | assumption | apply And.intro))
                            · try simp only [decide_eq_true_eq, decide_eq_false_iff_not, beq_iff_eq, beq_eq_false_iff_ne, bne_iff_ne, bne_eq_false_iff_eq, Bool.not_eq_true', Bool.not_eq_false', Bool.not_eq_true, Bool.not_eq_false, ne_eq, Bool.and_eq_true, Bool.or_eq_true, Bool.and_eq_false_iff, Bool.or_eq_false_iff, reduceCtorEq, Int.not_lt, Int.not_le] at h17
                              intro h18
                              intro h19
                              refine ⟨?_, ?_⟩
                              · first | exact True.intro | rfl | omega | assumption | (dsimp only [D] at *; omega) | (simp only [I64, big] at *; omega) | (simp_all; done)
                              refine ⟨x_2 + 1, ?_⟩; (repeat' (first | exact trivial | rfl | omega | assumption | apply And.intro))
                  · try simp only [decide_eq_true_eq, decide_eq_false_iff_not, beq_iff_eq, beq_eq_false_iff_ne, bne_iff_ne, bne_eq_false_iff_eq, Bool.not_eq_true', Bool.not_eq_false', Bool.not_eq_true, Bool.not_eq_false, ne_eq, Bool.and_eq_true, Bool.or_eq_true, Bool.and_eq_false_iff, Bool.or_eq_false_iff, reduceCtorEq, Int.not_lt, Int.not_le] at h12
                    intro h13
                    intro h14
                    refine ⟨?_, ?_⟩
                    · first | exact True.intro | rfl | omega | assumption | (dsimp only [D] at *; omega) | (simp only [I64, big] at *; omega) | (simp_all; done)
                    refine ⟨x_1 + 1, ?_⟩; (repeat' (first | exact trivial | rfl | omega | assumption | apply And.intro))
                · try simp only [decide_eq_true_eq, decide_eq_false_iff_not, beq_iff_eq, beq_eq_false_iff_ne, bne_iff_ne, bne_eq_false_iff_eq, Bool.not_eq_true', Bool.not_eq_false', Bool.not_eq_true, Bool.not_eq_false, ne_eq, Bool.and_eq_true, Bool.or_eq_true, Bool.and_eq_false_iff, Bool.or_eq_false_iff, reduceCtorEq, Int.not_lt, Int.not_le] at h10
                  first | exact True.intro | rfl | omega | assumption | (dsimp only [D] at *; omega) | (simp only [I64, big] at *; omega) | (simp_all; done)
theorem Try.ok_TopFind : PureOK Try.prog Try.B.eT 4 [.slice tObject, .str] [.bool] (fun _ => True) (fun _ y => y = true) :=
  pure_fn (X := noExt) Try.scopeCtxOK Try.func4 (by kernel_rfl) (fun x => tfindAnn x.1 x.2) (fun x hw hp => vc_TopFind x.1 x.2 hw)
open Go.ChangeShapes Go.WideShapes Go.ChangeAt Go.RowKit in
set_option maxRecDepth 100000 in
theorem topFind_lifted (os : Os) (started : os.Started) (H : Type) (enc : TypeId × Value → H) :
    ReturnsInHanded {} Try.checked os 4 .any (Rows.topFindSpec.pre6 enc Try.prog Try.f4 Rows.topFindRow.domain false) (Rows.topFindSpec.post enc Try.prog Try.f4 false true false false) := by
  refine returnsInHanded_of_change (C := Try.checked) (by kernel_rfl) started (by kernel_rfl) Try.func4
    (ChangeSpec.witness6 (enc := enc) (C := Try.checked) false ⟨#[], #[.slice none 0 0, .string ⟨#[]⟩], []⟩ 8 (by kernel_rfl) (by kernel_rfl) (by kernel_rfl) (by kernel_rfl)) ?_
  intro W base args ds gs before hval hW hcnd _
  exact law_calls (C := Try.checked) (n := 16) rfl (by kernel_rfl) (fun ds h => by match ds, h with | [_, _], _ => rfl) (by kernel_rfl) (by kernel_rfl) (by kernel_rfl) (tb := 4) (by kernel_rfl) Try.ok_TopFind hval hW (fun _ _ => trivial)
open Go.ChangeShapes Go.WideShapes Go.ChangeAt Go.RowKit in
theorem topFind_holds : Rows.TopFindSaid :=
  OpenClaim.holds_of_wide 4 Try.f4 rfl rfl rfl rfl rfl rfl rfl ⟨rfl, rfl, rfl, rfl, rfl⟩ rfl rfl rfl rfl rfl (by kernel_rfl) Try.func4 (by kernel_rfl)
    (of_decide_eq_true (by kernel_rfl)) (by unfold Func.isWrapper; first | (rw [if_pos (by decide +kernel)]; kernel_rfl) | (rw [if_neg (by decide +kernel)]; exact ⟨rfl, rfl⟩))
    (fun os started H enc _ => topFind_lifted os started H enc)
#print axioms topFind_holds
end Go.Proofs.Ytgokjhhcfemnhab

