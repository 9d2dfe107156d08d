/- A part of the proof that the law TopWeak holds of the given program: facts that are used there. -/
import Derived.Test.YtgokjhhcfemnhabScope
import Derived.Test.YtgokjhhcfemnhabMrl15
import Derived.Test.YtgokjhhcfemnhabRows
set_option linter.unusedSimpArgs false
set_option linter.unusedVariables false
namespace Go.Proofs.Ytgokjhhcfemnhab
open Go.Vg Go.Mrl
/-! The law TopWeak. -/
def tweakAnn (l : List (D tObject)) (o : D tObject) (s : List UInt8) (a : Int) : Anns := [
  (0, fun st => { X := Nat × Bool × Bool, inv := fun x => x.1 ≤ o.2.2.1.length ∧ (x.2.1 = true ↔ ∃ k, k < x.1 ∧ (nth tSymbol o.2.2.1 k).1 = s) ∧ (x.2.2 = true ↔ ∃ k, k < x.1 ∧ (nth tSymbol o.2.2.1 k).1 = s ∧ (nth tSymbol o.2.2.1 k).2.2.1 = false), meas := fun x => o.2.2.1.length - x.1, slots := fun x => [(13, sI x.1), (11, sB x.2.1), (12, sB x.2.2)], keep := [0, 2, 3, 5, 8, 9, 10] })]
set_option maxRecDepth 100000 in
set_option maxHeartbeats 1000000 in
theorem vc_TopWeak (l : List (D tObject)) (o : D tObject) (s : List UInt8) (a : Int) (hw : wfL [.slice tObject, tObject, .str, .int .i64] (l, o, s, a)) : (fnVCs (hintB Try.B [100, 129]) Try.scopeCtx Try.f5 (tweakAnn l o s a) [.slice tObject, tObject, .str, .int .i64] [.bool] (fun _ y => y = true) (l, o, s, a)).holds := by
  refine holds_of (p :=
    (True) ∧
      ((((findS ([([], [], [([(120 : UInt8)], (0 : Int), true, ())], [], ())], [(120 : UInt8)])).fst != (0 : Int)) = true →
        (false = true)) ∧
      (((findS ([([], [], [([(120 : UInt8)], (0 : Int), true, ())], [], ())], [(120 : UInt8)])).fst != (0 : Int)) = false →
        ((((findS ([([], [], [([(120 : UInt8)], (0 : Int), true, ())], [], ())], [(120 : UInt8)])).snd != (0 : Int)) = true →
          (false = true)) ∧
        (((findS ([([], [], [([(120 : UInt8)], (0 : Int), true, ())], [], ())], [(120 : UInt8)])).snd != (0 : Int)) = false →
          (True) ∧
          (∀ x_0 : Bool,
          ((x_0 = true → LightOs l) →
          (((!x_0) = true →
            (true = true)) ∧
          ((!x_0) = false →
            (True) ∧
            (∀ x_1 : Bool,
            ((x_1 = true → LightO (o.fst, o.snd.fst, o.snd.snd.fst, o.snd.snd.snd.fst, ())) →
            (((!x_1) = true →
              (true = true)) ∧
            ((!x_1) = false →
              ((List.length s ≤ big) →
              (((decide ((↑(List.length s) : Int) > (20 : Int))) = true →
                (true = true)) ∧
              ((decide ((↑(List.length s) : Int) > (20 : Int))) = false →
                (∃ (x : Nat × Bool × Bool), (x.fst ≤ List.length o.snd.snd.fst ∧ (x.snd.fst = true ↔ ∃ (k : Nat), k < x.fst ∧ (nth tSymbol o.snd.snd.fst k).fst = s) ∧ (x.snd.snd = true ↔ ∃ (k : Nat), k < x.fst ∧ (nth tSymbol o.snd.snd.fst k).fst = s ∧ (nth tSymbol o.snd.snd.fst k).snd.snd.fst = false)) ∧ ((0 : Int) = (↑x.fst : Int) ∧ false = x.snd.fst ∧ false = x.snd.snd ∧ True) ∧ True) ∧
                (∀ x_2 : Nat × Bool × Bool,
                ((x_2.fst ≤ List.length o.snd.snd.fst ∧ (x_2.snd.fst = true ↔ ∃ (k : Nat), k < x_2.fst ∧ (nth tSymbol o.snd.snd.fst k).fst = s) ∧ (x_2.snd.snd = true ↔ ∃ (k : Nat), k < x_2.fst ∧ (nth tSymbol o.snd.snd.fst k).fst = s ∧ (nth tSymbol o.snd.snd.fst k).snd.snd.fst = false)) →
                ((List.length o.snd.snd.fst ≤ big) →
                (((decide ((↑x_2.fst : Int) < (↑(List.length o.snd.snd.fst) : Int))) = true →
                  (((x_2.snd.fst) = true →
                    (((x_2.snd.snd) = true →
                      ((I64 (↑x_2.fst : Int)) →
                      ((I64 (1 : Int)) →
                      (I64 ((↑x_2.fst : Int) + (1 : Int))) ∧
                      (∃ (x' : Nat × Bool × Bool), (x'.fst ≤ List.length o.snd.snd.fst ∧ (x'.snd.fst = true ↔ ∃ (k : Nat), k < x'.fst ∧ (nth tSymbol o.snd.snd.fst k).fst = s) ∧ (x'.snd.snd = true ↔ ∃ (k : Nat), k < x'.fst ∧ (nth tSymbol o.snd.snd.fst k).fst = s ∧ (nth tSymbol o.snd.snd.fst k).snd.snd.fst = false)) ∧ List.length o.snd.snd.fst - x'.fst < List.length o.snd.snd.fst - x_2.fst ∧ ((↑x_2.fst : Int) + (1 : Int) = (↑x'.fst : Int) ∧ true = x'.snd.fst ∧ true = x'.snd.snd ∧ True) ∧ (o.fst = o.fst ∧ o.snd.fst = o.snd.fst ∧ o.snd.snd.fst = o.snd.snd.fst ∧ o.snd.snd.snd.fst = o.snd.snd.snd.fst ∧ True) ∧ True)))) ∧
                    ((x_2.snd.snd) = false →
                      ((0 : Int) ≤ (↑x_2.fst : Int) ∧ (↑x_2.fst : Int) < (↑(List.length o.snd.snd.fst) : Int)) ∧
                      ((((nth tSymbol o.snd.snd.fst x_2.fst).fst == s) = true →
                        ((0 : Int) ≤ (↑x_2.fst : Int) ∧ (↑x_2.fst : Int) < (↑(List.length o.snd.snd.fst) : Int)) ∧
                        ((I64 (↑x_2.fst : Int)) →
                        ((I64 (1 : Int)) →
                        (I64 ((↑x_2.fst : Int) + (1 : Int))) ∧
                        (∃ (x' : Nat × Bool × Bool), (x'.fst ≤ List.length o.snd.snd.fst ∧ (x'.snd.fst = true ↔ ∃ (k : Nat), k < x'.fst ∧ (nth tSymbol o.snd.snd.fst k).fst = s) ∧ (x'.snd.snd = true ↔ ∃ (k : Nat), k < x'.fst ∧ (nth tSymbol o.snd.snd.fst k).fst = s ∧ (nth tSymbol o.snd.snd.fst k).snd.snd.fst = false)) ∧ List.length o.snd.snd.fst - x'.fst < List.length o.snd.snd.fst - x_2.fst ∧ ((↑x_2.fst : Int) + (1 : Int) = (↑x'.fst : Int) ∧ true = x'.snd.fst ∧ (!(nth tSymbol o.snd.snd.fst x_2.fst).snd.snd.fst) = x'.snd.snd ∧ True) ∧ (o.fst = o.fst ∧ o.snd.fst = o.snd.fst ∧ o.snd.snd.fst = o.snd.snd.fst ∧ o.snd.snd.snd.fst = o.snd.snd.snd.fst ∧ True) ∧ True)))) ∧
                      (((nth tSymbol o.snd.snd.fst x_2.fst).fst == s) = false →
                        ((I64 (↑x_2.fst : Int)) →
                        ((I64 (1 : Int)) →
                        (I64 ((↑x_2.fst : Int) + (1 : Int))) ∧
                        (∃ (x' : Nat × Bool × Bool), (x'.fst ≤ List.length o.snd.snd.fst ∧ (x'.snd.fst = true ↔ ∃ (k : Nat), k < x'.fst ∧ (nth tSymbol o.snd.snd.fst k).fst = s) ∧ (x'.snd.snd = true ↔ ∃ (k : Nat), k < x'.fst ∧ (nth tSymbol o.snd.snd.fst k).fst = s ∧ (nth tSymbol o.snd.snd.fst k).snd.snd.fst = false)) ∧ List.length o.snd.snd.fst - x'.fst < List.length o.snd.snd.fst - x_2.fst ∧ ((↑x_2.fst : Int) + (1 : Int) = (↑x'.fst : Int) ∧ true = x'.snd.fst ∧ false = x'.snd.snd ∧ True) ∧ (o.fst = o.fst ∧ o.snd.fst = o.snd.fst ∧ o.snd.snd.fst = o.snd.snd.fst ∧ o.snd.snd.snd.fst = o.snd.snd.snd.fst ∧ True) ∧ True)))))))) ∧
                  ((x_2.snd.fst) = false →
                    ((0 : Int) ≤ (↑x_2.fst : Int) ∧ (↑x_2.fst : Int) < (↑(List.length o.snd.snd.fst) : Int)) ∧
                    (((x_2.snd.snd) = true →
                      ((I64 (↑x_2.fst : Int)) →
                      ((I64 (1 : Int)) →
                      (I64 ((↑x_2.fst : Int) + (1 : Int))) ∧
                      (∃ (x' : Nat × Bool × Bool), (x'.fst ≤ List.length o.snd.snd.fst ∧ (x'.snd.fst = true ↔ ∃ (k : Nat), k < x'.fst ∧ (nth tSymbol o.snd.snd.fst k).fst = s) ∧ (x'.snd.snd = true ↔ ∃ (k : Nat), k < x'.fst ∧ (nth tSymbol o.snd.snd.fst k).fst = s ∧ (nth tSymbol o.snd.snd.fst k).snd.snd.fst = false)) ∧ List.length o.snd.snd.fst - x'.fst < List.length o.snd.snd.fst - x_2.fst ∧ ((↑x_2.fst : Int) + (1 : Int) = (↑x'.fst : Int) ∧ ((nth tSymbol o.snd.snd.fst x_2.fst).fst == s) = x'.snd.fst ∧ true = x'.snd.snd ∧ True) ∧ (o.fst = o.fst ∧ o.snd.fst = o.snd.fst ∧ o.snd.snd.fst = o.snd.snd.fst ∧ o.snd.snd.snd.fst = o.snd.snd.snd.fst ∧ True) ∧ True)))) ∧
                    ((x_2.snd.snd) = false →
                      ((0 : Int) ≤ (↑x_2.fst : Int) ∧ (↑x_2.fst : Int) < (↑(List.length o.snd.snd.fst) : Int)) ∧
                      ((((nth tSymbol o.snd.snd.fst x_2.fst).fst == s) = true →
                        ((0 : Int) ≤ (↑x_2.fst : Int) ∧ (↑x_2.fst : Int) < (↑(List.length o.snd.snd.fst) : Int)) ∧
                        ((I64 (↑x_2.fst : Int)) →
                        ((I64 (1 : Int)) →
                        (I64 ((↑x_2.fst : Int) + (1 : Int))) ∧
                        (∃ (x' : Nat × Bool × Bool), (x'.fst ≤ List.length o.snd.snd.fst ∧ (x'.snd.fst = true ↔ ∃ (k : Nat), k < x'.fst ∧ (nth tSymbol o.snd.snd.fst k).fst = s) ∧ (x'.snd.snd = true ↔ ∃ (k : Nat), k < x'.fst ∧ (nth tSymbol o.snd.snd.fst k).fst = s ∧ (nth tSymbol o.snd.snd.fst k).snd.snd.fst = false)) ∧ List.length o.snd.snd.fst - x'.fst < List.length o.snd.snd.fst - x_2.fst ∧ ((↑x_2.fst : Int) + (1 : Int) = (↑x'.fst : Int) ∧ ((nth tSymbol o.snd.snd.fst x_2.fst).fst == s) = x'.snd.fst ∧ (!(nth tSymbol o.snd.snd.fst x_2.fst).snd.snd.fst) = x'.snd.snd ∧ True) ∧ (o.fst = o.fst ∧ o.snd.fst = o.snd.fst ∧ o.snd.snd.fst = o.snd.snd.fst ∧ o.snd.snd.snd.fst = o.snd.snd.snd.fst ∧ True) ∧ True)))) ∧
                      (((nth tSymbol o.snd.snd.fst x_2.fst).fst == s) = false →
                        ((I64 (↑x_2.fst : Int)) →
                        ((I64 (1 : Int)) →
                        (I64 ((↑x_2.fst : Int) + (1 : Int))) ∧
                        (∃ (x' : Nat × Bool × Bool), (x'.fst ≤ List.length o.snd.snd.fst ∧ (x'.snd.fst = true ↔ ∃ (k : Nat), k < x'.fst ∧ (nth tSymbol o.snd.snd.fst k).fst = s) ∧ (x'.snd.snd = true ↔ ∃ (k : Nat), k < x'.fst ∧ (nth tSymbol o.snd.snd.fst k).fst = s ∧ (nth tSymbol o.snd.snd.fst k).snd.snd.fst = false)) ∧ List.length o.snd.snd.fst - x'.fst < List.length o.snd.snd.fst - x_2.fst ∧ ((↑x_2.fst : Int) + (1 : Int) = (↑x'.fst : Int) ∧ ((nth tSymbol o.snd.snd.fst x_2.fst).fst == s) = x'.snd.fst ∧ false = x'.snd.snd ∧ True) ∧ (o.fst = o.fst ∧ o.snd.fst = o.snd.fst ∧ o.snd.snd.fst = o.snd.snd.fst ∧ o.snd.snd.snd.fst = o.snd.snd.snd.fst ∧ True) ∧ True)))))))))) ∧
                ((decide ((↑x_2.fst : Int) < (↑(List.length o.snd.snd.fst) : Int))) = false →
                  (True) ∧
                  (((x_2.snd.snd) = true →
                    (true = true)) ∧
                  ((x_2.snd.snd) = false →
                    (((x_2.snd.fst) = true →
                      (((decide ((findS (l, s)).fst < (0 : Int))) = true →
                        (true = true)) ∧
                      ((decide ((findS (l, s)).fst < (0 : Int))) = false →
                        ((List.length l ≤ (1000000000 : Nat)) ∧
                          (l = l ∧ List.length l + List.length [(o.fst, o.snd.fst, o.snd.snd.fst, o.snd.snd.snd.fst, ())] ≤ (1000000000 : Nat)) ∧
                          (True) ∧
                          ((((findS (l ++ [(o.fst, o.snd.fst, o.snd.snd.fst, o.snd.snd.snd.fst, ())], s)).fst != (findS (l, s)).fst) = true →
                            (false = true)) ∧
                          (((findS (l ++ [(o.fst, o.snd.fst, o.snd.snd.fst, o.snd.snd.snd.fst, ())], s)).fst != (findS (l, s)).fst) = false →
                            ((((findS (l ++ [(o.fst, o.snd.fst, o.snd.snd.fst, o.snd.snd.snd.fst, ())], s)).snd != (findS (l, s)).snd) = true →
                              (false = true)) ∧
                            (((findS (l ++ [(o.fst, o.snd.fst, o.snd.snd.fst, o.snd.snd.snd.fst, ())], s)).snd != (findS (l, s)).snd) = false →
                              (((x_2.snd.fst) = true →
                                (true = true)) ∧
                              ((x_2.snd.fst) = false →
                                ((List.length l ≤ big) →
                                (((decide ((↑(List.length l) : Int) > (0 : Int))) = true →
                                  (∀ x_3 : Int,
                                  ((x_3 = IntKind.wrap IntKind.i64 (↑(BitVec.toNat (BitVec.ofInt (IntKind.bits IntKind.i64) a &&& BitVec.ofInt (IntKind.bits IntKind.i64) (1023 : Int))) : Int)) →
                                  ((List.length l ≤ big) →
                                  ((I64 (↑(List.length l) : Int)) →
                                  ((I64 (1 : Int)) →
                                  (I64 ((↑(List.length l) : Int) + (1 : Int))) ∧
                                  ((↑(List.length l) : Int) + (1 : Int) ≠ (0 : Int)) ∧
                                  (∀ x_4 : Int,
                                  ((x_4 = Int.tmod x_3 ((↑(List.length l) : Int) + (1 : Int))) →
                                  ((0 : Int) ≤ (0 : Int) ∧ (0 : Int) ≤ x_4 ∧ x_4 ≤ (↑(List.length l) : Int)) ∧
                                  ((List.length (List.drop (0 : Nat) (List.take (Int.toNat x_4) l)) ≤ (1000000000 : Nat)) ∧
                                    (List.drop (0 : Nat) (List.take (Int.toNat x_4) l) = List.drop (0 : Nat) (List.take (Int.toNat x_4) l) ∧ List.length (List.drop (0 : Nat) (List.take (Int.toNat x_4) l)) + List.length [(o.fst, o.snd.fst, o.snd.snd.fst, o.snd.snd.snd.fst, ())] ≤ (1000000000 : Nat)) ∧
                                    ((0 : Int) ≤ x_4 ∧ x_4 ≤ (↑(List.length l) : Int) ∧ (↑(List.length l) : Int) ≤ (↑(List.length l) : Int)) ∧
                                    (List.drop (0 : Nat) (List.take (Int.toNat x_4) l) ++ [(o.fst, o.snd.fst, o.snd.snd.fst, o.snd.snd.snd.fst, ())] = List.drop (0 : Nat) (List.take (Int.toNat x_4) l) ++ [(o.fst, o.snd.fst, o.snd.snd.fst, o.snd.snd.snd.fst, ())] ∧ List.length (List.drop (0 : Nat) (List.take (Int.toNat x_4) l) ++ [(o.fst, o.snd.fst, o.snd.snd.fst, o.snd.snd.snd.fst, ())]) + List.length (List.drop (Int.toNat x_4) (List.take (List.length l) l)) ≤ (1000000000 : Nat)) ∧
                                    (True) ∧
                                    (((decide ((findS (l, s)).fst ≥ x_4)) = true →
                                      ((I64 (findS (l, s)).fst) →
                                      ((I64 (1 : Int)) →
                                      (I64 ((findS (l, s)).fst + (1 : Int))) ∧
                                      ((((findS (List.drop (0 : Nat) (List.take (Int.toNat x_4) l) ++ [(o.fst, o.snd.fst, o.snd.snd.fst, o.snd.snd.snd.fst, ())] ++ List.drop (Int.toNat x_4) (List.take (List.length l) l), s)).fst == (findS (l, s)).fst + (1 : Int)) = true →
                                        (((findS (List.drop (0 : Nat) (List.take (Int.toNat x_4) l) ++ [(o.fst, o.snd.fst, o.snd.snd.fst, o.snd.snd.snd.fst, ())] ++ List.drop (Int.toNat x_4) (List.take (List.length l) l), s)).snd == (findS (l, s)).snd) = true)) ∧
                                      (((findS (List.drop (0 : Nat) (List.take (Int.toNat x_4) l) ++ [(o.fst, o.snd.fst, o.snd.snd.fst, o.snd.snd.snd.fst, ())] ++ List.drop (Int.toNat x_4) (List.take (List.length l) l), s)).fst == (findS (l, s)).fst + (1 : Int)) = false →
                                        (false = true)))))) ∧
                                    ((decide ((findS (l, s)).fst ≥ x_4)) = false →
                                      ((((findS (List.drop (0 : Nat) (List.take (Int.toNat x_4) l) ++ [(o.fst, o.snd.fst, o.snd.snd.fst, o.snd.snd.snd.fst, ())] ++ List.drop (Int.toNat x_4) (List.take (List.length l) l), s)).fst == (findS (l, s)).fst) = true →
                                        (((findS (List.drop (0 : Nat) (List.take (Int.toNat x_4) l) ++ [(o.fst, o.snd.fst, o.snd.snd.fst, o.snd.snd.snd.fst, ())] ++ List.drop (Int.toNat x_4) (List.take (List.length l) l), s)).snd == (findS (l, s)).snd) = true)) ∧
                                      (((findS (List.drop (0 : Nat) (List.take (Int.toNat x_4) l) ++ [(o.fst, o.snd.fst, o.snd.snd.fst, o.snd.snd.snd.fst, ())] ++ List.drop (Int.toNat x_4) (List.take (List.length l) l), s)).fst == (findS (l, s)).fst) = false →
                                        (false = true)))))) ∧
                                  (((List.length (List.drop (0 : Nat) (List.take (Int.toNat x_4) l)) ≤ (1000000000 : Nat)) ∧
                                    (List.drop (0 : Nat) (List.take (Int.toNat x_4) l) = List.drop (0 : Nat) (List.take (Int.toNat x_4) l) ∧ List.length (List.drop (0 : Nat) (List.take (Int.toNat x_4) l)) + List.length [(o.fst, o.snd.fst, o.snd.snd.fst, o.snd.snd.snd.fst, ())] ≤ (1000000000 : Nat)) ∧
                                    ((0 : Int) ≤ x_4 ∧ x_4 ≤ (↑(List.length l) : Int) ∧ (↑(List.length l) : Int) ≤ (↑(List.length l) : Int)) ∧
                                    (List.drop (0 : Nat) (List.take (Int.toNat x_4) l) ++ [(o.fst, o.snd.fst, o.snd.snd.fst, o.snd.snd.snd.fst, ())] = List.drop (0 : Nat) (List.take (Int.toNat x_4) l) ++ [(o.fst, o.snd.fst, o.snd.snd.fst, o.snd.snd.snd.fst, ())] ∧ List.length (List.drop (0 : Nat) (List.take (Int.toNat x_4) l) ++ [(o.fst, o.snd.fst, o.snd.snd.fst, o.snd.snd.snd.fst, ())]) + List.length (List.drop (Int.toNat x_4) (List.take (List.length l) l)) ≤ (1000000000 : Nat)) ∧
                                    (True) ∧
                                    (((decide ((findS (l, s)).fst ≥ x_4)) = true →
                                      ((I64 (findS (l, s)).fst) →
                                      ((I64 (1 : Int)) →
                                      (I64 ((findS (l, s)).fst + (1 : Int))) ∧
                                      ((((findS (List.drop (0 : Nat) (List.take (Int.toNat x_4) l) ++ [(o.fst, o.snd.fst, o.snd.snd.fst, o.snd.snd.snd.fst, ())] ++ List.drop (Int.toNat x_4) (List.take (List.length l) l), s)).fst == (findS (l, s)).fst + (1 : Int)) = true →
                                        (((findS (List.drop (0 : Nat) (List.take (Int.toNat x_4) l) ++ [(o.fst, o.snd.fst, o.snd.snd.fst, o.snd.snd.snd.fst, ())] ++ List.drop (Int.toNat x_4) (List.take (List.length l) l), s)).snd == (findS (l, s)).snd) = true)) ∧
                                      (((findS (List.drop (0 : Nat) (List.take (Int.toNat x_4) l) ++ [(o.fst, o.snd.fst, o.snd.snd.fst, o.snd.snd.snd.fst, ())] ++ List.drop (Int.toNat x_4) (List.take (List.length l) l), s)).fst == (findS (l, s)).fst + (1 : Int)) = false →
                                        (false = true)))))) ∧
                                    ((decide ((findS (l, s)).fst ≥ x_4)) = false →
                                      ((((findS (List.drop (0 : Nat) (List.take (Int.toNat x_4) l) ++ [(o.fst, o.snd.fst, o.snd.snd.fst, o.snd.snd.snd.fst, ())] ++ List.drop (Int.toNat x_4) (List.take (List.length l) l), s)).fst == (findS (l, s)).fst) = true →
                                        (((findS (List.drop (0 : Nat) (List.take (Int.toNat x_4) l) ++ [(o.fst, o.snd.fst, o.snd.snd.fst, o.snd.snd.snd.fst, ())] ++ List.drop (Int.toNat x_4) (List.take (List.length l) l), s)).snd == (findS (l, s)).snd) = true)) ∧
                                      (((findS (List.drop (0 : Nat) (List.take (Int.toNat x_4) l) ++ [(o.fst, o.snd.fst, o.snd.snd.fst, o.snd.snd.snd.fst, ())] ++ List.drop (Int.toNat x_4) (List.take (List.length l) l), s)).fst == (findS (l, s)).fst) = false →
                                        (false = true)))))) ∧
                                  ((List.length (List.drop (0 : Nat) (List.take (Int.toNat x_4) l)) ≤ (1000000000 : Nat)) ∧
                                    (List.drop (0 : Nat) (List.take (Int.toNat x_4) l) = List.drop (0 : Nat) (List.take (Int.toNat x_4) l) ∧ List.length (List.drop (0 : Nat) (List.take (Int.toNat x_4) l)) + List.length [(o.fst, o.snd.fst, o.snd.snd.fst, o.snd.snd.snd.fst, ())] ≤ (1000000000 : Nat)) ∧
                                    ((0 : Int) ≤ x_4 ∧ x_4 ≤ (↑(List.length l) : Int) ∧ (↑(List.length l) : Int) ≤ (↑(List.length l) : Int)) ∧
                                    (List.drop (0 : Nat) (List.take (Int.toNat x_4) l) ++ [(o.fst, o.snd.fst, o.snd.snd.fst, o.snd.snd.snd.fst, ())] = List.drop (0 : Nat) (List.take (Int.toNat x_4) l) ++ [(o.fst, o.snd.fst, o.snd.snd.fst, o.snd.snd.snd.fst, ())] ∧ List.length (List.drop (0 : Nat) (List.take (Int.toNat x_4) l) ++ [(o.fst, o.snd.fst, o.snd.snd.fst, o.snd.snd.snd.fst, ())]) + List.length (List.drop (Int.toNat x_4) (List.take (List.length l) l)) ≤ (1000000000 : Nat)) ∧
                                    (True) ∧
                                    (((decide ((findS (l, s)).fst ≥ x_4)) = true →
                                      ((I64 (findS (l, s)).fst) →
                                      ((I64 (1 : Int)) →
                                      (I64 ((findS (l, s)).fst + (1 : Int))) ∧
                                      ((((findS (List.drop (0 : Nat) (List.take (Int.toNat x_4) l) ++ [(o.fst, o.snd.fst, o.snd.snd.fst, o.snd.snd.snd.fst, ())] ++ List.drop (Int.toNat x_4) (List.take (List.length l) l), s)).fst == (findS (l, s)).fst + (1 : Int)) = true →
                                        (((findS (List.drop (0 : Nat) (List.take (Int.toNat x_4) l) ++ [(o.fst, o.snd.fst, o.snd.snd.fst, o.snd.snd.snd.fst, ())] ++ List.drop (Int.toNat x_4) (List.take (List.length l) l), s)).snd == (findS (l, s)).snd) = true)) ∧
                                      (((findS (List.drop (0 : Nat) (List.take (Int.toNat x_4) l) ++ [(o.fst, o.snd.fst, o.snd.snd.fst, o.snd.snd.snd.fst, ())] ++ List.drop (Int.toNat x_4) (List.take (List.length l) l), s)).fst == (findS (l, s)).fst + (1 : Int)) = false →
                                        (false = true)))))) ∧
                                    ((decide ((findS (l, s)).fst ≥ x_4)) = false →
                                      ((((findS (List.drop (0 : Nat) (List.take (Int.toNat x_4) l) ++ [(o.fst, o.snd.fst, o.snd.snd.fst, o.snd.snd.snd.fst, ())] ++ List.drop (Int.toNat x_4) (List.take (List.length l) l), s)).fst == (findS (l, s)).fst) = true →
                                        (((findS (List.drop (0 : Nat) (List.take (Int.toNat x_4) l) ++ [(o.fst, o.snd.fst, o.snd.snd.fst, o.snd.snd.snd.fst, ())] ++ List.drop (Int.toNat x_4) (List.take (List.length l) l), s)).snd == (findS (l, s)).snd) = true)) ∧
                                      (((findS (List.drop (0 : Nat) (List.take (Int.toNat x_4) l) ++ [(o.fst, o.snd.fst, o.snd.snd.fst, o.snd.snd.snd.fst, ())] ++ List.drop (Int.toNat x_4) (List.take (List.length l) l), s)).fst == (findS (l, s)).fst) = false →
                                        (false = true))))))))))))))) ∧
                                ((decide ((↑(List.length l) : Int) > (0 : Int))) = false →
                                  ((0 : Int) ≤ (0 : Int) ∧ (0 : Int) ≤ (0 : Int) ∧ (0 : Int) ≤ (↑(List.length l) : Int)) ∧
                                  ((List.length (List.drop (0 : Nat) (List.take (0 : Nat) l)) ≤ (1000000000 : Nat)) ∧
                                    (List.drop (0 : Nat) (List.take (0 : Nat) l) = List.drop (0 : Nat) (List.take (0 : Nat) l) ∧ List.length (List.drop (0 : Nat) (List.take (0 : Nat) l)) + List.length [(o.fst, o.snd.fst, o.snd.snd.fst, o.snd.snd.snd.fst, ())] ≤ (1000000000 : Nat)) ∧
                                    ((0 : Int) ≤ (0 : Int) ∧ (0 : Int) ≤ (↑(List.length l) : Int) ∧ (↑(List.length l) : Int) ≤ (↑(List.length l) : Int)) ∧
                                    (List.drop (0 : Nat) (List.take (0 : Nat) l) ++ [(o.fst, o.snd.fst, o.snd.snd.fst, o.snd.snd.snd.fst, ())] = List.drop (0 : Nat) (List.take (0 : Nat) l) ++ [(o.fst, o.snd.fst, o.snd.snd.fst, o.snd.snd.snd.fst, ())] ∧ List.length (List.drop (0 : Nat) (List.take (0 : Nat) l) ++ [(o.fst, o.snd.fst, o.snd.snd.fst, o.snd.snd.snd.fst, ())]) + List.length (List.drop (0 : Nat) (List.take (List.length l) l)) ≤ (1000000000 : Nat)) ∧
                                    (True) ∧
                                    (((decide ((findS (l, s)).fst ≥ (0 : Int))) = true →
                                      ((I64 (findS (l, s)).fst) →
                                      ((I64 (1 : Int)) →
                                      (I64 ((findS (l, s)).fst + (1 : Int))) ∧
                                      ((((findS (List.drop (0 : Nat) (List.take (0 : Nat) l) ++ [(o.fst, o.snd.fst, o.snd.snd.fst, o.snd.snd.snd.fst, ())] ++ List.drop (0 : Nat) (List.take (List.length l) l), s)).fst == (findS (l, s)).fst + (1 : Int)) = true →
                                        (((findS (List.drop (0 : Nat) (List.take (0 : Nat) l) ++ [(o.fst, o.snd.fst, o.snd.snd.fst, o.snd.snd.snd.fst, ())] ++ List.drop (0 : Nat) (List.take (List.length l) l), s)).snd == (findS (l, s)).snd) = true)) ∧
                                      (((findS (List.drop (0 : Nat) (List.take (0 : Nat) l) ++ [(o.fst, o.snd.fst, o.snd.snd.fst, o.snd.snd.snd.fst, ())] ++ List.drop (0 : Nat) (List.take (List.length l) l), s)).fst == (findS (l, s)).fst + (1 : Int)) = false →
                                        (false = true)))))) ∧
                                    ((decide ((findS (l, s)).fst ≥ (0 : Int))) = false →
                                      ((((findS (List.drop (0 : Nat) (List.take (0 : Nat) l) ++ [(o.fst, o.snd.fst, o.snd.snd.fst, o.snd.snd.snd.fst, ())] ++ List.drop (0 : Nat) (List.take (List.length l) l), s)).fst == (findS (l, s)).fst) = true →
                                        (((findS (List.drop (0 : Nat) (List.take (0 : Nat) l) ++ [(o.fst, o.snd.fst, o.snd.snd.fst, o.snd.snd.snd.fst, ())] ++ List.drop (0 : Nat) (List.take (List.length l) l), s)).snd == (findS (l, s)).snd) = true)) ∧
                                      (((findS (List.drop (0 : Nat) (List.take (0 : Nat) l) ++ [(o.fst, o.snd.fst, o.snd.snd.fst, o.snd.snd.snd.fst, ())] ++ List.drop (0 : Nat) (List.take (List.length l) l), s)).fst == (findS (l, s)).fst) = false →
                                        (false = true)))))) ∧
                                  (((List.length (List.drop (0 : Nat) (List.take (0 : Nat) l)) ≤ (1000000000 : Nat)) ∧
                                    (List.drop (0 : Nat) (List.take (0 : Nat) l) = List.drop (0 : Nat) (List.take (0 : Nat) l) ∧ List.length (List.drop (0 : Nat) (List.take (0 : Nat) l)) + List.length [(o.fst, o.snd.fst, o.snd.snd.fst, o.snd.snd.snd.fst, ())] ≤ (1000000000 : Nat)) ∧
                                    ((0 : Int) ≤ (0 : Int) ∧ (0 : Int) ≤ (↑(List.length l) : Int) ∧ (↑(List.length l) : Int) ≤ (↑(List.length l) : Int)) ∧
                                    (List.drop (0 : Nat) (List.take (0 : Nat) l) ++ [(o.fst, o.snd.fst, o.snd.snd.fst, o.snd.snd.snd.fst, ())] = List.drop (0 : Nat) (List.take (0 : Nat) l) ++ [(o.fst, o.snd.fst, o.snd.snd.fst, o.snd.snd.snd.fst, ())] ∧ List.length (List.drop (0 : Nat) (List.take (0 : Nat) l) ++ [(o.fst, o.snd.fst, o.snd.snd.fst, o.snd.snd.snd.fst, ())]) + List.length (List.drop (0 : Nat) (List.take (List.length l) l)) ≤ (1000000000 : Nat)) ∧
                                    (True) ∧
                                    (((decide ((findS (l, s)).fst ≥ (0 : Int))) = true →
                                      ((I64 (findS (l, s)).fst) →
                                      ((I64 (1 : Int)) →
                                      (I64 ((findS (l, s)).fst + (1 : Int))) ∧
                                      ((((findS (List.drop (0 : Nat) (List.take (0 : Nat) l) ++ [(o.fst, o.snd.fst, o.snd.snd.fst, o.snd.snd.snd.fst, ())] ++ List.drop (0 : Nat) (List.take (List.length l) l), s)).fst == (findS (l, s)).fst + (1 : Int)) = true →
                                        (((findS (List.drop (0 : Nat) (List.take (0 : Nat) l) ++ [(o.fst, o.snd.fst, o.snd.snd.fst, o.snd.snd.snd.fst, ())] ++ List.drop (0 : Nat) (List.take (List.length l) l), s)).snd == (findS (l, s)).snd) = true)) ∧
                                      (((findS (List.drop (0 : Nat) (List.take (0 : Nat) l) ++ [(o.fst, o.snd.fst, o.snd.snd.fst, o.snd.snd.snd.fst, ())] ++ List.drop (0 : Nat) (List.take (List.length l) l), s)).fst == (findS (l, s)).fst + (1 : Int)) = false →
                                        (false = true)))))) ∧
                                    ((decide ((findS (l, s)).fst ≥ (0 : Int))) = false →
                                      ((((findS (List.drop (0 : Nat) (List.take (0 : Nat) l) ++ [(o.fst, o.snd.fst, o.snd.snd.fst, o.snd.snd.snd.fst, ())] ++ List.drop (0 : Nat) (List.take (List.length l) l), s)).fst == (findS (l, s)).fst) = true →
                                        (((findS (List.drop (0 : Nat) (List.take (0 : Nat) l) ++ [(o.fst, o.snd.fst, o.snd.snd.fst, o.snd.snd.snd.fst, ())] ++ List.drop (0 : Nat) (List.take (List.length l) l), s)).snd == (findS (l, s)).snd) = true)) ∧
                                      (((findS (List.drop (0 : Nat) (List.take (0 : Nat) l) ++ [(o.fst, o.snd.fst, o.snd.snd.fst, o.snd.snd.snd.fst, ())] ++ List.drop (0 : Nat) (List.take (List.length l) l), s)).fst == (findS (l, s)).fst) = false →
                                        (false = true)))))) ∧
                                  ((List.length (List.drop (0 : Nat) (List.take (0 : Nat) l)) ≤ (1000000000 : Nat)) ∧
                                    (List.drop (0 : Nat) (List.take (0 : Nat) l) = List.drop (0 : Nat) (List.take (0 : Nat) l) ∧ List.length (List.drop (0 : Nat) (List.take (0 : Nat) l)) + List.length [(o.fst, o.snd.fst, o.snd.snd.fst, o.snd.snd.snd.fst, ())] ≤ (1000000000 : Nat)) ∧
                                    ((0 : Int) ≤ (0 : Int) ∧ (0 : Int) ≤ (↑(List.length l) : Int) ∧ (↑(List.length l) : Int) ≤ (↑(List.length l) : Int)) ∧
                                    (List.drop (0 : Nat) (List.take (0 : Nat) l) ++ [(o.fst, o.snd.fst, o.snd.snd.fst, o.snd.snd.snd.fst, ())] = List.drop (0 : Nat) (List.take (0 : Nat) l) ++ [(o.fst, o.snd.fst, o.snd.snd.fst, o.snd.snd.snd.fst, ())] ∧ List.length (List.drop (0 : Nat) (List.take (0 : Nat) l) ++ [(o.fst, o.snd.fst, o.snd.snd.fst, o.snd.snd.snd.fst, ())]) + List.length (List.drop (0 : Nat) (List.take (List.length l) l)) ≤ (1000000000 : Nat)) ∧
                                    (True) ∧
                                    (((decide ((findS (l, s)).fst ≥ (0 : Int))) = true →
                                      ((I64 (findS (l, s)).fst) →
                                      ((I64 (1 : Int)) →
                                      (I64 ((findS (l, s)).fst + (1 : Int))) ∧
                                      ((((findS (List.drop (0 : Nat) (List.take (0 : Nat) l) ++ [(o.fst, o.snd.fst, o.snd.snd.fst, o.snd.snd.snd.fst, ())] ++ List.drop (0 : Nat) (List.take (List.length l) l), s)).fst == (findS (l, s)).fst + (1 : Int)) = true →
                                        (((findS (List.drop (0 : Nat) (List.take (0 : Nat) l) ++ [(o.fst, o.snd.fst, o.snd.snd.fst, o.snd.snd.snd.fst, ())] ++ List.drop (0 : Nat) (List.take (List.length l) l), s)).snd == (findS (l, s)).snd) = true)) ∧
                                      (((findS (List.drop (0 : Nat) (List.take (0 : Nat) l) ++ [(o.fst, o.snd.fst, o.snd.snd.fst, o.snd.snd.snd.fst, ())] ++ List.drop (0 : Nat) (List.take (List.length l) l), s)).fst == (findS (l, s)).fst + (1 : Int)) = false →
                                        (false = true)))))) ∧
                                    ((decide ((findS (l, s)).fst ≥ (0 : Int))) = false →
                                      ((((findS (List.drop (0 : Nat) (List.take (0 : Nat) l) ++ [(o.fst, o.snd.fst, o.snd.snd.fst, o.snd.snd.snd.fst, ())] ++ List.drop (0 : Nat) (List.take (List.length l) l), s)).fst == (findS (l, s)).fst) = true →
                                        (((findS (List.drop (0 : Nat) (List.take (0 : Nat) l) ++ [(o.fst, o.snd.fst, o.snd.snd.fst, o.snd.snd.snd.fst, ())] ++ List.drop (0 : Nat) (List.take (List.length l) l), s)).snd == (findS (l, s)).snd) = true)) ∧
                                      (((findS (List.drop (0 : Nat) (List.take (0 : Nat) l) ++ [(o.fst, o.snd.fst, o.snd.snd.fst, o.snd.snd.snd.fst, ())] ++ List.drop (0 : Nat) (List.take (List.length l) l), s)).fst == (findS (l, s)).fst) = false →
                                        (false = true))))))))))))))))) ∧
                        (((List.length l ≤ (1000000000 : Nat)) ∧
                          (l = l ∧ List.length l + List.length [(o.fst, o.snd.fst, o.snd.snd.fst, o.snd.snd.snd.fst, ())] ≤ (1000000000 : Nat)) ∧
                          (True) ∧
                          ((((findS (l ++ [(o.fst, o.snd.fst, o.snd.snd.fst, o.snd.snd.snd.fst, ())], s)).fst != (findS (l, s)).fst) = true →
                            (false = true)) ∧
                          (((findS (l ++ [(o.fst, o.snd.fst, o.snd.snd.fst, o.snd.snd.snd.fst, ())], s)).fst != (findS (l, s)).fst) = false →
                            ((((findS (l ++ [(o.fst, o.snd.fst, o.snd.snd.fst, o.snd.snd.snd.fst, ())], s)).snd != (findS (l, s)).snd) = true →
                              (false = true)) ∧
                            (((findS (l ++ [(o.fst, o.snd.fst, o.snd.snd.fst, o.snd.snd.snd.fst, ())], s)).snd != (findS (l, s)).snd) = false →
                              (((x_2.snd.fst) = true →
                                (true = true)) ∧
                              ((x_2.snd.fst) = false →
                                ((List.length l ≤ big) →
                                (((decide ((↑(List.length l) : Int) > (0 : Int))) = true →
                                  (∀ x_3 : Int,
                                  ((x_3 = IntKind.wrap IntKind.i64 (↑(BitVec.toNat (BitVec.ofInt (IntKind.bits IntKind.i64) a &&& BitVec.ofInt (IntKind.bits IntKind.i64) (1023 : Int))) : Int)) →
                                  ((List.length l ≤ big) →
                                  ((I64 (↑(List.length l) : Int)) →
                                  ((I64 (1 : Int)) →
                                  (I64 ((↑(List.length l) : Int) + (1 : Int))) ∧
                                  ((↑(List.length l) : Int) + (1 : Int) ≠ (0 : Int)) ∧
                                  (∀ x_4 : Int,
                                  ((x_4 = Int.tmod x_3 ((↑(List.length l) : Int) + (1 : Int))) →
                                  ((0 : Int) ≤ (0 : Int) ∧ (0 : Int) ≤ x_4 ∧ x_4 ≤ (↑(List.length l) : Int)) ∧
                                  ((List.length (List.drop (0 : Nat) (List.take (Int.toNat x_4) l)) ≤ (1000000000 : Nat)) ∧
                                    (List.drop (0 : Nat) (List.take (Int.toNat x_4) l) = List.drop (0 : Nat) (List.take (Int.toNat x_4) l) ∧ List.length (List.drop (0 : Nat) (List.take (Int.toNat x_4) l)) + List.length [(o.fst, o.snd.fst, o.snd.snd.fst, o.snd.snd.snd.fst, ())] ≤ (1000000000 : Nat)) ∧
                                    ((0 : Int) ≤ x_4 ∧ x_4 ≤ (↑(List.length l) : Int) ∧ (↑(List.length l) : Int) ≤ (↑(List.length l) : Int)) ∧
                                    (List.drop (0 : Nat) (List.take (Int.toNat x_4) l) ++ [(o.fst, o.snd.fst, o.snd.snd.fst, o.snd.snd.snd.fst, ())] = List.drop (0 : Nat) (List.take (Int.toNat x_4) l) ++ [(o.fst, o.snd.fst, o.snd.snd.fst, o.snd.snd.snd.fst, ())] ∧ List.length (List.drop (0 : Nat) (List.take (Int.toNat x_4) l) ++ [(o.fst, o.snd.fst, o.snd.snd.fst, o.snd.snd.snd.fst, ())]) + List.length (List.drop (Int.toNat x_4) (List.take (List.length l) l)) ≤ (1000000000 : Nat)) ∧
                                    (True) ∧
                                    (((decide ((findS (l, s)).fst ≥ x_4)) = true →
                                      ((I64 (findS (l, s)).fst) →
                                      ((I64 (1 : Int)) →
                                      (I64 ((findS (l, s)).fst + (1 : Int))) ∧
                                      ((((findS (List.drop (0 : Nat) (List.take (Int.toNat x_4) l) ++ [(o.fst, o.snd.fst, o.snd.snd.fst, o.snd.snd.snd.fst, ())] ++ List.drop (Int.toNat x_4) (List.take (List.length l) l), s)).fst == (findS (l, s)).fst + (1 : Int)) = true →
                                        (((findS (List.drop (0 : Nat) (List.take (Int.toNat x_4) l) ++ [(o.fst, o.snd.fst, o.snd.snd.fst, o.snd.snd.snd.fst, ())] ++ List.drop (Int.toNat x_4) (List.take (List.length l) l), s)).snd == (findS (l, s)).snd) = true)) ∧
                                      (((findS (List.drop (0 : Nat) (List.take (Int.toNat x_4) l) ++ [(o.fst, o.snd.fst, o.snd.snd.fst, o.snd.snd.snd.fst, ())] ++ List.drop (Int.toNat x_4) (List.take (List.length l) l), s)).fst == (findS (l, s)).fst + (1 : Int)) = false →
                                        (false = true)))))) ∧
                                    ((decide ((findS (l, s)).fst ≥ x_4)) = false →
                                      ((((findS (List.drop (0 : Nat) (List.take (Int.toNat x_4) l) ++ [(o.fst, o.snd.fst, o.snd.snd.fst, o.snd.snd.snd.fst, ())] ++ List.drop (Int.toNat x_4) (List.take (List.length l) l), s)).fst == (findS (l, s)).fst) = true →
                                        (((findS (List.drop (0 : Nat) (List.take (Int.toNat x_4) l) ++ [(o.fst, o.snd.fst, o.snd.snd.fst, o.snd.snd.snd.fst, ())] ++ List.drop (Int.toNat x_4) (List.take (List.length l) l), s)).snd == (findS (l, s)).snd) = true)) ∧
                                      (((findS (List.drop (0 : Nat) (List.take (Int.toNat x_4) l) ++ [(o.fst, o.snd.fst, o.snd.snd.fst, o.snd.snd.snd.fst, ())] ++ List.drop (Int.toNat x_4) (List.take (List.length l) l), s)).fst == (findS (l, s)).fst) = false →
                                        (false = true)))))) ∧
                                  (((List.length (List.drop (0 : Nat) (List.take (Int.toNat x_4) l)) ≤ (1000000000 : Nat)) ∧
                                    (List.drop (0 : Nat) (List.take (Int.toNat x_4) l) = List.drop (0 : Nat) (List.take (Int.toNat x_4) l) ∧ List.length (List.drop (0 : Nat) (List.take (Int.toNat x_4) l)) + List.length [(o.fst, o.snd.fst, o.snd.snd.fst, o.snd.snd.snd.fst, ())] ≤ (1000000000 : Nat)) ∧
                                    ((0 : Int) ≤ x_4 ∧ x_4 ≤ (↑(List.length l) : Int) ∧ (↑(List.length l) : Int) ≤ (↑(List.length l) : Int)) ∧
                                    (List.drop (0 : Nat) (List.take (Int.toNat x_4) l) ++ [(o.fst, o.snd.fst, o.snd.snd.fst, o.snd.snd.snd.fst, ())] = List.drop (0 : Nat) (List.take (Int.toNat x_4) l) ++ [(o.fst, o.snd.fst, o.snd.snd.fst, o.snd.snd.snd.fst, ())] ∧ List.length (List.drop (0 : Nat) (List.take (Int.toNat x_4) l) ++ [(o.fst, o.snd.fst, o.snd.snd.fst, o.snd.snd.snd.fst, ())]) + List.length (List.drop (Int.toNat x_4) (List.take (List.length l) l)) ≤ (1000000000 : Nat)) ∧
                                    (True) ∧
                                    (((decide ((findS (l, s)).fst ≥ x_4)) = true →
                                      ((I64 (findS (l, s)).fst) →
                                      ((I64 (1 : Int)) →
                                      (I64 ((findS (l, s)).fst + (1 : Int))) ∧
                                      ((((findS (List.drop (0 : Nat) (List.take (Int.toNat x_4) l) ++ [(o.fst, o.snd.fst, o.snd.snd.fst, o.snd.snd.snd.fst, ())] ++ List.drop (Int.toNat x_4) (List.take (List.length l) l), s)).fst == (findS (l, s)).fst + (1 : Int)) = true →
                                        (((findS (List.drop (0 : Nat) (List.take (Int.toNat x_4) l) ++ [(o.fst, o.snd.fst, o.snd.snd.fst, o.snd.snd.snd.fst, ())] ++ List.drop (Int.toNat x_4) (List.take (List.length l) l), s)).snd == (findS (l, s)).snd) = true)) ∧
                                      (((findS (List.drop (0 : Nat) (List.take (Int.toNat x_4) l) ++ [(o.fst, o.snd.fst, o.snd.snd.fst, o.snd.snd.snd.fst, ())] ++ List.drop (Int.toNat x_4) (List.take (List.length l) l), s)).fst == (findS (l, s)).fst + (1 : Int)) = false →
                                        (false = true)))))) ∧
                                    ((decide ((findS (l, s)).fst ≥ x_4)) = false →
                                      ((((findS (List.drop (0 : Nat) (List.take (Int.toNat x_4) l) ++ [(o.fst, o.snd.fst, o.snd.snd.fst, o.snd.snd.snd.fst, ())] ++ List.drop (Int.toNat x_4) (List.take (List.length l) l), s)).fst == (findS (l, s)).fst) = true →
                                        (((findS (List.drop (0 : Nat) (List.take (Int.toNat x_4) l) ++ [(o.fst, o.snd.fst, o.snd.snd.fst, o.snd.snd.snd.fst, ())] ++ List.drop (Int.toNat x_4) (List.take (List.length l) l), s)).snd == (findS (l, s)).snd) = true)) ∧
                                      (((findS (List.drop (0 : Nat) (List.take (Int.toNat x_4) l) ++ [(o.fst, o.snd.fst, o.snd.snd.fst, o.snd.snd.snd.fst, ())] ++ List.drop (Int.toNat x_4) (List.take (List.length l) l), s)).fst == (findS (l, s)).fst) = false →
                                        (false = true)))))) ∧
                                  ((List.length (List.drop (0 : Nat) (List.take (Int.toNat x_4) l)) ≤ (1000000000 : Nat)) ∧
                                    (List.drop (0 : Nat) (List.take (Int.toNat x_4) l) = List.drop (0 : Nat) (List.take (Int.toNat x_4) l) ∧ List.length (List.drop (0 : Nat) (List.take (Int.toNat x_4) l)) + List.length [(o.fst, o.snd.fst, o.snd.snd.fst, o.snd.snd.snd.fst, ())] ≤ (1000000000 : Nat)) ∧
                                    ((0 : Int) ≤ x_4 ∧ x_4 ≤ (↑(List.length l) : Int) ∧ (↑(List.length l) : Int) ≤ (↑(List.length l) : Int)) ∧
                                    (List.drop (0 : Nat) (List.take (Int.toNat x_4) l) ++ [(o.fst, o.snd.fst, o.snd.snd.fst, o.snd.snd.snd.fst, ())] = List.drop (0 : Nat) (List.take (Int.toNat x_4) l) ++ [(o.fst, o.snd.fst, o.snd.snd.fst, o.snd.snd.snd.fst, ())] ∧ List.length (List.drop (0 : Nat) (List.take (Int.toNat x_4) l) ++ [(o.fst, o.snd.fst, o.snd.snd.fst, o.snd.snd.snd.fst, ())]) + List.length (List.drop (Int.toNat x_4) (List.take (List.length l) l)) ≤ (1000000000 : Nat)) ∧
                                    (True) ∧
                                    (((decide ((findS (l, s)).fst ≥ x_4)) = true →
                                      ((I64 (findS (l, s)).fst) →
                                      ((I64 (1 : Int)) →
                                      (I64 ((findS (l, s)).fst + (1 : Int))) ∧
                                      ((((findS (List.drop (0 : Nat) (List.take (Int.toNat x_4) l) ++ [(o.fst, o.snd.fst, o.snd.snd.fst, o.snd.snd.snd.fst, ())] ++ List.drop (Int.toNat x_4) (List.take (List.length l) l), s)).fst == (findS (l, s)).fst + (1 : Int)) = true →
                                        (((findS (List.drop (0 : Nat) (List.take (Int.toNat x_4) l) ++ [(o.fst, o.snd.fst, o.snd.snd.fst, o.snd.snd.snd.fst, ())] ++ List.drop (Int.toNat x_4) (List.take (List.length l) l), s)).snd == (findS (l, s)).snd) = true)) ∧
                                      (((findS (List.drop (0 : Nat) (List.take (Int.toNat x_4) l) ++ [(o.fst, o.snd.fst, o.snd.snd.fst, o.snd.snd.snd.fst, ())] ++ List.drop (Int.toNat x_4) (List.take (List.length l) l), s)).fst == (findS (l, s)).fst + (1 : Int)) = false →
                                        (false = true)))))) ∧
                                    ((decide ((findS (l, s)).fst ≥ x_4)) = false →
                                      ((((findS (List.drop (0 : Nat) (List.take (Int.toNat x_4) l) ++ [(o.fst, o.snd.fst, o.snd.snd.fst, o.snd.snd.snd.fst, ())] ++ List.drop (Int.toNat x_4) (List.take (List.length l) l), s)).fst == (findS (l, s)).fst) = true →
                                        (((findS (List.drop (0 : Nat) (List.take (Int.toNat x_4) l) ++ [(o.fst, o.snd.fst, o.snd.snd.fst, o.snd.snd.snd.fst, ())] ++ List.drop (Int.toNat x_4) (List.take (List.length l) l), s)).snd == (findS (l, s)).snd) = true)) ∧
                                      (((findS (List.drop (0 : Nat) (List.take (Int.toNat x_4) l) ++ [(o.fst, o.snd.fst, o.snd.snd.fst, o.snd.snd.snd.fst, ())] ++ List.drop (Int.toNat x_4) (List.take (List.length l) l), s)).fst == (findS (l, s)).fst) = false →
                                        (false = true))))))))))))))) ∧
                                ((decide ((↑(List.length l) : Int) > (0 : Int))) = false →
                                  ((0 : Int) ≤ (0 : Int) ∧ (0 : Int) ≤ (0 : Int) ∧ (0 : Int) ≤ (↑(List.length l) : Int)) ∧
                                  ((List.length (List.drop (0 : Nat) (List.take (0 : Nat) l)) ≤ (1000000000 : Nat)) ∧
                                    (List.drop (0 : Nat) (List.take (0 : Nat) l) = List.drop (0 : Nat) (List.take (0 : Nat) l) ∧ List.length (List.drop (0 : Nat) (List.take (0 : Nat) l)) + List.length [(o.fst, o.snd.fst, o.snd.snd.fst, o.snd.snd.snd.fst, ())] ≤ (1000000000 : Nat)) ∧
                                    ((0 : Int) ≤ (0 : Int) ∧ (0 : Int) ≤ (↑(List.length l) : Int) ∧ (↑(List.length l) : Int) ≤ (↑(List.length l) : Int)) ∧
                                    (List.drop (0 : Nat) (List.take (0 : Nat) l) ++ [(o.fst, o.snd.fst, o.snd.snd.fst, o.snd.snd.snd.fst, ())] = List.drop (0 : Nat) (List.take (0 : Nat) l) ++ [(o.fst, o.snd.fst, o.snd.snd.fst, o.snd.snd.snd.fst, ())] ∧ List.length (List.drop (0 : Nat) (List.take (0 : Nat) l) ++ [(o.fst, o.snd.fst, o.snd.snd.fst, o.snd.snd.snd.fst, ())]) + List.length (List.drop (0 : Nat) (List.take (List.length l) l)) ≤ (1000000000 : Nat)) ∧
                                    (True) ∧
                                    (((decide ((findS (l, s)).fst ≥ (0 : Int))) = true →
                                      ((I64 (findS (l, s)).fst) →
                                      ((I64 (1 : Int)) →
                                      (I64 ((findS (l, s)).fst + (1 : Int))) ∧
                                      ((((findS (List.drop (0 : Nat) (List.take (0 : Nat) l) ++ [(o.fst, o.snd.fst, o.snd.snd.fst, o.snd.snd.snd.fst, ())] ++ List.drop (0 : Nat) (List.take (List.length l) l), s)).fst == (findS (l, s)).fst + (1 : Int)) = true →
                                        (((findS (List.drop (0 : Nat) (List.take (0 : Nat) l) ++ [(o.fst, o.snd.fst, o.snd.snd.fst, o.snd.snd.snd.fst, ())] ++ List.drop (0 : Nat) (List.take (List.length l) l), s)).snd == (findS (l, s)).snd) = true)) ∧
                                      (((findS (List.drop (0 : Nat) (List.take (0 : Nat) l) ++ [(o.fst, o.snd.fst, o.snd.snd.fst, o.snd.snd.snd.fst, ())] ++ List.drop (0 : Nat) (List.take (List.length l) l), s)).fst == (findS (l, s)).fst + (1 : Int)) = false →
                                        (false = true)))))) ∧
                                    ((decide ((findS (l, s)).fst ≥ (0 : Int))) = false →
                                      ((((findS (List.drop (0 : Nat) (List.take (0 : Nat) l) ++ [(o.fst, o.snd.fst, o.snd.snd.fst, o.snd.snd.snd.fst, ())] ++ List.drop (0 : Nat) (List.take (List.length l) l), s)).fst == (findS (l, s)).fst) = true →
                                        (((findS (List.drop (0 : Nat) (List.take (0 : Nat) l) ++ [(o.fst, o.snd.fst, o.snd.snd.fst, o.snd.snd.snd.fst, ())] ++ List.drop (0 : Nat) (List.take (List.length l) l), s)).snd == (findS (l, s)).snd) = true)) ∧
                                      (((findS (List.drop (0 : Nat) (List.take (0 : Nat) l) ++ [(o.fst, o.snd.fst, o.snd.snd.fst, o.snd.snd.snd.fst, ())] ++ List.drop (0 : Nat) (List.take (List.length l) l), s)).fst == (findS (l, s)).fst) = false →
                                        (false = true)))))) ∧
                                  (((List.length (List.drop (0 : Nat) (List.take (0 : Nat) l)) ≤ (1000000000 : Nat)) ∧
                                    (List.drop (0 : Nat) (List.take (0 : Nat) l) = List.drop (0 : Nat) (List.take (0 : Nat) l) ∧ List.length (List.drop (0 : Nat) (List.take (0 : Nat) l)) + List.length [(o.fst, o.snd.fst, o.snd.snd.fst, o.snd.snd.snd.fst, ())] ≤ (1000000000 : Nat)) ∧
                                    ((0 : Int) ≤ (0 : Int) ∧ (0 : Int) ≤ (↑(List.length l) : Int) ∧ (↑(List.length l) : Int) ≤ (↑(List.length l) : Int)) ∧
                                    (List.drop (0 : Nat) (List.take (0 : Nat) l) ++ [(o.fst, o.snd.fst, o.snd.snd.fst, o.snd.snd.snd.fst, ())] = List.drop (0 : Nat) (List.take (0 : Nat) l) ++ [(o.fst, o.snd.fst, o.snd.snd.fst, o.snd.snd.snd.fst, ())] ∧ List.length (List.drop (0 : Nat) (List.take (0 : Nat) l) ++ [(o.fst, o.snd.fst, o.snd.snd.fst, o.snd.snd.snd.fst, ())]) + List.length (List.drop (0 : Nat) (List.take (List.length l) l)) ≤ (1000000000 : Nat)) ∧
                                    (True) ∧
                                    (((decide ((findS (l, s)).fst ≥ (0 : Int))) = true →
                                      ((I64 (findS (l, s)).fst) →
                                      ((I64 (1 : Int)) →
                                      (I64 ((findS (l, s)).fst + (1 : Int))) ∧
                                      ((((findS (List.drop (0 : Nat) (List.take (0 : Nat) l) ++ [(o.fst, o.snd.fst, o.snd.snd.fst, o.snd.snd.snd.fst, ())] ++ List.drop (0 : Nat) (List.take (List.length l) l), s)).fst == (findS (l, s)).fst + (1 : Int)) = true →
                                        (((findS (List.drop (0 : Nat) (List.take (0 : Nat) l) ++ [(o.fst, o.snd.fst, o.snd.snd.fst, o.snd.snd.snd.fst, ())] ++ List.drop (0 : Nat) (List.take (List.length l) l), s)).snd == (findS (l, s)).snd) = true)) ∧
                                      (((findS (List.drop (0 : Nat) (List.take (0 : Nat) l) ++ [(o.fst, o.snd.fst, o.snd.snd.fst, o.snd.snd.snd.fst, ())] ++ List.drop (0 : Nat) (List.take (List.length l) l), s)).fst == (findS (l, s)).fst + (1 : Int)) = false →
                                        (false = true)))))) ∧
                                    ((decide ((findS (l, s)).fst ≥ (0 : Int))) = false →
                                      ((((findS (List.drop (0 : Nat) (List.take (0 : Nat) l) ++ [(o.fst, o.snd.fst, o.snd.snd.fst, o.snd.snd.snd.fst, ())] ++ List.drop (0 : Nat) (List.take (List.length l) l), s)).fst == (findS (l, s)).fst) = true →
                                        (((findS (List.drop (0 : Nat) (List.take (0 : Nat) l) ++ [(o.fst, o.snd.fst, o.snd.snd.fst, o.snd.snd.snd.fst, ())] ++ List.drop (0 : Nat) (List.take (List.length l) l), s)).snd == (findS (l, s)).snd) = true)) ∧
                                      (((findS (List.drop (0 : Nat) (List.take (0 : Nat) l) ++ [(o.fst, o.snd.fst, o.snd.snd.fst, o.snd.snd.snd.fst, ())] ++ List.drop (0 : Nat) (List.take (List.length l) l), s)).fst == (findS (l, s)).fst) = false →
                                        (false = true)))))) ∧
                                  ((List.length (List.drop (0 : Nat) (List.take (0 : Nat) l)) ≤ (1000000000 : Nat)) ∧
                                    (List.drop (0 : Nat) (List.take (0 : Nat) l) = List.drop (0 : Nat) (List.take (0 : Nat) l) ∧ List.length (List.drop (0 : Nat) (List.take (0 : Nat) l)) + List.length [(o.fst, o.snd.fst, o.snd.snd.fst, o.snd.snd.snd.fst, ())] ≤ (1000000000 : Nat)) ∧
                                    ((0 : Int) ≤ (0 : Int) ∧ (0 : Int) ≤ (↑(List.length l) : Int) ∧ (↑(List.length l) : Int) ≤ (↑(List.length l) : Int)) ∧
                                    (List.drop (0 : Nat) (List.take (0 : Nat) l) ++ [(o.fst, o.snd.fst, o.snd.snd.fst, o.snd.snd.snd.fst, ())] = List.drop (0 : Nat) (List.take (0 : Nat) l) ++ [(o.fst, o.snd.fst, o.snd.snd.fst, o.snd.snd.snd.fst, ())] ∧ List.length (List.drop (0 : Nat) (List.take (0 : Nat) l) ++ [(o.fst, o.snd.fst, o.snd.snd.fst, o.snd.snd.snd.fst, ())]) + List.length (List.drop (0 : Nat) (List.take (List.length l) l)) ≤ (1000000000 : Nat)) ∧
                                    (True) ∧
                                    (((decide ((findS (l, s)).fst ≥ (0 : Int))) = true →
                                      ((I64 (findS (l, s)).fst) →
                                      ((I64 (1 : Int)) →
                                      (I64 ((findS (l, s)).fst + (1 : Int))) ∧
                                      ((((findS (List.drop (0 : Nat) (List.take (0 : Nat) l) ++ [(o.fst, o.snd.fst, o.snd.snd.fst, o.snd.snd.snd.fst, ())] ++ List.drop (0 : Nat) (List.take (List.length l) l), s)).fst == (findS (l, s)).fst + (1 : Int)) = true →
                                        (((findS (List.drop (0 : Nat) (List.take (0 : Nat) l) ++ [(o.fst, o.snd.fst, o.snd.snd.fst, o.snd.snd.snd.fst, ())] ++ List.drop (0 : Nat) (List.take (List.length l) l), s)).snd == (findS (l, s)).snd) = true)) ∧
                                      (((findS (List.drop (0 : Nat) (List.take (0 : Nat) l) ++ [(o.fst, o.snd.fst, o.snd.snd.fst, o.snd.snd.snd.fst, ())] ++ List.drop (0 : Nat) (List.take (List.length l) l), s)).fst == (findS (l, s)).fst + (1 : Int)) = false →
                                        (false = true)))))) ∧
                                    ((decide ((findS (l, s)).fst ≥ (0 : Int))) = false →
                                      ((((findS (List.drop (0 : Nat) (List.take (0 : Nat) l) ++ [(o.fst, o.snd.fst, o.snd.snd.fst, o.snd.snd.snd.fst, ())] ++ List.drop (0 : Nat) (List.take (List.length l) l), s)).fst == (findS (l, s)).fst) = true →
                                        (((findS (List.drop (0 : Nat) (List.take (0 : Nat) l) ++ [(o.fst, o.snd.fst, o.snd.snd.fst, o.snd.snd.snd.fst, ())] ++ List.drop (0 : Nat) (List.take (List.length l) l), s)).snd == (findS (l, s)).snd) = true)) ∧
                                      (((findS (List.drop (0 : Nat) (List.take (0 : Nat) l) ++ [(o.fst, o.snd.fst, o.snd.snd.fst, o.snd.snd.snd.fst, ())] ++ List.drop (0 : Nat) (List.take (List.length l) l), s)).fst == (findS (l, s)).fst) = false →
                                        (false = true))))))))))))))))) ∧
                        ((List.length l ≤ (1000000000 : Nat)) ∧
                          (l = l ∧ List.length l + List.length [(o.fst, o.snd.fst, o.snd.snd.fst, o.snd.snd.snd.fst, ())] ≤ (1000000000 : Nat)) ∧
                          (True) ∧
                          ((((findS (l ++ [(o.fst, o.snd.fst, o.snd.snd.fst, o.snd.snd.snd.fst, ())], s)).fst != (findS (l, s)).fst) = true →
                            (false = true)) ∧
                          (((findS (l ++ [(o.fst, o.snd.fst, o.snd.snd.fst, o.snd.snd.snd.fst, ())], s)).fst != (findS (l, s)).fst) = false →
                            ((((findS (l ++ [(o.fst, o.snd.fst, o.snd.snd.fst, o.snd.snd.snd.fst, ())], s)).snd != (findS (l, s)).snd) = true →
                              (false = true)) ∧
                            (((findS (l ++ [(o.fst, o.snd.fst, o.snd.snd.fst, o.snd.snd.snd.fst, ())], s)).snd != (findS (l, s)).snd) = false →
                              (((x_2.snd.fst) = true →
                                (true = true)) ∧
                              ((x_2.snd.fst) = false →
                                ((List.length l ≤ big) →
                                (((decide ((↑(List.length l) : Int) > (0 : Int))) = true →
                                  (∀ x_3 : Int,
                                  ((x_3 = IntKind.wrap IntKind.i64 (↑(BitVec.toNat (BitVec.ofInt (IntKind.bits IntKind.i64) a &&& BitVec.ofInt (IntKind.bits IntKind.i64) (1023 : Int))) : Int)) →
                                  ((List.length l ≤ big) →
                                  ((I64 (↑(List.length l) : Int)) →
                                  ((I64 (1 : Int)) →
                                  (I64 ((↑(List.length l) : Int) + (1 : Int))) ∧
                                  ((↑(List.length l) : Int) + (1 : Int) ≠ (0 : Int)) ∧
                                  (∀ x_4 : Int,
                                  ((x_4 = Int.tmod x_3 ((↑(List.length l) : Int) + (1 : Int))) →
                                  ((0 : Int) ≤ (0 : Int) ∧ (0 : Int) ≤ x_4 ∧ x_4 ≤ (↑(List.length l) : Int)) ∧
                                  ((List.length (List.drop (0 : Nat) (List.take (Int.toNat x_4) l)) ≤ (1000000000 : Nat)) ∧
                                    (List.drop (0 : Nat) (List.take (Int.toNat x_4) l) = List.drop (0 : Nat) (List.take (Int.toNat x_4) l) ∧ List.length (List.drop (0 : Nat) (List.take (Int.toNat x_4) l)) + List.length [(o.fst, o.snd.fst, o.snd.snd.fst, o.snd.snd.snd.fst, ())] ≤ (1000000000 : Nat)) ∧
                                    ((0 : Int) ≤ x_4 ∧ x_4 ≤ (↑(List.length l) : Int) ∧ (↑(List.length l) : Int) ≤ (↑(List.length l) : Int)) ∧
                                    (List.drop (0 : Nat) (List.take (Int.toNat x_4) l) ++ [(o.fst, o.snd.fst, o.snd.snd.fst, o.snd.snd.snd.fst, ())] = List.drop (0 : Nat) (List.take (Int.toNat x_4) l) ++ [(o.fst, o.snd.fst, o.snd.snd.fst, o.snd.snd.snd.fst, ())] ∧ List.length (List.drop (0 : Nat) (List.take (Int.toNat x_4) l) ++ [(o.fst, o.snd.fst, o.snd.snd.fst, o.snd.snd.snd.fst, ())]) + List.length (List.drop (Int.toNat x_4) (List.take (List.length l) l)) ≤ (1000000000 : Nat)) ∧
                                    (True) ∧
                                    (((decide ((findS (l, s)).fst ≥ x_4)) = true →
                                      ((I64 (findS (l, s)).fst) →
                                      ((I64 (1 : Int)) →
                                      (I64 ((findS (l, s)).fst + (1 : Int))) ∧
                                      ((((findS (List.drop (0 : Nat) (List.take (Int.toNat x_4) l) ++ [(o.fst, o.snd.fst, o.snd.snd.fst, o.snd.snd.snd.fst, ())] ++ List.drop (Int.toNat x_4) (List.take (List.length l) l), s)).fst == (findS (l, s)).fst + (1 : Int)) = true →
                                        (((findS (List.drop (0 : Nat) (List.take (Int.toNat x_4) l) ++ [(o.fst, o.snd.fst, o.snd.snd.fst, o.snd.snd.snd.fst, ())] ++ List.drop (Int.toNat x_4) (List.take (List.length l) l), s)).snd == (findS (l, s)).snd) = true)) ∧
                                      (((findS (List.drop (0 : Nat) (List.take (Int.toNat x_4) l) ++ [(o.fst, o.snd.fst, o.snd.snd.fst, o.snd.snd.snd.fst, ())] ++ List.drop (Int.toNat x_4) (List.take (List.length l) l), s)).fst == (findS (l, s)).fst + (1 : Int)) = false →
                                        (false = true)))))) ∧
                                    ((decide ((findS (l, s)).fst ≥ x_4)) = false →
                                      ((((findS (List.drop (0 : Nat) (List.take (Int.toNat x_4) l) ++ [(o.fst, o.snd.fst, o.snd.snd.fst, o.snd.snd.snd.fst, ())] ++ List.drop (Int.toNat x_4) (List.take (List.length l) l), s)).fst == (findS (l, s)).fst) = true →
                                        (((findS (List.drop (0 : Nat) (List.take (Int.toNat x_4) l) ++ [(o.fst, o.snd.fst, o.snd.snd.fst, o.snd.snd.snd.fst, ())] ++ List.drop (Int.toNat x_4) (List.take (List.length l) l), s)).snd == (findS (l, s)).snd) = true)) ∧
                                      (((findS (List.drop (0 : Nat) (List.take (Int.toNat x_4) l) ++ [(o.fst, o.snd.fst, o.snd.snd.fst, o.snd.snd.snd.fst, ())] ++ List.drop (Int.toNat x_4) (List.take (List.length l) l), s)).fst == (findS (l, s)).fst) = false →
                                        (false = true)))))) ∧
                                  (((List.length (List.drop (0 : Nat) (List.take (Int.toNat x_4) l)) ≤ (1000000000 : Nat)) ∧
                                    (List.drop (0 : Nat) (List.take (Int.toNat x_4) l) = List.drop (0 : Nat) (List.take (Int.toNat x_4) l) ∧ List.length (List.drop (0 : Nat) (List.take (Int.toNat x_4) l)) + List.length [(o.fst, o.snd.fst, o.snd.snd.fst, o.snd.snd.snd.fst, ())] ≤ (1000000000 : Nat)) ∧
                                    ((0 : Int) ≤ x_4 ∧ x_4 ≤ (↑(List.length l) : Int) ∧ (↑(List.length l) : Int) ≤ (↑(List.length l) : Int)) ∧
                                    (List.drop (0 : Nat) (List.take (Int.toNat x_4) l) ++ [(o.fst, o.snd.fst, o.snd.snd.fst, o.snd.snd.snd.fst, ())] = List.drop (0 : Nat) (List.take (Int.toNat x_4) l) ++ [(o.fst, o.snd.fst, o.snd.snd.fst, o.snd.snd.snd.fst, ())] ∧ List.length (List.drop (0 : Nat) (List.take (Int.toNat x_4) l) ++ [(o.fst, o.snd.fst, o.snd.snd.fst, o.snd.snd.snd.fst, ())]) + List.length (List.drop (Int.toNat x_4) (List.take (List.length l) l)) ≤ (1000000000 : Nat)) ∧
                                    (True) ∧
                                    (((decide ((findS (l, s)).fst ≥ x_4)) = true →
                                      ((I64 (findS (l, s)).fst) →
                                      ((I64 (1 : Int)) →
                                      (I64 ((findS (l, s)).fst + (1 : Int))) ∧
                                      ((((findS (List.drop (0 : Nat) (List.take (Int.toNat x_4) l) ++ [(o.fst, o.snd.fst, o.snd.snd.fst, o.snd.snd.snd.fst, ())] ++ List.drop (Int.toNat x_4) (List.take (List.length l) l), s)).fst == (findS (l, s)).fst + (1 : Int)) = true →
                                        (((findS (List.drop (0 : Nat) (List.take (Int.toNat x_4) l) ++ [(o.fst, o.snd.fst, o.snd.snd.fst, o.snd.snd.snd.fst, ())] ++ List.drop (Int.toNat x_4) (List.take (List.length l) l), s)).snd == (findS (l, s)).snd) = true)) ∧
                                      (((findS (List.drop (0 : Nat) (List.take (Int.toNat x_4) l) ++ [(o.fst, o.snd.fst, o.snd.snd.fst, o.snd.snd.snd.fst, ())] ++ List.drop (Int.toNat x_4) (List.take (List.length l) l), s)).fst == (findS (l, s)).fst + (1 : Int)) = false →
                                        (false = true)))))) ∧
                                    ((decide ((findS (l, s)).fst ≥ x_4)) = false →
                                      ((((findS (List.drop (0 : Nat) (List.take (Int.toNat x_4) l) ++ [(o.fst, o.snd.fst, o.snd.snd.fst, o.snd.snd.snd.fst, ())] ++ List.drop (Int.toNat x_4) (List.take (List.length l) l), s)).fst == (findS (l, s)).fst) = true →
                                        (((findS (List.drop (0 : Nat) (List.take (Int.toNat x_4) l) ++ [(o.fst, o.snd.fst, o.snd.snd.fst, o.snd.snd.snd.fst, ())] ++ List.drop (Int.toNat x_4) (List.take (List.length l) l), s)).snd == (findS (l, s)).snd) = true)) ∧
                                      (((findS (List.drop (0 : Nat) (List.take (Int.toNat x_4) l) ++ [(o.fst, o.snd.fst, o.snd.snd.fst, o.snd.snd.snd.fst, ())] ++ List.drop (Int.toNat x_4) (List.take (List.length l) l), s)).fst == (findS (l, s)).fst) = false →
                                        (false = true)))))) ∧
                                  ((List.length (List.drop (0 : Nat) (List.take (Int.toNat x_4) l)) ≤ (1000000000 : Nat)) ∧
                                    (List.drop (0 : Nat) (List.take (Int.toNat x_4) l) = List.drop (0 : Nat) (List.take (Int.toNat x_4) l) ∧ List.length (List.drop (0 : Nat) (List.take (Int.toNat x_4) l)) + List.length [(o.fst, o.snd.fst, o.snd.snd.fst, o.snd.snd.snd.fst, ())] ≤ (1000000000 : Nat)) ∧
                                    ((0 : Int) ≤ x_4 ∧ x_4 ≤ (↑(List.length l) : Int) ∧ (↑(List.length l) : Int) ≤ (↑(List.length l) : Int)) ∧
                                    (List.drop (0 : Nat) (List.take (Int.toNat x_4) l) ++ [(o.fst, o.snd.fst, o.snd.snd.fst, o.snd.snd.snd.fst, ())] = List.drop (0 : Nat) (List.take (Int.toNat x_4) l) ++ [(o.fst, o.snd.fst, o.snd.snd.fst, o.snd.snd.snd.fst, ())] ∧ List.length (List.drop (0 : Nat) (List.take (Int.toNat x_4) l) ++ [(o.fst, o.snd.fst, o.snd.snd.fst, o.snd.snd.snd.fst, ())]) + List.length (List.drop (Int.toNat x_4) (List.take (List.length l) l)) ≤ (1000000000 : Nat)) ∧
                                    (True) ∧
                                    (((decide ((findS (l, s)).fst ≥ x_4)) = true →
                                      ((I64 (findS (l, s)).fst) →
                                      ((I64 (1 : Int)) →
                                      (I64 ((findS (l, s)).fst + (1 : Int))) ∧
                                      ((((findS (List.drop (0 : Nat) (List.take (Int.toNat x_4) l) ++ [(o.fst, o.snd.fst, o.snd.snd.fst, o.snd.snd.snd.fst, ())] ++ List.drop (Int.toNat x_4) (List.take (List.length l) l), s)).fst == (findS (l, s)).fst + (1 : Int)) = true →
                                        (((findS (List.drop (0 : Nat) (List.take (Int.toNat x_4) l) ++ [(o.fst, o.snd.fst, o.snd.snd.fst, o.snd.snd.snd.fst, ())] ++ List.drop (Int.toNat x_4) (List.take (List.length l) l), s)).snd == (findS (l, s)).snd) = true)) ∧
                                      (((findS (List.drop (0 : Nat) (List.take (Int.toNat x_4) l) ++ [(o.fst, o.snd.fst, o.snd.snd.fst, o.snd.snd.snd.fst, ())] ++ List.drop (Int.toNat x_4) (List.take (List.length l) l), s)).fst == (findS (l, s)).fst + (1 : Int)) = false →
                                        (false = true)))))) ∧
                                    ((decide ((findS (l, s)).fst ≥ x_4)) = false →
                                      ((((findS (List.drop (0 : Nat) (List.take (Int.toNat x_4) l) ++ [(o.fst, o.snd.fst, o.snd.snd.fst, o.snd.snd.snd.fst, ())] ++ List.drop (Int.toNat x_4) (List.take (List.length l) l), s)).fst == (findS (l, s)).fst) = true →
                                        (((findS (List.drop (0 : Nat) (List.take (Int.toNat x_4) l) ++ [(o.fst, o.snd.fst, o.snd.snd.fst, o.snd.snd.snd.fst, ())] ++ List.drop (Int.toNat x_4) (List.take (List.length l) l), s)).snd == (findS (l, s)).snd) = true)) ∧
                                      (((findS (List.drop (0 : Nat) (List.take (Int.toNat x_4) l) ++ [(o.fst, o.snd.fst, o.snd.snd.fst, o.snd.snd.snd.fst, ())] ++ List.drop (Int.toNat x_4) (List.take (List.length l) l), s)).fst == (findS (l, s)).fst) = false →
                                        (false = true))))))))))))))) ∧
                                ((decide ((↑(List.length l) : Int) > (0 : Int))) = false →
                                  ((0 : Int) ≤ (0 : Int) ∧ (0 : Int) ≤ (0 : Int) ∧ (0 : Int) ≤ (↑(List.length l) : Int)) ∧
                                  ((List.length (List.drop (0 : Nat) (List.take (0 : Nat) l)) ≤ (1000000000 : Nat)) ∧
                                    (List.drop (0 : Nat) (List.take (0 : Nat) l) = List.drop (0 : Nat) (List.take (0 : Nat) l) ∧ List.length (List.drop (0 : Nat) (List.take (0 : Nat) l)) + List.length [(o.fst, o.snd.fst, o.snd.snd.fst, o.snd.snd.snd.fst, ())] ≤ (1000000000 : Nat)) ∧
                                    ((0 : Int) ≤ (0 : Int) ∧ (0 : Int) ≤ (↑(List.length l) : Int) ∧ (↑(List.length l) : Int) ≤ (↑(List.length l) : Int)) ∧
                                    (List.drop (0 : Nat) (List.take (0 : Nat) l) ++ [(o.fst, o.snd.fst, o.snd.snd.fst, o.snd.snd.snd.fst, ())] = List.drop (0 : Nat) (List.take (0 : Nat) l) ++ [(o.fst, o.snd.fst, o.snd.snd.fst, o.snd.snd.snd.fst, ())] ∧ List.length (List.drop (0 : Nat) (List.take (0 : Nat) l) ++ [(o.fst, o.snd.fst, o.snd.snd.fst, o.snd.snd.snd.fst, ())]) + List.length (List.drop (0 : Nat) (List.take (List.length l) l)) ≤ (1000000000 : Nat)) ∧
                                    (True) ∧
                                    (((decide ((findS (l, s)).fst ≥ (0 : Int))) = true →
                                      ((I64 (findS (l, s)).fst) →
                                      ((I64 (1 : Int)) →
                                      (I64 ((findS (l, s)).fst + (1 : Int))) ∧
                                      ((((findS (List.drop (0 : Nat) (List.take (0 : Nat) l) ++ [(o.fst, o.snd.fst, o.snd.snd.fst, o.snd.snd.snd.fst, ())] ++ List.drop (0 : Nat) (List.take (List.length l) l), s)).fst == (findS (l, s)).fst + (1 : Int)) = true →
                                        (((findS (List.drop (0 : Nat) (List.take (0 : Nat) l) ++ [(o.fst, o.snd.fst, o.snd.snd.fst, o.snd.snd.snd.fst, ())] ++ List.drop (0 : Nat) (List.take (List.length l) l), s)).snd == (findS (l, s)).snd) = true)) ∧
                                      (((findS (List.drop (0 : Nat) (List.take (0 : Nat) l) ++ [(o.fst, o.snd.fst, o.snd.snd.fst, o.snd.snd.snd.fst, ())] ++ List.drop (0 : Nat) (List.take (List.length l) l), s)).fst == (findS (l, s)).fst + (1 : Int)) = false →
                                        (false = true)))))) ∧
                                    ((decide ((findS (l, s)).fst ≥ (0 : Int))) = false →
                                      ((((findS (List.drop (0 : Nat) (List.take (0 : Nat) l) ++ [(o.fst, o.snd.fst, o.snd.snd.fst, o.snd.snd.snd.fst, ())] ++ List.drop (0 : Nat) (List.take (List.length l) l), s)).fst == (findS (l, s)).fst) = true →
                                        (((findS (List.drop (0 : Nat) (List.take (0 : Nat) l) ++ [(o.fst, o.snd.fst, o.snd.snd.fst, o.snd.snd.snd.fst, ())] ++ List.drop (0 : Nat) (List.take (List.length l) l), s)).snd == (findS (l, s)).snd) = true)) ∧
                                      (((findS (List.drop (0 : Nat) (List.take (0 : Nat) l) ++ [(o.fst, o.snd.fst, o.snd.snd.fst, o.snd.snd.snd.fst, ())] ++ List.drop (0 : Nat) (List.take (List.length l) l), s)).fst == (findS (l, s)).fst) = false →
                                        (false = true)))))) ∧
                                  (((List.length (List.drop (0 : Nat) (List.take (0 : Nat) l)) ≤ (1000000000 : Nat)) ∧
                                    (List.drop (0 : Nat) (List.take (0 : Nat) l) = List.drop (0 : Nat) (List.take (0 : Nat) l) ∧ List.length (List.drop (0 : Nat) (List.take (0 : Nat) l)) + List.length [(o.fst, o.snd.fst, o.snd.snd.fst, o.snd.snd.snd.fst, ())] ≤ (1000000000 : Nat)) ∧
                                    ((0 : Int) ≤ (0 : Int) ∧ (0 : Int) ≤ (↑(List.length l) : Int) ∧ (↑(List.length l) : Int) ≤ (↑(List.length l) : Int)) ∧
                                    (List.drop (0 : Nat) (List.take (0 : Nat) l) ++ [(o.fst, o.snd.fst, o.snd.snd.fst, o.snd.snd.snd.fst, ())] = List.drop (0 : Nat) (List.take (0 : Nat) l) ++ [(o.fst, o.snd.fst, o.snd.snd.fst, o.snd.snd.snd.fst, ())] ∧ List.length (List.drop (0 : Nat) (List.take (0 : Nat) l) ++ [(o.fst, o.snd.fst, o.snd.snd.fst, o.snd.snd.snd.fst, ())]) + List.length (List.drop (0 : Nat) (List.take (List.length l) l)) ≤ (1000000000 : Nat)) ∧
                                    (True) ∧
                                    (((decide ((findS (l, s)).fst ≥ (0 : Int))) = true →
                                      ((I64 (findS (l, s)).fst) →
                                      ((I64 (1 : Int)) →
                                      (I64 ((findS (l, s)).fst + (1 : Int))) ∧
                                      ((((findS (List.drop (0 : Nat) (List.take (0 : Nat) l) ++ [(o.fst, o.snd.fst, o.snd.snd.fst, o.snd.snd.snd.fst, ())] ++ List.drop (0 : Nat) (List.take (List.length l) l), s)).fst == (findS (l, s)).fst + (1 : Int)) = true →
                                        (((findS (List.drop (0 : Nat) (List.take (0 : Nat) l) ++ [(o.fst, o.snd.fst, o.snd.snd.fst, o.snd.snd.snd.fst, ())] ++ List.drop (0 : Nat) (List.take (List.length l) l), s)).snd == (findS (l, s)).snd) = true)) ∧
                                      (((findS (List.drop (0 : Nat) (List.take (0 : Nat) l) ++ [(o.fst, o.snd.fst, o.snd.snd.fst, o.snd.snd.snd.fst, ())] ++ List.drop (0 : Nat) (List.take (List.length l) l), s)).fst == (findS (l, s)).fst + (1 : Int)) = false →
                                        (false = true)))))) ∧
                                    ((decide ((findS (l, s)).fst ≥ (0 : Int))) = false →
                                      ((((findS (List.drop (0 : Nat) (List.take (0 : Nat) l) ++ [(o.fst, o.snd.fst, o.snd.snd.fst, o.snd.snd.snd.fst, ())] ++ List.drop (0 : Nat) (List.take (List.length l) l), s)).fst == (findS (l, s)).fst) = true →
                                        (((findS (List.drop (0 : Nat) (List.take (0 : Nat) l) ++ [(o.fst, o.snd.fst, o.snd.snd.fst, o.snd.snd.snd.fst, ())] ++ List.drop (0 : Nat) (List.take (List.length l) l), s)).snd == (findS (l, s)).snd) = true)) ∧
                                      (((findS (List.drop (0 : Nat) (List.take (0 : Nat) l) ++ [(o.fst, o.snd.fst, o.snd.snd.fst, o.snd.snd.snd.fst, ())] ++ List.drop (0 : Nat) (List.take (List.length l) l), s)).fst == (findS (l, s)).fst) = false →
                                        (false = true)))))) ∧
                                  ((List.length (List.drop (0 : Nat) (List.take (0 : Nat) l)) ≤ (1000000000 : Nat)) ∧
                                    (List.drop (0 : Nat) (List.take (0 : Nat) l) = List.drop (0 : Nat) (List.take (0 : Nat) l) ∧ List.length (List.drop (0 : Nat) (List.take (0 : Nat) l)) + List.length [(o.fst, o.snd.fst, o.snd.snd.fst, o.snd.snd.snd.fst, ())] ≤ (1000000000 : Nat)) ∧
                                    ((0 : Int) ≤ (0 : Int) ∧ (0 : Int) ≤ (↑(List.length l) : Int) ∧ (↑(List.length l) : Int) ≤ (↑(List.length l) : Int)) ∧
                                    (List.drop (0 : Nat) (List.take (0 : Nat) l) ++ [(o.fst, o.snd.fst, o.snd.snd.fst, o.snd.snd.snd.fst, ())] = List.drop (0 : Nat) (List.take (0 : Nat) l) ++ [(o.fst, o.snd.fst, o.snd.snd.fst, o.snd.snd.snd.fst, ())] ∧ List.length (List.drop (0 : Nat) (List.take (0 : Nat) l) ++ [(o.fst, o.snd.fst, o.snd.snd.fst, o.snd.snd.snd.fst, ())]) + List.length (List.drop (0 : Nat) (List.take (List.length l) l)) ≤ (1000000000 : Nat)) ∧
                                    (True) ∧
                                    (((decide ((findS (l, s)).fst ≥ (0 : Int))) = true →
                                      ((I64 (findS (l, s)).fst) →
                                      ((I64 (1 : Int)) →
                                      (I64 ((findS (l, s)).fst + (1 : Int))) ∧
                                      ((((findS (List.drop (0 : Nat) (List.take (0 : Nat) l) ++ [(o.fst, o.snd.fst, o.snd.snd.fst, o.snd.snd.snd.fst, ())] ++ List.drop (0 : Nat) (List.take (List.length l) l), s)).fst == (findS (l, s)).fst + (1 : Int)) = true →
                                        (((findS (List.drop (0 : Nat) (List.take (0 : Nat) l) ++ [(o.fst, o.snd.fst, o.snd.snd.fst, o.snd.snd.snd.fst, ())] ++ List.drop (0 : Nat) (List.take (List.length l) l), s)).snd == (findS (l, s)).snd) = true)) ∧
                                      (((findS (List.drop (0 : Nat) (List.take (0 : Nat) l) ++ [(o.fst, o.snd.fst, o.snd.snd.fst, o.snd.snd.snd.fst, ())] ++ List.drop (0 : Nat) (List.take (List.length l) l), s)).fst == (findS (l, s)).fst + (1 : Int)) = false →
                                        (false = true)))))) ∧
                                    ((decide ((findS (l, s)).fst ≥ (0 : Int))) = false →
                                      ((((findS (List.drop (0 : Nat) (List.take (0 : Nat) l) ++ [(o.fst, o.snd.fst, o.snd.snd.fst, o.snd.snd.snd.fst, ())] ++ List.drop (0 : Nat) (List.take (List.length l) l), s)).fst == (findS (l, s)).fst) = true →
                                        (((findS (List.drop (0 : Nat) (List.take (0 : Nat) l) ++ [(o.fst, o.snd.fst, o.snd.snd.fst, o.snd.snd.snd.fst, ())] ++ List.drop (0 : Nat) (List.take (List.length l) l), s)).snd == (findS (l, s)).snd) = true)) ∧
                                      (((findS (List.drop (0 : Nat) (List.take (0 : Nat) l) ++ [(o.fst, o.snd.fst, o.snd.snd.fst, o.snd.snd.snd.fst, ())] ++ List.drop (0 : Nat) (List.take (List.length l) l), s)).fst == (findS (l, s)).fst) = false →
                                        (false = true))))))))))))))))))))) ∧
                    ((x_2.snd.fst) = false →
                      ((List.length l ≤ (1000000000 : Nat)) ∧
                        (l = l ∧ List.length l + List.length [(o.fst, o.snd.fst, o.snd.snd.fst, o.snd.snd.snd.fst, ())] ≤ (1000000000 : Nat)) ∧
                        (True) ∧
                        ((((findS (l ++ [(o.fst, o.snd.fst, o.snd.snd.fst, o.snd.snd.snd.fst, ())], s)).fst != (findS (l, s)).fst) = true →
                          (false = true)) ∧
                        (((findS (l ++ [(o.fst, o.snd.fst, o.snd.snd.fst, o.snd.snd.snd.fst, ())], s)).fst != (findS (l, s)).fst) = false →
                          ((((findS (l ++ [(o.fst, o.snd.fst, o.snd.snd.fst, o.snd.snd.snd.fst, ())], s)).snd != (findS (l, s)).snd) = true →
                            (false = true)) ∧
                          (((findS (l ++ [(o.fst, o.snd.fst, o.snd.snd.fst, o.snd.snd.snd.fst, ())], s)).snd != (findS (l, s)).snd) = false →
                            (((x_2.snd.fst) = true →
                              (true = true)) ∧
                            ((x_2.snd.fst) = false →
                              ((List.length l ≤ big) →
                              (((decide ((↑(List.length l) : Int) > (0 : Int))) = true →
                                (∀ x_3 : Int,
                                ((x_3 = IntKind.wrap IntKind.i64 (↑(BitVec.toNat (BitVec.ofInt (IntKind.bits IntKind.i64) a &&& BitVec.ofInt (IntKind.bits IntKind.i64) (1023 : Int))) : Int)) →
                                ((List.length l ≤ big) →
                                ((I64 (↑(List.length l) : Int)) →
                                ((I64 (1 : Int)) →
                                (I64 ((↑(List.length l) : Int) + (1 : Int))) ∧
                                ((↑(List.length l) : Int) + (1 : Int) ≠ (0 : Int)) ∧
                                (∀ x_4 : Int,
                                ((x_4 = Int.tmod x_3 ((↑(List.length l) : Int) + (1 : Int))) →
                                ((0 : Int) ≤ (0 : Int) ∧ (0 : Int) ≤ x_4 ∧ x_4 ≤ (↑(List.length l) : Int)) ∧
                                ((List.length (List.drop (0 : Nat) (List.take (Int.toNat x_4) l)) ≤ (1000000000 : Nat)) ∧
                                  (List.drop (0 : Nat) (List.take (Int.toNat x_4) l) = List.drop (0 : Nat) (List.take (Int.toNat x_4) l) ∧ List.length (List.drop (0 : Nat) (List.take (Int.toNat x_4) l)) + List.length [(o.fst, o.snd.fst, o.snd.snd.fst, o.snd.snd.snd.fst, ())] ≤ (1000000000 : Nat)) ∧
                                  ((0 : Int) ≤ x_4 ∧ x_4 ≤ (↑(List.length l) : Int) ∧ (↑(List.length l) : Int) ≤ (↑(List.length l) : Int)) ∧
                                  (List.drop (0 : Nat) (List.take (Int.toNat x_4) l) ++ [(o.fst, o.snd.fst, o.snd.snd.fst, o.snd.snd.snd.fst, ())] = List.drop (0 : Nat) (List.take (Int.toNat x_4) l) ++ [(o.fst, o.snd.fst, o.snd.snd.fst, o.snd.snd.snd.fst, ())] ∧ List.length (List.drop (0 : Nat) (List.take (Int.toNat x_4) l) ++ [(o.fst, o.snd.fst, o.snd.snd.fst, o.snd.snd.snd.fst, ())]) + List.length (List.drop (Int.toNat x_4) (List.take (List.length l) l)) ≤ (1000000000 : Nat)) ∧
                                  (True) ∧
                                  (((decide ((findS (l, s)).fst ≥ x_4)) = true →
                                    ((I64 (findS (l, s)).fst) →
                                    ((I64 (1 : Int)) →
                                    (I64 ((findS (l, s)).fst + (1 : Int))) ∧
                                    ((((findS (List.drop (0 : Nat) (List.take (Int.toNat x_4) l) ++ [(o.fst, o.snd.fst, o.snd.snd.fst, o.snd.snd.snd.fst, ())] ++ List.drop (Int.toNat x_4) (List.take (List.length l) l), s)).fst == (findS (l, s)).fst + (1 : Int)) = true →
                                      (((findS (List.drop (0 : Nat) (List.take (Int.toNat x_4) l) ++ [(o.fst, o.snd.fst, o.snd.snd.fst, o.snd.snd.snd.fst, ())] ++ List.drop (Int.toNat x_4) (List.take (List.length l) l), s)).snd == (findS (l, s)).snd) = true)) ∧
                                    (((findS (List.drop (0 : Nat) (List.take (Int.toNat x_4) l) ++ [(o.fst, o.snd.fst, o.snd.snd.fst, o.snd.snd.snd.fst, ())] ++ List.drop (Int.toNat x_4) (List.take (List.length l) l), s)).fst == (findS (l, s)).fst + (1 : Int)) = false →
                                      (false = true)))))) ∧
                                  ((decide ((findS (l, s)).fst ≥ x_4)) = false →
                                    ((((findS (List.drop (0 : Nat) (List.take (Int.toNat x_4) l) ++ [(o.fst, o.snd.fst, o.snd.snd.fst, o.snd.snd.snd.fst, ())] ++ List.drop (Int.toNat x_4) (List.take (List.length l) l), s)).fst == (findS (l, s)).fst) = true →
                                      (((findS (List.drop (0 : Nat) (List.take (Int.toNat x_4) l) ++ [(o.fst, o.snd.fst, o.snd.snd.fst, o.snd.snd.snd.fst, ())] ++ List.drop (Int.toNat x_4) (List.take (List.length l) l), s)).snd == (findS (l, s)).snd) = true)) ∧
                                    (((findS (List.drop (0 : Nat) (List.take (Int.toNat x_4) l) ++ [(o.fst, o.snd.fst, o.snd.snd.fst, o.snd.snd.snd.fst, ())] ++ List.drop (Int.toNat x_4) (List.take (List.length l) l), s)).fst == (findS (l, s)).fst) = false →
                                      (false = true)))))) ∧
                                (((List.length (List.drop (0 : Nat) (List.take (Int.toNat x_4) l)) ≤ (1000000000 : Nat)) ∧
                                  (List.drop (0 : Nat) (List.take (Int.toNat x_4) l) = List.drop (0 : Nat) (List.take (Int.toNat x_4) l) ∧ List.length (List.drop (0 : Nat) (List.take (Int.toNat x_4) l)) + List.length [(o.fst, o.snd.fst, o.snd.snd.fst, o.snd.snd.snd.fst, ())] ≤ (1000000000 : Nat)) ∧
                                  ((0 : Int) ≤ x_4 ∧ x_4 ≤ (↑(List.length l) : Int) ∧ (↑(List.length l) : Int) ≤ (↑(List.length l) : Int)) ∧
                                  (List.drop (0 : Nat) (List.take (Int.toNat x_4) l) ++ [(o.fst, o.snd.fst, o.snd.snd.fst, o.snd.snd.snd.fst, ())] = List.drop (0 : Nat) (List.take (Int.toNat x_4) l) ++ [(o.fst, o.snd.fst, o.snd.snd.fst, o.snd.snd.snd.fst, ())] ∧ List.length (List.drop (0 : Nat) (List.take (Int.toNat x_4) l) ++ [(o.fst, o.snd.fst, o.snd.snd.fst, o.snd.snd.snd.fst, ())]) + List.length (List.drop (Int.toNat x_4) (List.take (List.length l) l)) ≤ (1000000000 : Nat)) ∧
                                  (True) ∧
                                  (((decide ((findS (l, s)).fst ≥ x_4)) = true →
                                    ((I64 (findS (l, s)).fst) →
                                    ((I64 (1 : Int)) →
                                    (I64 ((findS (l, s)).fst + (1 : Int))) ∧
                                    ((((findS (List.drop (0 : Nat) (List.take (Int.toNat x_4) l) ++ [(o.fst, o.snd.fst, o.snd.snd.fst, o.snd.snd.snd.fst, ())] ++ List.drop (Int.toNat x_4) (List.take (List.length l) l), s)).fst == (findS (l, s)).fst + (1 : Int)) = true →
                                      (((findS (List.drop (0 : Nat) (List.take (Int.toNat x_4) l) ++ [(o.fst, o.snd.fst, o.snd.snd.fst, o.snd.snd.snd.fst, ())] ++ List.drop (Int.toNat x_4) (List.take (List.length l) l), s)).snd == (findS (l, s)).snd) = true)) ∧
                                    (((findS (List.drop (0 : Nat) (List.take (Int.toNat x_4) l) ++ [(o.fst, o.snd.fst, o.snd.snd.fst, o.snd.snd.snd.fst, ())] ++ List.drop (Int.toNat x_4) (List.take (List.length l) l), s)).fst == (findS (l, s)).fst + (1 : Int)) = false →
                                      (false = true)))))) ∧
                                  ((decide ((findS (l, s)).fst ≥ x_4)) = false →
                                    ((((findS (List.drop (0 : Nat) (List.take (Int.toNat x_4) l) ++ [(o.fst, o.snd.fst, o.snd.snd.fst, o.snd.snd.snd.fst, ())] ++ List.drop (Int.toNat x_4) (List.take (List.length l) l), s)).fst == (findS (l, s)).fst) = true →
                                      (((findS (List.drop (0 : Nat) (List.take (Int.toNat x_4) l) ++ [(o.fst, o.snd.fst, o.snd.snd.fst, o.snd.snd.snd.fst, ())] ++ List.drop (Int.toNat x_4) (List.take (List.length l) l), s)).snd == (findS (l, s)).snd) = true)) ∧
                                    (((findS (List.drop (0 : Nat) (List.take (Int.toNat x_4) l) ++ [(o.fst, o.snd.fst, o.snd.snd.fst, o.snd.snd.snd.fst, ())] ++ List.drop (Int.toNat x_4) (List.take (List.length l) l), s)).fst == (findS (l, s)).fst) = false →
                                      (false = true)))))) ∧
                                ((List.length (List.drop (0 : Nat) (List.take (Int.toNat x_4) l)) ≤ (1000000000 : Nat)) ∧
                                  (List.drop (0 : Nat) (List.take (Int.toNat x_4) l) = List.drop (0 : Nat) (List.take (Int.toNat x_4) l) ∧ List.length (List.drop (0 : Nat) (List.take (Int.toNat x_4) l)) + List.length [(o.fst, o.snd.fst, o.snd.snd.fst, o.snd.snd.snd.fst, ())] ≤ (1000000000 : Nat)) ∧
                                  ((0 : Int) ≤ x_4 ∧ x_4 ≤ (↑(List.length l) : Int) ∧ (↑(List.length l) : Int) ≤ (↑(List.length l) : Int)) ∧
                                  (List.drop (0 : Nat) (List.take (Int.toNat x_4) l) ++ [(o.fst, o.snd.fst, o.snd.snd.fst, o.snd.snd.snd.fst, ())] = List.drop (0 : Nat) (List.take (Int.toNat x_4) l) ++ [(o.fst, o.snd.fst, o.snd.snd.fst, o.snd.snd.snd.fst, ())] ∧ List.length (List.drop (0 : Nat) (List.take (Int.toNat x_4) l) ++ [(o.fst, o.snd.fst, o.snd.snd.fst, o.snd.snd.snd.fst, ())]) + List.length (List.drop (Int.toNat x_4) (List.take (List.length l) l)) ≤ (1000000000 : Nat)) ∧
                                  (True) ∧
                                  (((decide ((findS (l, s)).fst ≥ x_4)) = true →
                                    ((I64 (findS (l, s)).fst) →
                                    ((I64 (1 : Int)) →
                                    (I64 ((findS (l, s)).fst + (1 : Int))) ∧
                                    ((((findS (List.drop (0 : Nat) (List.take (Int.toNat x_4) l) ++ [(o.fst, o.snd.fst, o.snd.snd.fst, o.snd.snd.snd.fst, ())] ++ List.drop (Int.toNat x_4) (List.take (List.length l) l), s)).fst == (findS (l, s)).fst + (1 : Int)) = true →
                                      (((findS (List.drop (0 : Nat) (List.take (Int.toNat x_4) l) ++ [(o.fst, o.snd.fst, o.snd.snd.fst, o.snd.snd.snd.fst, ())] ++ List.drop (Int.toNat x_4) (List.take (List.length l) l), s)).snd == (findS (l, s)).snd) = true)) ∧
                                    (((findS (List.drop (0 : Nat) (List.take (Int.toNat x_4) l) ++ [(o.fst, o.snd.fst, o.snd.snd.fst, o.snd.snd.snd.fst, ())] ++ List.drop (Int.toNat x_4) (List.take (List.length l) l), s)).fst == (findS (l, s)).fst + (1 : Int)) = false →
                                      (false = true)))))) ∧
                                  ((decide ((findS (l, s)).fst ≥ x_4)) = false →
                                    ((((findS (List.drop (0 : Nat) (List.take (Int.toNat x_4) l) ++ [(o.fst, o.snd.fst, o.snd.snd.fst, o.snd.snd.snd.fst, ())] ++ List.drop (Int.toNat x_4) (List.take (List.length l) l), s)).fst == (findS (l, s)).fst) = true →
                                      (((findS (List.drop (0 : Nat) (List.take (Int.toNat x_4) l) ++ [(o.fst, o.snd.fst, o.snd.snd.fst, o.snd.snd.snd.fst, ())] ++ List.drop (Int.toNat x_4) (List.take (List.length l) l), s)).snd == (findS (l, s)).snd) = true)) ∧
                                    (((findS (List.drop (0 : Nat) (List.take (Int.toNat x_4) l) ++ [(o.fst, o.snd.fst, o.snd.snd.fst, o.snd.snd.snd.fst, ())] ++ List.drop (Int.toNat x_4) (List.take (List.length l) l), s)).fst == (findS (l, s)).fst) = false →
                                      (false = true))))))))))))))) ∧
                              ((decide ((↑(List.length l) : Int) > (0 : Int))) = false →
                                ((0 : Int) ≤ (0 : Int) ∧ (0 : Int) ≤ (0 : Int) ∧ (0 : Int) ≤ (↑(List.length l) : Int)) ∧
                                ((List.length (List.drop (0 : Nat) (List.take (0 : Nat) l)) ≤ (1000000000 : Nat)) ∧
                                  (List.drop (0 : Nat) (List.take (0 : Nat) l) = List.drop (0 : Nat) (List.take (0 : Nat) l) ∧ List.length (List.drop (0 : Nat) (List.take (0 : Nat) l)) + List.length [(o.fst, o.snd.fst, o.snd.snd.fst, o.snd.snd.snd.fst, ())] ≤ (1000000000 : Nat)) ∧
                                  ((0 : Int) ≤ (0 : Int) ∧ (0 : Int) ≤ (↑(List.length l) : Int) ∧ (↑(List.length l) : Int) ≤ (↑(List.length l) : Int)) ∧
                                  (List.drop (0 : Nat) (List.take (0 : Nat) l) ++ [(o.fst, o.snd.fst, o.snd.snd.fst, o.snd.snd.snd.fst, ())] = List.drop (0 : Nat) (List.take (0 : Nat) l) ++ [(o.fst, o.snd.fst, o.snd.snd.fst, o.snd.snd.snd.fst, ())] ∧ List.length (List.drop (0 : Nat) (List.take (0 : Nat) l) ++ [(o.fst, o.snd.fst, o.snd.snd.fst, o.snd.snd.snd.fst, ())]) + List.length (List.drop (0 : Nat) (List.take (List.length l) l)) ≤ (1000000000 : Nat)) ∧
                                  (True) ∧
                                  (((decide ((findS (l, s)).fst ≥ (0 : Int))) = true →
                                    ((I64 (findS (l, s)).fst) →
                                    ((I64 (1 : Int)) →
                                    (I64 ((findS (l, s)).fst + (1 : Int))) ∧
                                    ((((findS (List.drop (0 : Nat) (List.take (0 : Nat) l) ++ [(o.fst, o.snd.fst, o.snd.snd.fst, o.snd.snd.snd.fst, ())] ++ List.drop (0 : Nat) (List.take (List.length l) l), s)).fst == (findS (l, s)).fst + (1 : Int)) = true →
                                      (((findS (List.drop (0 : Nat) (List.take (0 : Nat) l) ++ [(o.fst, o.snd.fst, o.snd.snd.fst, o.snd.snd.snd.fst, ())] ++ List.drop (0 : Nat) (List.take (List.length l) l), s)).snd == (findS (l, s)).snd) = true)) ∧
                                    (((findS (List.drop (0 : Nat) (List.take (0 : Nat) l) ++ [(o.fst, o.snd.fst, o.snd.snd.fst, o.snd.snd.snd.fst, ())] ++ List.drop (0 : Nat) (List.take (List.length l) l), s)).fst == (findS (l, s)).fst + (1 : Int)) = false →
                                      (false = true)))))) ∧
                                  ((decide ((findS (l, s)).fst ≥ (0 : Int))) = false →
                                    ((((findS (List.drop (0 : Nat) (List.take (0 : Nat) l) ++ [(o.fst, o.snd.fst, o.snd.snd.fst, o.snd.snd.snd.fst, ())] ++ List.drop (0 : Nat) (List.take (List.length l) l), s)).fst == (findS (l, s)).fst) = true →
                                      (((findS (List.drop (0 : Nat) (List.take (0 : Nat) l) ++ [(o.fst, o.snd.fst, o.snd.snd.fst, o.snd.snd.snd.fst, ())] ++ List.drop (0 : Nat) (List.take (List.length l) l), s)).snd == (findS (l, s)).snd) = true)) ∧
                                    (((findS (List.drop (0 : Nat) (List.take (0 : Nat) l) ++ [(o.fst, o.snd.fst, o.snd.snd.fst, o.snd.snd.snd.fst, ())] ++ List.drop (0 : Nat) (List.take (List.length l) l), s)).fst == (findS (l, s)).fst) = false →
                                      (false = true)))))) ∧
                                (((List.length (List.drop (0 : Nat) (List.take (0 : Nat) l)) ≤ (1000000000 : Nat)) ∧
                                  (List.drop (0 : Nat) (List.take (0 : Nat) l) = List.drop (0 : Nat) (List.take (0 : Nat) l) ∧ List.length (List.drop (0 : Nat) (List.take (0 : Nat) l)) + List.length [(o.fst, o.snd.fst, o.snd.snd.fst, o.snd.snd.snd.fst, ())] ≤ (1000000000 : Nat)) ∧
                                  ((0 : Int) ≤ (0 : Int) ∧ (0 : Int) ≤ (↑(List.length l) : Int) ∧ (↑(List.length l) : Int) ≤ (↑(List.length l) : Int)) ∧
                                  (List.drop (0 : Nat) (List.take (0 : Nat) l) ++ [(o.fst, o.snd.fst, o.snd.snd.fst, o.snd.snd.snd.fst, ())] = List.drop (0 : Nat) (List.take (0 : Nat) l) ++ [(o.fst, o.snd.fst, o.snd.snd.fst, o.snd.snd.snd.fst, ())] ∧ List.length (List.drop (0 : Nat) (List.take (0 : Nat) l) ++ [(o.fst, o.snd.fst, o.snd.snd.fst, o.snd.snd.snd.fst, ())]) + List.length (List.drop (0 : Nat) (List.take (List.length l) l)) ≤ (1000000000 : Nat)) ∧
                                  (True) ∧
                                  (((decide ((findS (l, s)).fst ≥ (0 : Int))) = true →
                                    ((I64 (findS (l, s)).fst) →
                                    ((I64 (1 : Int)) →
                                    (I64 ((findS (l, s)).fst + (1 : Int))) ∧
                                    ((((findS (List.drop (0 : Nat) (List.take (0 : Nat) l) ++ [(o.fst, o.snd.fst, o.snd.snd.fst, o.snd.snd.snd.fst, ())] ++ List.drop (0 : Nat) (List.take (List.length l) l), s)).fst == (findS (l, s)).fst + (1 : Int)) = true →
                                      (((findS (List.drop (0 : Nat) (List.take (0 : Nat) l) ++ [(o.fst, o.snd.fst, o.snd.snd.fst, o.snd.snd.snd.fst, ())] ++ List.drop (0 : Nat) (List.take (List.length l) l), s)).snd == (findS (l, s)).snd) = true)) ∧
                                    (((findS (List.drop (0 : Nat) (List.take (0 : Nat) l) ++ [(o.fst, o.snd.fst, o.snd.snd.fst, o.snd.snd.snd.fst, ())] ++ List.drop (0 : Nat) (List.take (List.length l) l), s)).fst == (findS (l, s)).fst + (1 : Int)) = false →
                                      (false = true)))))) ∧
                                  ((decide ((findS (l, s)).fst ≥ (0 : Int))) = false →
                                    ((((findS (List.drop (0 : Nat) (List.take (0 : Nat) l) ++ [(o.fst, o.snd.fst, o.snd.snd.fst, o.snd.snd.snd.fst, ())] ++ List.drop (0 : Nat) (List.take (List.length l) l), s)).fst == (findS (l, s)).fst) = true →
                                      (((findS (List.drop (0 : Nat) (List.take (0 : Nat) l) ++ [(o.fst, o.snd.fst, o.snd.snd.fst, o.snd.snd.snd.fst, ())] ++ List.drop (0 : Nat) (List.take (List.length l) l), s)).snd == (findS (l, s)).snd) = true)) ∧
                                    (((findS (List.drop (0 : Nat) (List.take (0 : Nat) l) ++ [(o.fst, o.snd.fst, o.snd.snd.fst, o.snd.snd.snd.fst, ())] ++ List.drop (0 : Nat) (List.take (List.length l) l), s)).fst == (findS (l, s)).fst) = false →
                                      (false = true)))))) ∧
                                ((List.length (List.drop (0 : Nat) (List.take (0 : Nat) l)) ≤ (1000000000 : Nat)) ∧
                                  (List.drop (0 : Nat) (List.take (0 : Nat) l) = List.drop (0 : Nat) (List.take (0 : Nat) l) ∧ List.length (List.drop (0 : Nat) (List.take (0 : Nat) l)) + List.length [(o.fst, o.snd.fst, o.snd.snd.fst, o.snd.snd.snd.fst, ())] ≤ (1000000000 : Nat)) ∧
                                  ((0 : Int) ≤ (0 : Int) ∧ (0 : Int) ≤ (↑(List.length l) : Int) ∧ (↑(List.length l) : Int) ≤ (↑(List.length l) : Int)) ∧
                                  (List.drop (0 : Nat) (List.take (0 : Nat) l) ++ [(o.fst, o.snd.fst, o.snd.snd.fst, o.snd.snd.snd.fst, ())] = List.drop (0 : Nat) (List.take (0 : Nat) l) ++ [(o.fst, o.snd.fst, o.snd.snd.fst, o.snd.snd.snd.fst, ())] ∧ List.length (List.drop (0 : Nat) (List.take (0 : Nat) l) ++ [(o.fst, o.snd.fst, o.snd.snd.fst, o.snd.snd.snd.fst, ())]) + List.length (List.drop (0 : Nat) (List.take (List.length l) l)) ≤ (1000000000 : Nat)) ∧
                                  (True) ∧
                                  (((decide ((findS (l, s)).fst ≥ (0 : Int))) = true →
                                    ((I64 (findS (l, s)).fst) →
                                    ((I64 (1 : Int)) →
                                    (I64 ((findS (l, s)).fst + (1 : Int))) ∧
                                    ((((findS (List.drop (0 : Nat) (List.take (0 : Nat) l) ++ [(o.fst, o.snd.fst, o.snd.snd.fst, o.snd.snd.snd.fst, ())] ++ List.drop (0 : Nat) (List.take (List.length l) l), s)).fst == (findS (l, s)).fst + (1 : Int)) = true →
                                      (((findS (List.drop (0 : Nat) (List.take (0 : Nat) l) ++ [(o.fst, o.snd.fst, o.snd.snd.fst, o.snd.snd.snd.fst, ())] ++ List.drop (0 : Nat) (List.take (List.length l) l), s)).snd == (findS (l, s)).snd) = true)) ∧
                                    (((findS (List.drop (0 : Nat) (List.take (0 : Nat) l) ++ [(o.fst, o.snd.fst, o.snd.snd.fst, o.snd.snd.snd.fst, ())] ++ List.drop (0 : Nat) (List.take (List.length l) l), s)).fst == (findS (l, s)).fst + (1 : Int)) = false →
                                      (false = true)))))) ∧
                                  ((decide ((findS (l, s)).fst ≥ (0 : Int))) = false →
                                    ((((findS (List.drop (0 : Nat) (List.take (0 : Nat) l) ++ [(o.fst, o.snd.fst, o.snd.snd.fst, o.snd.snd.snd.fst, ())] ++ List.drop (0 : Nat) (List.take (List.length l) l), s)).fst == (findS (l, s)).fst) = true →
                                      (((findS (List.drop (0 : Nat) (List.take (0 : Nat) l) ++ [(o.fst, o.snd.fst, o.snd.snd.fst, o.snd.snd.snd.fst, ())] ++ List.drop (0 : Nat) (List.take (List.length l) l), s)).snd == (findS (l, s)).snd) = true)) ∧
                                    (((findS (List.drop (0 : Nat) (List.take (0 : Nat) l) ++ [(o.fst, o.snd.fst, o.snd.snd.fst, o.snd.snd.snd.fst, ())] ++ List.drop (0 : Nat) (List.take (List.length l) l), s)).fst == (findS (l, s)).fst) = false →
                                      (false = true))))))))))))))))) ∧
                      (((List.length l ≤ (1000000000 : Nat)) ∧
                        (l = l ∧ List.length l + List.length [(o.fst, o.snd.fst, o.snd.snd.fst, o.snd.snd.snd.fst, ())] ≤ (1000000000 : Nat)) ∧
                        (True) ∧
                        ((((findS (l ++ [(o.fst, o.snd.fst, o.snd.snd.fst, o.snd.snd.snd.fst, ())], s)).fst != (findS (l, s)).fst) = true →
                          (false = true)) ∧
                        (((findS (l ++ [(o.fst, o.snd.fst, o.snd.snd.fst, o.snd.snd.snd.fst, ())], s)).fst != (findS (l, s)).fst) = false →
                          ((((findS (l ++ [(o.fst, o.snd.fst, o.snd.snd.fst, o.snd.snd.snd.fst, ())], s)).snd != (findS (l, s)).snd) = true →
                            (false = true)) ∧
                          (((findS (l ++ [(o.fst, o.snd.fst, o.snd.snd.fst, o.snd.snd.snd.fst, ())], s)).snd != (findS (l, s)).snd) = false →
                            (((x_2.snd.fst) = true →
                              (true = true)) ∧
                            ((x_2.snd.fst) = false →
                              ((List.length l ≤ big) →
                              (((decide ((↑(List.length l) : Int) > (0 : Int))) = true →
                                (∀ x_3 : Int,
                                ((x_3 = IntKind.wrap IntKind.i64 (↑(BitVec.toNat (BitVec.ofInt (IntKind.bits IntKind.i64) a &&& BitVec.ofInt (IntKind.bits IntKind.i64) (1023 : Int))) : Int)) →
                                ((List.length l ≤ big) →
                                ((I64 (↑(List.length l) : Int)) →
                                ((I64 (1 : Int)) →
                                (I64 ((↑(List.length l) : Int) + (1 : Int))) ∧
                                ((↑(List.length l) : Int) + (1 : Int) ≠ (0 : Int)) ∧
                                (∀ x_4 : Int,
                                ((x_4 = Int.tmod x_3 ((↑(List.length l) : Int) + (1 : Int))) →
                                ((0 : Int) ≤ (0 : Int) ∧ (0 : Int) ≤ x_4 ∧ x_4 ≤ (↑(List.length l) : Int)) ∧
                                ((List.length (List.drop (0 : Nat) (List.take (Int.toNat x_4) l)) ≤ (1000000000 : Nat)) ∧
                                  (List.drop (0 : Nat) (List.take (Int.toNat x_4) l) = List.drop (0 : Nat) (List.take (Int.toNat x_4) l) ∧ List.length (List.drop (0 : Nat) (List.take (Int.toNat x_4) l)) + List.length [(o.fst, o.snd.fst, o.snd.snd.fst, o.snd.snd.snd.fst, ())] ≤ (1000000000 : Nat)) ∧
                                  ((0 : Int) ≤ x_4 ∧ x_4 ≤ (↑(List.length l) : Int) ∧ (↑(List.length l) : Int) ≤ (↑(List.length l) : Int)) ∧
                                  (List.drop (0 : Nat) (List.take (Int.toNat x_4) l) ++ [(o.fst, o.snd.fst, o.snd.snd.fst, o.snd.snd.snd.fst, ())] = List.drop (0 : Nat) (List.take (Int.toNat x_4) l) ++ [(o.fst, o.snd.fst, o.snd.snd.fst, o.snd.snd.snd.fst, ())] ∧ List.length (List.drop (0 : Nat) (List.take (Int.toNat x_4) l) ++ [(o.fst, o.snd.fst, o.snd.snd.fst, o.snd.snd.snd.fst, ())]) + List.length (List.drop (Int.toNat x_4) (List.take (List.length l) l)) ≤ (1000000000 : Nat)) ∧
                                  (True) ∧
                                  (((decide ((findS (l, s)).fst ≥ x_4)) = true →
                                    ((I64 (findS (l, s)).fst) →
                                    ((I64 (1 : Int)) →
                                    (I64 ((findS (l, s)).fst + (1 : Int))) ∧
                                    ((((findS (List.drop (0 : Nat) (List.take (Int.toNat x_4) l) ++ [(o.fst, o.snd.fst, o.snd.snd.fst, o.snd.snd.snd.fst, ())] ++ List.drop (Int.toNat x_4) (List.take (List.length l) l), s)).fst == (findS (l, s)).fst + (1 : Int)) = true →
                                      (((findS (List.drop (0 : Nat) (List.take (Int.toNat x_4) l) ++ [(o.fst, o.snd.fst, o.snd.snd.fst, o.snd.snd.snd.fst, ())] ++ List.drop (Int.toNat x_4) (List.take (List.length l) l), s)).snd == (findS (l, s)).snd) = true)) ∧
                                    (((findS (List.drop (0 : Nat) (List.take (Int.toNat x_4) l) ++ [(o.fst, o.snd.fst, o.snd.snd.fst, o.snd.snd.snd.fst, ())] ++ List.drop (Int.toNat x_4) (List.take (List.length l) l), s)).fst == (findS (l, s)).fst + (1 : Int)) = false →
                                      (false = true)))))) ∧
                                  ((decide ((findS (l, s)).fst ≥ x_4)) = false →
                                    ((((findS (List.drop (0 : Nat) (List.take (Int.toNat x_4) l) ++ [(o.fst, o.snd.fst, o.snd.snd.fst, o.snd.snd.snd.fst, ())] ++ List.drop (Int.toNat x_4) (List.take (List.length l) l), s)).fst == (findS (l, s)).fst) = true →
                                      (((findS (List.drop (0 : Nat) (List.take (Int.toNat x_4) l) ++ [(o.fst, o.snd.fst, o.snd.snd.fst, o.snd.snd.snd.fst, ())] ++ List.drop (Int.toNat x_4) (List.take (List.length l) l), s)).snd == (findS (l, s)).snd) = true)) ∧
                                    (((findS (List.drop (0 : Nat) (List.take (Int.toNat x_4) l) ++ [(o.fst, o.snd.fst, o.snd.snd.fst, o.snd.snd.snd.fst, ())] ++ List.drop (Int.toNat x_4) (List.take (List.length l) l), s)).fst == (findS (l, s)).fst) = false →
                                      (false = true)))))) ∧
                                (((List.length (List.drop (0 : Nat) (List.take (Int.toNat x_4) l)) ≤ (1000000000 : Nat)) ∧
                                  (List.drop (0 : Nat) (List.take (Int.toNat x_4) l) = List.drop (0 : Nat) (List.take (Int.toNat x_4) l) ∧ List.length (List.drop (0 : Nat) (List.take (Int.toNat x_4) l)) + List.length [(o.fst, o.snd.fst, o.snd.snd.fst, o.snd.snd.snd.fst, ())] ≤ (1000000000 : Nat)) ∧
                                  ((0 : Int) ≤ x_4 ∧ x_4 ≤ (↑(List.length l) : Int) ∧ (↑(List.length l) : Int) ≤ (↑(List.length l) : Int)) ∧
                                  (List.drop (0 : Nat) (List.take (Int.toNat x_4) l) ++ [(o.fst, o.snd.fst, o.snd.snd.fst, o.snd.snd.snd.fst, ())] = List.drop (0 : Nat) (List.take (Int.toNat x_4) l) ++ [(o.fst, o.snd.fst, o.snd.snd.fst, o.snd.snd.snd.fst, ())] ∧ List.length (List.drop (0 : Nat) (List.take (Int.toNat x_4) l) ++ [(o.fst, o.snd.fst, o.snd.snd.fst, o.snd.snd.snd.fst, ())]) + List.length (List.drop (Int.toNat x_4) (List.take (List.length l) l)) ≤ (1000000000 : Nat)) ∧
                                  (True) ∧
                                  (((decide ((findS (l, s)).fst ≥ x_4)) = true →
                                    ((I64 (findS (l, s)).fst) →
                                    ((I64 (1 : Int)) →
                                    (I64 ((findS (l, s)).fst + (1 : Int))) ∧
                                    ((((findS (List.drop (0 : Nat) (List.take (Int.toNat x_4) l) ++ [(o.fst, o.snd.fst, o.snd.snd.fst, o.snd.snd.snd.fst, ())] ++ List.drop (Int.toNat x_4) (List.take (List.length l) l), s)).fst == (findS (l, s)).fst + (1 : Int)) = true →
                                      (((findS (List.drop (0 : Nat) (List.take (Int.toNat x_4) l) ++ [(o.fst, o.snd.fst, o.snd.snd.fst, o.snd.snd.snd.fst, ())] ++ List.drop (Int.toNat x_4) (List.take (List.length l) l), s)).snd == (findS (l, s)).snd) = true)) ∧
                                    (((findS (List.drop (0 : Nat) (List.take (Int.toNat x_4) l) ++ [(o.fst, o.snd.fst, o.snd.snd.fst, o.snd.snd.snd.fst, ())] ++ List.drop (Int.toNat x_4) (List.take (List.length l) l), s)).fst == (findS (l, s)).fst + (1 : Int)) = false →
                                      (false = true)))))) ∧
                                  ((decide ((findS (l, s)).fst ≥ x_4)) = false →
                                    ((((findS (List.drop (0 : Nat) (List.take (Int.toNat x_4) l) ++ [(o.fst, o.snd.fst, o.snd.snd.fst, o.snd.snd.snd.fst, ())] ++ List.drop (Int.toNat x_4) (List.take (List.length l) l), s)).fst == (findS (l, s)).fst) = true →
                                      (((findS (List.drop (0 : Nat) (List.take (Int.toNat x_4) l) ++ [(o.fst, o.snd.fst, o.snd.snd.fst, o.snd.snd.snd.fst, ())] ++ List.drop (Int.toNat x_4) (List.take (List.length l) l), s)).snd == (findS (l, s)).snd) = true)) ∧
                                    (((findS (List.drop (0 : Nat) (List.take (Int.toNat x_4) l) ++ [(o.fst, o.snd.fst, o.snd.snd.fst, o.snd.snd.snd.fst, ())] ++ List.drop (Int.toNat x_4) (List.take (List.length l) l), s)).fst == (findS (l, s)).fst) = false →
                                      (false = true)))))) ∧
                                ((List.length (List.drop (0 : Nat) (List.take (Int.toNat x_4) l)) ≤ (1000000000 : Nat)) ∧
                                  (List.drop (0 : Nat) (List.take (Int.toNat x_4) l) = List.drop (0 : Nat) (List.take (Int.toNat x_4) l) ∧ List.length (List.drop (0 : Nat) (List.take (Int.toNat x_4) l)) + List.length [(o.fst, o.snd.fst, o.snd.snd.fst, o.snd.snd.snd.fst, ())] ≤ (1000000000 : Nat)) ∧
                                  ((0 : Int) ≤ x_4 ∧ x_4 ≤ (↑(List.length l) : Int) ∧ (↑(List.length l) : Int) ≤ (↑(List.length l) : Int)) ∧
                                  (List.drop (0 : Nat) (List.take (Int.toNat x_4) l) ++ [(o.fst, o.snd.fst, o.snd.snd.fst, o.snd.snd.snd.fst, ())] = List.drop (0 : Nat) (List.take (Int.toNat x_4) l) ++ [(o.fst, o.snd.fst, o.snd.snd.fst, o.snd.snd.snd.fst, ())] ∧ List.length (List.drop (0 : Nat) (List.take (Int.toNat x_4) l) ++ [(o.fst, o.snd.fst, o.snd.snd.fst, o.snd.snd.snd.fst, ())]) + List.length (List.drop (Int.toNat x_4) (List.take (List.length l) l)) ≤ (1000000000 : Nat)) ∧
                                  (True) ∧
                                  (((decide ((findS (l, s)).fst ≥ x_4)) = true →
                                    ((I64 (findS (l, s)).fst) →
                                    ((I64 (1 : Int)) →
                                    (I64 ((findS (l, s)).fst + (1 : Int))) ∧
                                    ((((findS (List.drop (0 : Nat) (List.take (Int.toNat x_4) l) ++ [(o.fst, o.snd.fst, o.snd.snd.fst, o.snd.snd.snd.fst, ())] ++ List.drop (Int.toNat x_4) (List.take (List.length l) l), s)).fst == (findS (l, s)).fst + (1 : Int)) = true →
                                      (((findS (List.drop (0 : Nat) (List.take (Int.toNat x_4) l) ++ [(o.fst, o.snd.fst, o.snd.snd.fst, o.snd.snd.snd.fst, ())] ++ List.drop (Int.toNat x_4) (List.take (List.length l) l), s)).snd == (findS (l, s)).snd) = true)) ∧
                                    (((findS (List.drop (0 : Nat) (List.take (Int.toNat x_4) l) ++ [(o.fst, o.snd.fst, o.snd.snd.fst, o.snd.snd.snd.fst, ())] ++ List.drop (Int.toNat x_4) (List.take (List.length l) l), s)).fst == (findS (l, s)).fst + (1 : Int)) = false →
                                      (false = true)))))) ∧
                                  ((decide ((findS (l, s)).fst ≥ x_4)) = false →
                                    ((((findS (List.drop (0 : Nat) (List.take (Int.toNat x_4) l) ++ [(o.fst, o.snd.fst, o.snd.snd.fst, o.snd.snd.snd.fst, ())] ++ List.drop (Int.toNat x_4) (List.take (List.length l) l), s)).fst == (findS (l, s)).fst) = true →
                                      (((findS (List.drop (0 : Nat) (List.take (Int.toNat x_4) l) ++ [(o.fst, o.snd.fst, o.snd.snd.fst, o.snd.snd.snd.fst, ())] ++ List.drop (Int.toNat x_4) (List.take (List.length l) l), s)).snd == (findS (l, s)).snd) = true)) ∧
                                    (((findS (List.drop (0 : Nat) (List.take (Int.toNat x_4) l) ++ [(o.fst, o.snd.fst, o.snd.snd.fst, o.snd.snd.snd.fst, ())] ++ List.drop (Int.toNat x_4) (List.take (List.length l) l), s)).fst == (findS (l, s)).fst) = false →
                                      (false = true))))))))))))))) ∧
                              ((decide ((↑(List.length l) : Int) > (0 : Int))) = false →
                                ((0 : Int) ≤ (0 : Int) ∧ (0 : Int) ≤ (0 : Int) ∧ (0 : Int) ≤ (↑(List.length l) : Int)) ∧
                                ((List.length (List.drop (0 : Nat) (List.take (0 : Nat) l)) ≤ (1000000000 : Nat)) ∧
                                  (List.drop (0 : Nat) (List.take (0 : Nat) l) = List.drop (0 : Nat) (List.take (0 : Nat) l) ∧ List.length (List.drop (0 : Nat) (List.take (0 : Nat) l)) + List.length [(o.fst, o.snd.fst, o.snd.snd.fst, o.snd.snd.snd.fst, ())] ≤ (1000000000 : Nat)) ∧
                                  ((0 : Int) ≤ (0 : Int) ∧ (0 : Int) ≤ (↑(List.length l) : Int) ∧ (↑(List.length l) : Int) ≤ (↑(List.length l) : Int)) ∧
                                  (List.drop (0 : Nat) (List.take (0 : Nat) l) ++ [(o.fst, o.snd.fst, o.snd.snd.fst, o.snd.snd.snd.fst, ())] = List.drop (0 : Nat) (List.take (0 : Nat) l) ++ [(o.fst, o.snd.fst, o.snd.snd.fst, o.snd.snd.snd.fst, ())] ∧ List.length (List.drop (0 : Nat) (List.take (0 : Nat) l) ++ [(o.fst, o.snd.fst, o.snd.snd.fst, o.snd.snd.snd.fst, ())]) + List.length (List.drop (0 : Nat) (List.take (List.length l) l)) ≤ (1000000000 : Nat)) ∧
                                  (True) ∧
                                  (((decide ((findS (l, s)).fst ≥ (0 : Int))) = true →
                                    ((I64 (findS (l, s)).fst) →
                                    ((I64 (1 : Int)) →
                                    (I64 ((findS (l, s)).fst + (1 : Int))) ∧
                                    ((((findS (List.drop (0 : Nat) (List.take (0 : Nat) l) ++ [(o.fst, o.snd.fst, o.snd.snd.fst, o.snd.snd.snd.fst, ())] ++ List.drop (0 : Nat) (List.take (List.length l) l), s)).fst == (findS (l, s)).fst + (1 : Int)) = true →
                                      (((findS (List.drop (0 : Nat) (List.take (0 : Nat) l) ++ [(o.fst, o.snd.fst, o.snd.snd.fst, o.snd.snd.snd.fst, ())] ++ List.drop (0 : Nat) (List.take (List.length l) l), s)).snd == (findS (l, s)).snd) = true)) ∧
                                    (((findS (List.drop (0 : Nat) (List.take (0 : Nat) l) ++ [(o.fst, o.snd.fst, o.snd.snd.fst, o.snd.snd.snd.fst, ())] ++ List.drop (0 : Nat) (List.take (List.length l) l), s)).fst == (findS (l, s)).fst + (1 : Int)) = false →
                                      (false = true)))))) ∧
                                  ((decide ((findS (l, s)).fst ≥ (0 : Int))) = false →
                                    ((((findS (List.drop (0 : Nat) (List.take (0 : Nat) l) ++ [(o.fst, o.snd.fst, o.snd.snd.fst, o.snd.snd.snd.fst, ())] ++ List.drop (0 : Nat) (List.take (List.length l) l), s)).fst == (findS (l, s)).fst) = true →
                                      (((findS (List.drop (0 : Nat) (List.take (0 : Nat) l) ++ [(o.fst, o.snd.fst, o.snd.snd.fst, o.snd.snd.snd.fst, ())] ++ List.drop (0 : Nat) (List.take (List.length l) l), s)).snd == (findS (l, s)).snd) = true)) ∧
                                    (((findS (List.drop (0 : Nat) (List.take (0 : Nat) l) ++ [(o.fst, o.snd.fst, o.snd.snd.fst, o.snd.snd.snd.fst, ())] ++ List.drop (0 : Nat) (List.take (List.length l) l), s)).fst == (findS (l, s)).fst) = false →
                                      (false = true)))))) ∧
                                (((List.length (List.drop (0 : Nat) (List.take (0 : Nat) l)) ≤ (1000000000 : Nat)) ∧
                                  (List.drop (0 : Nat) (List.take (0 : Nat) l) = List.drop (0 : Nat) (List.take (0 : Nat) l) ∧ List.length (List.drop (0 : Nat) (List.take (0 : Nat) l)) + List.length [(o.fst, o.snd.fst, o.snd.snd.fst, o.snd.snd.snd.fst, ())] ≤ (1000000000 : Nat)) ∧
                                  ((0 : Int) ≤ (0 : Int) ∧ (0 : Int) ≤ (↑(List.length l) : Int) ∧ (↑(List.length l) : Int) ≤ (↑(List.length l) : Int)) ∧
                                  (List.drop (0 : Nat) (List.take (0 : Nat) l) ++ [(o.fst, o.snd.fst, o.snd.snd.fst, o.snd.snd.snd.fst, ())] = List.drop (0 : Nat) (List.take (0 : Nat) l) ++ [(o.fst, o.snd.fst, o.snd.snd.fst, o.snd.snd.snd.fst, ())] ∧ List.length (List.drop (0 : Nat) (List.take (0 : Nat) l) ++ [(o.fst, o.snd.fst, o.snd.snd.fst, o.snd.snd.snd.fst, ())]) + List.length (List.drop (0 : Nat) (List.take (List.length l) l)) ≤ (1000000000 : Nat)) ∧
                                  (True) ∧
                                  (((decide ((findS (l, s)).fst ≥ (0 : Int))) = true →
                                    ((I64 (findS (l, s)).fst) →
                                    ((I64 (1 : Int)) →
                                    (I64 ((findS (l, s)).fst + (1 : Int))) ∧
                                    ((((findS (List.drop (0 : Nat) (List.take (0 : Nat) l) ++ [(o.fst, o.snd.fst, o.snd.snd.fst, o.snd.snd.snd.fst, ())] ++ List.drop (0 : Nat) (List.take (List.length l) l), s)).fst == (findS (l, s)).fst + (1 : Int)) = true →
                                      (((findS (List.drop (0 : Nat) (List.take (0 : Nat) l) ++ [(o.fst, o.snd.fst, o.snd.snd.fst, o.snd.snd.snd.fst, ())] ++ List.drop (0 : Nat) (List.take (List.length l) l), s)).snd == (findS (l, s)).snd) = true)) ∧
                                    (((findS (List.drop (0 : Nat) (List.take (0 : Nat) l) ++ [(o.fst, o.snd.fst, o.snd.snd.fst, o.snd.snd.snd.fst, ())] ++ List.drop (0 : Nat) (List.take (List.length l) l), s)).fst == (findS (l, s)).fst + (1 : Int)) = false →
                                      (false = true)))))) ∧
                                  ((decide ((findS (l, s)).fst ≥ (0 : Int))) = false →
                                    ((((findS (List.drop (0 : Nat) (List.take (0 : Nat) l) ++ [(o.fst, o.snd.fst, o.snd.snd.fst, o.snd.snd.snd.fst, ())] ++ List.drop (0 : Nat) (List.take (List.length l) l), s)).fst == (findS (l, s)).fst) = true →
                                      (((findS (List.drop (0 : Nat) (List.take (0 : Nat) l) ++ [(o.fst, o.snd.fst, o.snd.snd.fst, o.snd.snd.snd.fst, ())] ++ List.drop (0 : Nat) (List.take (List.length l) l), s)).snd == (findS (l, s)).snd) = true)) ∧
                                    (((findS (List.drop (0 : Nat) (List.take (0 : Nat) l) ++ [(o.fst, o.snd.fst, o.snd.snd.fst, o.snd.snd.snd.fst, ())] ++ List.drop (0 : Nat) (List.take (List.length l) l), s)).fst == (findS (l, s)).fst) = false →
                                      (false = true)))))) ∧
                                ((List.length (List.drop (0 : Nat) (List.take (0 : Nat) l)) ≤ (1000000000 : Nat)) ∧
                                  (List.drop (0 : Nat) (List.take (0 : Nat) l) = List.drop (0 : Nat) (List.take (0 : Nat) l) ∧ List.length (List.drop (0 : Nat) (List.take (0 : Nat) l)) + List.length [(o.fst, o.snd.fst, o.snd.snd.fst, o.snd.snd.snd.fst, ())] ≤ (1000000000 : Nat)) ∧
                                  ((0 : Int) ≤ (0 : Int) ∧ (0 : Int) ≤ (↑(List.length l) : Int) ∧ (↑(List.length l) : Int) ≤ (↑(List.length l) : Int)) ∧
                                  (List.drop (0 : Nat) (List.take (0 : Nat) l) ++ [(o.fst, o.snd.fst, o.snd.snd.fst, o.snd.snd.snd.fst, ())] = List.drop (0 : Nat) (List.take (0 : Nat) l) ++ [(o.fst, o.snd.fst, o.snd.snd.fst, o.snd.snd.snd.fst, ())] ∧ List.length (List.drop (0 : Nat) (List.take (0 : Nat) l) ++ [(o.fst, o.snd.fst, o.snd.snd.fst, o.snd.snd.snd.fst, ())]) + List.length (List.drop (0 : Nat) (List.take (List.length l) l)) ≤ (1000000000 : Nat)) ∧
                                  (True) ∧
                                  (((decide ((findS (l, s)).fst ≥ (0 : Int))) = true →
                                    ((I64 (findS (l, s)).fst) →
                                    ((I64 (1 : Int)) →
                                    (I64 ((findS (l, s)).fst + (1 : Int))) ∧
                                    ((((findS (List.drop (0 : Nat) (List.take (0 : Nat) l) ++ [(o.fst, o.snd.fst, o.snd.snd.fst, o.snd.snd.snd.fst, ())] ++ List.drop (0 : Nat) (List.take (List.length l) l), s)).fst == (findS (l, s)).fst + (1 : Int)) = true →
                                      (((findS (List.drop (0 : Nat) (List.take (0 : Nat) l) ++ [(o.fst, o.snd.fst, o.snd.snd.fst, o.snd.snd.snd.fst, ())] ++ List.drop (0 : Nat) (List.take (List.length l) l), s)).snd == (findS (l, s)).snd) = true)) ∧
                                    (((findS (List.drop (0 : Nat) (List.take (0 : Nat) l) ++ [(o.fst, o.snd.fst, o.snd.snd.fst, o.snd.snd.snd.fst, ())] ++ List.drop (0 : Nat) (List.take (List.length l) l), s)).fst == (findS (l, s)).fst + (1 : Int)) = false →
                                      (false = true)))))) ∧
                                  ((decide ((findS (l, s)).fst ≥ (0 : Int))) = false →
                                    ((((findS (List.drop (0 : Nat) (List.take (0 : Nat) l) ++ [(o.fst, o.snd.fst, o.snd.snd.fst, o.snd.snd.snd.fst, ())] ++ List.drop (0 : Nat) (List.take (List.length l) l), s)).fst == (findS (l, s)).fst) = true →
                                      (((findS (List.drop (0 : Nat) (List.take (0 : Nat) l) ++ [(o.fst, o.snd.fst, o.snd.snd.fst, o.snd.snd.snd.fst, ())] ++ List.drop (0 : Nat) (List.take (List.length l) l), s)).snd == (findS (l, s)).snd) = true)) ∧
                                    (((findS (List.drop (0 : Nat) (List.take (0 : Nat) l) ++ [(o.fst, o.snd.fst, o.snd.snd.fst, o.snd.snd.snd.fst, ())] ++ List.drop (0 : Nat) (List.take (List.length l) l), s)).fst == (findS (l, s)).fst) = false →
                                      (false = true))))))))))))))))) ∧
                      ((List.length l ≤ (1000000000 : Nat)) ∧
                        (l = l ∧ List.length l + List.length [(o.fst, o.snd.fst, o.snd.snd.fst, o.snd.snd.snd.fst, ())] ≤ (1000000000 : Nat)) ∧
                        (True) ∧
                        ((((findS (l ++ [(o.fst, o.snd.fst, o.snd.snd.fst, o.snd.snd.snd.fst, ())], s)).fst != (findS (l, s)).fst) = true →
                          (false = true)) ∧
                        (((findS (l ++ [(o.fst, o.snd.fst, o.snd.snd.fst, o.snd.snd.snd.fst, ())], s)).fst != (findS (l, s)).fst) = false →
                          ((((findS (l ++ [(o.fst, o.snd.fst, o.snd.snd.fst, o.snd.snd.snd.fst, ())], s)).snd != (findS (l, s)).snd) = true →
                            (false = true)) ∧
                          (((findS (l ++ [(o.fst, o.snd.fst, o.snd.snd.fst, o.snd.snd.snd.fst, ())], s)).snd != (findS (l, s)).snd) = false →
                            (((x_2.snd.fst) = true →
                              (true = true)) ∧
                            ((x_2.snd.fst) = false →
                              ((List.length l ≤ big) →
                              (((decide ((↑(List.length l) : Int) > (0 : Int))) = true →
                                (∀ x_3 : Int,
                                ((x_3 = IntKind.wrap IntKind.i64 (↑(BitVec.toNat (BitVec.ofInt (IntKind.bits IntKind.i64) a &&& BitVec.ofInt (IntKind.bits IntKind.i64) (1023 : Int))) : Int)) →
                                ((List.length l ≤ big) →
                                ((I64 (↑(List.length l) : Int)) →
                                ((I64 (1 : Int)) →
                                (I64 ((↑(List.length l) : Int) + (1 : Int))) ∧
                                ((↑(List.length l) : Int) + (1 : Int) ≠ (0 : Int)) ∧
                                (∀ x_4 : Int,
                                ((x_4 = Int.tmod x_3 ((↑(List.length l) : Int) + (1 : Int))) →
                                ((0 : Int) ≤ (0 : Int) ∧ (0 : Int) ≤ x_4 ∧ x_4 ≤ (↑(List.length l) : Int)) ∧
                                ((List.length (List.drop (0 : Nat) (List.take (Int.toNat x_4) l)) ≤ (1000000000 : Nat)) ∧
                                  (List.drop (0 : Nat) (List.take (Int.toNat x_4) l) = List.drop (0 : Nat) (List.take (Int.toNat x_4) l) ∧ List.length (List.drop (0 : Nat) (List.take (Int.toNat x_4) l)) + List.length [(o.fst, o.snd.fst, o.snd.snd.fst, o.snd.snd.snd.fst, ())] ≤ (1000000000 : Nat)) ∧
                                  ((0 : Int) ≤ x_4 ∧ x_4 ≤ (↑(List.length l) : Int) ∧ (↑(List.length l) : Int) ≤ (↑(List.length l) : Int)) ∧
                                  (List.drop (0 : Nat) (List.take (Int.toNat x_4) l) ++ [(o.fst, o.snd.fst, o.snd.snd.fst, o.snd.snd.snd.fst, ())] = List.drop (0 : Nat) (List.take (Int.toNat x_4) l) ++ [(o.fst, o.snd.fst, o.snd.snd.fst, o.snd.snd.snd.fst, ())] ∧ List.length (List.drop (0 : Nat) (List.take (Int.toNat x_4) l) ++ [(o.fst, o.snd.fst, o.snd.snd.fst, o.snd.snd.snd.fst, ())]) + List.length (List.drop (Int.toNat x_4) (List.take (List.length l) l)) ≤ (1000000000 : Nat)) ∧
                                  (True) ∧
                                  (((decide ((findS (l, s)).fst ≥ x_4)) = true →
                                    ((I64 (findS (l, s)).fst) →
                                    ((I64 (1 : Int)) →
                                    (I64 ((findS (l, s)).fst + (1 : Int))) ∧
                                    ((((findS (List.drop (0 : Nat) (List.take (Int.toNat x_4) l) ++ [(o.fst, o.snd.fst, o.snd.snd.fst, o.snd.snd.snd.fst, ())] ++ List.drop (Int.toNat x_4) (List.take (List.length l) l), s)).fst == (findS (l, s)).fst + (1 : Int)) = true →
                                      (((findS (List.drop (0 : Nat) (List.take (Int.toNat x_4) l) ++ [(o.fst, o.snd.fst, o.snd.snd.fst, o.snd.snd.snd.fst, ())] ++ List.drop (Int.toNat x_4) (List.take (List.length l) l), s)).snd == (findS (l, s)).snd) = true)) ∧
                                    (((findS (List.drop (0 : Nat) (List.take (Int.toNat x_4) l) ++ [(o.fst, o.snd.fst, o.snd.snd.fst, o.snd.snd.snd.fst, ())] ++ List.drop (Int.toNat x_4) (List.take (List.length l) l), s)).fst == (findS (l, s)).fst + (1 : Int)) = false →
                                      (false = true)))))) ∧
                                  ((decide ((findS (l, s)).fst ≥ x_4)) = false →
                                    ((((findS (List.drop (0 : Nat) (List.take (Int.toNat x_4) l) ++ [(o.fst, o.snd.fst, o.snd.snd.fst, o.snd.snd.snd.fst, ())] ++ List.drop (Int.toNat x_4) (List.take (List.length l) l), s)).fst == (findS (l, s)).fst) = true →
                                      (((findS (List.drop (0 : Nat) (List.take (Int.toNat x_4) l) ++ [(o.fst, o.snd.fst, o.snd.snd.fst, o.snd.snd.snd.fst, ())] ++ List.drop (Int.toNat x_4) (List.take (List.length l) l), s)).snd == (findS (l, s)).snd) = true)) ∧
                                    (((findS (List.drop (0 : Nat) (List.take (Int.toNat x_4) l) ++ [(o.fst, o.snd.fst, o.snd.snd.fst, o.snd.snd.snd.fst, ())] ++ List.drop (Int.toNat x_4) (List.take (List.length l) l), s)).fst == (findS (l, s)).fst) = false →
                                      (false = true)))))) ∧
                                (((List.length (List.drop (0 : Nat) (List.take (Int.toNat x_4) l)) ≤ (1000000000 : Nat)) ∧
                                  (List.drop (0 : Nat) (List.take (Int.toNat x_4) l) = List.drop (0 : Nat) (List.take (Int.toNat x_4) l) ∧ List.length (List.drop (0 : Nat) (List.take (Int.toNat x_4) l)) + List.length [(o.fst, o.snd.fst, o.snd.snd.fst, o.snd.snd.snd.fst, ())] ≤ (1000000000 : Nat)) ∧
                                  ((0 : Int) ≤ x_4 ∧ x_4 ≤ (↑(List.length l) : Int) ∧ (↑(List.length l) : Int) ≤ (↑(List.length l) : Int)) ∧
                                  (List.drop (0 : Nat) (List.take (Int.toNat x_4) l) ++ [(o.fst, o.snd.fst, o.snd.snd.fst, o.snd.snd.snd.fst, ())] = List.drop (0 : Nat) (List.take (Int.toNat x_4) l) ++ [(o.fst, o.snd.fst, o.snd.snd.fst, o.snd.snd.snd.fst, ())] ∧ List.length (List.drop (0 : Nat) (List.take (Int.toNat x_4) l) ++ [(o.fst, o.snd.fst, o.snd.snd.fst, o.snd.snd.snd.fst, ())]) + List.length (List.drop (Int.toNat x_4) (List.take (List.length l) l)) ≤ (1000000000 : Nat)) ∧
                                  (True) ∧
                                  (((decide ((findS (l, s)).fst ≥ x_4)) = true →
                                    ((I64 (findS (l, s)).fst) →
                                    ((I64 (1 : Int)) →
                                    (I64 ((findS (l, s)).fst + (1 : Int))) ∧
                                    ((((findS (List.drop (0 : Nat) (List.take (Int.toNat x_4) l) ++ [(o.fst, o.snd.fst, o.snd.snd.fst, o.snd.snd.snd.fst, ())] ++ List.drop (Int.toNat x_4) (List.take (List.length l) l), s)).fst == (findS (l, s)).fst + (1 : Int)) = true →
                                      (((findS (List.drop (0 : Nat) (List.take (Int.toNat x_4) l) ++ [(o.fst, o.snd.fst, o.snd.snd.fst, o.snd.snd.snd.fst, ())] ++ List.drop (Int.toNat x_4) (List.take (List.length l) l), s)).snd == (findS (l, s)).snd) = true)) ∧
                                    (((findS (List.drop (0 : Nat) (List.take (Int.toNat x_4) l) ++ [(o.fst, o.snd.fst, o.snd.snd.fst, o.snd.snd.snd.fst, ())] ++ List.drop (Int.toNat x_4) (List.take (List.length l) l), s)).fst == (findS (l, s)).fst + (1 : Int)) = false →
                                      (false = true)))))) ∧
                                  ((decide ((findS (l, s)).fst ≥ x_4)) = false →
                                    ((((findS (List.drop (0 : Nat) (List.take (Int.toNat x_4) l) ++ [(o.fst, o.snd.fst, o.snd.snd.fst, o.snd.snd.snd.fst, ())] ++ List.drop (Int.toNat x_4) (List.take (List.length l) l), s)).fst == (findS (l, s)).fst) = true →
                                      (((findS (List.drop (0 : Nat) (List.take (Int.toNat x_4) l) ++ [(o.fst, o.snd.fst, o.snd.snd.fst, o.snd.snd.snd.fst, ())] ++ List.drop (Int.toNat x_4) (List.take (List.length l) l), s)).snd == (findS (l, s)).snd) = true)) ∧
                                    (((findS (List.drop (0 : Nat) (List.take (Int.toNat x_4) l) ++ [(o.fst, o.snd.fst, o.snd.snd.fst, o.snd.snd.snd.fst, ())] ++ List.drop (Int.toNat x_4) (List.take (List.length l) l), s)).fst == (findS (l, s)).fst) = false →
                                      (false = true)))))) ∧
                                ((List.length (List.drop (0 : Nat) (List.take (Int.toNat x_4) l)) ≤ (1000000000 : Nat)) ∧
                                  (List.drop (0 : Nat) (List.take (Int.toNat x_4) l) = List.drop (0 : Nat) (List.take (Int.toNat x_4) l) ∧ List.length (List.drop (0 : Nat) (List.take (Int.toNat x_4) l)) + List.length [(o.fst, o.snd.fst, o.snd.snd.fst, o.snd.snd.snd.fst, ())] ≤ (1000000000 : Nat)) ∧
                                  ((0 : Int) ≤ x_4 ∧ x_4 ≤ (↑(List.length l) : Int) ∧ (↑(List.length l) : Int) ≤ (↑(List.length l) : Int)) ∧
                                  (List.drop (0 : Nat) (List.take (Int.toNat x_4) l) ++ [(o.fst, o.snd.fst, o.snd.snd.fst, o.snd.snd.snd.fst, ())] = List.drop (0 : Nat) (List.take (Int.toNat x_4) l) ++ [(o.fst, o.snd.fst, o.snd.snd.fst, o.snd.snd.snd.fst, ())] ∧ List.length (List.drop (0 : Nat) (List.take (Int.toNat x_4) l) ++ [(o.fst, o.snd.fst, o.snd.snd.fst, o.snd.snd.snd.fst, ())]) + List.length (List.drop (Int.toNat x_4) (List.take (List.length l) l)) ≤ (1000000000 : Nat)) ∧
                                  (True) ∧
                                  (((decide ((findS (l, s)).fst ≥ x_4)) = true →
                                    ((I64 (findS (l, s)).fst) →
                                    ((I64 (1 : Int)) →
                                    (I64 ((findS (l, s)).fst + (1 : Int))) ∧
                                    ((((findS (List.drop (0 : Nat) (List.take (Int.toNat x_4) l) ++ [(o.fst, o.snd.fst, o.snd.snd.fst, o.snd.snd.snd.fst, ())] ++ List.drop (Int.toNat x_4) (List.take (List.length l) l), s)).fst == (findS (l, s)).fst + (1 : Int)) = true →
                                      (((findS (List.drop (0 : Nat) (List.take (Int.toNat x_4) l) ++ [(o.fst, o.snd.fst, o.snd.snd.fst, o.snd.snd.snd.fst, ())] ++ List.drop (Int.toNat x_4) (List.take (List.length l) l), s)).snd == (findS (l, s)).snd) = true)) ∧
                                    (((findS (List.drop (0 : Nat) (List.take (Int.toNat x_4) l) ++ [(o.fst, o.snd.fst, o.snd.snd.fst, o.snd.snd.snd.fst, ())] ++ List.drop (Int.toNat x_4) (List.take (List.length l) l), s)).fst == (findS (l, s)).fst + (1 : Int)) = false →
                                      (false = true)))))) ∧
                                  ((decide ((findS (l, s)).fst ≥ x_4)) = false →
                                    ((((findS (List.drop (0 : Nat) (List.take (Int.toNat x_4) l) ++ [(o.fst, o.snd.fst, o.snd.snd.fst, o.snd.snd.snd.fst, ())] ++ List.drop (Int.toNat x_4) (List.take (List.length l) l), s)).fst == (findS (l, s)).fst) = true →
                                      (((findS (List.drop (0 : Nat) (List.take (Int.toNat x_4) l) ++ [(o.fst, o.snd.fst, o.snd.snd.fst, o.snd.snd.snd.fst, ())] ++ List.drop (Int.toNat x_4) (List.take (List.length l) l), s)).snd == (findS (l, s)).snd) = true)) ∧
                                    (((findS (List.drop (0 : Nat) (List.take (Int.toNat x_4) l) ++ [(o.fst, o.snd.fst, o.snd.snd.fst, o.snd.snd.snd.fst, ())] ++ List.drop (Int.toNat x_4) (List.take (List.length l) l), s)).fst == (findS (l, s)).fst) = false →
                                      (false = true))))))))))))))) ∧
                              ((decide ((↑(List.length l) : Int) > (0 : Int))) = false →
                                ((0 : Int) ≤ (0 : Int) ∧ (0 : Int) ≤ (0 : Int) ∧ (0 : Int) ≤ (↑(List.length l) : Int)) ∧
                                ((List.length (List.drop (0 : Nat) (List.take (0 : Nat) l)) ≤ (1000000000 : Nat)) ∧
                                  (List.drop (0 : Nat) (List.take (0 : Nat) l) = List.drop (0 : Nat) (List.take (0 : Nat) l) ∧ List.length (List.drop (0 : Nat) (List.take (0 : Nat) l)) + List.length [(o.fst, o.snd.fst, o.snd.snd.fst, o.snd.snd.snd.fst, ())] ≤ (1000000000 : Nat)) ∧
                                  ((0 : Int) ≤ (0 : Int) ∧ (0 : Int) ≤ (↑(List.length l) : Int) ∧ (↑(List.length l) : Int) ≤ (↑(List.length l) : Int)) ∧
                                  (List.drop (0 : Nat) (List.take (0 : Nat) l) ++ [(o.fst, o.snd.fst, o.snd.snd.fst, o.snd.snd.snd.fst, ())] = List.drop (0 : Nat) (List.take (0 : Nat) l) ++ [(o.fst, o.snd.fst, o.snd.snd.fst, o.snd.snd.snd.fst, ())] ∧ List.length (List.drop (0 : Nat) (List.take (0 : Nat) l) ++ [(o.fst, o.snd.fst, o.snd.snd.fst, o.snd.snd.snd.fst, ())]) + List.length (List.drop (0 : Nat) (List.take (List.length l) l)) ≤ (1000000000 : Nat)) ∧
                                  (True) ∧
                                  (((decide ((findS (l, s)).fst ≥ (0 : Int))) = true →
                                    ((I64 (findS (l, s)).fst) →
                                    ((I64 (1 : Int)) →
                                    (I64 ((findS (l, s)).fst + (1 : Int))) ∧
                                    ((((findS (List.drop (0 : Nat) (List.take (0 : Nat) l) ++ [(o.fst, o.snd.fst, o.snd.snd.fst, o.snd.snd.snd.fst, ())] ++ List.drop (0 : Nat) (List.take (List.length l) l), s)).fst == (findS (l, s)).fst + (1 : Int)) = true →
                                      (((findS (List.drop (0 : Nat) (List.take (0 : Nat) l) ++ [(o.fst, o.snd.fst, o.snd.snd.fst, o.snd.snd.snd.fst, ())] ++ List.drop (0 : Nat) (List.take (List.length l) l), s)).snd == (findS (l, s)).snd) = true)) ∧
                                    (((findS (List.drop (0 : Nat) (List.take (0 : Nat) l) ++ [(o.fst, o.snd.fst, o.snd.snd.fst, o.snd.snd.snd.fst, ())] ++ List.drop (0 : Nat) (List.take (List.length l) l), s)).fst == (findS (l, s)).fst + (1 : Int)) = false →
                                      (false = true)))))) ∧
                                  ((decide ((findS (l, s)).fst ≥ (0 : Int))) = false →
                                    ((((findS (List.drop (0 : Nat) (List.take (0 : Nat) l) ++ [(o.fst, o.snd.fst, o.snd.snd.fst, o.snd.snd.snd.fst, ())] ++ List.drop (0 : Nat) (List.take (List.length l) l), s)).fst == (findS (l, s)).fst) = true →
                                      (((findS (List.drop (0 : Nat) (List.take (0 : Nat) l) ++ [(o.fst, o.snd.fst, o.snd.snd.fst, o.snd.snd.snd.fst, ())] ++ List.drop (0 : Nat) (List.take (List.length l) l), s)).snd == (findS (l, s)).snd) = true)) ∧
                                    (((findS (List.drop (0 : Nat) (List.take (0 : Nat) l) ++ [(o.fst, o.snd.fst, o.snd.snd.fst, o.snd.snd.snd.fst, ())] ++ List.drop (0 : Nat) (List.take (List.length l) l), s)).fst == (findS (l, s)).fst) = false →
                                      (false = true)))))) ∧
                                (((List.length (List.drop (0 : Nat) (List.take (0 : Nat) l)) ≤ (1000000000 : Nat)) ∧
                                  (List.drop (0 : Nat) (List.take (0 : Nat) l) = List.drop (0 : Nat) (List.take (0 : Nat) l) ∧ List.length (List.drop (0 : Nat) (List.take (0 : Nat) l)) + List.length [(o.fst, o.snd.fst, o.snd.snd.fst, o.snd.snd.snd.fst, ())] ≤ (1000000000 : Nat)) ∧
                                  ((0 : Int) ≤ (0 : Int) ∧ (0 : Int) ≤ (↑(List.length l) : Int) ∧ (↑(List.length l) : Int) ≤ (↑(List.length l) : Int)) ∧
                                  (List.drop (0 : Nat) (List.take (0 : Nat) l) ++ [(o.fst, o.snd.fst, o.snd.snd.fst, o.snd.snd.snd.fst, ())] = List.drop (0 : Nat) (List.take (0 : Nat) l) ++ [(o.fst, o.snd.fst, o.snd.snd.fst, o.snd.snd.snd.fst, ())] ∧ List.length (List.drop (0 : Nat) (List.take (0 : Nat) l) ++ [(o.fst, o.snd.fst, o.snd.snd.fst, o.snd.snd.snd.fst, ())]) + List.length (List.drop (0 : Nat) (List.take (List.length l) l)) ≤ (1000000000 : Nat)) ∧
                                  (True) ∧
                                  (((decide ((findS (l, s)).fst ≥ (0 : Int))) = true →
                                    ((I64 (findS (l, s)).fst) →
                                    ((I64 (1 : Int)) →
                                    (I64 ((findS (l, s)).fst + (1 : Int))) ∧
                                    ((((findS (List.drop (0 : Nat) (List.take (0 : Nat) l) ++ [(o.fst, o.snd.fst, o.snd.snd.fst, o.snd.snd.snd.fst, ())] ++ List.drop (0 : Nat) (List.take (List.length l) l), s)).fst == (findS (l, s)).fst + (1 : Int)) = true →
                                      (((findS (List.drop (0 : Nat) (List.take (0 : Nat) l) ++ [(o.fst, o.snd.fst, o.snd.snd.fst, o.snd.snd.snd.fst, ())] ++ List.drop (0 : Nat) (List.take (List.length l) l), s)).snd == (findS (l, s)).snd) = true)) ∧
                                    (((findS (List.drop (0 : Nat) (List.take (0 : Nat) l) ++ [(o.fst, o.snd.fst, o.snd.snd.fst, o.snd.snd.snd.fst, ())] ++ List.drop (0 : Nat) (List.take (List.length l) l), s)).fst == (findS (l, s)).fst + (1 : Int)) = false →
                                      (false = true)))))) ∧
                                  ((decide ((findS (l, s)).fst ≥ (0 : Int))) = false →
                                    ((((findS (List.drop (0 : Nat) (List.take (0 : Nat) l) ++ [(o.fst, o.snd.fst, o.snd.snd.fst, o.snd.snd.snd.fst, ())] ++ List.drop (0 : Nat) (List.take (List.length l) l), s)).fst == (findS (l, s)).fst) = true →
                                      (((findS (List.drop (0 : Nat) (List.take (0 : Nat) l) ++ [(o.fst, o.snd.fst, o.snd.snd.fst, o.snd.snd.snd.fst, ())] ++ List.drop (0 : Nat) (List.take (List.length l) l), s)).snd == (findS (l, s)).snd) = true)) ∧
                                    (((findS (List.drop (0 : Nat) (List.take (0 : Nat) l) ++ [(o.fst, o.snd.fst, o.snd.snd.fst, o.snd.snd.snd.fst, ())] ++ List.drop (0 : Nat) (List.take (List.length l) l), s)).fst == (findS (l, s)).fst) = false →
                                      (false = true)))))) ∧
                                ((List.length (List.drop (0 : Nat) (List.take (0 : Nat) l)) ≤ (1000000000 : Nat)) ∧
                                  (List.drop (0 : Nat) (List.take (0 : Nat) l) = List.drop (0 : Nat) (List.take (0 : Nat) l) ∧ List.length (List.drop (0 : Nat) (List.take (0 : Nat) l)) + List.length [(o.fst, o.snd.fst, o.snd.snd.fst, o.snd.snd.snd.fst, ())] ≤ (1000000000 : Nat)) ∧
                                  ((0 : Int) ≤ (0 : Int) ∧ (0 : Int) ≤ (↑(List.length l) : Int) ∧ (↑(List.length l) : Int) ≤ (↑(List.length l) : Int)) ∧
                                  (List.drop (0 : Nat) (List.take (0 : Nat) l) ++ [(o.fst, o.snd.fst, o.snd.snd.fst, o.snd.snd.snd.fst, ())] = List.drop (0 : Nat) (List.take (0 : Nat) l) ++ [(o.fst, o.snd.fst, o.snd.snd.fst, o.snd.snd.snd.fst, ())] ∧ List.length (List.drop (0 : Nat) (List.take (0 : Nat) l) ++ [(o.fst, o.snd.fst, o.snd.snd.fst, o.snd.snd.snd.fst, ())]) + List.length (List.drop (0 : Nat) (List.take (List.length l) l)) ≤ (1000000000 : Nat)) ∧
                                  (True) ∧
                                  (((decide ((findS (l, s)).fst ≥ (0 : Int))) = true →
                                    ((I64 (findS (l, s)).fst) →
                                    ((I64 (1 : Int)) →
                                    (I64 ((findS (l, s)).fst + (1 : Int))) ∧
                                    ((((findS (List.drop (0 : Nat) (List.take (0 : Nat) l) ++ [(o.fst, o.snd.fst, o.snd.snd.fst, o.snd.snd.snd.fst, ())] ++ List.drop (0 : Nat) (List.take (List.length l) l), s)).fst == (findS (l, s)).fst + (1 : Int)) = true →
                                      (((findS (List.drop (0 : Nat) (List.take (0 : Nat) l) ++ [(o.fst, o.snd.fst, o.snd.snd.fst, o.snd.snd.snd.fst, ())] ++ List.drop (0 : Nat) (List.take (List.length l) l), s)).snd == (findS (l, s)).snd) = true)) ∧
                                    (((findS (List.drop (0 : Nat) (List.take (0 : Nat) l) ++ [(o.fst, o.snd.fst, o.snd.snd.fst, o.snd.snd.snd.fst, ())] ++ List.drop (0 : Nat) (List.take (List.length l) l), s)).fst == (findS (l, s)).fst + (1 : Int)) = false →
                                      (false = true)))))) ∧
                                  ((decide ((findS (l, s)).fst ≥ (0 : Int))) = false →
                                    ((((findS (List.drop (0 : Nat) (List.take (0 : Nat) l) ++ [(o.fst, o.snd.fst, o.snd.snd.fst, o.snd.snd.snd.fst, ())] ++ List.drop (0 : Nat) (List.take (List.length l) l), s)).fst == (findS (l, s)).fst) = true →
                                      (((findS (List.drop (0 : Nat) (List.take (0 : Nat) l) ++ [(o.fst, o.snd.fst, o.snd.snd.fst, o.snd.snd.snd.fst, ())] ++ List.drop (0 : Nat) (List.take (List.length l) l), s)).snd == (findS (l, s)).snd) = true)) ∧
                                    (((findS (List.drop (0 : Nat) (List.take (0 : Nat) l) ++ [(o.fst, o.snd.fst, o.snd.snd.fst, o.snd.snd.snd.fst, ())] ++ List.drop (0 : Nat) (List.take (List.length l) l), s)).fst == (findS (l, s)).fst) = false →
                                      (false = true))))))))))))))))))))))))))))))))))))))))))) (by kernel_rfl) ?_
  refine ⟨?_, ?_⟩
  · first | exact True.intro | rfl | omega | assumption | (dsimp only [D] at *; omega) | (simp only [I64, big] at *; omega) | (simp_all; done)
  refine ⟨fun h0 => ?_, fun h0 => ?_⟩
  · try simp only [decide_eq_true_eq, decide_eq_false_iff_not, beq_iff_eq, beq_eq_false_iff_ne, bne_iff_ne, bne_eq_false_iff_eq, Bool.not_eq_true', Bool.not_eq_false', Bool.not_eq_true, Bool.not_eq_false, ne_eq, Bool.and_eq_true, Bool.or_eq_true, Bool.and_eq_false_iff, Bool.or_eq_false_iff, reduceCtorEq, Int.not_lt, Int.not_le] at h0
    exact absurd (congrArg Prod.fst one_x) (by simpa using h0)
  · try simp only [decide_eq_true_eq, decide_eq_false_iff_not, beq_iff_eq, beq_eq_false_iff_ne, bne_iff_ne, bne_eq_false_iff_eq, Bool.not_eq_true', Bool.not_eq_false', Bool.not_eq_true, Bool.not_eq_false, ne_eq, Bool.and_eq_true, Bool.or_eq_true, Bool.and_eq_false_iff, Bool.or_eq_false_iff, reduceCtorEq, Int.not_lt, Int.not_le] at h0
    refine ⟨fun h1 => ?_, fun h1 => ?_⟩
    · try simp only [decide_eq_true_eq, decide_eq_false_iff_not, beq_iff_eq, beq_eq_false_iff_ne, bne_iff_ne, bne_eq_false_iff_eq, Bool.not_eq_true', Bool.not_eq_false', Bool.not_eq_true, Bool.not_eq_false, ne_eq, Bool.and_eq_true, Bool.or_eq_true, Bool.and_eq_false_iff, Bool.or_eq_false_iff, reduceCtorEq, Int.not_lt, Int.not_le] at h1
      exact absurd (congrArg Prod.snd one_x) (by simpa using h1)
    · try simp only [decide_eq_true_eq, decide_eq_false_iff_not, beq_iff_eq, beq_eq_false_iff_ne, bne_iff_ne, bne_eq_false_iff_eq, Bool.not_eq_true', Bool.not_eq_false', Bool.not_eq_true, Bool.not_eq_false, ne_eq, Bool.and_eq_true, Bool.or_eq_true, Bool.and_eq_false_iff, Bool.or_eq_false_iff, reduceCtorEq, Int.not_lt, Int.not_le] at h1
      refine ⟨?_, ?_⟩
      · first | exact True.intro | rfl | omega | assumption | (dsimp only [D] at *; omega) | (simp only [I64, big] at *; omega) | (simp_all; done)
      intro x_0 q_0
      refine ⟨fun h2 => ?_, fun h2 => ?_⟩
      · try simp only [decide_eq_true_eq, decide_eq_false_iff_not, beq_iff_eq, beq_eq_false_iff_ne, bne_iff_ne, bne_eq_false_iff_eq, Bool.not_eq_true', Bool.not_eq_false', Bool.not_eq_true, Bool.not_eq_false, ne_eq, Bool.and_eq_true, Bool.or_eq_true, Bool.and_eq_false_iff, Bool.or_eq_false_iff, reduceCtorEq, Int.not_lt, Int.not_le] at h2
        first | exact True.intro | rfl | omega | assumption | (dsimp only [D] at *; omega) | (simp only [I64, big] at *; omega) | (simp_all; done)
      · try simp only [decide_eq_true_eq, decide_eq_false_iff_not, beq_iff_eq, beq_eq_false_iff_ne, bne_iff_ne, bne_eq_false_iff_eq, Bool.not_eq_true', Bool.not_eq_false', Bool.not_eq_true, Bool.not_eq_false, ne_eq, Bool.and_eq_true, Bool.or_eq_true, Bool.and_eq_false_iff, Bool.or_eq_false_iff, reduceCtorEq, Int.not_lt, Int.not_le] at h2
        refine ⟨?_, ?_⟩
        · first | exact True.intro | rfl | omega | assumption | (dsimp only [D] at *; omega) | (simp only [I64, big] at *; omega) | (simp_all; done)
        intro x_1 q_1
        refine ⟨fun h3 => ?_, fun h3 => ?_⟩
        · try simp only [decide_eq_true_eq, decide_eq_false_iff_not, beq_iff_eq, beq_eq_false_iff_ne, bne_iff_ne, bne_eq_false_iff_eq, Bool.not_eq_true', Bool.not_eq_false', Bool.not_eq_true, Bool.not_eq_false, ne_eq, Bool.and_eq_true, Bool.or_eq_true, Bool.and_eq_false_iff, Bool.or_eq_false_iff, reduceCtorEq, Int.not_lt, Int.not_le] at h3
          first | exact True.intro | rfl | omega | assumption | (dsimp only [D] at *; omega) | (simp only [I64, big] at *; omega) | (simp_all; done)
        · try simp only [decide_eq_true_eq, decide_eq_false_iff_not, beq_iff_eq, beq_eq_false_iff_ne, bne_iff_ne, bne_eq_false_iff_eq, Bool.not_eq_true', Bool.not_eq_false', Bool.not_eq_true, Bool.not_eq_false, ne_eq, Bool.and_eq_true, Bool.or_eq_true, Bool.and_eq_false_iff, Bool.or_eq_false_iff, reduceCtorEq, Int.not_lt, Int.not_le] at h3
          intro h4
          refine ⟨fun h5 => ?_, fun h5 => ?_⟩
          · try simp only [decide_eq_true_eq, decide_eq_false_iff_not, beq_iff_eq, beq_eq_false_iff_ne, bne_iff_ne, bne_eq_false_iff_eq, Bool.not_eq_true', Bool.not_eq_false', Bool.not_eq_true, Bool.not_eq_false, ne_eq, Bool.and_eq_true, Bool.or_eq_true, Bool.and_eq_false_iff, Bool.or_eq_false_iff, reduceCtorEq, Int.not_lt, Int.not_le] at h5
            first | exact True.intro | rfl | omega | assumption | (dsimp only [D] at *; omega) | (simp only [I64, big] at *; omega) | (simp_all; done)
          · try simp only [decide_eq_true_eq, decide_eq_false_iff_not, beq_iff_eq, beq_eq_false_iff_ne, bne_iff_ne, bne_eq_false_iff_eq, Bool.not_eq_true', Bool.not_eq_false', Bool.not_eq_true, Bool.not_eq_false, ne_eq, Bool.and_eq_true, Bool.or_eq_true, Bool.and_eq_false_iff, Bool.or_eq_false_iff, reduceCtorEq, Int.not_lt, Int.not_le] at h5
            refine ⟨?_, ?_⟩
            · exact ⟨(0, false, false), ⟨by omega, by simp, by simp⟩, ⟨rfl, rfl, rfl, trivial⟩, trivial⟩
            intro x_2 q_2
            intro h6
            refine ⟨fun h7 => ?_, fun h7 => ?_⟩
            · try simp only [decide_eq_true_eq, decide_eq_false_iff_not, beq_iff_eq, beq_eq_false_iff_ne, bne_iff_ne, bne_eq_false_iff_eq, Bool.not_eq_true', Bool.not_eq_false', Bool.not_eq_true, Bool.not_eq_false, ne_eq, Bool.and_eq_true, Bool.or_eq_true, Bool.and_eq_false_iff, Bool.or_eq_false_iff, reduceCtorEq, Int.not_lt, Int.not_le] at h7
              refine ⟨fun h8 => ?_, fun h8 => ?_⟩
              · try simp only [decide_eq_true_eq, decide_eq_false_iff_not, beq_iff_eq, beq_eq_false_iff_ne, bne_iff_ne, bne_eq_false_iff_eq, Bool.not_eq_true', Bool.not_eq_false', Bool.not_eq_true, Bool.not_eq_false, ne_eq, Bool.and_eq_true, Bool.or_eq_true, Bool.and_eq_false_iff, Bool.or_eq_false_iff, reduceCtorEq, Int.not_lt, Int.not_le] at h8
                refine ⟨fun h9 => ?_, fun h9 => ?_⟩
                · try simp only [decide_eq_true_eq, decide_eq_false_iff_not, beq_iff_eq, beq_eq_false_iff_ne, bne_iff_ne, bne_eq_false_iff_eq, Bool.not_eq_true', Bool.not_eq_false', Bool.not_eq_true, Bool.not_eq_false, ne_eq, Bool.and_eq_true, Bool.or_eq_true, Bool.and_eq_false_iff, Bool.or_eq_false_iff, reduceCtorEq, Int.not_lt, Int.not_le] at h9
                  intro h10
                  intro h11
                  refine ⟨?_, ?_⟩
                  · first | exact True.intro | rfl | omega | assumption | (dsimp only [D] at *; omega) | (simp only [I64, big] at *; omega) | (simp_all; done)
                  exact ⟨(x_2.1 + 1, _, _), ⟨by omega, has_next q_2.2.1 (by simp_all), has_next q_2.2.2 (by simp_all)⟩, by simp only; omega, ⟨by simp only; omega, rfl, rfl, trivial⟩, (by repeat' (first | exact trivial | rfl | apply And.intro))⟩
                · try simp only [decide_eq_true_eq, decide_eq_false_iff_not, beq_iff_eq, beq_eq_false_iff_ne, bne_iff_ne, bne_eq_false_iff_eq, Bool.not_eq_true', Bool.not_eq_false', Bool.not_eq_true, Bool.not_eq_false, ne_eq, Bool.and_eq_true, Bool.or_eq_true, Bool.and_eq_false_iff, Bool.or_eq_false_iff, reduceCtorEq, Int.not_lt, Int.not_le] at h9
                  refine ⟨?_, ?_⟩
                  · first | exact True.intro | rfl | omega | assumption | (dsimp only [D] at *; omega) | (simp only [I64, big] at *; omega) | (simp_all; done)
                  refine ⟨fun h10 => ?_, fun h10 => ?_⟩
                  · try simp only [decide_eq_true_eq, decide_eq_false_iff_not, beq_iff_eq, beq_eq_false_iff_ne, bne_iff_ne, bne_eq_false_iff_eq, Bool.not_eq_true', Bool.not_eq_false', Bool.not_eq_true, Bool.not_eq_false, ne_eq, Bool.and_eq_true, Bool.or_eq_true, Bool.and_eq_false_iff, Bool.or_eq_false_iff, reduceCtorEq, Int.not_lt, Int.not_le] at h10
                    refine ⟨?_, ?_⟩
                    · first | exact True.intro | rfl | omega | assumption | (dsimp only [D] at *; omega) | (simp only [I64, big] at *; omega) | (simp_all; done)
                    intro h11
                    intro h12
                    refine ⟨?_, ?_⟩
                    · first | exact True.intro | rfl | omega | assumption | (dsimp only [D] at *; omega) | (simp only [I64, big] at *; omega) | (simp_all; done)
                    exact ⟨(x_2.1 + 1, _, !(nth tSymbol o.snd.snd.fst x_2.fst).snd.snd.fst), ⟨by omega, has_next q_2.2.1 (by simp_all), has_next q_2.2.2 (by simp_all)⟩, by simp only; omega, ⟨by simp only; omega, rfl, rfl, trivial⟩, (by repeat' (first | exact trivial | rfl | apply And.intro))⟩
                  · try simp only [decide_eq_true_eq, decide_eq_false_iff_not, beq_iff_eq, beq_eq_false_iff_ne, bne_iff_ne, bne_eq_false_iff_eq, Bool.not_eq_true', Bool.not_eq_false', Bool.not_eq_true, Bool.not_eq_false, ne_eq, Bool.and_eq_true, Bool.or_eq_true, Bool.and_eq_false_iff, Bool.or_eq_false_iff, reduceCtorEq, Int.not_lt, Int.not_le] at h10
                    intro h11
                    intro h12
                    refine ⟨?_, ?_⟩
                    · first | exact True.intro | rfl | omega | assumption | (dsimp only [D] at *; omega) | (simp only [I64, big] at *; omega) | (simp_all; done)
                    exact ⟨(x_2.1 + 1, _, _), ⟨by omega, has_next q_2.2.1 (by simp_all), has_next q_2.2.2 (by simp_all)⟩, by simp only; omega, ⟨by simp only; omega, rfl, rfl, trivial⟩, (by repeat' (first | exact trivial | rfl | apply And.intro))⟩
              · try simp only [decide_eq_true_eq, decide_eq_false_iff_not, beq_iff_eq, beq_eq_false_iff_ne, bne_iff_ne, bne_eq_false_iff_eq, Bool.not_eq_true', Bool.not_eq_false', Bool.not_eq_true, Bool.not_eq_false, ne_eq, Bool.and_eq_true, Bool.or_eq_true, Bool.and_eq_false_iff, Bool.or_eq_false_iff, reduceCtorEq, Int.not_lt, Int.not_le] at h8
                refine ⟨?_, ?_⟩
                · first | exact True.intro | rfl | omega | assumption | (dsimp only [D] at *; omega) | (simp only [I64, big] at *; omega) | (simp_all; done)
                refine ⟨fun h9 => ?_, fun h9 => ?_⟩
                · try simp only [decide_eq_true_eq, decide_eq_false_iff_not, beq_iff_eq, beq_eq_false_iff_ne, bne_iff_ne, bne_eq_false_iff_eq, Bool.not_eq_true', Bool.not_eq_false', Bool.not_eq_true, Bool.not_eq_false, ne_eq, Bool.and_eq_true, Bool.or_eq_true, Bool.and_eq_false_iff, Bool.or_eq_false_iff, reduceCtorEq, Int.not_lt, Int.not_le] at h9
                  intro h10
                  intro h11
                  refine ⟨?_, ?_⟩
                  · first | exact True.intro | rfl | omega | assumption | (dsimp only [D] at *; omega) | (simp only [I64, big] at *; omega) | (simp_all; done)
                  exact ⟨(x_2.1 + 1, _, _), ⟨by omega, has_next q_2.2.1 (by simp_all), has_next q_2.2.2 (by simp_all)⟩, by simp only; omega, ⟨by simp only; omega, rfl, rfl, trivial⟩, (by repeat' (first | exact trivial | rfl | apply And.intro))⟩
                · try simp only [decide_eq_true_eq, decide_eq_false_iff_not, beq_iff_eq, beq_eq_false_iff_ne, bne_iff_ne, bne_eq_false_iff_eq, Bool.not_eq_true', Bool.not_eq_false', Bool.not_eq_true, Bool.not_eq_false, ne_eq, Bool.and_eq_true, Bool.or_eq_true, Bool.and_eq_false_iff, Bool.or_eq_false_iff, reduceCtorEq, Int.not_lt, Int.not_le] at h9
                  refine ⟨?_, ?_⟩
                  · first | exact True.intro | rfl | omega | assumption | (dsimp only [D] at *; omega) | (simp only [I64, big] at *; omega) | (simp_all; done)
                  refine ⟨fun h10 => ?_, fun h10 => ?_⟩
                  · try simp only [decide_eq_true_eq, decide_eq_false_iff_not, beq_iff_eq, beq_eq_false_iff_ne, bne_iff_ne, bne_eq_false_iff_eq, Bool.not_eq_true', Bool.not_eq_false', Bool.not_eq_true, Bool.not_eq_false, ne_eq, Bool.and_eq_true, Bool.or_eq_true, Bool.and_eq_false_iff, Bool.or_eq_false_iff, reduceCtorEq, Int.not_lt, Int.not_le] at h10
                    refine ⟨?_, ?_⟩
                    · first | exact True.intro | rfl | omega | assumption | (dsimp only [D] at *; omega) | (simp only [I64, big] at *; omega) | (simp_all; done)
                    intro h11
                    intro h12
                    refine ⟨?_, ?_⟩
                    · first | exact True.intro | rfl | omega | assumption | (dsimp only [D] at *; omega) | (simp only [I64, big] at *; omega) | (simp_all; done)
                    exact ⟨(x_2.1 + 1, _, !(nth tSymbol o.snd.snd.fst x_2.fst).snd.snd.fst), ⟨by omega, has_next q_2.2.1 (by simp_all), has_next q_2.2.2 (by simp_all)⟩, by simp only; omega, ⟨by simp only; omega, rfl, rfl, trivial⟩, (by repeat' (first | exact trivial | rfl | apply And.intro))⟩
                  · try simp only [decide_eq_true_eq, decide_eq_false_iff_not, beq_iff_eq, beq_eq_false_iff_ne, bne_iff_ne, bne_eq_false_iff_eq, Bool.not_eq_true', Bool.not_eq_false', Bool.not_eq_true, Bool.not_eq_false, ne_eq, Bool.and_eq_true, Bool.or_eq_true, Bool.and_eq_false_iff, Bool.or_eq_false_iff, reduceCtorEq, Int.not_lt, Int.not_le] at h10
                    intro h11
                    intro h12
                    refine ⟨?_, ?_⟩
                    · first | exact True.intro | rfl | omega | assumption | (dsimp only [D] at *; omega) | (simp only [I64, big] at *; omega) | (simp_all; done)
                    exact ⟨(x_2.1 + 1, _, _), ⟨by omega, has_next q_2.2.1 (by simp_all), has_next q_2.2.2 (by simp_all)⟩, by simp only; omega, ⟨by simp only; omega, rfl, rfl, trivial⟩, (by repeat' (first | exact trivial | rfl | apply And.intro))⟩
            · try simp only [decide_eq_true_eq, decide_eq_false_iff_not, beq_iff_eq, beq_eq_false_iff_ne, bne_iff_ne, bne_eq_false_iff_eq, Bool.not_eq_true', Bool.not_eq_false', Bool.not_eq_true, Bool.not_eq_false, ne_eq, Bool.and_eq_true, Bool.or_eq_true, Bool.and_eq_false_iff, Bool.or_eq_false_iff, reduceCtorEq, Int.not_lt, Int.not_le] at h7
              refine ⟨?_, ?_⟩
              · first | exact True.intro | rfl | omega | assumption | (dsimp only [D] at *; omega) | (simp only [I64, big] at *; omega) | (simp_all; done)
              refine ⟨fun h8 => ?_, fun h8 => ?_⟩
              · try simp only [decide_eq_true_eq, decide_eq_false_iff_not, beq_iff_eq, beq_eq_false_iff_ne, bne_iff_ne, bne_eq_false_iff_eq, Bool.not_eq_true', Bool.not_eq_false', Bool.not_eq_true, Bool.not_eq_false, ne_eq, Bool.and_eq_true, Bool.or_eq_true, Bool.and_eq_false_iff, Bool.or_eq_false_iff, reduceCtorEq, Int.not_lt, Int.not_le] at h8
                first | exact True.intro | rfl | omega | assumption | (dsimp only [D] at *; omega) | (simp only [I64, big] at *; omega) | (simp_all; done)
              · try simp only [decide_eq_true_eq, decide_eq_false_iff_not, beq_iff_eq, beq_eq_false_iff_ne, bne_iff_ne, bne_eq_false_iff_eq, Bool.not_eq_true', Bool.not_eq_false', Bool.not_eq_true, Bool.not_eq_false, ne_eq, Bool.and_eq_true, Bool.or_eq_true, Bool.and_eq_false_iff, Bool.or_eq_false_iff, reduceCtorEq, Int.not_lt, Int.not_le] at h8
                refine ⟨fun h9 => ?_, fun h9 => ?_⟩
                · try simp only [decide_eq_true_eq, decide_eq_false_iff_not, beq_iff_eq, beq_eq_false_iff_ne, bne_iff_ne, bne_eq_false_iff_eq, Bool.not_eq_true', Bool.not_eq_false', Bool.not_eq_true, Bool.not_eq_false, ne_eq, Bool.and_eq_true, Bool.or_eq_true, Bool.and_eq_false_iff, Bool.or_eq_false_iff, reduceCtorEq, Int.not_lt, Int.not_le] at h9
                  refine ⟨fun h10 => ?_, fun h10 => ?_⟩
                  · try simp only [decide_eq_true_eq, decide_eq_false_iff_not, beq_iff_eq, beq_eq_false_iff_ne, bne_iff_ne, bne_eq_false_iff_eq, Bool.not_eq_true', Bool.not_eq_false', Bool.not_eq_true, Bool.not_eq_false, ne_eq, Bool.and_eq_true, Bool.or_eq_true, Bool.and_eq_false_iff, Bool.or_eq_false_iff, reduceCtorEq, Int.not_lt, Int.not_le] at h10
                    first | exact True.intro | rfl | omega | assumption | (dsimp only [D] at *; omega) | (simp only [I64, big] at *; omega) | (simp_all; done)
                  · try simp only [decide_eq_true_eq, decide_eq_false_iff_not, beq_iff_eq, beq_eq_false_iff_ne, bne_iff_ne, bne_eq_false_iff_eq, Bool.not_eq_true', Bool.not_eq_false', Bool.not_eq_true, Bool.not_eq_false, ne_eq, Bool.and_eq_true, Bool.or_eq_true, Bool.and_eq_false_iff, Bool.or_eq_false_iff, reduceCtorEq, Int.not_lt, Int.not_le] at h10
                    have hb11_0 :
                        (List.length l ≤ (1000000000 : Nat)) ∧
                                          (l = l ∧ List.length l + List.length [(o.fst, o.snd.fst, o.snd.snd.fst, o.snd.snd.snd.fst, ())] ≤ (1000000000 : Nat)) ∧
                                          (True) ∧
                                          ((((findS (l ++ [(o.fst, o.snd.fst, o.snd.snd.fst, o.snd.snd.snd.fst, ())], s)).fst != (findS (l, s)).fst) = true →
                                            (false = true)) ∧
                                          (((findS (l ++ [(o.fst, o.snd.fst, o.snd.snd.fst, o.snd.snd.snd.fst, ())], s)).fst != (findS (l, s)).fst) = false →
                                            ((((findS (l ++ [(o.fst, o.snd.fst, o.snd.snd.fst, o.snd.snd.snd.fst, ())], s)).snd != (findS (l, s)).snd) = true →
                                              (false = true)) ∧
                                            (((findS (l ++ [(o.fst, o.snd.fst, o.snd.snd.fst, o.snd.snd.snd.fst, ())], s)).snd != (findS (l, s)).snd) = false →
                                              (((x_2.snd.fst) = true →
                                                (true = true)) ∧
                                              ((x_2.snd.fst) = false →
                                                ((List.length l ≤ big) →
                                                (((decide ((↑(List.length l) : Int) > (0 : Int))) = true →
                                                  (∀ x_3 : Int,
                                                  ((x_3 = IntKind.wrap IntKind.i64 (↑(BitVec.toNat (BitVec.ofInt (IntKind.bits IntKind.i64) a &&& BitVec.ofInt (IntKind.bits IntKind.i64) (1023 : Int))) : Int)) →
                                                  ((List.length l ≤ big) →
                                                  ((I64 (↑(List.length l) : Int)) →
                                                  ((I64 (1 : Int)) →
                                                  (I64 ((↑(List.length l) : Int) + (1 : Int))) ∧
                                                  ((↑(List.length l) : Int) + (1 : Int) ≠ (0 : Int)) ∧
                                                  (∀ x_4 : Int,
                                                  ((x_4 = Int.tmod x_3 ((↑(List.length l) : Int) + (1 : Int))) →
                                                  ((0 : Int) ≤ (0 : Int) ∧ (0 : Int) ≤ x_4 ∧ x_4 ≤ (↑(List.length l) : Int)) ∧
                                                  ((List.length (List.drop (0 : Nat) (List.take (Int.toNat x_4) l)) ≤ (1000000000 : Nat)) ∧
                                                    (List.drop (0 : Nat) (List.take (Int.toNat x_4) l) = List.drop (0 : Nat) (List.take (Int.toNat x_4) l) ∧ List.length (List.drop (0 : Nat) (List.take (Int.toNat x_4) l)) + List.length [(o.fst, o.snd.fst, o.snd.snd.fst, o.snd.snd.snd.fst, ())] ≤ (1000000000 : Nat)) ∧
                                                    ((0 : Int) ≤ x_4 ∧ x_4 ≤ (↑(List.length l) : Int) ∧ (↑(List.length l) : Int) ≤ (↑(List.length l) : Int)) ∧
                                                    (List.drop (0 : Nat) (List.take (Int.toNat x_4) l) ++ [(o.fst, o.snd.fst, o.snd.snd.fst, o.snd.snd.snd.fst, ())] = List.drop (0 : Nat) (List.take (Int.toNat x_4) l) ++ [(o.fst, o.snd.fst, o.snd.snd.fst, o.snd.snd.snd.fst, ())] ∧ List.length (List.drop (0 : Nat) (List.take (Int.toNat x_4) l) ++ [(o.fst, o.snd.fst, o.snd.snd.fst, o.snd.snd.snd.fst, ())]) + List.length (List.drop (Int.toNat x_4) (List.take (List.length l) l)) ≤ (1000000000 : Nat)) ∧
                                                    (True) ∧
                                                    (((decide ((findS (l, s)).fst ≥ x_4)) = true →
                                                      ((I64 (findS (l, s)).fst) →
                                                      ((I64 (1 : Int)) →
                                                      (I64 ((findS (l, s)).fst + (1 : Int))) ∧
                                                      ((((findS (List.drop (0 : Nat) (List.take (Int.toNat x_4) l) ++ [(o.fst, o.snd.fst, o.snd.snd.fst, o.snd.snd.snd.fst, ())] ++ List.drop (Int.toNat x_4) (List.take (List.length l) l), s)).fst == (findS (l, s)).fst + (1 : Int)) = true →
                                                        (((findS (List.drop (0 : Nat) (List.take (Int.toNat x_4) l) ++ [(o.fst, o.snd.fst, o.snd.snd.fst, o.snd.snd.snd.fst, ())] ++ List.drop (Int.toNat x_4) (List.take (List.length l) l), s)).snd == (findS (l, s)).snd) = true)) ∧
                                                      (((findS (List.drop (0 : Nat) (List.take (Int.toNat x_4) l) ++ [(o.fst, o.snd.fst, o.snd.snd.fst, o.snd.snd.snd.fst, ())] ++ List.drop (Int.toNat x_4) (List.take (List.length l) l), s)).fst == (findS (l, s)).fst + (1 : Int)) = false →
                                                        (false = true)))))) ∧
                                                    ((decide ((findS (l, s)).fst ≥ x_4)) = false →
                                                      ((((findS (List.drop (0 : Nat) (List.take (Int.toNat x_4) l) ++ [(o.fst, o.snd.fst, o.snd.snd.fst, o.snd.snd.snd.fst, ())] ++ List.drop (Int.toNat x_4) (List.take (List.length l) l), s)).fst == (findS (l, s)).fst) = true →
                                                        (((findS (List.drop (0 : Nat) (List.take (Int.toNat x_4) l) ++ [(o.fst, o.snd.fst, o.snd.snd.fst, o.snd.snd.snd.fst, ())] ++ List.drop (Int.toNat x_4) (List.take (List.length l) l), s)).snd == (findS (l, s)).snd) = true)) ∧
                                                      (((findS (List.drop (0 : Nat) (List.take (Int.toNat x_4) l) ++ [(o.fst, o.snd.fst, o.snd.snd.fst, o.snd.snd.snd.fst, ())] ++ List.drop (Int.toNat x_4) (List.take (List.length l) l), s)).fst == (findS (l, s)).fst) = false →
                                                        (false = true)))))) ∧
                                                  (((List.length (List.drop (0 : Nat) (List.take (Int.toNat x_4) l)) ≤ (1000000000 : Nat)) ∧
                                                    (List.drop (0 : Nat) (List.take (Int.toNat x_4) l) = List.drop (0 : Nat) (List.take (Int.toNat x_4) l) ∧ List.length (List.drop (0 : Nat) (List.take (Int.toNat x_4) l)) + List.length [(o.fst, o.snd.fst, o.snd.snd.fst, o.snd.snd.snd.fst, ())] ≤ (1000000000 : Nat)) ∧
                                                    ((0 : Int) ≤ x_4 ∧ x_4 ≤ (↑(List.length l) : Int) ∧ (↑(List.length l) : Int) ≤ (↑(List.length l) : Int)) ∧
                                                    (List.drop (0 : Nat) (List.take (Int.toNat x_4) l) ++ [(o.fst, o.snd.fst, o.snd.snd.fst, o.snd.snd.snd.fst, ())] = List.drop (0 : Nat) (List.take (Int.toNat x_4) l) ++ [(o.fst, o.snd.fst, o.snd.snd.fst, o.snd.snd.snd.fst, ())] ∧ List.length (List.drop (0 : Nat) (List.take (Int.toNat x_4) l) ++ [(o.fst, o.snd.fst, o.snd.snd.fst, o.snd.snd.snd.fst, ())]) + List.length (List.drop (Int.toNat x_4) (List.take (List.length l) l)) ≤ (1000000000 : Nat)) ∧
                                                    (True) ∧
                                                    (((decide ((findS (l, s)).fst ≥ x_4)) = true →
                                                      ((I64 (findS (l, s)).fst) →
                                                      ((I64 (1 : Int)) →
                                                      (I64 ((findS (l, s)).fst + (1 : Int))) ∧
                                                      ((((findS (List.drop (0 : Nat) (List.take (Int.toNat x_4) l) ++ [(o.fst, o.snd.fst, o.snd.snd.fst, o.snd.snd.snd.fst, ())] ++ List.drop (Int.toNat x_4) (List.take (List.length l) l), s)).fst == (findS (l, s)).fst + (1 : Int)) = true →
                                                        (((findS (List.drop (0 : Nat) (List.take (Int.toNat x_4) l) ++ [(o.fst, o.snd.fst, o.snd.snd.fst, o.snd.snd.snd.fst, ())] ++ List.drop (Int.toNat x_4) (List.take (List.length l) l), s)).snd == (findS (l, s)).snd) = true)) ∧
                                                      (((findS (List.drop (0 : Nat) (List.take (Int.toNat x_4) l) ++ [(o.fst, o.snd.fst, o.snd.snd.fst, o.snd.snd.snd.fst, ())] ++ List.drop (Int.toNat x_4) (List.take (List.length l) l), s)).fst == (findS (l, s)).fst + (1 : Int)) = false →
                                                        (false = true)))))) ∧
                                                    ((decide ((findS (l, s)).fst ≥ x_4)) = false →
                                                      ((((findS (List.drop (0 : Nat) (List.take (Int.toNat x_4) l) ++ [(o.fst, o.snd.fst, o.snd.snd.fst, o.snd.snd.snd.fst, ())] ++ List.drop (Int.toNat x_4) (List.take (List.length l) l), s)).fst == (findS (l, s)).fst) = true →
                                                        (((findS (List.drop (0 : Nat) (List.take (Int.toNat x_4) l) ++ [(o.fst, o.snd.fst, o.snd.snd.fst, o.snd.snd.snd.fst, ())] ++ List.drop (Int.toNat x_4) (List.take (List.length l) l), s)).snd == (findS (l, s)).snd) = true)) ∧
                                                      (((findS (List.drop (0 : Nat) (List.take (Int.toNat x_4) l) ++ [(o.fst, o.snd.fst, o.snd.snd.fst, o.snd.snd.snd.fst, ())] ++ List.drop (Int.toNat x_4) (List.take (List.length l) l), s)).fst == (findS (l, s)).fst) = false →
                                                        (false = true)))))) ∧
                                                  ((List.length (List.drop (0 : Nat) (List.take (Int.toNat x_4) l)) ≤ (1000000000 : Nat)) ∧
                                                    (List.drop (0 : Nat) (List.take (Int.toNat x_4) l) = List.drop (0 : Nat) (List.take (Int.toNat x_4) l) ∧ List.length (List.drop (0 : Nat) (List.take (Int.toNat x_4) l)) + List.length [(o.fst, o.snd.fst, o.snd.snd.fst, o.snd.snd.snd.fst, ())] ≤ (1000000000 : Nat)) ∧
                                                    ((0 : Int) ≤ x_4 ∧ x_4 ≤ (↑(List.length l) : Int) ∧ (↑(List.length l) : Int) ≤ (↑(List.length l) : Int)) ∧
                                                    (List.drop (0 : Nat) (List.take (Int.toNat x_4) l) ++ [(o.fst, o.snd.fst, o.snd.snd.fst, o.snd.snd.snd.fst, ())] = List.drop (0 : Nat) (List.take (Int.toNat x_4) l) ++ [(o.fst, o.snd.fst, o.snd.snd.fst, o.snd.snd.snd.fst, ())] ∧ List.length (List.drop (0 : Nat) (List.take (Int.toNat x_4) l) ++ [(o.fst, o.snd.fst, o.snd.snd.fst, o.snd.snd.snd.fst, ())]) + List.length (List.drop (Int.toNat x_4) (List.take (List.length l) l)) ≤ (1000000000 : Nat)) ∧
                                                    (True) ∧
                                                    (((decide ((findS (l, s)).fst ≥ x_4)) = true →
                                                      ((I64 (findS (l, s)).fst) →
                                                      ((I64 (1 : Int)) →
                                                      (I64 ((findS (l, s)).fst + (1 : Int))) ∧
                                                      ((((findS (List.drop (0 : Nat) (List.take (Int.toNat x_4) l) ++ [(o.fst, o.snd.fst, o.snd.snd.fst, o.snd.snd.snd.fst, ())] ++ List.drop (Int.toNat x_4) (List.take (List.length l) l), s)).fst == (findS (l, s)).fst + (1 : Int)) = true →
                                                        (((findS (List.drop (0 : Nat) (List.take (Int.toNat x_4) l) ++ [(o.fst, o.snd.fst, o.snd.snd.fst, o.snd.snd.snd.fst, ())] ++ List.drop (Int.toNat x_4) (List.take (List.length l) l), s)).snd == (findS (l, s)).snd) = true)) ∧
                                                      (((findS (List.drop (0 : Nat) (List.take (Int.toNat x_4) l) ++ [(o.fst, o.snd.fst, o.snd.snd.fst, o.snd.snd.snd.fst, ())] ++ List.drop (Int.toNat x_4) (List.take (List.length l) l), s)).fst == (findS (l, s)).fst + (1 : Int)) = false →
                                                        (false = true)))))) ∧
                                                    ((decide ((findS (l, s)).fst ≥ x_4)) = false →
                                                      ((((findS (List.drop (0 : Nat) (List.take (Int.toNat x_4) l) ++ [(o.fst, o.snd.fst, o.snd.snd.fst, o.snd.snd.snd.fst, ())] ++ List.drop (Int.toNat x_4) (List.take (List.length l) l), s)).fst == (findS (l, s)).fst) = true →
                                                        (((findS (List.drop (0 : Nat) (List.take (Int.toNat x_4) l) ++ [(o.fst, o.snd.fst, o.snd.snd.fst, o.snd.snd.snd.fst, ())] ++ List.drop (Int.toNat x_4) (List.take (List.length l) l), s)).snd == (findS (l, s)).snd) = true)) ∧
                                                      (((findS (List.drop (0 : Nat) (List.take (Int.toNat x_4) l) ++ [(o.fst, o.snd.fst, o.snd.snd.fst, o.snd.snd.snd.fst, ())] ++ List.drop (Int.toNat x_4) (List.take (List.length l) l), s)).fst == (findS (l, s)).fst) = false →
                                                        (false = true))))))))))))))) ∧
                                                ((decide ((↑(List.length l) : Int) > (0 : Int))) = false →
                                                  ((0 : Int) ≤ (0 : Int) ∧ (0 : Int) ≤ (0 : Int) ∧ (0 : Int) ≤ (↑(List.length l) : Int)) ∧
                                                  ((List.length (List.drop (0 : Nat) (List.take (0 : Nat) l)) ≤ (1000000000 : Nat)) ∧
                                                    (List.drop (0 : Nat) (List.take (0 : Nat) l) = List.drop (0 : Nat) (List.take (0 : Nat) l) ∧ List.length (List.drop (0 : Nat) (List.take (0 : Nat) l)) + List.length [(o.fst, o.snd.fst, o.snd.snd.fst, o.snd.snd.snd.fst, ())] ≤ (1000000000 : Nat)) ∧
                                                    ((0 : Int) ≤ (0 : Int) ∧ (0 : Int) ≤ (↑(List.length l) : Int) ∧ (↑(List.length l) : Int) ≤ (↑(List.length l) : Int)) ∧
                                                    (List.drop (0 : Nat) (List.take (0 : Nat) l) ++ [(o.fst, o.snd.fst, o.snd.snd.fst, o.snd.snd.snd.fst, ())] = List.drop (0 : Nat) (List.take (0 : Nat) l) ++ [(o.fst, o.snd.fst, o.snd.snd.fst, o.snd.snd.snd.fst, ())] ∧ List.length (List.drop (0 : Nat) (List.take (0 : Nat) l) ++ [(o.fst, o.snd.fst, o.snd.snd.fst, o.snd.snd.snd.fst, ())]) + List.length (List.drop (0 : Nat) (List.take (List.length l) l)) ≤ (1000000000 : Nat)) ∧
                                                    (True) ∧
                                                    (((decide ((findS (l, s)).fst ≥ (0 : Int))) = true →
                                                      ((I64 (findS (l, s)).fst) →
                                                      ((I64 (1 : Int)) →
                                                      (I64 ((findS (l, s)).fst + (1 : Int))) ∧
                                                      ((((findS (List.drop (0 : Nat) (List.take (0 : Nat) l) ++ [(o.fst, o.snd.fst, o.snd.snd.fst, o.snd.snd.snd.fst, ())] ++ List.drop (0 : Nat) (List.take (List.length l) l), s)).fst == (findS (l, s)).fst + (1 : Int)) = true →
                                                        (((findS (List.drop (0 : Nat) (List.take (0 : Nat) l) ++ [(o.fst, o.snd.fst, o.snd.snd.fst, o.snd.snd.snd.fst, ())] ++ List.drop (0 : Nat) (List.take (List.length l) l), s)).snd == (findS (l, s)).snd) = true)) ∧
                                                      (((findS (List.drop (0 : Nat) (List.take (0 : Nat) l) ++ [(o.fst, o.snd.fst, o.snd.snd.fst, o.snd.snd.snd.fst, ())] ++ List.drop (0 : Nat) (List.take (List.length l) l), s)).fst == (findS (l, s)).fst + (1 : Int)) = false →
                                                        (false = true)))))) ∧
                                                    ((decide ((findS (l, s)).fst ≥ (0 : Int))) = false →
                                                      ((((findS (List.drop (0 : Nat) (List.take (0 : Nat) l) ++ [(o.fst, o.snd.fst, o.snd.snd.fst, o.snd.snd.snd.fst, ())] ++ List.drop (0 : Nat) (List.take (List.length l) l), s)).fst == (findS (l, s)).fst) = true →
                                                        (((findS (List.drop (0 : Nat) (List.take (0 : Nat) l) ++ [(o.fst, o.snd.fst, o.snd.snd.fst, o.snd.snd.snd.fst, ())] ++ List.drop (0 : Nat) (List.take (List.length l) l), s)).snd == (findS (l, s)).snd) = true)) ∧
                                                      (((findS (List.drop (0 : Nat) (List.take (0 : Nat) l) ++ [(o.fst, o.snd.fst, o.snd.snd.fst, o.snd.snd.snd.fst, ())] ++ List.drop (0 : Nat) (List.take (List.length l) l), s)).fst == (findS (l, s)).fst) = false →
                                                        (false = true)))))) ∧
                                                  (((List.length (List.drop (0 : Nat) (List.take (0 : Nat) l)) ≤ (1000000000 : Nat)) ∧
                                                    (List.drop (0 : Nat) (List.take (0 : Nat) l) = List.drop (0 : Nat) (List.take (0 : Nat) l) ∧ List.length (List.drop (0 : Nat) (List.take (0 : Nat) l)) + List.length [(o.fst, o.snd.fst, o.snd.snd.fst, o.snd.snd.snd.fst, ())] ≤ (1000000000 : Nat)) ∧
                                                    ((0 : Int) ≤ (0 : Int) ∧ (0 : Int) ≤ (↑(List.length l) : Int) ∧ (↑(List.length l) : Int) ≤ (↑(List.length l) : Int)) ∧
                                                    (List.drop (0 : Nat) (List.take (0 : Nat) l) ++ [(o.fst, o.snd.fst, o.snd.snd.fst, o.snd.snd.snd.fst, ())] = List.drop (0 : Nat) (List.take (0 : Nat) l) ++ [(o.fst, o.snd.fst, o.snd.snd.fst, o.snd.snd.snd.fst, ())] ∧ List.length (List.drop (0 : Nat) (List.take (0 : Nat) l) ++ [(o.fst, o.snd.fst, o.snd.snd.fst, o.snd.snd.snd.fst, ())]) + List.length (List.drop (0 : Nat) (List.take (List.length l) l)) ≤ (1000000000 : Nat)) ∧
                                                    (True) ∧
                                                    (((decide ((findS (l, s)).fst ≥ (0 : Int))) = true →
                                                      ((I64 (findS (l, s)).fst) →
                                                      ((I64 (1 : Int)) →
                                                      (I64 ((findS (l, s)).fst + (1 : Int))) ∧
                                                      ((((findS (List.drop (0 : Nat) (List.take (0 : Nat) l) ++ [(o.fst, o.snd.fst, o.snd.snd.fst, o.snd.snd.snd.fst, ())] ++ List.drop (0 : Nat) (List.take (List.length l) l), s)).fst == (findS (l, s)).fst + (1 : Int)) = true →
                                                        (((findS (List.drop (0 : Nat) (List.take (0 : Nat) l) ++ [(o.fst, o.snd.fst, o.snd.snd.fst, o.snd.snd.snd.fst, ())] ++ List.drop (0 : Nat) (List.take (List.length l) l), s)).snd == (findS (l, s)).snd) = true)) ∧
                                                      (((findS (List.drop (0 : Nat) (List.take (0 : Nat) l) ++ [(o.fst, o.snd.fst, o.snd.snd.fst, o.snd.snd.snd.fst, ())] ++ List.drop (0 : Nat) (List.take (List.length l) l), s)).fst == (findS (l, s)).fst + (1 : Int)) = false →
                                                        (false = true)))))) ∧
                                                    ((decide ((findS (l, s)).fst ≥ (0 : Int))) = false →
                                                      ((((findS (List.drop (0 : Nat) (List.take (0 : Nat) l) ++ [(o.fst, o.snd.fst, o.snd.snd.fst, o.snd.snd.snd.fst, ())] ++ List.drop (0 : Nat) (List.take (List.length l) l), s)).fst == (findS (l, s)).fst) = true →
                                                        (((findS (List.drop (0 : Nat) (List.take (0 : Nat) l) ++ [(o.fst, o.snd.fst, o.snd.snd.fst, o.snd.snd.snd.fst, ())] ++ List.drop (0 : Nat) (List.take (List.length l) l), s)).snd == (findS (l, s)).snd) = true)) ∧
                                                      (((findS (List.drop (0 : Nat) (List.take (0 : Nat) l) ++ [(o.fst, o.snd.fst, o.snd.snd.fst, o.snd.snd.snd.fst, ())] ++ List.drop (0 : Nat) (List.take (List.length l) l), s)).fst == (findS (l, s)).fst) = false →
                                                        (false = true)))))) ∧
                                                  ((List.length (List.drop (0 : Nat) (List.take (0 : Nat) l)) ≤ (1000000000 : Nat)) ∧
                                                    (List.drop (0 : Nat) (List.take (0 : Nat) l) = List.drop (0 : Nat) (List.take (0 : Nat) l) ∧ List.length (List.drop (0 : Nat) (List.take (0 : Nat) l)) + List.length [(o.fst, o.snd.fst, o.snd.snd.fst, o.snd.snd.snd.fst, ())] ≤ (1000000000 : Nat)) ∧
                                                    ((0 : Int) ≤ (0 : Int) ∧ (0 : Int) ≤ (↑(List.length l) : Int) ∧ (↑(List.length l) : Int) ≤ (↑(List.length l) : Int)) ∧
                                                    (List.drop (0 : Nat) (List.take (0 : Nat) l) ++ [(o.fst, o.snd.fst, o.snd.snd.fst, o.snd.snd.snd.fst, ())] = List.drop (0 : Nat) (List.take (0 : Nat) l) ++ [(o.fst, o.snd.fst, o.snd.snd.fst, o.snd.snd.snd.fst, ())] ∧ List.length (List.drop (0 : Nat) (List.take (0 : Nat) l) ++ [(o.fst, o.snd.fst, o.snd.snd.fst, o.snd.snd.snd.fst, ())]) + List.length (List.drop (0 : Nat) (List.take (List.length l) l)) ≤ (1000000000 : Nat)) ∧
                                                    (True) ∧
                                                    (((decide ((findS (l, s)).fst ≥ (0 : Int))) = true →
                                                      ((I64 (findS (l, s)).fst) →
                                                      ((I64 (1 : Int)) →
                                                      (I64 ((findS (l, s)).fst + (1 : Int))) ∧
                                                      ((((findS (List.drop (0 : Nat) (List.take (0 : Nat) l) ++ [(o.fst, o.snd.fst, o.snd.snd.fst, o.snd.snd.snd.fst, ())] ++ List.drop (0 : Nat) (List.take (List.length l) l), s)).fst == (findS (l, s)).fst + (1 : Int)) = true →
                                                        (((findS (List.drop (0 : Nat) (List.take (0 : Nat) l) ++ [(o.fst, o.snd.fst, o.snd.snd.fst, o.snd.snd.snd.fst, ())] ++ List.drop (0 : Nat) (List.take (List.length l) l), s)).snd == (findS (l, s)).snd) = true)) ∧
                                                      (((findS (List.drop (0 : Nat) (List.take (0 : Nat) l) ++ [(o.fst, o.snd.fst, o.snd.snd.fst, o.snd.snd.snd.fst, ())] ++ List.drop (0 : Nat) (List.take (List.length l) l), s)).fst == (findS (l, s)).fst + (1 : Int)) = false →
                                                        (false = true)))))) ∧
                                                    ((decide ((findS (l, s)).fst ≥ (0 : Int))) = false →
                                                      ((((findS (List.drop (0 : Nat) (List.take (0 : Nat) l) ++ [(o.fst, o.snd.fst, o.snd.snd.fst, o.snd.snd.snd.fst, ())] ++ List.drop (0 : Nat) (List.take (List.length l) l), s)).fst == (findS (l, s)).fst) = true →
                                                        (((findS (List.drop (0 : Nat) (List.take (0 : Nat) l) ++ [(o.fst, o.snd.fst, o.snd.snd.fst, o.snd.snd.snd.fst, ())] ++ List.drop (0 : Nat) (List.take (List.length l) l), s)).snd == (findS (l, s)).snd) = true)) ∧
                                                      (((findS (List.drop (0 : Nat) (List.take (0 : Nat) l) ++ [(o.fst, o.snd.fst, o.snd.snd.fst, o.snd.snd.snd.fst, ())] ++ List.drop (0 : Nat) (List.take (List.length l) l), s)).fst == (findS (l, s)).fst) = false →
                                                        (false = true)))))))))))))))) := by
                        refine ⟨?_, ?_⟩
                        · have hl := (q_0 (by simp_all)).1
                          omega
                        refine ⟨?_, ?_⟩
                        · have hl := (q_0 (by simp_all)).1
                          simp only [List.length_singleton, true_and]; omega
                        refine ⟨?_, ?_⟩
                        · first | exact True.intro | rfl | omega | assumption | (dsimp only [D] at *; omega) | (simp only [I64, big] at *; omega) | (simp_all; done)
                        refine ⟨fun h11 => ?_, fun h11 => ?_⟩
                        · try simp only [decide_eq_true_eq, decide_eq_false_iff_not, beq_iff_eq, beq_eq_false_iff_ne, bne_iff_ne, bne_eq_false_iff_eq, Bool.not_eq_true', Bool.not_eq_false', Bool.not_eq_true, Bool.not_eq_false, ne_eq, Bool.and_eq_true, Bool.or_eq_true, Bool.and_eq_false_iff, Bool.or_eq_false_iff, reduceCtorEq, Int.not_lt, Int.not_le] at h11
                          exfalso
                          have hl := (q_0 (by simp_all)).1; have hs : ¬ hasO (strongS s) o := fun ⟨k, h1, h2, h3⟩ => (by have := q_2.2.2.2 ⟨k, by omega, h2, h3⟩; simp_all)
                          have e : findS (l ++ [(o.fst, o.snd.fst, o.snd.snd.fst, o.snd.snd.snd.fst, ())], s) = findS (l, s) := find_behind (ins_end (l := l) (o := o)) hs (fun ⟨k, h1, h2⟩ => by have := q_2.2.1.2 ⟨k, by omega, h2⟩; simp_all)
                          have e1 := congrArg Prod.fst e; have e2 := congrArg Prod.snd e; omega
                        · try simp only [decide_eq_true_eq, decide_eq_false_iff_not, beq_iff_eq, beq_eq_false_iff_ne, bne_iff_ne, bne_eq_false_iff_eq, Bool.not_eq_true', Bool.not_eq_false', Bool.not_eq_true, Bool.not_eq_false, ne_eq, Bool.and_eq_true, Bool.or_eq_true, Bool.and_eq_false_iff, Bool.or_eq_false_iff, reduceCtorEq, Int.not_lt, Int.not_le] at h11
                          refine ⟨fun h12 => ?_, fun h12 => ?_⟩
                          · try simp only [decide_eq_true_eq, decide_eq_false_iff_not, beq_iff_eq, beq_eq_false_iff_ne, bne_iff_ne, bne_eq_false_iff_eq, Bool.not_eq_true', Bool.not_eq_false', Bool.not_eq_true, Bool.not_eq_false, ne_eq, Bool.and_eq_true, Bool.or_eq_true, Bool.and_eq_false_iff, Bool.or_eq_false_iff, reduceCtorEq, Int.not_lt, Int.not_le] at h12
                            exfalso
                            have hl := (q_0 (by simp_all)).1; have hs : ¬ hasO (strongS s) o := fun ⟨k, h1, h2, h3⟩ => (by have := q_2.2.2.2 ⟨k, by omega, h2, h3⟩; simp_all)
                            have e : findS (l ++ [(o.fst, o.snd.fst, o.snd.snd.fst, o.snd.snd.snd.fst, ())], s) = findS (l, s) := find_behind (ins_end (l := l) (o := o)) hs (fun ⟨k, h1, h2⟩ => by have := q_2.2.1.2 ⟨k, by omega, h2⟩; simp_all)
                            have e1 := congrArg Prod.fst e; have e2 := congrArg Prod.snd e; omega
                          · try simp only [decide_eq_true_eq, decide_eq_false_iff_not, beq_iff_eq, beq_eq_false_iff_ne, bne_iff_ne, bne_eq_false_iff_eq, Bool.not_eq_true', Bool.not_eq_false', Bool.not_eq_true, Bool.not_eq_false, ne_eq, Bool.and_eq_true, Bool.or_eq_true, Bool.and_eq_false_iff, Bool.or_eq_false_iff, reduceCtorEq, Int.not_lt, Int.not_le] at h12
                            refine ⟨fun h13 => ?_, fun h13 => ?_⟩
                            · try simp only [decide_eq_true_eq, decide_eq_false_iff_not, beq_iff_eq, beq_eq_false_iff_ne, bne_iff_ne, bne_eq_false_iff_eq, Bool.not_eq_true', Bool.not_eq_false', Bool.not_eq_true, Bool.not_eq_false, ne_eq, Bool.and_eq_true, Bool.or_eq_true, Bool.and_eq_false_iff, Bool.or_eq_false_iff, reduceCtorEq, Int.not_lt, Int.not_le] at h13
                              first | exact True.intro | rfl | omega | assumption | (dsimp only [D] at *; omega) | (simp only [I64, big] at *; omega) | (simp_all; done)
                            · try simp only [decide_eq_true_eq, decide_eq_false_iff_not, beq_iff_eq, beq_eq_false_iff_ne, bne_iff_ne, bne_eq_false_iff_eq, Bool.not_eq_true', Bool.not_eq_false', Bool.not_eq_true, Bool.not_eq_false, ne_eq, Bool.and_eq_true, Bool.or_eq_true, Bool.and_eq_false_iff, Bool.or_eq_false_iff, reduceCtorEq, Int.not_lt, Int.not_le] at h13
                              intro h14
                              refine ⟨fun h15 => ?_, fun h15 => ?_⟩
                              · try simp only [decide_eq_true_eq, decide_eq_false_iff_not, beq_iff_eq, beq_eq_false_iff_ne, bne_iff_ne, bne_eq_false_iff_eq, Bool.not_eq_true', Bool.not_eq_false', Bool.not_eq_true, Bool.not_eq_false, ne_eq, Bool.and_eq_true, Bool.or_eq_true, Bool.and_eq_false_iff, Bool.or_eq_false_iff, reduceCtorEq, Int.not_lt, Int.not_le] at h15
                                intro x_3 q_3
                                intro h16
                                intro h17
                                intro h18
                                refine ⟨?_, ?_⟩
                                · first | exact True.intro | rfl | omega | assumption | (dsimp only [D] at *; omega) | (simp only [I64, big] at *; omega) | (simp_all; done)
                                refine ⟨?_, ?_⟩
                                · first | exact True.intro | rfl | omega | assumption | (dsimp only [D] at *; omega) | (simp only [I64, big] at *; omega) | (simp_all; done)
                                intro x_4 q_4
                                refine ⟨?_, ?_⟩
                                · first | exact True.intro | rfl | omega | assumption | (dsimp only [D] at *; omega) | (simp only [I64, big] at *; omega) | (simp_all; done)
                                have hb19_0 :
                                    (List.length (List.drop (0 : Nat) (List.take (Int.toNat x_4) l)) ≤ (1000000000 : Nat)) ∧
                                                                (List.drop (0 : Nat) (List.take (Int.toNat x_4) l) = List.drop (0 : Nat) (List.take (Int.toNat x_4) l) ∧ List.length (List.drop (0 : Nat) (List.take (Int.toNat x_4) l)) + List.length [(o.fst, o.snd.fst, o.snd.snd.fst, o.snd.snd.snd.fst, ())] ≤ (1000000000 : Nat)) ∧
                                                                ((0 : Int) ≤ x_4 ∧ x_4 ≤ (↑(List.length l) : Int) ∧ (↑(List.length l) : Int) ≤ (↑(List.length l) : Int)) ∧
                                                                (List.drop (0 : Nat) (List.take (Int.toNat x_4) l) ++ [(o.fst, o.snd.fst, o.snd.snd.fst, o.snd.snd.snd.fst, ())] = List.drop (0 : Nat) (List.take (Int.toNat x_4) l) ++ [(o.fst, o.snd.fst, o.snd.snd.fst, o.snd.snd.snd.fst, ())] ∧ List.length (List.drop (0 : Nat) (List.take (Int.toNat x_4) l) ++ [(o.fst, o.snd.fst, o.snd.snd.fst, o.snd.snd.snd.fst, ())]) + List.length (List.drop (Int.toNat x_4) (List.take (List.length l) l)) ≤ (1000000000 : Nat)) ∧
                                                                (True) ∧
                                                                (((decide ((findS (l, s)).fst ≥ x_4)) = true →
                                                                  ((I64 (findS (l, s)).fst) →
                                                                  ((I64 (1 : Int)) →
                                                                  (I64 ((findS (l, s)).fst + (1 : Int))) ∧
                                                                  ((((findS (List.drop (0 : Nat) (List.take (Int.toNat x_4) l) ++ [(o.fst, o.snd.fst, o.snd.snd.fst, o.snd.snd.snd.fst, ())] ++ List.drop (Int.toNat x_4) (List.take (List.length l) l), s)).fst == (findS (l, s)).fst + (1 : Int)) = true →
                                                                    (((findS (List.drop (0 : Nat) (List.take (Int.toNat x_4) l) ++ [(o.fst, o.snd.fst, o.snd.snd.fst, o.snd.snd.snd.fst, ())] ++ List.drop (Int.toNat x_4) (List.take (List.length l) l), s)).snd == (findS (l, s)).snd) = true)) ∧
                                                                  (((findS (List.drop (0 : Nat) (List.take (Int.toNat x_4) l) ++ [(o.fst, o.snd.fst, o.snd.snd.fst, o.snd.snd.snd.fst, ())] ++ List.drop (Int.toNat x_4) (List.take (List.length l) l), s)).fst == (findS (l, s)).fst + (1 : Int)) = false →
                                                                    (false = true)))))) ∧
                                                                ((decide ((findS (l, s)).fst ≥ x_4)) = false →
                                                                  ((((findS (List.drop (0 : Nat) (List.take (Int.toNat x_4) l) ++ [(o.fst, o.snd.fst, o.snd.snd.fst, o.snd.snd.snd.fst, ())] ++ List.drop (Int.toNat x_4) (List.take (List.length l) l), s)).fst == (findS (l, s)).fst) = true →
                                                                    (((findS (List.drop (0 : Nat) (List.take (Int.toNat x_4) l) ++ [(o.fst, o.snd.fst, o.snd.snd.fst, o.snd.snd.snd.fst, ())] ++ List.drop (Int.toNat x_4) (List.take (List.length l) l), s)).snd == (findS (l, s)).snd) = true)) ∧
                                                                  (((findS (List.drop (0 : Nat) (List.take (Int.toNat x_4) l) ++ [(o.fst, o.snd.fst, o.snd.snd.fst, o.snd.snd.snd.fst, ())] ++ List.drop (Int.toNat x_4) (List.take (List.length l) l), s)).fst == (findS (l, s)).fst) = false →
                                                                    (false = true))))) := by
                                    refine ⟨?_, ?_⟩
                                    · first | exact True.intro | rfl | omega | assumption | (dsimp only [D] at *; omega) | (simp only [I64, big] at *; omega) | (simp_all; done)
                                    refine ⟨?_, ?_⟩
                                    · first | exact True.intro | rfl | omega | assumption | (dsimp only [D] at *; omega) | (simp only [I64, big] at *; omega) | (simp_all; done)
                                    refine ⟨?_, ?_⟩
                                    · first | exact True.intro | rfl | omega | assumption | (dsimp only [D] at *; omega) | (simp only [I64, big] at *; omega) | (simp_all; done)
                                    refine ⟨?_, ?_⟩
                                    · first | exact True.intro | rfl | omega | assumption | (dsimp only [D] at *; omega) | (simp only [I64, big] at *; omega) | (simp_all; done)
                                    refine ⟨?_, ?_⟩
                                    · first | exact True.intro | rfl | omega | assumption | (dsimp only [D] at *; omega) | (simp only [I64, big] at *; omega) | (simp_all; done)
                                    refine ⟨fun h19 => ?_, fun h19 => ?_⟩
                                    · try simp only [decide_eq_true_eq, decide_eq_false_iff_not, beq_iff_eq, beq_eq_false_iff_ne, bne_iff_ne, bne_eq_false_iff_eq, Bool.not_eq_true', Bool.not_eq_false', Bool.not_eq_true, Bool.not_eq_false, ne_eq, Bool.and_eq_true, Bool.or_eq_true, Bool.and_eq_false_iff, Bool.or_eq_false_iff, reduceCtorEq, Int.not_lt, Int.not_le] at h19
                                      intro h20
                                      intro h21
                                      refine ⟨?_, ?_⟩
                                      · first | exact True.intro | rfl | omega | assumption | (dsimp only [D] at *; omega) | (simp only [I64, big] at *; omega) | (simp_all; done)
                                      refine ⟨fun h22 => ?_, fun h22 => ?_⟩
                                      · try simp only [decide_eq_true_eq, decide_eq_false_iff_not, beq_iff_eq, beq_eq_false_iff_ne, bne_iff_ne, bne_eq_false_iff_eq, Bool.not_eq_true', Bool.not_eq_false', Bool.not_eq_true, Bool.not_eq_false, ne_eq, Bool.and_eq_true, Bool.or_eq_true, Bool.and_eq_false_iff, Bool.or_eq_false_iff, reduceCtorEq, Int.not_lt, Int.not_le] at h22
                                        first | exact True.intro | rfl | omega | assumption | (dsimp only [D] at *; omega) | (simp only [I64, big] at *; omega) | (simp_all; done)
                                      · try simp only [decide_eq_true_eq, decide_eq_false_iff_not, beq_iff_eq, beq_eq_false_iff_ne, bne_iff_ne, bne_eq_false_iff_eq, Bool.not_eq_true', Bool.not_eq_false', Bool.not_eq_true, Bool.not_eq_false, ne_eq, Bool.and_eq_true, Bool.or_eq_true, Bool.and_eq_false_iff, Bool.or_eq_false_iff, reduceCtorEq, Int.not_lt, Int.not_le] at h22
                                        first | exact True.intro | rfl | omega | assumption | (dsimp only [D] at *; omega) | (simp only [I64, big] at *; omega) | (simp_all; done)
                                    · try simp only [decide_eq_true_eq, decide_eq_false_iff_not, beq_iff_eq, beq_eq_false_iff_ne, bne_iff_ne, bne_eq_false_iff_eq, Bool.not_eq_true', Bool.not_eq_false', Bool.not_eq_true, Bool.not_eq_false, ne_eq, Bool.and_eq_true, Bool.or_eq_true, Bool.and_eq_false_iff, Bool.or_eq_false_iff, reduceCtorEq, Int.not_lt, Int.not_le] at h19
                                      refine ⟨fun h20 => ?_, fun h20 => ?_⟩
                                      · try simp only [decide_eq_true_eq, decide_eq_false_iff_not, beq_iff_eq, beq_eq_false_iff_ne, bne_iff_ne, bne_eq_false_iff_eq, Bool.not_eq_true', Bool.not_eq_false', Bool.not_eq_true, Bool.not_eq_false, ne_eq, Bool.and_eq_true, Bool.or_eq_true, Bool.and_eq_false_iff, Bool.or_eq_false_iff, reduceCtorEq, Int.not_lt, Int.not_le] at h20
                                        first | exact True.intro | rfl | omega | assumption | (dsimp only [D] at *; omega) | (simp only [I64, big] at *; omega) | (simp_all; done)
                                      · try simp only [decide_eq_true_eq, decide_eq_false_iff_not, beq_iff_eq, beq_eq_false_iff_ne, bne_iff_ne, bne_eq_false_iff_eq, Bool.not_eq_true', Bool.not_eq_false', Bool.not_eq_true, Bool.not_eq_false, ne_eq, Bool.and_eq_true, Bool.or_eq_true, Bool.and_eq_false_iff, Bool.or_eq_false_iff, reduceCtorEq, Int.not_lt, Int.not_le] at h20
                                        first | exact True.intro | rfl | omega | assumption | (dsimp only [D] at *; omega) | (simp only [I64, big] at *; omega) | (simp_all; done)
                                exact ⟨hb19_0, hb19_0, hb19_0⟩
                              · try simp only [decide_eq_true_eq, decide_eq_false_iff_not, beq_iff_eq, beq_eq_false_iff_ne, bne_iff_ne, bne_eq_false_iff_eq, Bool.not_eq_true', Bool.not_eq_false', Bool.not_eq_true, Bool.not_eq_false, ne_eq, Bool.and_eq_true, Bool.or_eq_true, Bool.and_eq_false_iff, Bool.or_eq_false_iff, reduceCtorEq, Int.not_lt, Int.not_le] at h15
                                refine ⟨?_, ?_⟩
                                · first | exact True.intro | rfl | omega | assumption | (dsimp only [D] at *; omega) | (simp only [I64, big] at *; omega) | (simp_all; done)
                                have hb16_0 :
                                    (List.length (List.drop (0 : Nat) (List.take (0 : Nat) l)) ≤ (1000000000 : Nat)) ∧
                                                                (List.drop (0 : Nat) (List.take (0 : Nat) l) = List.drop (0 : Nat) (List.take (0 : Nat) l) ∧ List.length (List.drop (0 : Nat) (List.take (0 : Nat) l)) + List.length [(o.fst, o.snd.fst, o.snd.snd.fst, o.snd.snd.snd.fst, ())] ≤ (1000000000 : Nat)) ∧
                                                                ((0 : Int) ≤ (0 : Int) ∧ (0 : Int) ≤ (↑(List.length l) : Int) ∧ (↑(List.length l) : Int) ≤ (↑(List.length l) : Int)) ∧
                                                                (List.drop (0 : Nat) (List.take (0 : Nat) l) ++ [(o.fst, o.snd.fst, o.snd.snd.fst, o.snd.snd.snd.fst, ())] = List.drop (0 : Nat) (List.take (0 : Nat) l) ++ [(o.fst, o.snd.fst, o.snd.snd.fst, o.snd.snd.snd.fst, ())] ∧ List.length (List.drop (0 : Nat) (List.take (0 : Nat) l) ++ [(o.fst, o.snd.fst, o.snd.snd.fst, o.snd.snd.snd.fst, ())]) + List.length (List.drop (0 : Nat) (List.take (List.length l) l)) ≤ (1000000000 : Nat)) ∧
                                                                (True) ∧
                                                                (((decide ((findS (l, s)).fst ≥ (0 : Int))) = true →
                                                                  ((I64 (findS (l, s)).fst) →
                                                                  ((I64 (1 : Int)) →
                                                                  (I64 ((findS (l, s)).fst + (1 : Int))) ∧
                                                                  ((((findS (List.drop (0 : Nat) (List.take (0 : Nat) l) ++ [(o.fst, o.snd.fst, o.snd.snd.fst, o.snd.snd.snd.fst, ())] ++ List.drop (0 : Nat) (List.take (List.length l) l), s)).fst == (findS (l, s)).fst + (1 : Int)) = true →
                                                                    (((findS (List.drop (0 : Nat) (List.take (0 : Nat) l) ++ [(o.fst, o.snd.fst, o.snd.snd.fst, o.snd.snd.snd.fst, ())] ++ List.drop (0 : Nat) (List.take (List.length l) l), s)).snd == (findS (l, s)).snd) = true)) ∧
                                                                  (((findS (List.drop (0 : Nat) (List.take (0 : Nat) l) ++ [(o.fst, o.snd.fst, o.snd.snd.fst, o.snd.snd.snd.fst, ())] ++ List.drop (0 : Nat) (List.take (List.length l) l), s)).fst == (findS (l, s)).fst + (1 : Int)) = false →
                                                                    (false = true)))))) ∧
                                                                ((decide ((findS (l, s)).fst ≥ (0 : Int))) = false →
                                                                  ((((findS (List.drop (0 : Nat) (List.take (0 : Nat) l) ++ [(o.fst, o.snd.fst, o.snd.snd.fst, o.snd.snd.snd.fst, ())] ++ List.drop (0 : Nat) (List.take (List.length l) l), s)).fst == (findS (l, s)).fst) = true →
                                                                    (((findS (List.drop (0 : Nat) (List.take (0 : Nat) l) ++ [(o.fst, o.snd.fst, o.snd.snd.fst, o.snd.snd.snd.fst, ())] ++ List.drop (0 : Nat) (List.take (List.length l) l), s)).snd == (findS (l, s)).snd) = true)) ∧
                                                                  (((findS (List.drop (0 : Nat) (List.take (0 : Nat) l) ++ [(o.fst, o.snd.fst, o.snd.snd.fst, o.snd.snd.snd.fst, ())] ++ List.drop (0 : Nat) (List.take (List.length l) l), s)).fst == (findS (l, s)).fst) = false →
                                                                    (false = true))))) := by
                                    refine ⟨?_, ?_⟩
                                    · first | exact True.intro | rfl | omega | assumption | (dsimp only [D] at *; omega) | (simp only [I64, big] at *; omega) | (simp_all; done)
                                    refine ⟨?_, ?_⟩
                                    · first | exact True.intro | rfl | omega | assumption | (dsimp only [D] at *; omega) | (simp only [I64, big] at *; omega) | (simp_all; done)
                                    refine ⟨?_, ?_⟩
                                    · first | exact True.intro | rfl | omega | assumption | (dsimp only [D] at *; omega) | (simp only [I64, big] at *; omega) | (simp_all; done)
                                    refine ⟨?_, ?_⟩
                                    · first | exact True.intro | rfl | omega | assumption | (dsimp only [D] at *; omega) | (simp only [I64, big] at *; omega) | (simp_all; done)
                                    refine ⟨?_, ?_⟩
                                    · first | exact True.intro | rfl | omega | assumption | (dsimp only [D] at *; omega) | (simp only [I64, big] at *; omega) | (simp_all; done)
                                    refine ⟨fun h16 => ?_, fun h16 => ?_⟩
                                    · try simp only [decide_eq_true_eq, decide_eq_false_iff_not, beq_iff_eq, beq_eq_false_iff_ne, bne_iff_ne, bne_eq_false_iff_eq, Bool.not_eq_true', Bool.not_eq_false', Bool.not_eq_true, Bool.not_eq_false, ne_eq, Bool.and_eq_true, Bool.or_eq_true, Bool.and_eq_false_iff, Bool.or_eq_false_iff, reduceCtorEq, Int.not_lt, Int.not_le] at h16
                                      intro h17
                                      intro h18
                                      refine ⟨?_, ?_⟩
                                      · first | exact True.intro | rfl | omega | assumption | (dsimp only [D] at *; omega) | (simp only [I64, big] at *; omega) | (simp_all; done)
                                      refine ⟨fun h19 => ?_, fun h19 => ?_⟩
                                      · try simp only [decide_eq_true_eq, decide_eq_false_iff_not, beq_iff_eq, beq_eq_false_iff_ne, bne_iff_ne, bne_eq_false_iff_eq, Bool.not_eq_true', Bool.not_eq_false', Bool.not_eq_true, Bool.not_eq_false, ne_eq, Bool.and_eq_true, Bool.or_eq_true, Bool.and_eq_false_iff, Bool.or_eq_false_iff, reduceCtorEq, Int.not_lt, Int.not_le] at h19
                                        first | exact True.intro | rfl | omega | assumption | (dsimp only [D] at *; omega) | (simp only [I64, big] at *; omega) | (simp_all; done)
                                      · try simp only [decide_eq_true_eq, decide_eq_false_iff_not, beq_iff_eq, beq_eq_false_iff_ne, bne_iff_ne, bne_eq_false_iff_eq, Bool.not_eq_true', Bool.not_eq_false', Bool.not_eq_true, Bool.not_eq_false, ne_eq, Bool.and_eq_true, Bool.or_eq_true, Bool.and_eq_false_iff, Bool.or_eq_false_iff, reduceCtorEq, Int.not_lt, Int.not_le] at h19
                                        first | exact True.intro | rfl | omega | assumption | (dsimp only [D] at *; omega) | (simp only [I64, big] at *; omega) | (simp_all; done)
                                    · try simp only [decide_eq_true_eq, decide_eq_false_iff_not, beq_iff_eq, beq_eq_false_iff_ne, bne_iff_ne, bne_eq_false_iff_eq, Bool.not_eq_true', Bool.not_eq_false', Bool.not_eq_true, Bool.not_eq_false, ne_eq, Bool.and_eq_true, Bool.or_eq_true, Bool.and_eq_false_iff, Bool.or_eq_false_iff, reduceCtorEq, Int.not_lt, Int.not_le] at h16
                                      refine ⟨fun h17 => ?_, fun h17 => ?_⟩
                                      · try simp only [decide_eq_true_eq, decide_eq_false_iff_not, beq_iff_eq, beq_eq_false_iff_ne, bne_iff_ne, bne_eq_false_iff_eq, Bool.not_eq_true', Bool.not_eq_false', Bool.not_eq_true, Bool.not_eq_false, ne_eq, Bool.and_eq_true, Bool.or_eq_true, Bool.and_eq_false_iff, Bool.or_eq_false_iff, reduceCtorEq, Int.not_lt, Int.not_le] at h17
                                        first | exact True.intro | rfl | omega | assumption | (dsimp only [D] at *; omega) | (simp only [I64, big] at *; omega) | (simp_all; done)
                                      · try simp only [decide_eq_true_eq, decide_eq_false_iff_not, beq_iff_eq, beq_eq_false_iff_ne, bne_iff_ne, bne_eq_false_iff_eq, Bool.not_eq_true', Bool.not_eq_false', Bool.not_eq_true, Bool.not_eq_false, ne_eq, Bool.and_eq_true, Bool.or_eq_true, Bool.and_eq_false_iff, Bool.or_eq_false_iff, reduceCtorEq, Int.not_lt, Int.not_le] at h17
                                        first | exact True.intro | rfl | omega | assumption | (dsimp only [D] at *; omega) | (simp only [I64, big] at *; omega) | (simp_all; done)
                                exact ⟨hb16_0, hb16_0, hb16_0⟩
                    exact ⟨hb11_0, hb11_0, hb11_0⟩
                · try simp only [decide_eq_true_eq, decide_eq_false_iff_not, beq_iff_eq, beq_eq_false_iff_ne, bne_iff_ne, bne_eq_false_iff_eq, Bool.not_eq_true', Bool.not_eq_false', Bool.not_eq_true, Bool.not_eq_false, ne_eq, Bool.and_eq_true, Bool.or_eq_true, Bool.and_eq_false_iff, Bool.or_eq_false_iff, reduceCtorEq, Int.not_lt, Int.not_le] at h9
                  have hb10_0 :
                      (List.length l ≤ (1000000000 : Nat)) ∧
                                      (l = l ∧ List.length l + List.length [(o.fst, o.snd.fst, o.snd.snd.fst, o.snd.snd.snd.fst, ())] ≤ (1000000000 : Nat)) ∧
                                      (True) ∧
                                      ((((findS (l ++ [(o.fst, o.snd.fst, o.snd.snd.fst, o.snd.snd.snd.fst, ())], s)).fst != (findS (l, s)).fst) = true →
                                        (false = true)) ∧
                                      (((findS (l ++ [(o.fst, o.snd.fst, o.snd.snd.fst, o.snd.snd.snd.fst, ())], s)).fst != (findS (l, s)).fst) = false →
                                        ((((findS (l ++ [(o.fst, o.snd.fst, o.snd.snd.fst, o.snd.snd.snd.fst, ())], s)).snd != (findS (l, s)).snd) = true →
                                          (false = true)) ∧
                                        (((findS (l ++ [(o.fst, o.snd.fst, o.snd.snd.fst, o.snd.snd.snd.fst, ())], s)).snd != (findS (l, s)).snd) = false →
                                          (((x_2.snd.fst) = true →
                                            (true = true)) ∧
                                          ((x_2.snd.fst) = false →
                                            ((List.length l ≤ big) →
                                            (((decide ((↑(List.length l) : Int) > (0 : Int))) = true →
                                              (∀ x_3 : Int,
                                              ((x_3 = IntKind.wrap IntKind.i64 (↑(BitVec.toNat (BitVec.ofInt (IntKind.bits IntKind.i64) a &&& BitVec.ofInt (IntKind.bits IntKind.i64) (1023 : Int))) : Int)) →
                                              ((List.length l ≤ big) →
                                              ((I64 (↑(List.length l) : Int)) →
                                              ((I64 (1 : Int)) →
                                              (I64 ((↑(List.length l) : Int) + (1 : Int))) ∧
                                              ((↑(List.length l) : Int) + (1 : Int) ≠ (0 : Int)) ∧
                                              (∀ x_4 : Int,
                                              ((x_4 = Int.tmod x_3 ((↑(List.length l) : Int) + (1 : Int))) →
                                              ((0 : Int) ≤ (0 : Int) ∧ (0 : Int) ≤ x_4 ∧ x_4 ≤ (↑(List.length l) : Int)) ∧
                                              ((List.length (List.drop (0 : Nat) (List.take (Int.toNat x_4) l)) ≤ (1000000000 : Nat)) ∧
                                                (List.drop (0 : Nat) (List.take (Int.toNat x_4) l) = List.drop (0 : Nat) (List.take (Int.toNat x_4) l) ∧ List.length (List.drop (0 : Nat) (List.take (Int.toNat x_4) l)) + List.length [(o.fst, o.snd.fst, o.snd.snd.fst, o.snd.snd.snd.fst, ())] ≤ (1000000000 : Nat)) ∧
                                                ((0 : Int) ≤ x_4 ∧ x_4 ≤ (↑(List.length l) : Int) ∧ (↑(List.length l) : Int) ≤ (↑(List.length l) : Int)) ∧
                                                (List.drop (0 : Nat) (List.take (Int.toNat x_4) l) ++ [(o.fst, o.snd.fst, o.snd.snd.fst, o.snd.snd.snd.fst, ())] = List.drop (0 : Nat) (List.take (Int.toNat x_4) l) ++ [(o.fst, o.snd.fst, o.snd.snd.fst, o.snd.snd.snd.fst, ())] ∧ List.length (List.drop (0 : Nat) (List.take (Int.toNat x_4) l) ++ [(o.fst, o.snd.fst, o.snd.snd.fst, o.snd.snd.snd.fst, ())]) + List.length (List.drop (Int.toNat x_4) (List.take (List.length l) l)) ≤ (1000000000 : Nat)) ∧
                                                (True) ∧
                                                (((decide ((findS (l, s)).fst ≥ x_4)) = true →
                                                  ((I64 (findS (l, s)).fst) →
                                                  ((I64 (1 : Int)) →
                                                  (I64 ((findS (l, s)).fst + (1 : Int))) ∧
                                                  ((((findS (List.drop (0 : Nat) (List.take (Int.toNat x_4) l) ++ [(o.fst, o.snd.fst, o.snd.snd.fst, o.snd.snd.snd.fst, ())] ++ List.drop (Int.toNat x_4) (List.take (List.length l) l), s)).fst == (findS (l, s)).fst + (1 : Int)) = true →
                                                    (((findS (List.drop (0 : Nat) (List.take (Int.toNat x_4) l) ++ [(o.fst, o.snd.fst, o.snd.snd.fst, o.snd.snd.snd.fst, ())] ++ List.drop (Int.toNat x_4) (List.take (List.length l) l), s)).snd == (findS (l, s)).snd) = true)) ∧
                                                  (((findS (List.drop (0 : Nat) (List.take (Int.toNat x_4) l) ++ [(o.fst, o.snd.fst, o.snd.snd.fst, o.snd.snd.snd.fst, ())] ++ List.drop (Int.toNat x_4) (List.take (List.length l) l), s)).fst == (findS (l, s)).fst + (1 : Int)) = false →
                                                    (false = true)))))) ∧
                                                ((decide ((findS (l, s)).fst ≥ x_4)) = false →
                                                  ((((findS (List.drop (0 : Nat) (List.take (Int.toNat x_4) l) ++ [(o.fst, o.snd.fst, o.snd.snd.fst, o.snd.snd.snd.fst, ())] ++ List.drop (Int.toNat x_4) (List.take (List.length l) l), s)).fst == (findS (l, s)).fst) = true →
                                                    (((findS (List.drop (0 : Nat) (List.take (Int.toNat x_4) l) ++ [(o.fst, o.snd.fst, o.snd.snd.fst, o.snd.snd.snd.fst, ())] ++ List.drop (Int.toNat x_4) (List.take (List.length l) l), s)).snd == (findS (l, s)).snd) = true)) ∧
                                                  (((findS (List.drop (0 : Nat) (List.take (Int.toNat x_4) l) ++ [(o.fst, o.snd.fst, o.snd.snd.fst, o.snd.snd.snd.fst, ())] ++ List.drop (Int.toNat x_4) (List.take (List.length l) l), s)).fst == (findS (l, s)).fst) = false →
                                                    (false = true)))))) ∧
                                              (((List.length (List.drop (0 : Nat) (List.take (Int.toNat x_4) l)) ≤ (1000000000 : Nat)) ∧
                                                (List.drop (0 : Nat) (List.take (Int.toNat x_4) l) = List.drop (0 : Nat) (List.take (Int.toNat x_4) l) ∧ List.length (List.drop (0 : Nat) (List.take (Int.toNat x_4) l)) + List.length [(o.fst, o.snd.fst, o.snd.snd.fst, o.snd.snd.snd.fst, ())] ≤ (1000000000 : Nat)) ∧
                                                ((0 : Int) ≤ x_4 ∧ x_4 ≤ (↑(List.length l) : Int) ∧ (↑(List.length l) : Int) ≤ (↑(List.length l) : Int)) ∧
                                                (List.drop (0 : Nat) (List.take (Int.toNat x_4) l) ++ [(o.fst, o.snd.fst, o.snd.snd.fst, o.snd.snd.snd.fst, ())] = List.drop (0 : Nat) (List.take (Int.toNat x_4) l) ++ [(o.fst, o.snd.fst, o.snd.snd.fst, o.snd.snd.snd.fst, ())] ∧ List.length (List.drop (0 : Nat) (List.take (Int.toNat x_4) l) ++ [(o.fst, o.snd.fst, o.snd.snd.fst, o.snd.snd.snd.fst, ())]) + List.length (List.drop (Int.toNat x_4) (List.take (List.length l) l)) ≤ (1000000000 : Nat)) ∧
                                                (True) ∧
                                                (((decide ((findS (l, s)).fst ≥ x_4)) = true →
                                                  ((I64 (findS (l, s)).fst) →
                                                  ((I64 (1 : Int)) →
                                                  (I64 ((findS (l, s)).fst + (1 : Int))) ∧
                                                  ((((findS (List.drop (0 : Nat) (List.take (Int.toNat x_4) l) ++ [(o.fst, o.snd.fst, o.snd.snd.fst, o.snd.snd.snd.fst, ())] ++ List.drop (Int.toNat x_4) (List.take (List.length l) l), s)).fst == (findS (l, s)).fst + (1 : Int)) = true →
                                                    (((findS (List.drop (0 : Nat) (List.take (Int.toNat x_4) l) ++ [(o.fst, o.snd.fst, o.snd.snd.fst, o.snd.snd.snd.fst, ())] ++ List.drop (Int.toNat x_4) (List.take (List.length l) l), s)).snd == (findS (l, s)).snd) = true)) ∧
                                                  (((findS (List.drop (0 : Nat) (List.take (Int.toNat x_4) l) ++ [(o.fst, o.snd.fst, o.snd.snd.fst, o.snd.snd.snd.fst, ())] ++ List.drop (Int.toNat x_4) (List.take (List.length l) l), s)).fst == (findS (l, s)).fst + (1 : Int)) = false →
                                                    (false = true)))))) ∧
                                                ((decide ((findS (l, s)).fst ≥ x_4)) = false →
                                                  ((((findS (List.drop (0 : Nat) (List.take (Int.toNat x_4) l) ++ [(o.fst, o.snd.fst, o.snd.snd.fst, o.snd.snd.snd.fst, ())] ++ List.drop (Int.toNat x_4) (List.take (List.length l) l), s)).fst == (findS (l, s)).fst) = true →
                                                    (((findS (List.drop (0 : Nat) (List.take (Int.toNat x_4) l) ++ [(o.fst, o.snd.fst, o.snd.snd.fst, o.snd.snd.snd.fst, ())] ++ List.drop (Int.toNat x_4) (List.take (List.length l) l), s)).snd == (findS (l, s)).snd) = true)) ∧
                                                  (((findS (List.drop (0 : Nat) (List.take (Int.toNat x_4) l) ++ [(o.fst, o.snd.fst, o.snd.snd.fst, o.snd.snd.snd.fst, ())] ++ List.drop (Int.toNat x_4) (List.take (List.length l) l), s)).fst == (findS (l, s)).fst) = false →
                                                    (false = true)))))) ∧
                                              ((List.length (List.drop (0 : Nat) (List.take (Int.toNat x_4) l)) ≤ (1000000000 : Nat)) ∧
                                                (List.drop (0 : Nat) (List.take (Int.toNat x_4) l) = List.drop (0 : Nat) (List.take (Int.toNat x_4) l) ∧ List.length (List.drop (0 : Nat) (List.take (Int.toNat x_4) l)) + List.length [(o.fst, o.snd.fst, o.snd.snd.fst, o.snd.snd.snd.fst, ())] ≤ (1000000000 : Nat)) ∧
                                                ((0 : Int) ≤ x_4 ∧ x_4 ≤ (↑(List.length l) : Int) ∧ (↑(List.length l) : Int) ≤ (↑(List.length l) : Int)) ∧
                                                (List.drop (0 : Nat) (List.take (Int.toNat x_4) l) ++ [(o.fst, o.snd.fst, o.snd.snd.fst, o.snd.snd.snd.fst, ())] = List.drop (0 : Nat) (List.take (Int.toNat x_4) l) ++ [(o.fst, o.snd.fst, o.snd.snd.fst, o.snd.snd.snd.fst, ())] ∧ List.length (List.drop (0 : Nat) (List.take (Int.toNat x_4) l) ++ [(o.fst, o.snd.fst, o.snd.snd.fst, o.snd.snd.snd.fst, ())]) + List.length (List.drop (Int.toNat x_4) (List.take (List.length l) l)) ≤ (1000000000 : Nat)) ∧
                                                (True) ∧
                                                (((decide ((findS (l, s)).fst ≥ x_4)) = true →
                                                  ((I64 (findS (l, s)).fst) →
                                                  ((I64 (1 : Int)) →
                                                  (I64 ((findS (l, s)).fst + (1 : Int))) ∧
                                                  ((((findS (List.drop (0 : Nat) (List.take (Int.toNat x_4) l) ++ [(o.fst, o.snd.fst, o.snd.snd.fst, o.snd.snd.snd.fst, ())] ++ List.drop (Int.toNat x_4) (List.take (List.length l) l), s)).fst == (findS (l, s)).fst + (1 : Int)) = true →
                                                    (((findS (List.drop (0 : Nat) (List.take (Int.toNat x_4) l) ++ [(o.fst, o.snd.fst, o.snd.snd.fst, o.snd.snd.snd.fst, ())] ++ List.drop (Int.toNat x_4) (List.take (List.length l) l), s)).snd == (findS (l, s)).snd) = true)) ∧
                                                  (((findS (List.drop (0 : Nat) (List.take (Int.toNat x_4) l) ++ [(o.fst, o.snd.fst, o.snd.snd.fst, o.snd.snd.snd.fst, ())] ++ List.drop (Int.toNat x_4) (List.take (List.length l) l), s)).fst == (findS (l, s)).fst + (1 : Int)) = false →
                                                    (false = true)))))) ∧
                                                ((decide ((findS (l, s)).fst ≥ x_4)) = false →
                                                  ((((findS (List.drop (0 : Nat) (List.take (Int.toNat x_4) l) ++ [(o.fst, o.snd.fst, o.snd.snd.fst, o.snd.snd.snd.fst, ())] ++ List.drop (Int.toNat x_4) (List.take (List.length l) l), s)).fst == (findS (l, s)).fst) = true →
                                                    (((findS (List.drop (0 : Nat) (List.take (Int.toNat x_4) l) ++ [(o.fst, o.snd.fst, o.snd.snd.fst, o.snd.snd.snd.fst, ())] ++ List.drop (Int.toNat x_4) (List.take (List.length l) l), s)).snd == (findS (l, s)).snd) = true)) ∧
                                                  (((findS (List.drop (0 : Nat) (List.take (Int.toNat x_4) l) ++ [(o.fst, o.snd.fst, o.snd.snd.fst, o.snd.snd.snd.fst, ())] ++ List.drop (Int.toNat x_4) (List.take (List.length l) l), s)).fst == (findS (l, s)).fst) = false →
                                                    (false = true))))))))))))))) ∧
                                            ((decide ((↑(List.length l) : Int) > (0 : Int))) = false →
                                              ((0 : Int) ≤ (0 : Int) ∧ (0 : Int) ≤ (0 : Int) ∧ (0 : Int) ≤ (↑(List.length l) : Int)) ∧
                                              ((List.length (List.drop (0 : Nat) (List.take (0 : Nat) l)) ≤ (1000000000 : Nat)) ∧
                                                (List.drop (0 : Nat) (List.take (0 : Nat) l) = List.drop (0 : Nat) (List.take (0 : Nat) l) ∧ List.length (List.drop (0 : Nat) (List.take (0 : Nat) l)) + List.length [(o.fst, o.snd.fst, o.snd.snd.fst, o.snd.snd.snd.fst, ())] ≤ (1000000000 : Nat)) ∧
                                                ((0 : Int) ≤ (0 : Int) ∧ (0 : Int) ≤ (↑(List.length l) : Int) ∧ (↑(List.length l) : Int) ≤ (↑(List.length l) : Int)) ∧
                                                (List.drop (0 : Nat) (List.take (0 : Nat) l) ++ [(o.fst, o.snd.fst, o.snd.snd.fst, o.snd.snd.snd.fst, ())] = List.drop (0 : Nat) (List.take (0 : Nat) l) ++ [(o.fst, o.snd.fst, o.snd.snd.fst, o.snd.snd.snd.fst, ())] ∧ List.length (List.drop (0 : Nat) (List.take (0 : Nat) l) ++ [(o.fst, o.snd.fst, o.snd.snd.fst, o.snd.snd.snd.fst, ())]) + List.length (List.drop (0 : Nat) (List.take (List.length l) l)) ≤ (1000000000 : Nat)) ∧
                                                (True) ∧
                                                (((decide ((findS (l, s)).fst ≥ (0 : Int))) = true →
                                                  ((I64 (findS (l, s)).fst) →
                                                  ((I64 (1 : Int)) →
                                                  (I64 ((findS (l, s)).fst + (1 : Int))) ∧
                                                  ((((findS (List.drop (0 : Nat) (List.take (0 : Nat) l) ++ [(o.fst, o.snd.fst, o.snd.snd.fst, o.snd.snd.snd.fst, ())] ++ List.drop (0 : Nat) (List.take (List.length l) l), s)).fst == (findS (l, s)).fst + (1 : Int)) = true →
                                                    (((findS (List.drop (0 : Nat) (List.take (0 : Nat) l) ++ [(o.fst, o.snd.fst, o.snd.snd.fst, o.snd.snd.snd.fst, ())] ++ List.drop (0 : Nat) (List.take (List.length l) l), s)).snd == (findS (l, s)).snd) = true)) ∧
                                                  (((findS (List.drop (0 : Nat) (List.take (0 : Nat) l) ++ [(o.fst, o.snd.fst, o.snd.snd.fst, o.snd.snd.snd.fst, ())] ++ List.drop (0 : Nat) (List.take (List.length l) l), s)).fst == (findS (l, s)).fst + (1 : Int)) = false →
                                                    (false = true)))))) ∧
                                                ((decide ((findS (l, s)).fst ≥ (0 : Int))) = false →
                                                  ((((findS (List.drop (0 : Nat) (List.take (0 : Nat) l) ++ [(o.fst, o.snd.fst, o.snd.snd.fst, o.snd.snd.snd.fst, ())] ++ List.drop (0 : Nat) (List.take (List.length l) l), s)).fst == (findS (l, s)).fst) = true →
                                                    (((findS (List.drop (0 : Nat) (List.take (0 : Nat) l) ++ [(o.fst, o.snd.fst, o.snd.snd.fst, o.snd.snd.snd.fst, ())] ++ List.drop (0 : Nat) (List.take (List.length l) l), s)).snd == (findS (l, s)).snd) = true)) ∧
                                                  (((findS (List.drop (0 : Nat) (List.take (0 : Nat) l) ++ [(o.fst, o.snd.fst, o.snd.snd.fst, o.snd.snd.snd.fst, ())] ++ List.drop (0 : Nat) (List.take (List.length l) l), s)).fst == (findS (l, s)).fst) = false →
                                                    (false = true)))))) ∧
                                              (((List.length (List.drop (0 : Nat) (List.take (0 : Nat) l)) ≤ (1000000000 : Nat)) ∧
                                                (List.drop (0 : Nat) (List.take (0 : Nat) l) = List.drop (0 : Nat) (List.take (0 : Nat) l) ∧ List.length (List.drop (0 : Nat) (List.take (0 : Nat) l)) + List.length [(o.fst, o.snd.fst, o.snd.snd.fst, o.snd.snd.snd.fst, ())] ≤ (1000000000 : Nat)) ∧
                                                ((0 : Int) ≤ (0 : Int) ∧ (0 : Int) ≤ (↑(List.length l) : Int) ∧ (↑(List.length l) : Int) ≤ (↑(List.length l) : Int)) ∧
                                                (List.drop (0 : Nat) (List.take (0 : Nat) l) ++ [(o.fst, o.snd.fst, o.snd.snd.fst, o.snd.snd.snd.fst, ())] = List.drop (0 : Nat) (List.take (0 : Nat) l) ++ [(o.fst, o.snd.fst, o.snd.snd.fst, o.snd.snd.snd.fst, ())] ∧ List.length (List.drop (0 : Nat) (List.take (0 : Nat) l) ++ [(o.fst, o.snd.fst, o.snd.snd.fst, o.snd.snd.snd.fst, ())]) + List.length (List.drop (0 : Nat) (List.take (List.length l) l)) ≤ (1000000000 : Nat)) ∧
                                                (True) ∧
                                                (((decide ((findS (l, s)).fst ≥ (0 : Int))) = true →
                                                  ((I64 (findS (l, s)).fst) →
                                                  ((I64 (1 : Int)) →
                                                  (I64 ((findS (l, s)).fst + (1 : Int))) ∧
                                                  ((((findS (List.drop (0 : Nat) (List.take (0 : Nat) l) ++ [(o.fst, o.snd.fst, o.snd.snd.fst, o.snd.snd.snd.fst, ())] ++ List.drop (0 : Nat) (List.take (List.length l) l), s)).fst == (findS (l, s)).fst + (1 : Int)) = true →
                                                    (((findS (List.drop (0 : Nat) (List.take (0 : Nat) l) ++ [(o.fst, o.snd.fst, o.snd.snd.fst, o.snd.snd.snd.fst, ())] ++ List.drop (0 : Nat) (List.take (List.length l) l), s)).snd == (findS (l, s)).snd) = true)) ∧
                                                  (((findS (List.drop (0 : Nat) (List.take (0 : Nat) l) ++ [(o.fst, o.snd.fst, o.snd.snd.fst, o.snd.snd.snd.fst, ())] ++ List.drop (0 : Nat) (List.take (List.length l) l), s)).fst == (findS (l, s)).fst + (1 : Int)) = false →
                                                    (false = true)))))) ∧
                                                ((decide ((findS (l, s)).fst ≥ (0 : Int))) = false →
                                                  ((((findS (List.drop (0 : Nat) (List.take (0 : Nat) l) ++ [(o.fst, o.snd.fst, o.snd.snd.fst, o.snd.snd.snd.fst, ())] ++ List.drop (0 : Nat) (List.take (List.length l) l), s)).fst == (findS (l, s)).fst) = true →
                                                    (((findS (List.drop (0 : Nat) (List.take (0 : Nat) l) ++ [(o.fst, o.snd.fst, o.snd.snd.fst, o.snd.snd.snd.fst, ())] ++ List.drop (0 : Nat) (List.take (List.length l) l), s)).snd == (findS (l, s)).snd) = true)) ∧
                                                  (((findS (List.drop (0 : Nat) (List.take (0 : Nat) l) ++ [(o.fst, o.snd.fst, o.snd.snd.fst, o.snd.snd.snd.fst, ())] ++ List.drop (0 : Nat) (List.take (List.length l) l), s)).fst == (findS (l, s)).fst) = false →
                                                    (false = true)))))) ∧
                                              ((List.length (List.drop (0 : Nat) (List.take (0 : Nat) l)) ≤ (1000000000 : Nat)) ∧
                                                (List.drop (0 : Nat) (List.take (0 : Nat) l) = List.drop (0 : Nat) (List.take (0 : Nat) l) ∧ List.length (List.drop (0 : Nat) (List.take (0 : Nat) l)) + List.length [(o.fst, o.snd.fst, o.snd.snd.fst, o.snd.snd.snd.fst, ())] ≤ (1000000000 : Nat)) ∧
                                                ((0 : Int) ≤ (0 : Int) ∧ (0 : Int) ≤ (↑(List.length l) : Int) ∧ (↑(List.length l) : Int) ≤ (↑(List.length l) : Int)) ∧
                                                (List.drop (0 : Nat) (List.take (0 : Nat) l) ++ [(o.fst, o.snd.fst, o.snd.snd.fst, o.snd.snd.snd.fst, ())] = List.drop (0 : Nat) (List.take (0 : Nat) l) ++ [(o.fst, o.snd.fst, o.snd.snd.fst, o.snd.snd.snd.fst, ())] ∧ List.length (List.drop (0 : Nat) (List.take (0 : Nat) l) ++ [(o.fst, o.snd.fst, o.snd.snd.fst, o.snd.snd.snd.fst, ())]) + List.length (List.drop (0 : Nat) (List.take (List.length l) l)) ≤ (1000000000 : Nat)) ∧
                                                (True) ∧
                                                (((decide ((findS (l, s)).fst ≥ (0 : Int))) = true →
                                                  ((I64 (findS (l, s)).fst) →
                                                  ((I64 (1 : Int)) →
                                                  (I64 ((findS (l, s)).fst + (1 : Int))) ∧
                                                  ((((findS (List.drop (0 : Nat) (List.take (0 : Nat) l) ++ [(o.fst, o.snd.fst, o.snd.snd.fst, o.snd.snd.snd.fst, ())] ++ List.drop (0 : Nat) (List.take (List.length l) l), s)).fst == (findS (l, s)).fst + (1 : Int)) = true →
                                                    (((findS (List.drop (0 : Nat) (List.take (0 : Nat) l) ++ [(o.fst, o.snd.fst, o.snd.snd.fst, o.snd.snd.snd.fst, ())] ++ List.drop (0 : Nat) (List.take (List.length l) l), s)).snd == (findS (l, s)).snd) = true)) ∧
                                                  (((findS (List.drop (0 : Nat) (List.take (0 : Nat) l) ++ [(o.fst, o.snd.fst, o.snd.snd.fst, o.snd.snd.snd.fst, ())] ++ List.drop (0 : Nat) (List.take (List.length l) l), s)).fst == (findS (l, s)).fst + (1 : Int)) = false →
                                                    (false = true)))))) ∧
                                                ((decide ((findS (l, s)).fst ≥ (0 : Int))) = false →
                                                  ((((findS (List.drop (0 : Nat) (List.take (0 : Nat) l) ++ [(o.fst, o.snd.fst, o.snd.snd.fst, o.snd.snd.snd.fst, ())] ++ List.drop (0 : Nat) (List.take (List.length l) l), s)).fst == (findS (l, s)).fst) = true →
                                                    (((findS (List.drop (0 : Nat) (List.take (0 : Nat) l) ++ [(o.fst, o.snd.fst, o.snd.snd.fst, o.snd.snd.snd.fst, ())] ++ List.drop (0 : Nat) (List.take (List.length l) l), s)).snd == (findS (l, s)).snd) = true)) ∧
                                                  (((findS (List.drop (0 : Nat) (List.take (0 : Nat) l) ++ [(o.fst, o.snd.fst, o.snd.snd.fst, o.snd.snd.snd.fst, ())] ++ List.drop (0 : Nat) (List.take (List.length l) l), s)).fst == (findS (l, s)).fst) = false →
                                                    (false = true)))))))))))))))) := by
                      refine ⟨?_, ?_⟩
                      · have hl := (q_0 (by simp_all)).1
                        omega
                      refine ⟨?_, ?_⟩
                      · have hl := (q_0 (by simp_all)).1
                        simp only [List.length_singleton, true_and]; omega
                      refine ⟨?_, ?_⟩
                      · first | exact True.intro | rfl | omega | assumption | (dsimp only [D] at *; omega) | (simp only [I64, big] at *; omega) | (simp_all; done)
                      refine ⟨fun h10 => ?_, fun h10 => ?_⟩
                      · try simp only [decide_eq_true_eq, decide_eq_false_iff_not, beq_iff_eq, beq_eq_false_iff_ne, bne_iff_ne, bne_eq_false_iff_eq, Bool.not_eq_true', Bool.not_eq_false', Bool.not_eq_true, Bool.not_eq_false, ne_eq, Bool.and_eq_true, Bool.or_eq_true, Bool.and_eq_false_iff, Bool.or_eq_false_iff, reduceCtorEq, Int.not_lt, Int.not_le] at h10
                        exfalso
                        have hl := (q_0 (by simp_all)).1; have hs : ¬ hasO (strongS s) o := fun ⟨k, h1, h2, h3⟩ => (by have := q_2.2.2.2 ⟨k, by omega, h2, h3⟩; simp_all)
                        have e : findS (l ++ [(o.fst, o.snd.fst, o.snd.snd.fst, o.snd.snd.snd.fst, ())], s) = findS (l, s) := find_behind (ins_end (l := l) (o := o)) hs (fun ⟨k, h1, h2⟩ => by have := q_2.2.1.2 ⟨k, by omega, h2⟩; simp_all)
                        have e1 := congrArg Prod.fst e; have e2 := congrArg Prod.snd e; omega
                      · try simp only [decide_eq_true_eq, decide_eq_false_iff_not, beq_iff_eq, beq_eq_false_iff_ne, bne_iff_ne, bne_eq_false_iff_eq, Bool.not_eq_true', Bool.not_eq_false', Bool.not_eq_true, Bool.not_eq_false, ne_eq, Bool.and_eq_true, Bool.or_eq_true, Bool.and_eq_false_iff, Bool.or_eq_false_iff, reduceCtorEq, Int.not_lt, Int.not_le] at h10
                        refine ⟨fun h11 => ?_, fun h11 => ?_⟩
                        · try simp only [decide_eq_true_eq, decide_eq_false_iff_not, beq_iff_eq, beq_eq_false_iff_ne, bne_iff_ne, bne_eq_false_iff_eq, Bool.not_eq_true', Bool.not_eq_false', Bool.not_eq_true, Bool.not_eq_false, ne_eq, Bool.and_eq_true, Bool.or_eq_true, Bool.and_eq_false_iff, Bool.or_eq_false_iff, reduceCtorEq, Int.not_lt, Int.not_le] at h11
                          exfalso
                          have hl := (q_0 (by simp_all)).1; have hs : ¬ hasO (strongS s) o := fun ⟨k, h1, h2, h3⟩ => (by have := q_2.2.2.2 ⟨k, by omega, h2, h3⟩; simp_all)
                          have e : findS (l ++ [(o.fst, o.snd.fst, o.snd.snd.fst, o.snd.snd.snd.fst, ())], s) = findS (l, s) := find_behind (ins_end (l := l) (o := o)) hs (fun ⟨k, h1, h2⟩ => by have := q_2.2.1.2 ⟨k, by omega, h2⟩; simp_all)
                          have e1 := congrArg Prod.fst e; have e2 := congrArg Prod.snd e; omega
                        · try simp only [decide_eq_true_eq, decide_eq_false_iff_not, beq_iff_eq, beq_eq_false_iff_ne, bne_iff_ne, bne_eq_false_iff_eq, Bool.not_eq_true', Bool.not_eq_false', Bool.not_eq_true, Bool.not_eq_false, ne_eq, Bool.and_eq_true, Bool.or_eq_true, Bool.and_eq_false_iff, Bool.or_eq_false_iff, reduceCtorEq, Int.not_lt, Int.not_le] at h11
                          refine ⟨fun h12 => ?_, fun h12 => ?_⟩
                          · try simp only [decide_eq_true_eq, decide_eq_false_iff_not, beq_iff_eq, beq_eq_false_iff_ne, bne_iff_ne, bne_eq_false_iff_eq, Bool.not_eq_true', Bool.not_eq_false', Bool.not_eq_true, Bool.not_eq_false, ne_eq, Bool.and_eq_true, Bool.or_eq_true, Bool.and_eq_false_iff, Bool.or_eq_false_iff, reduceCtorEq, Int.not_lt, Int.not_le] at h12
                            first | exact True.intro | rfl | omega | assumption | (dsimp only [D] at *; omega) | (simp only [I64, big] at *; omega) | (simp_all; done)
                          · try simp only [decide_eq_true_eq, decide_eq_false_iff_not, beq_iff_eq, beq_eq_false_iff_ne, bne_iff_ne, bne_eq_false_iff_eq, Bool.not_eq_true', Bool.not_eq_false', Bool.not_eq_true, Bool.not_eq_false, ne_eq, Bool.and_eq_true, Bool.or_eq_true, Bool.and_eq_false_iff, Bool.or_eq_false_iff, reduceCtorEq, Int.not_lt, Int.not_le] at h12
                            intro h13
                            refine ⟨fun h14 => ?_, fun h14 => ?_⟩
                            · try simp only [decide_eq_true_eq, decide_eq_false_iff_not, beq_iff_eq, beq_eq_false_iff_ne, bne_iff_ne, bne_eq_false_iff_eq, Bool.not_eq_true', Bool.not_eq_false', Bool.not_eq_true, Bool.not_eq_false, ne_eq, Bool.and_eq_true, Bool.or_eq_true, Bool.and_eq_false_iff, Bool.or_eq_false_iff, reduceCtorEq, Int.not_lt, Int.not_le] at h14
                              intro x_3 q_3
                              intro h15
                              intro h16
                              intro h17
                              refine ⟨?_, ?_⟩
                              · have hl := (q_0 (by simp_all)).1
                                simp only [I64]; omega
                              refine ⟨?_, ?_⟩
                              · first | exact True.intro | rfl | omega | assumption | (dsimp only [D] at *; omega) | (simp only [I64, big] at *; omega) | (simp_all; done)
                              intro x_4 q_4
                              refine ⟨?_, ?_⟩
                              · have hl := (q_0 (by simp_all)).1; have h3 := and_small (a := a) q_3; have h4 := tmod_in (x := x_3) (m := (l.length : Int) + 1) (by omega) (by omega); rw [← q_4] at h4
                                omega
                              have hb18_0 :
                                  (List.length (List.drop (0 : Nat) (List.take (Int.toNat x_4) l)) ≤ (1000000000 : Nat)) ∧
                                                            (List.drop (0 : Nat) (List.take (Int.toNat x_4) l) = List.drop (0 : Nat) (List.take (Int.toNat x_4) l) ∧ List.length (List.drop (0 : Nat) (List.take (Int.toNat x_4) l)) + List.length [(o.fst, o.snd.fst, o.snd.snd.fst, o.snd.snd.snd.fst, ())] ≤ (1000000000 : Nat)) ∧
                                                            ((0 : Int) ≤ x_4 ∧ x_4 ≤ (↑(List.length l) : Int) ∧ (↑(List.length l) : Int) ≤ (↑(List.length l) : Int)) ∧
                                                            (List.drop (0 : Nat) (List.take (Int.toNat x_4) l) ++ [(o.fst, o.snd.fst, o.snd.snd.fst, o.snd.snd.snd.fst, ())] = List.drop (0 : Nat) (List.take (Int.toNat x_4) l) ++ [(o.fst, o.snd.fst, o.snd.snd.fst, o.snd.snd.snd.fst, ())] ∧ List.length (List.drop (0 : Nat) (List.take (Int.toNat x_4) l) ++ [(o.fst, o.snd.fst, o.snd.snd.fst, o.snd.snd.snd.fst, ())]) + List.length (List.drop (Int.toNat x_4) (List.take (List.length l) l)) ≤ (1000000000 : Nat)) ∧
                                                            (True) ∧
                                                            (((decide ((findS (l, s)).fst ≥ x_4)) = true →
                                                              ((I64 (findS (l, s)).fst) →
                                                              ((I64 (1 : Int)) →
                                                              (I64 ((findS (l, s)).fst + (1 : Int))) ∧
                                                              ((((findS (List.drop (0 : Nat) (List.take (Int.toNat x_4) l) ++ [(o.fst, o.snd.fst, o.snd.snd.fst, o.snd.snd.snd.fst, ())] ++ List.drop (Int.toNat x_4) (List.take (List.length l) l), s)).fst == (findS (l, s)).fst + (1 : Int)) = true →
                                                                (((findS (List.drop (0 : Nat) (List.take (Int.toNat x_4) l) ++ [(o.fst, o.snd.fst, o.snd.snd.fst, o.snd.snd.snd.fst, ())] ++ List.drop (Int.toNat x_4) (List.take (List.length l) l), s)).snd == (findS (l, s)).snd) = true)) ∧
                                                              (((findS (List.drop (0 : Nat) (List.take (Int.toNat x_4) l) ++ [(o.fst, o.snd.fst, o.snd.snd.fst, o.snd.snd.snd.fst, ())] ++ List.drop (Int.toNat x_4) (List.take (List.length l) l), s)).fst == (findS (l, s)).fst + (1 : Int)) = false →
                                                                (false = true)))))) ∧
                                                            ((decide ((findS (l, s)).fst ≥ x_4)) = false →
                                                              ((((findS (List.drop (0 : Nat) (List.take (Int.toNat x_4) l) ++ [(o.fst, o.snd.fst, o.snd.snd.fst, o.snd.snd.snd.fst, ())] ++ List.drop (Int.toNat x_4) (List.take (List.length l) l), s)).fst == (findS (l, s)).fst) = true →
                                                                (((findS (List.drop (0 : Nat) (List.take (Int.toNat x_4) l) ++ [(o.fst, o.snd.fst, o.snd.snd.fst, o.snd.snd.snd.fst, ())] ++ List.drop (Int.toNat x_4) (List.take (List.length l) l), s)).snd == (findS (l, s)).snd) = true)) ∧
                                                              (((findS (List.drop (0 : Nat) (List.take (Int.toNat x_4) l) ++ [(o.fst, o.snd.fst, o.snd.snd.fst, o.snd.snd.snd.fst, ())] ++ List.drop (Int.toNat x_4) (List.take (List.length l) l), s)).fst == (findS (l, s)).fst) = false →
                                                                (false = true))))) := by
                                  refine ⟨?_, ?_⟩
                                  · have hl := (q_0 (by simp_all)).1; have h3 := and_small (a := a) q_3; have h4 := tmod_in (x := x_3) (m := (l.length : Int) + 1) (by omega) (by omega); rw [← q_4] at h4
                                    simp only [List.length_drop, List.length_take]; omega
                                  refine ⟨?_, ?_⟩
                                  · have hl := (q_0 (by simp_all)).1; have h3 := and_small (a := a) q_3; have h4 := tmod_in (x := x_3) (m := (l.length : Int) + 1) (by omega) (by omega); rw [← q_4] at h4
                                    simp only [List.length_drop, List.length_take, List.length_append, List.length_singleton, true_and]; omega
                                  refine ⟨?_, ?_⟩
                                  · have hl := (q_0 (by simp_all)).1; have h3 := and_small (a := a) q_3; have h4 := tmod_in (x := x_3) (m := (l.length : Int) + 1) (by omega) (by omega); rw [← q_4] at h4
                                    omega
                                  refine ⟨?_, ?_⟩
                                  · have hl := (q_0 (by simp_all)).1; have h3 := and_small (a := a) q_3; have h4 := tmod_in (x := x_3) (m := (l.length : Int) + 1) (by omega) (by omega); rw [← q_4] at h4
                                    simp only [List.length_drop, List.length_take, List.length_append, List.length_singleton, true_and]; omega
                                  refine ⟨?_, ?_⟩
                                  · first | exact True.intro | rfl | omega | assumption | (dsimp only [D] at *; omega) | (simp only [I64, big] at *; omega) | (simp_all; done)
                                  refine ⟨fun h18 => ?_, fun h18 => ?_⟩
                                  · try simp only [decide_eq_true_eq, decide_eq_false_iff_not, beq_iff_eq, beq_eq_false_iff_ne, bne_iff_ne, bne_eq_false_iff_eq, Bool.not_eq_true', Bool.not_eq_false', Bool.not_eq_true, Bool.not_eq_false, ne_eq, Bool.and_eq_true, Bool.or_eq_true, Bool.and_eq_false_iff, Bool.or_eq_false_iff, reduceCtorEq, Int.not_lt, Int.not_le] at h18
                                    intro h19
                                    intro h20
                                    refine ⟨?_, ?_⟩
                                    · have hl := (q_0 (by simp_all)).1
                                      have := find_in (l := l) (s := s); simp only [I64] at *; by_cases c : 0 ≤ (findS (l, s)).1 <;> omega
                                    refine ⟨fun h21 => ?_, fun h21 => ?_⟩
                                    · try simp only [decide_eq_true_eq, decide_eq_false_iff_not, beq_iff_eq, beq_eq_false_iff_ne, bne_iff_ne, bne_eq_false_iff_eq, Bool.not_eq_true', Bool.not_eq_false', Bool.not_eq_true, Bool.not_eq_false, ne_eq, Bool.and_eq_true, Bool.or_eq_true, Bool.and_eq_false_iff, Bool.or_eq_false_iff, reduceCtorEq, Int.not_lt, Int.not_le] at h21
                                      have hl := (q_0 (by simp_all)).1; have h3 := and_small (a := a) q_3; have h4 := tmod_in (x := x_3) (m := (l.length : Int) + 1) (by omega) (by omega); rw [← q_4] at h4
                                      have hl := (q_0 (by simp_all)).1; have ho : ¬ hasO (isS s) o := fun ⟨k, h1, h2⟩ => by have := q_2.2.1.2 ⟨k, by omega, h2⟩; simp_all
                                      have e : findS (List.drop (0 : Nat) (List.take (Int.toNat x_4) l) ++ [(o.fst, o.snd.fst, o.snd.snd.fst, o.snd.snd.snd.fst, ())] ++ List.drop (Int.toNat x_4) (List.take (List.length l) l), s) = (if ((Int.toNat x_4 : Nat) : Int) ≤ (findS (l, s)).1 then (findS (l, s)).1 + 1 else (findS (l, s)).1, (findS (l, s)).2) := by rw [List.drop_zero, List.take_length]; exact find_ins (s := s) (ins_mid (l := l) (o := o) (n := Int.toNat x_4) (by omega)) ho
                                      have e1 := congrArg Prod.fst e; have e2 := congrArg Prod.snd e; simp only at e1 e2
                                      first | (rw [e2]; simp; done) | (split at e1 <;> omega)
                                    · try simp only [decide_eq_true_eq, decide_eq_false_iff_not, beq_iff_eq, beq_eq_false_iff_ne, bne_iff_ne, bne_eq_false_iff_eq, Bool.not_eq_true', Bool.not_eq_false', Bool.not_eq_true, Bool.not_eq_false, ne_eq, Bool.and_eq_true, Bool.or_eq_true, Bool.and_eq_false_iff, Bool.or_eq_false_iff, reduceCtorEq, Int.not_lt, Int.not_le] at h21
                                      have hl := (q_0 (by simp_all)).1; have h3 := and_small (a := a) q_3; have h4 := tmod_in (x := x_3) (m := (l.length : Int) + 1) (by omega) (by omega); rw [← q_4] at h4
                                      have hl := (q_0 (by simp_all)).1; have ho : ¬ hasO (isS s) o := fun ⟨k, h1, h2⟩ => by have := q_2.2.1.2 ⟨k, by omega, h2⟩; simp_all
                                      have e : findS (List.drop (0 : Nat) (List.take (Int.toNat x_4) l) ++ [(o.fst, o.snd.fst, o.snd.snd.fst, o.snd.snd.snd.fst, ())] ++ List.drop (Int.toNat x_4) (List.take (List.length l) l), s) = (if ((Int.toNat x_4 : Nat) : Int) ≤ (findS (l, s)).1 then (findS (l, s)).1 + 1 else (findS (l, s)).1, (findS (l, s)).2) := by rw [List.drop_zero, List.take_length]; exact find_ins (s := s) (ins_mid (l := l) (o := o) (n := Int.toNat x_4) (by omega)) ho
                                      have e1 := congrArg Prod.fst e; have e2 := congrArg Prod.snd e; simp only at e1 e2
                                      first | (rw [e2]; simp; done) | (split at e1 <;> omega)
                                  · try simp only [decide_eq_true_eq, decide_eq_false_iff_not, beq_iff_eq, beq_eq_false_iff_ne, bne_iff_ne, bne_eq_false_iff_eq, Bool.not_eq_true', Bool.not_eq_false', Bool.not_eq_true, Bool.not_eq_false, ne_eq, Bool.and_eq_true, Bool.or_eq_true, Bool.and_eq_false_iff, Bool.or_eq_false_iff, reduceCtorEq, Int.not_lt, Int.not_le] at h18
                                    refine ⟨fun h19 => ?_, fun h19 => ?_⟩
                                    · try simp only [decide_eq_true_eq, decide_eq_false_iff_not, beq_iff_eq, beq_eq_false_iff_ne, bne_iff_ne, bne_eq_false_iff_eq, Bool.not_eq_true', Bool.not_eq_false', Bool.not_eq_true, Bool.not_eq_false, ne_eq, Bool.and_eq_true, Bool.or_eq_true, Bool.and_eq_false_iff, Bool.or_eq_false_iff, reduceCtorEq, Int.not_lt, Int.not_le] at h19
                                      have hl := (q_0 (by simp_all)).1; have h3 := and_small (a := a) q_3; have h4 := tmod_in (x := x_3) (m := (l.length : Int) + 1) (by omega) (by omega); rw [← q_4] at h4
                                      have hl := (q_0 (by simp_all)).1; have ho : ¬ hasO (isS s) o := fun ⟨k, h1, h2⟩ => by have := q_2.2.1.2 ⟨k, by omega, h2⟩; simp_all
                                      have e : findS (List.drop (0 : Nat) (List.take (Int.toNat x_4) l) ++ [(o.fst, o.snd.fst, o.snd.snd.fst, o.snd.snd.snd.fst, ())] ++ List.drop (Int.toNat x_4) (List.take (List.length l) l), s) = (if ((Int.toNat x_4 : Nat) : Int) ≤ (findS (l, s)).1 then (findS (l, s)).1 + 1 else (findS (l, s)).1, (findS (l, s)).2) := by rw [List.drop_zero, List.take_length]; exact find_ins (s := s) (ins_mid (l := l) (o := o) (n := Int.toNat x_4) (by omega)) ho
                                      have e1 := congrArg Prod.fst e; have e2 := congrArg Prod.snd e; simp only at e1 e2
                                      first | (rw [e2]; simp; done) | (split at e1 <;> omega)
                                    · try simp only [decide_eq_true_eq, decide_eq_false_iff_not, beq_iff_eq, beq_eq_false_iff_ne, bne_iff_ne, bne_eq_false_iff_eq, Bool.not_eq_true', Bool.not_eq_false', Bool.not_eq_true, Bool.not_eq_false, ne_eq, Bool.and_eq_true, Bool.or_eq_true, Bool.and_eq_false_iff, Bool.or_eq_false_iff, reduceCtorEq, Int.not_lt, Int.not_le] at h19
                                      have hl := (q_0 (by simp_all)).1; have h3 := and_small (a := a) q_3; have h4 := tmod_in (x := x_3) (m := (l.length : Int) + 1) (by omega) (by omega); rw [← q_4] at h4
                                      have hl := (q_0 (by simp_all)).1; have ho : ¬ hasO (isS s) o := fun ⟨k, h1, h2⟩ => by have := q_2.2.1.2 ⟨k, by omega, h2⟩; simp_all
                                      have e : findS (List.drop (0 : Nat) (List.take (Int.toNat x_4) l) ++ [(o.fst, o.snd.fst, o.snd.snd.fst, o.snd.snd.snd.fst, ())] ++ List.drop (Int.toNat x_4) (List.take (List.length l) l), s) = (if ((Int.toNat x_4 : Nat) : Int) ≤ (findS (l, s)).1 then (findS (l, s)).1 + 1 else (findS (l, s)).1, (findS (l, s)).2) := by rw [List.drop_zero, List.take_length]; exact find_ins (s := s) (ins_mid (l := l) (o := o) (n := Int.toNat x_4) (by omega)) ho
                                      have e1 := congrArg Prod.fst e; have e2 := congrArg Prod.snd e; simp only at e1 e2
                                      first | (rw [e2]; simp; done) | (split at e1 <;> omega)
                              exact ⟨hb18_0, hb18_0, hb18_0⟩
                            · try simp only [decide_eq_true_eq, decide_eq_false_iff_not, beq_iff_eq, beq_eq_false_iff_ne, bne_iff_ne, bne_eq_false_iff_eq, Bool.not_eq_true', Bool.not_eq_false', Bool.not_eq_true, Bool.not_eq_false, ne_eq, Bool.and_eq_true, Bool.or_eq_true, Bool.and_eq_false_iff, Bool.or_eq_false_iff, reduceCtorEq, Int.not_lt, Int.not_le] at h14
                              refine ⟨?_, ?_⟩
                              · first | exact True.intro | rfl | omega | assumption | (dsimp only [D] at *; omega) | (simp only [I64, big] at *; omega) | (simp_all; done)
                              have hb15_0 :
                                  (List.length (List.drop (0 : Nat) (List.take (0 : Nat) l)) ≤ (1000000000 : Nat)) ∧
                                                            (List.drop (0 : Nat) (List.take (0 : Nat) l) = List.drop (0 : Nat) (List.take (0 : Nat) l) ∧ List.length (List.drop (0 : Nat) (List.take (0 : Nat) l)) + List.length [(o.fst, o.snd.fst, o.snd.snd.fst, o.snd.snd.snd.fst, ())] ≤ (1000000000 : Nat)) ∧
                                                            ((0 : Int) ≤ (0 : Int) ∧ (0 : Int) ≤ (↑(List.length l) : Int) ∧ (↑(List.length l) : Int) ≤ (↑(List.length l) : Int)) ∧
                                                            (List.drop (0 : Nat) (List.take (0 : Nat) l) ++ [(o.fst, o.snd.fst, o.snd.snd.fst, o.snd.snd.snd.fst, ())] = List.drop (0 : Nat) (List.take (0 : Nat) l) ++ [(o.fst, o.snd.fst, o.snd.snd.fst, o.snd.snd.snd.fst, ())] ∧ List.length (List.drop (0 : Nat) (List.take (0 : Nat) l) ++ [(o.fst, o.snd.fst, o.snd.snd.fst, o.snd.snd.snd.fst, ())]) + List.length (List.drop (0 : Nat) (List.take (List.length l) l)) ≤ (1000000000 : Nat)) ∧
                                                            (True) ∧
                                                            (((decide ((findS (l, s)).fst ≥ (0 : Int))) = true →
                                                              ((I64 (findS (l, s)).fst) →
                                                              ((I64 (1 : Int)) →
                                                              (I64 ((findS (l, s)).fst + (1 : Int))) ∧
                                                              ((((findS (List.drop (0 : Nat) (List.take (0 : Nat) l) ++ [(o.fst, o.snd.fst, o.snd.snd.fst, o.snd.snd.snd.fst, ())] ++ List.drop (0 : Nat) (List.take (List.length l) l), s)).fst == (findS (l, s)).fst + (1 : Int)) = true →
                                                                (((findS (List.drop (0 : Nat) (List.take (0 : Nat) l) ++ [(o.fst, o.snd.fst, o.snd.snd.fst, o.snd.snd.snd.fst, ())] ++ List.drop (0 : Nat) (List.take (List.length l) l), s)).snd == (findS (l, s)).snd) = true)) ∧
                                                              (((findS (List.drop (0 : Nat) (List.take (0 : Nat) l) ++ [(o.fst, o.snd.fst, o.snd.snd.fst, o.snd.snd.snd.fst, ())] ++ List.drop (0 : Nat) (List.take (List.length l) l), s)).fst == (findS (l, s)).fst + (1 : Int)) = false →
                                                                (false = true)))))) ∧
                                                            ((decide ((findS (l, s)).fst ≥ (0 : Int))) = false →
                                                              ((((findS (List.drop (0 : Nat) (List.take (0 : Nat) l) ++ [(o.fst, o.snd.fst, o.snd.snd.fst, o.snd.snd.snd.fst, ())] ++ List.drop (0 : Nat) (List.take (List.length l) l), s)).fst == (findS (l, s)).fst) = true →
                                                                (((findS (List.drop (0 : Nat) (List.take (0 : Nat) l) ++ [(o.fst, o.snd.fst, o.snd.snd.fst, o.snd.snd.snd.fst, ())] ++ List.drop (0 : Nat) (List.take (List.length l) l), s)).snd == (findS (l, s)).snd) = true)) ∧
                                                              (((findS (List.drop (0 : Nat) (List.take (0 : Nat) l) ++ [(o.fst, o.snd.fst, o.snd.snd.fst, o.snd.snd.snd.fst, ())] ++ List.drop (0 : Nat) (List.take (List.length l) l), s)).fst == (findS (l, s)).fst) = false →
                                                                (false = true))))) := by
                                  refine ⟨?_, ?_⟩
                                  · first | exact True.intro | rfl | omega | assumption | (dsimp only [D] at *; omega) | (simp only [I64, big] at *; omega) | (simp_all; done)
                                  refine ⟨?_, ?_⟩
                                  · first | exact True.intro | rfl | omega | assumption | (dsimp only [D] at *; omega) | (simp only [I64, big] at *; omega) | (simp_all; done)
                                  refine ⟨?_, ?_⟩
                                  · first | exact True.intro | rfl | omega | assumption | (dsimp only [D] at *; omega) | (simp only [I64, big] at *; omega) | (simp_all; done)
                                  refine ⟨?_, ?_⟩
                                  · first | exact True.intro | rfl | omega | assumption | (dsimp only [D] at *; omega) | (simp only [I64, big] at *; omega) | (simp_all; done)
                                  refine ⟨?_, ?_⟩
                                  · first | exact True.intro | rfl | omega | assumption | (dsimp only [D] at *; omega) | (simp only [I64, big] at *; omega) | (simp_all; done)
                                  refine ⟨fun h15 => ?_, fun h15 => ?_⟩
                                  · try simp only [decide_eq_true_eq, decide_eq_false_iff_not, beq_iff_eq, beq_eq_false_iff_ne, bne_iff_ne, bne_eq_false_iff_eq, Bool.not_eq_true', Bool.not_eq_false', Bool.not_eq_true, Bool.not_eq_false, ne_eq, Bool.and_eq_true, Bool.or_eq_true, Bool.and_eq_false_iff, Bool.or_eq_false_iff, reduceCtorEq, Int.not_lt, Int.not_le] at h15
                                    intro h16
                                    intro h17
                                    refine ⟨?_, ?_⟩
                                    · have hl := (q_0 (by simp_all)).1
                                      have := find_in (l := l) (s := s); simp only [I64] at *; by_cases c : 0 ≤ (findS (l, s)).1 <;> omega
                                    refine ⟨fun h18 => ?_, fun h18 => ?_⟩
                                    · try simp only [decide_eq_true_eq, decide_eq_false_iff_not, beq_iff_eq, beq_eq_false_iff_ne, bne_iff_ne, bne_eq_false_iff_eq, Bool.not_eq_true', Bool.not_eq_false', Bool.not_eq_true, Bool.not_eq_false, ne_eq, Bool.and_eq_true, Bool.or_eq_true, Bool.and_eq_false_iff, Bool.or_eq_false_iff, reduceCtorEq, Int.not_lt, Int.not_le] at h18
                                      first | exact True.intro | rfl | omega | assumption | (dsimp only [D] at *; omega) | (simp only [I64, big] at *; omega) | (simp_all; done)
                                    · try simp only [decide_eq_true_eq, decide_eq_false_iff_not, beq_iff_eq, beq_eq_false_iff_ne, bne_iff_ne, bne_eq_false_iff_eq, Bool.not_eq_true', Bool.not_eq_false', Bool.not_eq_true, Bool.not_eq_false, ne_eq, Bool.and_eq_true, Bool.or_eq_true, Bool.and_eq_false_iff, Bool.or_eq_false_iff, reduceCtorEq, Int.not_lt, Int.not_le] at h18
                                      have hl : l = [] := List.length_eq_zero_iff.1 (by omega)
                                      subst hl
                                      have := find_out (l := []) (s := s); have := find_in (l := []) (s := s); simp only [List.length_nil] at *; omega
                                  · try simp only [decide_eq_true_eq, decide_eq_false_iff_not, beq_iff_eq, beq_eq_false_iff_ne, bne_iff_ne, bne_eq_false_iff_eq, Bool.not_eq_true', Bool.not_eq_false', Bool.not_eq_true, Bool.not_eq_false, ne_eq, Bool.and_eq_true, Bool.or_eq_true, Bool.and_eq_false_iff, Bool.or_eq_false_iff, reduceCtorEq, Int.not_lt, Int.not_le] at h15
                                    refine ⟨fun h16 => ?_, fun h16 => ?_⟩
                                    · try simp only [decide_eq_true_eq, decide_eq_false_iff_not, beq_iff_eq, beq_eq_false_iff_ne, bne_iff_ne, bne_eq_false_iff_eq, Bool.not_eq_true', Bool.not_eq_false', Bool.not_eq_true, Bool.not_eq_false, ne_eq, Bool.and_eq_true, Bool.or_eq_true, Bool.and_eq_false_iff, Bool.or_eq_false_iff, reduceCtorEq, Int.not_lt, Int.not_le] at h16
                                      first | exact True.intro | rfl | omega | assumption | (dsimp only [D] at *; omega) | (simp only [I64, big] at *; omega) | (simp_all; done)
                                    · try simp only [decide_eq_true_eq, decide_eq_false_iff_not, beq_iff_eq, beq_eq_false_iff_ne, bne_iff_ne, bne_eq_false_iff_eq, Bool.not_eq_true', Bool.not_eq_false', Bool.not_eq_true, Bool.not_eq_false, ne_eq, Bool.and_eq_true, Bool.or_eq_true, Bool.and_eq_false_iff, Bool.or_eq_false_iff, reduceCtorEq, Int.not_lt, Int.not_le] at h16
                                      first | exact True.intro | rfl | omega | assumption | (dsimp only [D] at *; omega) | (simp only [I64, big] at *; omega) | (simp_all; done)
                              exact ⟨hb15_0, hb15_0, hb15_0⟩
                  exact ⟨hb10_0, hb10_0, hb10_0⟩
theorem Try.ok_TopWeak : PureOK Try.prog Try.B.eT 5 [.slice tObject, tObject, .str, .int .i64] [.bool] (fun _ => True) (fun _ y => y = true) :=
  pure_fn (B := (hintB Try.B [100, 129])) (X := noExt) (CtxOK.hint (l := [100, 129]) Try.scopeCtxOK) Try.func5 (by kernel_rfl) (fun x => tweakAnn x.1 x.2.1 x.2.2.1 x.2.2.2) (fun x hw hp => vc_TopWeak x.1 x.2.1 x.2.2.1 x.2.2.2 hw)
open Go.ChangeShapes Go.WideShapes Go.ChangeAt Go.RowKit in
set_option maxRecDepth 100000 in
theorem topWeak_lifted (os : Os) (started : os.Started) (H : Type) (enc : TypeId × Value → H) :
    ReturnsInHanded {} Try.checked os 5 .any (Rows.topWeakSpec.pre6 enc Try.prog Try.f5 Rows.topWeakRow.domain false) (Rows.topWeakSpec.post enc Try.prog Try.f5 false true false false) := by
  refine returnsInHanded_of_change (C := Try.checked) (by kernel_rfl) started (by kernel_rfl) Try.func5
    (ChangeSpec.witness6 (enc := enc) (C := Try.checked) false ⟨#[], #[.slice none 0 0, .agg #[.slice none 0 0, .slice none 0 0, .slice none 0 0, .slice none 0 0], .string ⟨#[]⟩, .int .i64 0], []⟩ 8 (by kernel_rfl) (by kernel_rfl) (by kernel_rfl) (by kernel_rfl)) ?_
  intro W base args ds gs before hval hW hcnd _
  exact law_calls (C := Try.checked) (n := 16) rfl (by kernel_rfl) (fun ds h => by match ds, h with | [_, _, _, _], _ => rfl) (by kernel_rfl) (by kernel_rfl) (by kernel_rfl) (tb := 4) (by kernel_rfl) Try.ok_TopWeak hval hW (fun _ _ => trivial)
open Go.ChangeShapes Go.WideShapes Go.ChangeAt Go.RowKit in
theorem topWeak_holds : Rows.TopWeakSaid :=
  OpenClaim.holds_of_wide 5 Try.f5 rfl rfl rfl rfl rfl rfl rfl ⟨rfl, rfl, rfl, rfl, rfl⟩ rfl rfl rfl rfl rfl (by kernel_rfl) Try.func5 (by kernel_rfl)
    (of_decide_eq_true (by kernel_rfl)) (by unfold Func.isWrapper; first | (rw [if_pos (by decide +kernel)]; kernel_rfl) | (rw [if_neg (by decide +kernel)]; exact ⟨rfl, rfl⟩))
    (fun os started H enc _ => topWeak_lifted os started H enc)
#print axioms topWeak_holds
end Go.Proofs.Ytgokjhhcfemnhab

