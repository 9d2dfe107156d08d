/- A part of the proof that the law TopTable holds of the given program: facts that are used there. -/
import Derived.Test.YtgokjhhcfemnhabName
import Derived.Test.YtgokjhhcfemnhabMrl9
set_option linter.unusedSimpArgs false
set_option linter.unusedVariables false
namespace Go.Proofs.Ytgokjhhcfemnhab
open Go.Vg Go.Mrl
/-! Package table. -/
def makeAnn (l : List (D tSymbol)) (many : Int) : Anns := [(0, fun st => { X := Nat, inv := fun i => i ≤ many.toNat, meas := fun i => many.toNat - i, slots := fun i => [(30, .s (.one (.d (.int .i64) i)))], objs := fun i => [(3, .mrow (.int .i64) (fillT many.toNat i))], keep := [0, 1, 4, 5, 6, 29], keepObj := [], mods := [3] }),
  (2, fun st => { X := Nat, inv := fun k => k ≤ l.length, meas := fun k => k, slots := fun k => [(8, .s (.one (.d (.int .i64) ((k : Int) - 1))))], objs := fun k => [(3, .mrow (.int .i64) (firstT l many.toNat k)), (4, .mrow (.int .i64) (nextT l many.toNat k))], keep := [0, 1, 4, 5, 6], keepObj := [], mods := [3, 4] })]
set_option maxRecDepth 100000 in
set_option maxHeartbeats 1000000 in
theorem vc_Make (l : List (D tSymbol)) (many : Int) (hw : wfL [.slice tSymbol, .int .i64] (l, many)) : (fnVCs Try.B Try.nameCtx Try.f16 (makeAnn l many) [.slice tSymbol, .int .i64] [tTable, .err] (fun x y => y = (fun x => makeF x) x) (l, many)).holds := by
  refine holds_of (p :=
    (((decide (many < (1 : Int))) = true →
        ((([], [], ()), Err.no (1 : Int)) = makeF (l, many))) ∧
      ((decide (many < (1 : Int))) = false →
        (((decide (many > (16 : Int))) = true →
          ((([], [], ()), Err.no (1 : Int)) = makeF (l, many))) ∧
        ((decide (many > (16 : Int))) = false →
          ((List.length l ≤ big) →
          (((decide ((↑(List.length l) : Int) > (8 : Int))) = true →
            ((([], [], ()), Err.no (2 : Int)) = makeF (l, many))) ∧
          ((decide ((↑(List.length l) : Int) > (8 : Int))) = false →
            ((List.length l ≤ big) →
            (((0 : Int) ≤ many ∧ many = many ∧ many ≤ (1000000000 : Int)) ∧
              (((0 : Int) ≤ (↑(List.length l) : Int) ∧ (↑(List.length l) : Int) = (↑(List.length l) : Int) ∧ (↑(List.length l) : Int) ≤ (1000000000 : Int)) ∧
                (∃ (x : Nat), x ≤ Int.toNat many ∧ ((0 : Int) = (↑x : Int) ∧ True) ∧ List.replicate (Int.toNat many) (zeroD (Ty.int IntKind.i64)) = fillT (Int.toNat many) x ∧ True) ∧
                (∀ x_0 : Nat,
                ((x_0 ≤ Int.toNat many) →
                (((decide ((↑x_0 : Int) < many)) = true →
                  ((0 : Int) ≤ (↑x_0 : Int) ∧ (↑x_0 : Int) < (↑(List.length (fillT (Int.toNat many) x_0)) : Int)) ∧
                  (Int.toNat (↑x_0 : Int) < List.length (fillT (Int.toNat many) x_0)) ∧
                  ((I64 (↑x_0 : Int)) →
                  ((I64 (1 : Int)) →
                  (I64 ((↑x_0 : Int) + (1 : Int))) ∧
                  (∃ (x' : Nat), x' ≤ Int.toNat many ∧ Int.toNat many - x' < Int.toNat many - x_0 ∧ ((↑x_0 : Int) + (1 : Int) = (↑x' : Int) ∧ True) ∧ List.set (fillT (Int.toNat many) x_0) (Int.toNat (↑x_0 : Int)) (-1 : Int) = fillT (Int.toNat many) x' ∧ (C.mrow ((0 : Nat) + (1 : Nat) + (1 : Nat) + (1 : Nat)) = C.mrow ((0 : Nat) + (1 : Nat) + (1 : Nat) + (1 : Nat)) ∧ C.mrow ((0 : Nat) + (1 : Nat) + (1 : Nat) + (1 : Nat) + (1 : Nat)) = C.mrow ((0 : Nat) + (1 : Nat) + (1 : Nat) + (1 : Nat) + (1 : Nat)) ∧ True) ∧ @List.nil Int = @List.nil Int ∧ @List.nil Int = @List.nil Int ∧ List.replicate (Int.toNat (↑(List.length l) : Int)) (zeroD (Ty.int IntKind.i64)) = List.replicate (Int.toNat (↑(List.length l) : Int)) (zeroD (Ty.int IntKind.i64)) ∧ (@List.nil Int = @List.nil Int ∧ @List.nil Int = @List.nil Int ∧ True) ∧ @List.nil Int = @List.nil Int ∧ @List.nil Int = @List.nil Int ∧ True)))) ∧
                ((decide ((↑x_0 : Int) < many)) = false →
                  ((List.length l ≤ big) →
                  ((I64 (↑(List.length l) : Int)) →
                  ((I64 (1 : Int)) →
                  (I64 ((↑(List.length l) : Int) - (1 : Int))) ∧
                  (∃ (x : Nat), x ≤ List.length l ∧ ((↑(List.length l) : Int) - (1 : Int) = (↑x : Int) - (1 : Int) ∧ True) ∧ fillT (Int.toNat many) x_0 = firstT l (Int.toNat many) x ∧ List.replicate (Int.toNat (↑(List.length l) : Int)) (zeroD (Ty.int IntKind.i64)) = nextT l (Int.toNat many) x ∧ True) ∧
                  (∀ x_1 : Nat,
                  ((x_1 ≤ List.length l) →
                  (((decide ((↑x_1 : Int) - (1 : Int) ≥ (0 : Int))) = true →
                    ((0 : Int) ≤ (↑x_1 : Int) - (1 : Int) ∧ (↑x_1 : Int) - (1 : Int) < (↑(List.length l) : Int)) ∧
                    (True) ∧
                    (IntKind.wrap IntKind.u32 many ≠ (0 : Int)) ∧
                    (∀ x_2 : Int,
                    ((x_2 = Int.tmod (↑(hashF (nth tSymbol l (Int.toNat ((↑x_1 : Int) - (1 : Int)))).fst) : Int) (IntKind.wrap IntKind.u32 many)) →
                    ((0 : Int) ≤ x_2 ∧ x_2 < (↑(List.length (firstT l (Int.toNat many) x_1)) : Int)) ∧
                    (Int.toNat x_2 < List.length (firstT l (Int.toNat many) x_1)) ∧
                    ((0 : Int) ≤ (↑x_1 : Int) - (1 : Int) ∧ (↑x_1 : Int) - (1 : Int) < (↑(List.length (nextT l (Int.toNat many) x_1)) : Int)) ∧
                    (Int.toNat ((↑x_1 : Int) - (1 : Int)) < List.length (nextT l (Int.toNat many) x_1)) ∧
                    ((0 : Int) ≤ x_2 ∧ x_2 < (↑(List.length (firstT l (Int.toNat many) x_1)) : Int)) ∧
                    (Int.toNat x_2 < List.length (firstT l (Int.toNat many) x_1)) ∧
                    ((I64 ((↑x_1 : Int) - (1 : Int))) →
                    ((I64 (1 : Int)) →
                    (I64 ((↑x_1 : Int) - (1 : Int) - (1 : Int))) ∧
                    (∃ (x' : Nat), x' ≤ List.length l ∧ x' < x_1 ∧ ((↑x_1 : Int) - (1 : Int) - (1 : Int) = (↑x' : Int) - (1 : Int) ∧ True) ∧ List.set (firstT l (Int.toNat many) x_1) (Int.toNat x_2) ((↑x_1 : Int) - (1 : Int)) = firstT l (Int.toNat many) x' ∧ List.set (nextT l (Int.toNat many) x_1) (Int.toNat ((↑x_1 : Int) - (1 : Int))) (nth (Ty.int IntKind.i64) (firstT l (Int.toNat many) x_1) (Int.toNat x_2)) = nextT l (Int.toNat many) x' ∧ (C.mrow ((0 : Nat) + (1 : Nat) + (1 : Nat) + (1 : Nat)) = C.mrow ((0 : Nat) + (1 : Nat) + (1 : Nat) + (1 : Nat)) ∧ C.mrow ((0 : Nat) + (1 : Nat) + (1 : Nat) + (1 : Nat) + (1 : Nat)) = C.mrow ((0 : Nat) + (1 : Nat) + (1 : Nat) + (1 : Nat) + (1 : Nat)) ∧ True) ∧ @List.nil Int = @List.nil Int ∧ @List.nil Int = @List.nil Int ∧ (@List.nil Int = @List.nil Int ∧ @List.nil Int = @List.nil Int ∧ True) ∧ @List.nil Int = @List.nil Int ∧ @List.nil Int = @List.nil Int ∧ True)))))) ∧
                  ((decide ((↑x_1 : Int) - (1 : Int) ≥ (0 : Int))) = false →
                    (((firstT l (Int.toNat many) x_1, nextT l (Int.toNat many) x_1, ()), Err.nil) = makeF (l, many)))))))))))))) ∧
              (((0 : Int) ≤ (↑(List.length l) : Int) ∧ (↑(List.length l) : Int) = (↑(List.length l) : Int) ∧ (↑(List.length l) : Int) ≤ (1000000000 : Int)) ∧
                (∃ (x : Nat), x ≤ Int.toNat many ∧ ((0 : Int) = (↑x : Int) ∧ True) ∧ List.replicate (Int.toNat many) (zeroD (Ty.int IntKind.i64)) = fillT (Int.toNat many) x ∧ True) ∧
                (∀ x_0 : Nat,
                ((x_0 ≤ Int.toNat many) →
                (((decide ((↑x_0 : Int) < many)) = true →
                  ((0 : Int) ≤ (↑x_0 : Int) ∧ (↑x_0 : Int) < (↑(List.length (fillT (Int.toNat many) x_0)) : Int)) ∧
                  (Int.toNat (↑x_0 : Int) < List.length (fillT (Int.toNat many) x_0)) ∧
                  ((I64 (↑x_0 : Int)) →
                  ((I64 (1 : Int)) →
                  (I64 ((↑x_0 : Int) + (1 : Int))) ∧
                  (∃ (x' : Nat), x' ≤ Int.toNat many ∧ Int.toNat many - x' < Int.toNat many - x_0 ∧ ((↑x_0 : Int) + (1 : Int) = (↑x' : Int) ∧ True) ∧ List.set (fillT (Int.toNat many) x_0) (Int.toNat (↑x_0 : Int)) (-1 : Int) = fillT (Int.toNat many) x' ∧ List.replicate (Int.toNat (↑(List.length l) : Int)) (zeroD (Ty.int IntKind.i64)) = List.replicate (Int.toNat (↑(List.length l) : Int)) (zeroD (Ty.int IntKind.i64)) ∧ (C.mrow ((0 : Nat) + (1 : Nat) + (1 : Nat) + (1 : Nat)) = C.mrow ((0 : Nat) + (1 : Nat) + (1 : Nat) + (1 : Nat)) ∧ C.mrow ((0 : Nat) + (1 : Nat) + (1 : Nat) + (1 : Nat) + (1 : Nat)) = C.mrow ((0 : Nat) + (1 : Nat) + (1 : Nat) + (1 : Nat) + (1 : Nat)) ∧ True) ∧ @List.nil Int = @List.nil Int ∧ @List.nil Int = @List.nil Int ∧ (@List.nil Int = @List.nil Int ∧ @List.nil Int = @List.nil Int ∧ True) ∧ @List.nil Int = @List.nil Int ∧ @List.nil Int = @List.nil Int ∧ True)))) ∧
                ((decide ((↑x_0 : Int) < many)) = false →
                  ((List.length l ≤ big) →
                  ((I64 (↑(List.length l) : Int)) →
                  ((I64 (1 : Int)) →
                  (I64 ((↑(List.length l) : Int) - (1 : Int))) ∧
                  (∃ (x : Nat), x ≤ List.length l ∧ ((↑(List.length l) : Int) - (1 : Int) = (↑x : Int) - (1 : Int) ∧ True) ∧ fillT (Int.toNat many) x_0 = firstT l (Int.toNat many) x ∧ List.replicate (Int.toNat (↑(List.length l) : Int)) (zeroD (Ty.int IntKind.i64)) = nextT l (Int.toNat many) x ∧ True) ∧
                  (∀ x_1 : Nat,
                  ((x_1 ≤ List.length l) →
                  (((decide ((↑x_1 : Int) - (1 : Int) ≥ (0 : Int))) = true →
                    ((0 : Int) ≤ (↑x_1 : Int) - (1 : Int) ∧ (↑x_1 : Int) - (1 : Int) < (↑(List.length l) : Int)) ∧
                    (True) ∧
                    (IntKind.wrap IntKind.u32 many ≠ (0 : Int)) ∧
                    (∀ x_2 : Int,
                    ((x_2 = Int.tmod (↑(hashF (nth tSymbol l (Int.toNat ((↑x_1 : Int) - (1 : Int)))).fst) : Int) (IntKind.wrap IntKind.u32 many)) →
                    ((0 : Int) ≤ x_2 ∧ x_2 < (↑(List.length (firstT l (Int.toNat many) x_1)) : Int)) ∧
                    (Int.toNat x_2 < List.length (firstT l (Int.toNat many) x_1)) ∧
                    ((0 : Int) ≤ (↑x_1 : Int) - (1 : Int) ∧ (↑x_1 : Int) - (1 : Int) < (↑(List.length (nextT l (Int.toNat many) x_1)) : Int)) ∧
                    (Int.toNat ((↑x_1 : Int) - (1 : Int)) < List.length (nextT l (Int.toNat many) x_1)) ∧
                    ((0 : Int) ≤ x_2 ∧ x_2 < (↑(List.length (firstT l (Int.toNat many) x_1)) : Int)) ∧
                    (Int.toNat x_2 < List.length (firstT l (Int.toNat many) x_1)) ∧
                    ((I64 ((↑x_1 : Int) - (1 : Int))) →
                    ((I64 (1 : Int)) →
                    (I64 ((↑x_1 : Int) - (1 : Int) - (1 : Int))) ∧
                    (∃ (x' : Nat), x' ≤ List.length l ∧ x' < x_1 ∧ ((↑x_1 : Int) - (1 : Int) - (1 : Int) = (↑x' : Int) - (1 : Int) ∧ True) ∧ List.set (firstT l (Int.toNat many) x_1) (Int.toNat x_2) ((↑x_1 : Int) - (1 : Int)) = firstT l (Int.toNat many) x' ∧ List.set (nextT l (Int.toNat many) x_1) (Int.toNat ((↑x_1 : Int) - (1 : Int))) (nth (Ty.int IntKind.i64) (firstT l (Int.toNat many) x_1) (Int.toNat x_2)) = nextT l (Int.toNat many) x' ∧ (C.mrow ((0 : Nat) + (1 : Nat) + (1 : Nat) + (1 : Nat)) = C.mrow ((0 : Nat) + (1 : Nat) + (1 : Nat) + (1 : Nat)) ∧ C.mrow ((0 : Nat) + (1 : Nat) + (1 : Nat) + (1 : Nat) + (1 : Nat)) = C.mrow ((0 : Nat) + (1 : Nat) + (1 : Nat) + (1 : Nat) + (1 : Nat)) ∧ True) ∧ @List.nil Int = @List.nil Int ∧ @List.nil Int = @List.nil Int ∧ (@List.nil Int = @List.nil Int ∧ @List.nil Int = @List.nil Int ∧ True) ∧ @List.nil Int = @List.nil Int ∧ @List.nil Int = @List.nil Int ∧ True)))))) ∧
                  ((decide ((↑x_1 : Int) - (1 : Int) ≥ (0 : Int))) = false →
                    (((firstT l (Int.toNat many) x_1, nextT l (Int.toNat many) x_1, ()), Err.nil) = makeF (l, many))))))))))))))) ∧
            ((((0 : Int) ≤ (↑(List.length l) : Int) ∧ (↑(List.length l) : Int) = (↑(List.length l) : Int) ∧ (↑(List.length l) : Int) ≤ (1000000000 : Int)) ∧
              (((0 : Int) ≤ many ∧ many = many ∧ many ≤ (1000000000 : Int)) ∧
                (∃ (x : Nat), x ≤ Int.toNat many ∧ ((0 : Int) = (↑x : Int) ∧ True) ∧ List.replicate (Int.toNat many) (zeroD (Ty.int IntKind.i64)) = fillT (Int.toNat many) x ∧ True) ∧
                (∀ x_0 : Nat,
                ((x_0 ≤ Int.toNat many) →
                (((decide ((↑x_0 : Int) < many)) = true →
                  ((0 : Int) ≤ (↑x_0 : Int) ∧ (↑x_0 : Int) < (↑(List.length (fillT (Int.toNat many) x_0)) : Int)) ∧
                  (Int.toNat (↑x_0 : Int) < List.length (fillT (Int.toNat many) x_0)) ∧
                  ((I64 (↑x_0 : Int)) →
                  ((I64 (1 : Int)) →
                  (I64 ((↑x_0 : Int) + (1 : Int))) ∧
                  (∃ (x' : Nat), x' ≤ Int.toNat many ∧ Int.toNat many - x' < Int.toNat many - x_0 ∧ ((↑x_0 : Int) + (1 : Int) = (↑x' : Int) ∧ True) ∧ List.set (fillT (Int.toNat many) x_0) (Int.toNat (↑x_0 : Int)) (-1 : Int) = fillT (Int.toNat many) x' ∧ (C.mrow ((0 : Nat) + (1 : Nat) + (1 : Nat) + (1 : Nat)) = C.mrow ((0 : Nat) + (1 : Nat) + (1 : Nat) + (1 : Nat)) ∧ C.mrow ((0 : Nat) + (1 : Nat) + (1 : Nat) + (1 : Nat) + (1 : Nat)) = C.mrow ((0 : Nat) + (1 : Nat) + (1 : Nat) + (1 : Nat) + (1 : Nat)) ∧ True) ∧ @List.nil Int = @List.nil Int ∧ @List.nil Int = @List.nil Int ∧ List.replicate (Int.toNat (↑(List.length l) : Int)) (zeroD (Ty.int IntKind.i64)) = List.replicate (Int.toNat (↑(List.length l) : Int)) (zeroD (Ty.int IntKind.i64)) ∧ (@List.nil Int = @List.nil Int ∧ @List.nil Int = @List.nil Int ∧ True) ∧ @List.nil Int = @List.nil Int ∧ @List.nil Int = @List.nil Int ∧ True)))) ∧
                ((decide ((↑x_0 : Int) < many)) = false →
                  ((List.length l ≤ big) →
                  ((I64 (↑(List.length l) : Int)) →
                  ((I64 (1 : Int)) →
                  (I64 ((↑(List.length l) : Int) - (1 : Int))) ∧
                  (∃ (x : Nat), x ≤ List.length l ∧ ((↑(List.length l) : Int) - (1 : Int) = (↑x : Int) - (1 : Int) ∧ True) ∧ fillT (Int.toNat many) x_0 = firstT l (Int.toNat many) x ∧ List.replicate (Int.toNat (↑(List.length l) : Int)) (zeroD (Ty.int IntKind.i64)) = nextT l (Int.toNat many) x ∧ True) ∧
                  (∀ x_1 : Nat,
                  ((x_1 ≤ List.length l) →
                  (((decide ((↑x_1 : Int) - (1 : Int) ≥ (0 : Int))) = true →
                    ((0 : Int) ≤ (↑x_1 : Int) - (1 : Int) ∧ (↑x_1 : Int) - (1 : Int) < (↑(List.length l) : Int)) ∧
                    (True) ∧
                    (IntKind.wrap IntKind.u32 many ≠ (0 : Int)) ∧
                    (∀ x_2 : Int,
                    ((x_2 = Int.tmod (↑(hashF (nth tSymbol l (Int.toNat ((↑x_1 : Int) - (1 : Int)))).fst) : Int) (IntKind.wrap IntKind.u32 many)) →
                    ((0 : Int) ≤ x_2 ∧ x_2 < (↑(List.length (firstT l (Int.toNat many) x_1)) : Int)) ∧
                    (Int.toNat x_2 < List.length (firstT l (Int.toNat many) x_1)) ∧
                    ((0 : Int) ≤ (↑x_1 : Int) - (1 : Int) ∧ (↑x_1 : Int) - (1 : Int) < (↑(List.length (nextT l (Int.toNat many) x_1)) : Int)) ∧
                    (Int.toNat ((↑x_1 : Int) - (1 : Int)) < List.length (nextT l (Int.toNat many) x_1)) ∧
                    ((0 : Int) ≤ x_2 ∧ x_2 < (↑(List.length (firstT l (Int.toNat many) x_1)) : Int)) ∧
                    (Int.toNat x_2 < List.length (firstT l (Int.toNat many) x_1)) ∧
                    ((I64 ((↑x_1 : Int) - (1 : Int))) →
                    ((I64 (1 : Int)) →
                    (I64 ((↑x_1 : Int) - (1 : Int) - (1 : Int))) ∧
                    (∃ (x' : Nat), x' ≤ List.length l ∧ x' < x_1 ∧ ((↑x_1 : Int) - (1 : Int) - (1 : Int) = (↑x' : Int) - (1 : Int) ∧ True) ∧ List.set (firstT l (Int.toNat many) x_1) (Int.toNat x_2) ((↑x_1 : Int) - (1 : Int)) = firstT l (Int.toNat many) x' ∧ List.set (nextT l (Int.toNat many) x_1) (Int.toNat ((↑x_1 : Int) - (1 : Int))) (nth (Ty.int IntKind.i64) (firstT l (Int.toNat many) x_1) (Int.toNat x_2)) = nextT l (Int.toNat many) x' ∧ (C.mrow ((0 : Nat) + (1 : Nat) + (1 : Nat) + (1 : Nat)) = C.mrow ((0 : Nat) + (1 : Nat) + (1 : Nat) + (1 : Nat)) ∧ C.mrow ((0 : Nat) + (1 : Nat) + (1 : Nat) + (1 : Nat) + (1 : Nat)) = C.mrow ((0 : Nat) + (1 : Nat) + (1 : Nat) + (1 : Nat) + (1 : Nat)) ∧ True) ∧ @List.nil Int = @List.nil Int ∧ @List.nil Int = @List.nil Int ∧ (@List.nil Int = @List.nil Int ∧ @List.nil Int = @List.nil Int ∧ True) ∧ @List.nil Int = @List.nil Int ∧ @List.nil Int = @List.nil Int ∧ True)))))) ∧
                  ((decide ((↑x_1 : Int) - (1 : Int) ≥ (0 : Int))) = false →
                    (((firstT l (Int.toNat many) x_1, nextT l (Int.toNat many) x_1, ()), Err.nil) = makeF (l, many)))))))))))))) ∧
              (((0 : Int) ≤ many ∧ many = many ∧ many ≤ (1000000000 : Int)) ∧
                (∃ (x : Nat), x ≤ Int.toNat many ∧ ((0 : Int) = (↑x : Int) ∧ True) ∧ List.replicate (Int.toNat many) (zeroD (Ty.int IntKind.i64)) = fillT (Int.toNat many) x ∧ True) ∧
                (∀ x_0 : Nat,
                ((x_0 ≤ Int.toNat many) →
                (((decide ((↑x_0 : Int) < many)) = true →
                  ((0 : Int) ≤ (↑x_0 : Int) ∧ (↑x_0 : Int) < (↑(List.length (fillT (Int.toNat many) x_0)) : Int)) ∧
                  (Int.toNat (↑x_0 : Int) < List.length (fillT (Int.toNat many) x_0)) ∧
                  ((I64 (↑x_0 : Int)) →
                  ((I64 (1 : Int)) →
                  (I64 ((↑x_0 : Int) + (1 : Int))) ∧
                  (∃ (x' : Nat), x' ≤ Int.toNat many ∧ Int.toNat many - x' < Int.toNat many - x_0 ∧ ((↑x_0 : Int) + (1 : Int) = (↑x' : Int) ∧ True) ∧ List.set (fillT (Int.toNat many) x_0) (Int.toNat (↑x_0 : Int)) (-1 : Int) = fillT (Int.toNat many) x' ∧ (C.mrow ((0 : Nat) + (1 : Nat) + (1 : Nat) + (1 : Nat)) = C.mrow ((0 : Nat) + (1 : Nat) + (1 : Nat) + (1 : Nat)) ∧ C.mrow ((0 : Nat) + (1 : Nat) + (1 : Nat) + (1 : Nat) + (1 : Nat)) = C.mrow ((0 : Nat) + (1 : Nat) + (1 : Nat) + (1 : Nat) + (1 : Nat)) ∧ True) ∧ @List.nil Int = @List.nil Int ∧ @List.nil Int = @List.nil Int ∧ List.replicate (Int.toNat (↑(List.length l) : Int)) (zeroD (Ty.int IntKind.i64)) = List.replicate (Int.toNat (↑(List.length l) : Int)) (zeroD (Ty.int IntKind.i64)) ∧ (@List.nil Int = @List.nil Int ∧ @List.nil Int = @List.nil Int ∧ True) ∧ @List.nil Int = @List.nil Int ∧ @List.nil Int = @List.nil Int ∧ True)))) ∧
                ((decide ((↑x_0 : Int) < many)) = false →
                  ((List.length l ≤ big) →
                  ((I64 (↑(List.length l) : Int)) →
                  ((I64 (1 : Int)) →
                  (I64 ((↑(List.length l) : Int) - (1 : Int))) ∧
                  (∃ (x : Nat), x ≤ List.length l ∧ ((↑(List.length l) : Int) - (1 : Int) = (↑x : Int) - (1 : Int) ∧ True) ∧ fillT (Int.toNat many) x_0 = firstT l (Int.toNat many) x ∧ List.replicate (Int.toNat (↑(List.length l) : Int)) (zeroD (Ty.int IntKind.i64)) = nextT l (Int.toNat many) x ∧ True) ∧
                  (∀ x_1 : Nat,
                  ((x_1 ≤ List.length l) →
                  (((decide ((↑x_1 : Int) - (1 : Int) ≥ (0 : Int))) = true →
                    ((0 : Int) ≤ (↑x_1 : Int) - (1 : Int) ∧ (↑x_1 : Int) - (1 : Int) < (↑(List.length l) : Int)) ∧
                    (True) ∧
                    (IntKind.wrap IntKind.u32 many ≠ (0 : Int)) ∧
                    (∀ x_2 : Int,
                    ((x_2 = Int.tmod (↑(hashF (nth tSymbol l (Int.toNat ((↑x_1 : Int) - (1 : Int)))).fst) : Int) (IntKind.wrap IntKind.u32 many)) →
                    ((0 : Int) ≤ x_2 ∧ x_2 < (↑(List.length (firstT l (Int.toNat many) x_1)) : Int)) ∧
                    (Int.toNat x_2 < List.length (firstT l (Int.toNat many) x_1)) ∧
                    ((0 : Int) ≤ (↑x_1 : Int) - (1 : Int) ∧ (↑x_1 : Int) - (1 : Int) < (↑(List.length (nextT l (Int.toNat many) x_1)) : Int)) ∧
                    (Int.toNat ((↑x_1 : Int) - (1 : Int)) < List.length (nextT l (Int.toNat many) x_1)) ∧
                    ((0 : Int) ≤ x_2 ∧ x_2 < (↑(List.length (firstT l (Int.toNat many) x_1)) : Int)) ∧
                    (Int.toNat x_2 < List.length (firstT l (Int.toNat many) x_1)) ∧
                    ((I64 ((↑x_1 : Int) - (1 : Int))) →
                    ((I64 (1 : Int)) →
                    (I64 ((↑x_1 : Int) - (1 : Int) - (1 : Int))) ∧
                    (∃ (x' : Nat), x' ≤ List.length l ∧ x' < x_1 ∧ ((↑x_1 : Int) - (1 : Int) - (1 : Int) = (↑x' : Int) - (1 : Int) ∧ True) ∧ List.set (firstT l (Int.toNat many) x_1) (Int.toNat x_2) ((↑x_1 : Int) - (1 : Int)) = firstT l (Int.toNat many) x' ∧ List.set (nextT l (Int.toNat many) x_1) (Int.toNat ((↑x_1 : Int) - (1 : Int))) (nth (Ty.int IntKind.i64) (firstT l (Int.toNat many) x_1) (Int.toNat x_2)) = nextT l (Int.toNat many) x' ∧ (C.mrow ((0 : Nat) + (1 : Nat) + (1 : Nat) + (1 : Nat)) = C.mrow ((0 : Nat) + (1 : Nat) + (1 : Nat) + (1 : Nat)) ∧ C.mrow ((0 : Nat) + (1 : Nat) + (1 : Nat) + (1 : Nat) + (1 : Nat)) = C.mrow ((0 : Nat) + (1 : Nat) + (1 : Nat) + (1 : Nat) + (1 : Nat)) ∧ True) ∧ @List.nil Int = @List.nil Int ∧ @List.nil Int = @List.nil Int ∧ (@List.nil Int = @List.nil Int ∧ @List.nil Int = @List.nil Int ∧ True) ∧ @List.nil Int = @List.nil Int ∧ @List.nil Int = @List.nil Int ∧ True)))))) ∧
                  ((decide ((↑x_1 : Int) - (1 : Int) ≥ (0 : Int))) = false →
                    (((firstT l (Int.toNat many) x_1, nextT l (Int.toNat many) x_1, ()), Err.nil) = makeF (l, many))))))))))))))) ∧
            ((((0 : Int) ≤ many ∧ many = many ∧ many ≤ (1000000000 : Int)) ∧
              ((0 : Int) ≤ (↑(List.length l) : Int) ∧ (↑(List.length l) : Int) = (↑(List.length l) : Int) ∧ (↑(List.length l) : Int) ≤ (1000000000 : Int)) ∧
              (∃ (x : Nat), x ≤ Int.toNat many ∧ ((0 : Int) = (↑x : Int) ∧ True) ∧ List.replicate (Int.toNat many) (zeroD (Ty.int IntKind.i64)) = fillT (Int.toNat many) x ∧ True) ∧
              (∀ x_0 : Nat,
              ((x_0 ≤ Int.toNat many) →
              (((decide ((↑x_0 : Int) < many)) = true →
                ((0 : Int) ≤ (↑x_0 : Int) ∧ (↑x_0 : Int) < (↑(List.length (fillT (Int.toNat many) x_0)) : Int)) ∧
                (Int.toNat (↑x_0 : Int) < List.length (fillT (Int.toNat many) x_0)) ∧
                ((I64 (↑x_0 : Int)) →
                ((I64 (1 : Int)) →
                (I64 ((↑x_0 : Int) + (1 : Int))) ∧
                (∃ (x' : Nat), x' ≤ Int.toNat many ∧ Int.toNat many - x' < Int.toNat many - x_0 ∧ ((↑x_0 : Int) + (1 : Int) = (↑x' : Int) ∧ True) ∧ List.set (fillT (Int.toNat many) x_0) (Int.toNat (↑x_0 : Int)) (-1 : Int) = fillT (Int.toNat many) x' ∧ List.replicate (Int.toNat (↑(List.length l) : Int)) (zeroD (Ty.int IntKind.i64)) = List.replicate (Int.toNat (↑(List.length l) : Int)) (zeroD (Ty.int IntKind.i64)) ∧ (C.mrow ((0 : Nat) + (1 : Nat) + (1 : Nat) + (1 : Nat)) = C.mrow ((0 : Nat) + (1 : Nat) + (1 : Nat) + (1 : Nat)) ∧ C.mrow ((0 : Nat) + (1 : Nat) + (1 : Nat) + (1 : Nat) + (1 : Nat)) = C.mrow ((0 : Nat) + (1 : Nat) + (1 : Nat) + (1 : Nat) + (1 : Nat)) ∧ True) ∧ @List.nil Int = @List.nil Int ∧ @List.nil Int = @List.nil Int ∧ (@List.nil Int = @List.nil Int ∧ @List.nil Int = @List.nil Int ∧ True) ∧ @List.nil Int = @List.nil Int ∧ @List.nil Int = @List.nil Int ∧ True)))) ∧
              ((decide ((↑x_0 : Int) < many)) = false →
                ((List.length l ≤ big) →
                ((I64 (↑(List.length l) : Int)) →
                ((I64 (1 : Int)) →
                (I64 ((↑(List.length l) : Int) - (1 : Int))) ∧
                (∃ (x : Nat), x ≤ List.length l ∧ ((↑(List.length l) : Int) - (1 : Int) = (↑x : Int) - (1 : Int) ∧ True) ∧ fillT (Int.toNat many) x_0 = firstT l (Int.toNat many) x ∧ List.replicate (Int.toNat (↑(List.length l) : Int)) (zeroD (Ty.int IntKind.i64)) = nextT l (Int.toNat many) x ∧ True) ∧
                (∀ x_1 : Nat,
                ((x_1 ≤ List.length l) →
                (((decide ((↑x_1 : Int) - (1 : Int) ≥ (0 : Int))) = true →
                  ((0 : Int) ≤ (↑x_1 : Int) - (1 : Int) ∧ (↑x_1 : Int) - (1 : Int) < (↑(List.length l) : Int)) ∧
                  (True) ∧
                  (IntKind.wrap IntKind.u32 many ≠ (0 : Int)) ∧
                  (∀ x_2 : Int,
                  ((x_2 = Int.tmod (↑(hashF (nth tSymbol l (Int.toNat ((↑x_1 : Int) - (1 : Int)))).fst) : Int) (IntKind.wrap IntKind.u32 many)) →
                  ((0 : Int) ≤ x_2 ∧ x_2 < (↑(List.length (firstT l (Int.toNat many) x_1)) : Int)) ∧
                  (Int.toNat x_2 < List.length (firstT l (Int.toNat many) x_1)) ∧
                  ((0 : Int) ≤ (↑x_1 : Int) - (1 : Int) ∧ (↑x_1 : Int) - (1 : Int) < (↑(List.length (nextT l (Int.toNat many) x_1)) : Int)) ∧
                  (Int.toNat ((↑x_1 : Int) - (1 : Int)) < List.length (nextT l (Int.toNat many) x_1)) ∧
                  ((0 : Int) ≤ x_2 ∧ x_2 < (↑(List.length (firstT l (Int.toNat many) x_1)) : Int)) ∧
                  (Int.toNat x_2 < List.length (firstT l (Int.toNat many) x_1)) ∧
                  ((I64 ((↑x_1 : Int) - (1 : Int))) →
                  ((I64 (1 : Int)) →
                  (I64 ((↑x_1 : Int) - (1 : Int) - (1 : Int))) ∧
                  (∃ (x' : Nat), x' ≤ List.length l ∧ x' < x_1 ∧ ((↑x_1 : Int) - (1 : Int) - (1 : Int) = (↑x' : Int) - (1 : Int) ∧ True) ∧ List.set (firstT l (Int.toNat many) x_1) (Int.toNat x_2) ((↑x_1 : Int) - (1 : Int)) = firstT l (Int.toNat many) x' ∧ List.set (nextT l (Int.toNat many) x_1) (Int.toNat ((↑x_1 : Int) - (1 : Int))) (nth (Ty.int IntKind.i64) (firstT l (Int.toNat many) x_1) (Int.toNat x_2)) = nextT l (Int.toNat many) x' ∧ (C.mrow ((0 : Nat) + (1 : Nat) + (1 : Nat) + (1 : Nat)) = C.mrow ((0 : Nat) + (1 : Nat) + (1 : Nat) + (1 : Nat)) ∧ C.mrow ((0 : Nat) + (1 : Nat) + (1 : Nat) + (1 : Nat) + (1 : Nat)) = C.mrow ((0 : Nat) + (1 : Nat) + (1 : Nat) + (1 : Nat) + (1 : Nat)) ∧ True) ∧ @List.nil Int = @List.nil Int ∧ @List.nil Int = @List.nil Int ∧ (@List.nil Int = @List.nil Int ∧ @List.nil Int = @List.nil Int ∧ True) ∧ @List.nil Int = @List.nil Int ∧ @List.nil Int = @List.nil Int ∧ True)))))) ∧
                ((decide ((↑x_1 : Int) - (1 : Int) ≥ (0 : Int))) = false →
                  (((firstT l (Int.toNat many) x_1, nextT l (Int.toNat many) x_1, ()), Err.nil) = makeF (l, many)))))))))))))) ∧
            (((0 : Int) ≤ (↑(List.length l) : Int) ∧ (↑(List.length l) : Int) = (↑(List.length l) : Int) ∧ (↑(List.length l) : Int) ≤ (1000000000 : Int)) ∧
              ((0 : Int) ≤ many ∧ many = many ∧ many ≤ (1000000000 : Int)) ∧
              (∃ (x : Nat), x ≤ Int.toNat many ∧ ((0 : Int) = (↑x : Int) ∧ True) ∧ List.replicate (Int.toNat many) (zeroD (Ty.int IntKind.i64)) = fillT (Int.toNat many) x ∧ True) ∧
              (∀ x_0 : Nat,
              ((x_0 ≤ Int.toNat many) →
              (((decide ((↑x_0 : Int) < many)) = true →
                ((0 : Int) ≤ (↑x_0 : Int) ∧ (↑x_0 : Int) < (↑(List.length (fillT (Int.toNat many) x_0)) : Int)) ∧
                (Int.toNat (↑x_0 : Int) < List.length (fillT (Int.toNat many) x_0)) ∧
                ((I64 (↑x_0 : Int)) →
                ((I64 (1 : Int)) →
                (I64 ((↑x_0 : Int) + (1 : Int))) ∧
                (∃ (x' : Nat), x' ≤ Int.toNat many ∧ Int.toNat many - x' < Int.toNat many - x_0 ∧ ((↑x_0 : Int) + (1 : Int) = (↑x' : Int) ∧ True) ∧ List.set (fillT (Int.toNat many) x_0) (Int.toNat (↑x_0 : Int)) (-1 : Int) = fillT (Int.toNat many) x' ∧ List.replicate (Int.toNat (↑(List.length l) : Int)) (zeroD (Ty.int IntKind.i64)) = List.replicate (Int.toNat (↑(List.length l) : Int)) (zeroD (Ty.int IntKind.i64)) ∧ (C.mrow ((0 : Nat) + (1 : Nat) + (1 : Nat) + (1 : Nat)) = C.mrow ((0 : Nat) + (1 : Nat) + (1 : Nat) + (1 : Nat)) ∧ C.mrow ((0 : Nat) + (1 : Nat) + (1 : Nat) + (1 : Nat) + (1 : Nat)) = C.mrow ((0 : Nat) + (1 : Nat) + (1 : Nat) + (1 : Nat) + (1 : Nat)) ∧ True) ∧ @List.nil Int = @List.nil Int ∧ @List.nil Int = @List.nil Int ∧ (@List.nil Int = @List.nil Int ∧ @List.nil Int = @List.nil Int ∧ True) ∧ @List.nil Int = @List.nil Int ∧ @List.nil Int = @List.nil Int ∧ True)))) ∧
              ((decide ((↑x_0 : Int) < many)) = false →
                ((List.length l ≤ big) →
                ((I64 (↑(List.length l) : Int)) →
                ((I64 (1 : Int)) →
                (I64 ((↑(List.length l) : Int) - (1 : Int))) ∧
                (∃ (x : Nat), x ≤ List.length l ∧ ((↑(List.length l) : Int) - (1 : Int) = (↑x : Int) - (1 : Int) ∧ True) ∧ fillT (Int.toNat many) x_0 = firstT l (Int.toNat many) x ∧ List.replicate (Int.toNat (↑(List.length l) : Int)) (zeroD (Ty.int IntKind.i64)) = nextT l (Int.toNat many) x ∧ True) ∧
                (∀ x_1 : Nat,
                ((x_1 ≤ List.length l) →
                (((decide ((↑x_1 : Int) - (1 : Int) ≥ (0 : Int))) = true →
                  ((0 : Int) ≤ (↑x_1 : Int) - (1 : Int) ∧ (↑x_1 : Int) - (1 : Int) < (↑(List.length l) : Int)) ∧
                  (True) ∧
                  (IntKind.wrap IntKind.u32 many ≠ (0 : Int)) ∧
                  (∀ x_2 : Int,
                  ((x_2 = Int.tmod (↑(hashF (nth tSymbol l (Int.toNat ((↑x_1 : Int) - (1 : Int)))).fst) : Int) (IntKind.wrap IntKind.u32 many)) →
                  ((0 : Int) ≤ x_2 ∧ x_2 < (↑(List.length (firstT l (Int.toNat many) x_1)) : Int)) ∧
                  (Int.toNat x_2 < List.length (firstT l (Int.toNat many) x_1)) ∧
                  ((0 : Int) ≤ (↑x_1 : Int) - (1 : Int) ∧ (↑x_1 : Int) - (1 : Int) < (↑(List.length (nextT l (Int.toNat many) x_1)) : Int)) ∧
                  (Int.toNat ((↑x_1 : Int) - (1 : Int)) < List.length (nextT l (Int.toNat many) x_1)) ∧
                  ((0 : Int) ≤ x_2 ∧ x_2 < (↑(List.length (firstT l (Int.toNat many) x_1)) : Int)) ∧
                  (Int.toNat x_2 < List.length (firstT l (Int.toNat many) x_1)) ∧
                  ((I64 ((↑x_1 : Int) - (1 : Int))) →
                  ((I64 (1 : Int)) →
                  (I64 ((↑x_1 : Int) - (1 : Int) - (1 : Int))) ∧
                  (∃ (x' : Nat), x' ≤ List.length l ∧ x' < x_1 ∧ ((↑x_1 : Int) - (1 : Int) - (1 : Int) = (↑x' : Int) - (1 : Int) ∧ True) ∧ List.set (firstT l (Int.toNat many) x_1) (Int.toNat x_2) ((↑x_1 : Int) - (1 : Int)) = firstT l (Int.toNat many) x' ∧ List.set (nextT l (Int.toNat many) x_1) (Int.toNat ((↑x_1 : Int) - (1 : Int))) (nth (Ty.int IntKind.i64) (firstT l (Int.toNat many) x_1) (Int.toNat x_2)) = nextT l (Int.toNat many) x' ∧ (C.mrow ((0 : Nat) + (1 : Nat) + (1 : Nat) + (1 : Nat)) = C.mrow ((0 : Nat) + (1 : Nat) + (1 : Nat) + (1 : Nat)) ∧ C.mrow ((0 : Nat) + (1 : Nat) + (1 : Nat) + (1 : Nat) + (1 : Nat)) = C.mrow ((0 : Nat) + (1 : Nat) + (1 : Nat) + (1 : Nat) + (1 : Nat)) ∧ True) ∧ @List.nil Int = @List.nil Int ∧ @List.nil Int = @List.nil Int ∧ (@List.nil Int = @List.nil Int ∧ @List.nil Int = @List.nil Int ∧ True) ∧ @List.nil Int = @List.nil Int ∧ @List.nil Int = @List.nil Int ∧ True)))))) ∧
                ((decide ((↑x_1 : Int) - (1 : Int) ≥ (0 : Int))) = false →
                  (((firstT l (Int.toNat many) x_1, nextT l (Int.toNat many) x_1, ()), Err.nil) = makeF (l, many))))))))))))))))))))))))) (by kernel_rfl) ?_
  refine ⟨fun h0 => ?_, fun h0 => ?_⟩
  · try simp only [decide_eq_true_eq, decide_eq_false_iff_not, beq_iff_eq, beq_eq_false_iff_ne, bne_iff_ne, bne_eq_false_iff_eq, Bool.not_eq_true', Bool.not_eq_false', Bool.not_eq_true, Bool.not_eq_false, ne_eq, Bool.and_eq_true, Bool.or_eq_true, Bool.and_eq_false_iff, Bool.or_eq_false_iff, reduceCtorEq, Int.not_lt, Int.not_le] at h0
    simp only [makeF]; rw [if_pos (by omega)]
  · try simp only [decide_eq_true_eq, decide_eq_false_iff_not, beq_iff_eq, beq_eq_false_iff_ne, bne_iff_ne, bne_eq_false_iff_eq, Bool.not_eq_true', Bool.not_eq_false', Bool.not_eq_true, Bool.not_eq_false, ne_eq, Bool.and_eq_true, Bool.or_eq_true, Bool.and_eq_false_iff, Bool.or_eq_false_iff, reduceCtorEq, Int.not_lt, Int.not_le] at h0
    refine ⟨fun h1 => ?_, fun h1 => ?_⟩
    · try simp only [decide_eq_true_eq, decide_eq_false_iff_not, beq_iff_eq, beq_eq_false_iff_ne, bne_iff_ne, bne_eq_false_iff_eq, Bool.not_eq_true', Bool.not_eq_false', Bool.not_eq_true, Bool.not_eq_false, ne_eq, Bool.and_eq_true, Bool.or_eq_true, Bool.and_eq_false_iff, Bool.or_eq_false_iff, reduceCtorEq, Int.not_lt, Int.not_le] at h1
      simp only [makeF]; rw [if_pos (by omega)]
    · try simp only [decide_eq_true_eq, decide_eq_false_iff_not, beq_iff_eq, beq_eq_false_iff_ne, bne_iff_ne, bne_eq_false_iff_eq, Bool.not_eq_true', Bool.not_eq_false', Bool.not_eq_true, Bool.not_eq_false, ne_eq, Bool.and_eq_true, Bool.or_eq_true, Bool.and_eq_false_iff, Bool.or_eq_false_iff, reduceCtorEq, Int.not_lt, Int.not_le] at h1
      intro h2
      refine ⟨fun h3 => ?_, fun h3 => ?_⟩
      · try simp only [decide_eq_true_eq, decide_eq_false_iff_not, beq_iff_eq, beq_eq_false_iff_ne, bne_iff_ne, bne_eq_false_iff_eq, Bool.not_eq_true', Bool.not_eq_false', Bool.not_eq_true, Bool.not_eq_false, ne_eq, Bool.and_eq_true, Bool.or_eq_true, Bool.and_eq_false_iff, Bool.or_eq_false_iff, reduceCtorEq, Int.not_lt, Int.not_le] at h3
        simp only [makeF]; rw [if_neg (by omega), if_pos (by omega)]
      · try simp only [decide_eq_true_eq, decide_eq_false_iff_not, beq_iff_eq, beq_eq_false_iff_ne, bne_iff_ne, bne_eq_false_iff_eq, Bool.not_eq_true', Bool.not_eq_false', Bool.not_eq_true, Bool.not_eq_false, ne_eq, Bool.and_eq_true, Bool.or_eq_true, Bool.and_eq_false_iff, Bool.or_eq_false_iff, reduceCtorEq, Int.not_lt, Int.not_le] at h3
        intro h4
        have hb5_0 :
            ((0 : Int) ≤ many ∧ many = many ∧ many ≤ (1000000000 : Int)) ∧
                  (((0 : Int) ≤ (↑(List.length l) : Int) ∧ (↑(List.length l) : Int) = (↑(List.length l) : Int) ∧ (↑(List.length l) : Int) ≤ (1000000000 : Int)) ∧
                    (∃ (x : Nat), x ≤ Int.toNat many ∧ ((0 : Int) = (↑x : Int) ∧ True) ∧ List.replicate (Int.toNat many) (zeroD (Ty.int IntKind.i64)) = fillT (Int.toNat many) x ∧ True) ∧
                    (∀ x_0 : Nat,
                    ((x_0 ≤ Int.toNat many) →
                    (((decide ((↑x_0 : Int) < many)) = true →
                      ((0 : Int) ≤ (↑x_0 : Int) ∧ (↑x_0 : Int) < (↑(List.length (fillT (Int.toNat many) x_0)) : Int)) ∧
                      (Int.toNat (↑x_0 : Int) < List.length (fillT (Int.toNat many) x_0)) ∧
                      ((I64 (↑x_0 : Int)) →
                      ((I64 (1 : Int)) →
                      (I64 ((↑x_0 : Int) + (1 : Int))) ∧
                      (∃ (x' : Nat), x' ≤ Int.toNat many ∧ Int.toNat many - x' < Int.toNat many - x_0 ∧ ((↑x_0 : Int) + (1 : Int) = (↑x' : Int) ∧ True) ∧ List.set (fillT (Int.toNat many) x_0) (Int.toNat (↑x_0 : Int)) (-1 : Int) = fillT (Int.toNat many) x' ∧ (C.mrow ((0 : Nat) + (1 : Nat) + (1 : Nat) + (1 : Nat)) = C.mrow ((0 : Nat) + (1 : Nat) + (1 : Nat) + (1 : Nat)) ∧ C.mrow ((0 : Nat) + (1 : Nat) + (1 : Nat) + (1 : Nat) + (1 : Nat)) = C.mrow ((0 : Nat) + (1 : Nat) + (1 : Nat) + (1 : Nat) + (1 : Nat)) ∧ True) ∧ @List.nil Int = @List.nil Int ∧ @List.nil Int = @List.nil Int ∧ List.replicate (Int.toNat (↑(List.length l) : Int)) (zeroD (Ty.int IntKind.i64)) = List.replicate (Int.toNat (↑(List.length l) : Int)) (zeroD (Ty.int IntKind.i64)) ∧ (@List.nil Int = @List.nil Int ∧ @List.nil Int = @List.nil Int ∧ True) ∧ @List.nil Int = @List.nil Int ∧ @List.nil Int = @List.nil Int ∧ True)))) ∧
                    ((decide ((↑x_0 : Int) < many)) = false →
                      ((List.length l ≤ big) →
                      ((I64 (↑(List.length l) : Int)) →
                      ((I64 (1 : Int)) →
                      (I64 ((↑(List.length l) : Int) - (1 : Int))) ∧
                      (∃ (x : Nat), x ≤ List.length l ∧ ((↑(List.length l) : Int) - (1 : Int) = (↑x : Int) - (1 : Int) ∧ True) ∧ fillT (Int.toNat many) x_0 = firstT l (Int.toNat many) x ∧ List.replicate (Int.toNat (↑(List.length l) : Int)) (zeroD (Ty.int IntKind.i64)) = nextT l (Int.toNat many) x ∧ True) ∧
                      (∀ x_1 : Nat,
                      ((x_1 ≤ List.length l) →
                      (((decide ((↑x_1 : Int) - (1 : Int) ≥ (0 : Int))) = true →
                        ((0 : Int) ≤ (↑x_1 : Int) - (1 : Int) ∧ (↑x_1 : Int) - (1 : Int) < (↑(List.length l) : Int)) ∧
                        (True) ∧
                        (IntKind.wrap IntKind.u32 many ≠ (0 : Int)) ∧
                        (∀ x_2 : Int,
                        ((x_2 = Int.tmod (↑(hashF (nth tSymbol l (Int.toNat ((↑x_1 : Int) - (1 : Int)))).fst) : Int) (IntKind.wrap IntKind.u32 many)) →
                        ((0 : Int) ≤ x_2 ∧ x_2 < (↑(List.length (firstT l (Int.toNat many) x_1)) : Int)) ∧
                        (Int.toNat x_2 < List.length (firstT l (Int.toNat many) x_1)) ∧
                        ((0 : Int) ≤ (↑x_1 : Int) - (1 : Int) ∧ (↑x_1 : Int) - (1 : Int) < (↑(List.length (nextT l (Int.toNat many) x_1)) : Int)) ∧
                        (Int.toNat ((↑x_1 : Int) - (1 : Int)) < List.length (nextT l (Int.toNat many) x_1)) ∧
                        ((0 : Int) ≤ x_2 ∧ x_2 < (↑(List.length (firstT l (Int.toNat many) x_1)) : Int)) ∧
                        (Int.toNat x_2 < List.length (firstT l (Int.toNat many) x_1)) ∧
                        ((I64 ((↑x_1 : Int) - (1 : Int))) →
                        ((I64 (1 : Int)) →
                        (I64 ((↑x_1 : Int) - (1 : Int) - (1 : Int))) ∧
                        (∃ (x' : Nat), x' ≤ List.length l ∧ x' < x_1 ∧ ((↑x_1 : Int) - (1 : Int) - (1 : Int) = (↑x' : Int) - (1 : Int) ∧ True) ∧ List.set (firstT l (Int.toNat many) x_1) (Int.toNat x_2) ((↑x_1 : Int) - (1 : Int)) = firstT l (Int.toNat many) x' ∧ List.set (nextT l (Int.toNat many) x_1) (Int.toNat ((↑x_1 : Int) - (1 : Int))) (nth (Ty.int IntKind.i64) (firstT l (Int.toNat many) x_1) (Int.toNat x_2)) = nextT l (Int.toNat many) x' ∧ (C.mrow ((0 : Nat) + (1 : Nat) + (1 : Nat) + (1 : Nat)) = C.mrow ((0 : Nat) + (1 : Nat) + (1 : Nat) + (1 : Nat)) ∧ C.mrow ((0 : Nat) + (1 : Nat) + (1 : Nat) + (1 : Nat) + (1 : Nat)) = C.mrow ((0 : Nat) + (1 : Nat) + (1 : Nat) + (1 : Nat) + (1 : Nat)) ∧ True) ∧ @List.nil Int = @List.nil Int ∧ @List.nil Int = @List.nil Int ∧ (@List.nil Int = @List.nil Int ∧ @List.nil Int = @List.nil Int ∧ True) ∧ @List.nil Int = @List.nil Int ∧ @List.nil Int = @List.nil Int ∧ True)))))) ∧
                      ((decide ((↑x_1 : Int) - (1 : Int) ≥ (0 : Int))) = false →
                        (((firstT l (Int.toNat many) x_1, nextT l (Int.toNat many) x_1, ()), Err.nil) = makeF (l, many)))))))))))))) ∧
                  (((0 : Int) ≤ (↑(List.length l) : Int) ∧ (↑(List.length l) : Int) = (↑(List.length l) : Int) ∧ (↑(List.length l) : Int) ≤ (1000000000 : Int)) ∧
                    (∃ (x : Nat), x ≤ Int.toNat many ∧ ((0 : Int) = (↑x : Int) ∧ True) ∧ List.replicate (Int.toNat many) (zeroD (Ty.int IntKind.i64)) = fillT (Int.toNat many) x ∧ True) ∧
                    (∀ x_0 : Nat,
                    ((x_0 ≤ Int.toNat many) →
                    (((decide ((↑x_0 : Int) < many)) = true →
                      ((0 : Int) ≤ (↑x_0 : Int) ∧ (↑x_0 : Int) < (↑(List.length (fillT (Int.toNat many) x_0)) : Int)) ∧
                      (Int.toNat (↑x_0 : Int) < List.length (fillT (Int.toNat many) x_0)) ∧
                      ((I64 (↑x_0 : Int)) →
                      ((I64 (1 : Int)) →
                      (I64 ((↑x_0 : Int) + (1 : Int))) ∧
                      (∃ (x' : Nat), x' ≤ Int.toNat many ∧ Int.toNat many - x' < Int.toNat many - x_0 ∧ ((↑x_0 : Int) + (1 : Int) = (↑x' : Int) ∧ True) ∧ List.set (fillT (Int.toNat many) x_0) (Int.toNat (↑x_0 : Int)) (-1 : Int) = fillT (Int.toNat many) x' ∧ List.replicate (Int.toNat (↑(List.length l) : Int)) (zeroD (Ty.int IntKind.i64)) = List.replicate (Int.toNat (↑(List.length l) : Int)) (zeroD (Ty.int IntKind.i64)) ∧ (C.mrow ((0 : Nat) + (1 : Nat) + (1 : Nat) + (1 : Nat)) = C.mrow ((0 : Nat) + (1 : Nat) + (1 : Nat) + (1 : Nat)) ∧ C.mrow ((0 : Nat) + (1 : Nat) + (1 : Nat) + (1 : Nat) + (1 : Nat)) = C.mrow ((0 : Nat) + (1 : Nat) + (1 : Nat) + (1 : Nat) + (1 : Nat)) ∧ True) ∧ @List.nil Int = @List.nil Int ∧ @List.nil Int = @List.nil Int ∧ (@List.nil Int = @List.nil Int ∧ @List.nil Int = @List.nil Int ∧ True) ∧ @List.nil Int = @List.nil Int ∧ @List.nil Int = @List.nil Int ∧ True)))) ∧
                    ((decide ((↑x_0 : Int) < many)) = false →
                      ((List.length l ≤ big) →
                      ((I64 (↑(List.length l) : Int)) →
                      ((I64 (1 : Int)) →
                      (I64 ((↑(List.length l) : Int) - (1 : Int))) ∧
                      (∃ (x : Nat), x ≤ List.length l ∧ ((↑(List.length l) : Int) - (1 : Int) = (↑x : Int) - (1 : Int) ∧ True) ∧ fillT (Int.toNat many) x_0 = firstT l (Int.toNat many) x ∧ List.replicate (Int.toNat (↑(List.length l) : Int)) (zeroD (Ty.int IntKind.i64)) = nextT l (Int.toNat many) x ∧ True) ∧
                      (∀ x_1 : Nat,
                      ((x_1 ≤ List.length l) →
                      (((decide ((↑x_1 : Int) - (1 : Int) ≥ (0 : Int))) = true →
                        ((0 : Int) ≤ (↑x_1 : Int) - (1 : Int) ∧ (↑x_1 : Int) - (1 : Int) < (↑(List.length l) : Int)) ∧
                        (True) ∧
                        (IntKind.wrap IntKind.u32 many ≠ (0 : Int)) ∧
                        (∀ x_2 : Int,
                        ((x_2 = Int.tmod (↑(hashF (nth tSymbol l (Int.toNat ((↑x_1 : Int) - (1 : Int)))).fst) : Int) (IntKind.wrap IntKind.u32 many)) →
                        ((0 : Int) ≤ x_2 ∧ x_2 < (↑(List.length (firstT l (Int.toNat many) x_1)) : Int)) ∧
                        (Int.toNat x_2 < List.length (firstT l (Int.toNat many) x_1)) ∧
                        ((0 : Int) ≤ (↑x_1 : Int) - (1 : Int) ∧ (↑x_1 : Int) - (1 : Int) < (↑(List.length (nextT l (Int.toNat many) x_1)) : Int)) ∧
                        (Int.toNat ((↑x_1 : Int) - (1 : Int)) < List.length (nextT l (Int.toNat many) x_1)) ∧
                        ((0 : Int) ≤ x_2 ∧ x_2 < (↑(List.length (firstT l (Int.toNat many) x_1)) : Int)) ∧
                        (Int.toNat x_2 < List.length (firstT l (Int.toNat many) x_1)) ∧
                        ((I64 ((↑x_1 : Int) - (1 : Int))) →
                        ((I64 (1 : Int)) →
                        (I64 ((↑x_1 : Int) - (1 : Int) - (1 : Int))) ∧
                        (∃ (x' : Nat), x' ≤ List.length l ∧ x' < x_1 ∧ ((↑x_1 : Int) - (1 : Int) - (1 : Int) = (↑x' : Int) - (1 : Int) ∧ True) ∧ List.set (firstT l (Int.toNat many) x_1) (Int.toNat x_2) ((↑x_1 : Int) - (1 : Int)) = firstT l (Int.toNat many) x' ∧ List.set (nextT l (Int.toNat many) x_1) (Int.toNat ((↑x_1 : Int) - (1 : Int))) (nth (Ty.int IntKind.i64) (firstT l (Int.toNat many) x_1) (Int.toNat x_2)) = nextT l (Int.toNat many) x' ∧ (C.mrow ((0 : Nat) + (1 : Nat) + (1 : Nat) + (1 : Nat)) = C.mrow ((0 : Nat) + (1 : Nat) + (1 : Nat) + (1 : Nat)) ∧ C.mrow ((0 : Nat) + (1 : Nat) + (1 : Nat) + (1 : Nat) + (1 : Nat)) = C.mrow ((0 : Nat) + (1 : Nat) + (1 : Nat) + (1 : Nat) + (1 : Nat)) ∧ True) ∧ @List.nil Int = @List.nil Int ∧ @List.nil Int = @List.nil Int ∧ (@List.nil Int = @List.nil Int ∧ @List.nil Int = @List.nil Int ∧ True) ∧ @List.nil Int = @List.nil Int ∧ @List.nil Int = @List.nil Int ∧ True)))))) ∧
                      ((decide ((↑x_1 : Int) - (1 : Int) ≥ (0 : Int))) = false →
                        (((firstT l (Int.toNat many) x_1, nextT l (Int.toNat many) x_1, ()), Err.nil) = makeF (l, many)))))))))))))) := by
            refine ⟨?_, ?_⟩
            · first | exact True.intro | rfl | omega | assumption | (simp only [I64, big] at *; omega) | (simp_all; done)
            have hb5_0 :
                ((0 : Int) ≤ (↑(List.length l) : Int) ∧ (↑(List.length l) : Int) = (↑(List.length l) : Int) ∧ (↑(List.length l) : Int) ≤ (1000000000 : Int)) ∧
                        (∃ (x : Nat), x ≤ Int.toNat many ∧ ((0 : Int) = (↑x : Int) ∧ True) ∧ List.replicate (Int.toNat many) (zeroD (Ty.int IntKind.i64)) = fillT (Int.toNat many) x ∧ True) ∧
                        (∀ x_0 : Nat,
                        ((x_0 ≤ Int.toNat many) →
                        (((decide ((↑x_0 : Int) < many)) = true →
                          ((0 : Int) ≤ (↑x_0 : Int) ∧ (↑x_0 : Int) < (↑(List.length (fillT (Int.toNat many) x_0)) : Int)) ∧
                          (Int.toNat (↑x_0 : Int) < List.length (fillT (Int.toNat many) x_0)) ∧
                          ((I64 (↑x_0 : Int)) →
                          ((I64 (1 : Int)) →
                          (I64 ((↑x_0 : Int) + (1 : Int))) ∧
                          (∃ (x' : Nat), x' ≤ Int.toNat many ∧ Int.toNat many - x' < Int.toNat many - x_0 ∧ ((↑x_0 : Int) + (1 : Int) = (↑x' : Int) ∧ True) ∧ List.set (fillT (Int.toNat many) x_0) (Int.toNat (↑x_0 : Int)) (-1 : Int) = fillT (Int.toNat many) x' ∧ (C.mrow ((0 : Nat) + (1 : Nat) + (1 : Nat) + (1 : Nat)) = C.mrow ((0 : Nat) + (1 : Nat) + (1 : Nat) + (1 : Nat)) ∧ C.mrow ((0 : Nat) + (1 : Nat) + (1 : Nat) + (1 : Nat) + (1 : Nat)) = C.mrow ((0 : Nat) + (1 : Nat) + (1 : Nat) + (1 : Nat) + (1 : Nat)) ∧ True) ∧ @List.nil Int = @List.nil Int ∧ @List.nil Int = @List.nil Int ∧ List.replicate (Int.toNat (↑(List.length l) : Int)) (zeroD (Ty.int IntKind.i64)) = List.replicate (Int.toNat (↑(List.length l) : Int)) (zeroD (Ty.int IntKind.i64)) ∧ (@List.nil Int = @List.nil Int ∧ @List.nil Int = @List.nil Int ∧ True) ∧ @List.nil Int = @List.nil Int ∧ @List.nil Int = @List.nil Int ∧ True)))) ∧
                        ((decide ((↑x_0 : Int) < many)) = false →
                          ((List.length l ≤ big) →
                          ((I64 (↑(List.length l) : Int)) →
                          ((I64 (1 : Int)) →
                          (I64 ((↑(List.length l) : Int) - (1 : Int))) ∧
                          (∃ (x : Nat), x ≤ List.length l ∧ ((↑(List.length l) : Int) - (1 : Int) = (↑x : Int) - (1 : Int) ∧ True) ∧ fillT (Int.toNat many) x_0 = firstT l (Int.toNat many) x ∧ List.replicate (Int.toNat (↑(List.length l) : Int)) (zeroD (Ty.int IntKind.i64)) = nextT l (Int.toNat many) x ∧ True) ∧
                          (∀ x_1 : Nat,
                          ((x_1 ≤ List.length l) →
                          (((decide ((↑x_1 : Int) - (1 : Int) ≥ (0 : Int))) = true →
                            ((0 : Int) ≤ (↑x_1 : Int) - (1 : Int) ∧ (↑x_1 : Int) - (1 : Int) < (↑(List.length l) : Int)) ∧
                            (True) ∧
                            (IntKind.wrap IntKind.u32 many ≠ (0 : Int)) ∧
                            (∀ x_2 : Int,
                            ((x_2 = Int.tmod (↑(hashF (nth tSymbol l (Int.toNat ((↑x_1 : Int) - (1 : Int)))).fst) : Int) (IntKind.wrap IntKind.u32 many)) →
                            ((0 : Int) ≤ x_2 ∧ x_2 < (↑(List.length (firstT l (Int.toNat many) x_1)) : Int)) ∧
                            (Int.toNat x_2 < List.length (firstT l (Int.toNat many) x_1)) ∧
                            ((0 : Int) ≤ (↑x_1 : Int) - (1 : Int) ∧ (↑x_1 : Int) - (1 : Int) < (↑(List.length (nextT l (Int.toNat many) x_1)) : Int)) ∧
                            (Int.toNat ((↑x_1 : Int) - (1 : Int)) < List.length (nextT l (Int.toNat many) x_1)) ∧
                            ((0 : Int) ≤ x_2 ∧ x_2 < (↑(List.length (firstT l (Int.toNat many) x_1)) : Int)) ∧
                            (Int.toNat x_2 < List.length (firstT l (Int.toNat many) x_1)) ∧
                            ((I64 ((↑x_1 : Int) - (1 : Int))) →
                            ((I64 (1 : Int)) →
                            (I64 ((↑x_1 : Int) - (1 : Int) - (1 : Int))) ∧
                            (∃ (x' : Nat), x' ≤ List.length l ∧ x' < x_1 ∧ ((↑x_1 : Int) - (1 : Int) - (1 : Int) = (↑x' : Int) - (1 : Int) ∧ True) ∧ List.set (firstT l (Int.toNat many) x_1) (Int.toNat x_2) ((↑x_1 : Int) - (1 : Int)) = firstT l (Int.toNat many) x' ∧ List.set (nextT l (Int.toNat many) x_1) (Int.toNat ((↑x_1 : Int) - (1 : Int))) (nth (Ty.int IntKind.i64) (firstT l (Int.toNat many) x_1) (Int.toNat x_2)) = nextT l (Int.toNat many) x' ∧ (C.mrow ((0 : Nat) + (1 : Nat) + (1 : Nat) + (1 : Nat)) = C.mrow ((0 : Nat) + (1 : Nat) + (1 : Nat) + (1 : Nat)) ∧ C.mrow ((0 : Nat) + (1 : Nat) + (1 : Nat) + (1 : Nat) + (1 : Nat)) = C.mrow ((0 : Nat) + (1 : Nat) + (1 : Nat) + (1 : Nat) + (1 : Nat)) ∧ True) ∧ @List.nil Int = @List.nil Int ∧ @List.nil Int = @List.nil Int ∧ (@List.nil Int = @List.nil Int ∧ @List.nil Int = @List.nil Int ∧ True) ∧ @List.nil Int = @List.nil Int ∧ @List.nil Int = @List.nil Int ∧ True)))))) ∧
                          ((decide ((↑x_1 : Int) - (1 : Int) ≥ (0 : Int))) = false →
                            (((firstT l (Int.toNat many) x_1, nextT l (Int.toNat many) x_1, ()), Err.nil) = makeF (l, many))))))))))))) := by
                refine ⟨?_, ?_⟩
                · first | exact True.intro | rfl | omega | assumption | (simp only [I64, big] at *; omega) | (simp_all; done)
                refine ⟨?_, ?_⟩
                · exact ⟨0, by omega, ⟨rfl, trivial⟩, (fillT_zero _).symm, trivial⟩
                intro x_0
                intro h5
                refine ⟨fun h6 => ?_, fun h6 => ?_⟩
                · try simp only [decide_eq_true_eq, decide_eq_false_iff_not, beq_iff_eq, beq_eq_false_iff_ne, bne_iff_ne, bne_eq_false_iff_eq, Bool.not_eq_true', Bool.not_eq_false', Bool.not_eq_true, Bool.not_eq_false, ne_eq, Bool.and_eq_true, Bool.or_eq_true, Bool.and_eq_false_iff, Bool.or_eq_false_iff, reduceCtorEq, Int.not_lt, Int.not_le] at h6
                  refine ⟨?_, ?_⟩
                  · rw [fillT_length]; omega
                  refine ⟨?_, ?_⟩
                  · rw [fillT_length]; omega
                  intro h7
                  intro h8
                  refine ⟨?_, ?_⟩
                  · first | exact True.intro | rfl | omega | assumption | (simp only [I64, big] at *; omega) | (simp_all; done)
                  exact ⟨x_0 + 1, by omega, by omega, ⟨by omega, trivial⟩, by rw [Int.toNat_natCast, fillT_set], (by repeat' (first | exact trivial | rfl | apply And.intro))⟩
                · try simp only [decide_eq_true_eq, decide_eq_false_iff_not, beq_iff_eq, beq_eq_false_iff_ne, bne_iff_ne, bne_eq_false_iff_eq, Bool.not_eq_true', Bool.not_eq_false', Bool.not_eq_true, Bool.not_eq_false, ne_eq, Bool.and_eq_true, Bool.or_eq_true, Bool.and_eq_false_iff, Bool.or_eq_false_iff, reduceCtorEq, Int.not_lt, Int.not_le] at h6
                  intro h7
                  intro h8
                  intro h9
                  refine ⟨?_, ?_⟩
                  · first | exact True.intro | rfl | omega | assumption | (simp only [I64, big] at *; omega) | (simp_all; done)
                  refine ⟨?_, ?_⟩
                  · exact ⟨l.length, by omega, ⟨rfl, trivial⟩, by rw [show x_0 = many.toNat by omega]; exact fillT_full _ _, by rw [Int.toNat_natCast]; exact (nextT_full _ _).symm, trivial⟩
                  intro x_1
                  intro h10
                  refine ⟨fun h11 => ?_, fun h11 => ?_⟩
                  · try simp only [decide_eq_true_eq, decide_eq_false_iff_not, beq_iff_eq, beq_eq_false_iff_ne, bne_iff_ne, bne_eq_false_iff_eq, Bool.not_eq_true', Bool.not_eq_false', Bool.not_eq_true, Bool.not_eq_false, ne_eq, Bool.and_eq_true, Bool.or_eq_true, Bool.and_eq_false_iff, Bool.or_eq_false_iff, reduceCtorEq, Int.not_lt, Int.not_le] at h11
                    refine ⟨?_, ?_⟩
                    · first | exact True.intro | rfl | omega | assumption | (simp only [I64, big] at *; omega) | (simp_all; done)
                    refine ⟨?_, ?_⟩
                    · first | exact True.intro | rfl | omega | assumption | (simp only [I64, big] at *; omega) | (simp_all; done)
                    refine ⟨?_, ?_⟩
                    · rw [wrap_u32_small (by omega) (by omega)]; omega
                    intro x_2
                    intro h12
                    refine ⟨?_, ?_⟩
                    · rw [firstT_length]; have hb := bucket_eq (by omega) (by omega) ‹x_2 = _›; have := bucketN_lt (l := l) (m := many.toNat) (j := Int.toNat ((x_1 : Int) - 1)) (by omega); omega
                    refine ⟨?_, ?_⟩
                    · rw [firstT_length]; have hb := bucket_eq (by omega) (by omega) ‹x_2 = _›; have := bucketN_lt (l := l) (m := many.toNat) (j := Int.toNat ((x_1 : Int) - 1)) (by omega); omega
                    refine ⟨?_, ?_⟩
                    · rw [nextT_length]; omega
                    refine ⟨?_, ?_⟩
                    · rw [nextT_length]; omega
                    refine ⟨?_, ?_⟩
                    · rw [firstT_length]; have hb := bucket_eq (by omega) (by omega) ‹x_2 = _›; have := bucketN_lt (l := l) (m := many.toNat) (j := Int.toNat ((x_1 : Int) - 1)) (by omega); omega
                    refine ⟨?_, ?_⟩
                    · rw [firstT_length]; have hb := bucket_eq (by omega) (by omega) ‹x_2 = _›; have := bucketN_lt (l := l) (m := many.toNat) (j := Int.toNat ((x_1 : Int) - 1)) (by omega); omega
                    intro h13
                    intro h14
                    refine ⟨?_, ?_⟩
                    · first | exact True.intro | rfl | omega | assumption | (simp only [I64, big] at *; omega) | (simp_all; done)
                    obtain ⟨k, rfl⟩ : ∃ k, x_1 = k + 1 := ⟨x_1 - 1, by omega⟩
                    have hj : Int.toNat (((k + 1 : Nat) : Int) - 1) = k := by omega
                    have hb := bucket_eq (by omega) (by omega) ‹x_2 = _›
                    rw [hj] at hb
                    exact ⟨k, by omega, by omega, ⟨by omega, trivial⟩, make_first (by omega) hb (by omega), make_next (by omega) hb hj, (by repeat' (first | exact trivial | rfl | apply And.intro))⟩
                  · try simp only [decide_eq_true_eq, decide_eq_false_iff_not, beq_iff_eq, beq_eq_false_iff_ne, bne_iff_ne, bne_eq_false_iff_eq, Bool.not_eq_true', Bool.not_eq_false', Bool.not_eq_true, Bool.not_eq_false, ne_eq, Bool.and_eq_true, Bool.or_eq_true, Bool.and_eq_false_iff, Bool.or_eq_false_iff, reduceCtorEq, Int.not_lt, Int.not_le] at h11
                    obtain rfl : x_1 = 0 := by omega
                    simp only [makeF]; rw [if_neg (by omega), if_neg (by omega)]; rfl
            have hb5_1 :
                ((0 : Int) ≤ (↑(List.length l) : Int) ∧ (↑(List.length l) : Int) = (↑(List.length l) : Int) ∧ (↑(List.length l) : Int) ≤ (1000000000 : Int)) ∧
                        (∃ (x : Nat), x ≤ Int.toNat many ∧ ((0 : Int) = (↑x : Int) ∧ True) ∧ List.replicate (Int.toNat many) (zeroD (Ty.int IntKind.i64)) = fillT (Int.toNat many) x ∧ True) ∧
                        (∀ x_0 : Nat,
                        ((x_0 ≤ Int.toNat many) →
                        (((decide ((↑x_0 : Int) < many)) = true →
                          ((0 : Int) ≤ (↑x_0 : Int) ∧ (↑x_0 : Int) < (↑(List.length (fillT (Int.toNat many) x_0)) : Int)) ∧
                          (Int.toNat (↑x_0 : Int) < List.length (fillT (Int.toNat many) x_0)) ∧
                          ((I64 (↑x_0 : Int)) →
                          ((I64 (1 : Int)) →
                          (I64 ((↑x_0 : Int) + (1 : Int))) ∧
                          (∃ (x' : Nat), x' ≤ Int.toNat many ∧ Int.toNat many - x' < Int.toNat many - x_0 ∧ ((↑x_0 : Int) + (1 : Int) = (↑x' : Int) ∧ True) ∧ List.set (fillT (Int.toNat many) x_0) (Int.toNat (↑x_0 : Int)) (-1 : Int) = fillT (Int.toNat many) x' ∧ List.replicate (Int.toNat (↑(List.length l) : Int)) (zeroD (Ty.int IntKind.i64)) = List.replicate (Int.toNat (↑(List.length l) : Int)) (zeroD (Ty.int IntKind.i64)) ∧ (C.mrow ((0 : Nat) + (1 : Nat) + (1 : Nat) + (1 : Nat)) = C.mrow ((0 : Nat) + (1 : Nat) + (1 : Nat) + (1 : Nat)) ∧ C.mrow ((0 : Nat) + (1 : Nat) + (1 : Nat) + (1 : Nat) + (1 : Nat)) = C.mrow ((0 : Nat) + (1 : Nat) + (1 : Nat) + (1 : Nat) + (1 : Nat)) ∧ True) ∧ @List.nil Int = @List.nil Int ∧ @List.nil Int = @List.nil Int ∧ (@List.nil Int = @List.nil Int ∧ @List.nil Int = @List.nil Int ∧ True) ∧ @List.nil Int = @List.nil Int ∧ @List.nil Int = @List.nil Int ∧ True)))) ∧
                        ((decide ((↑x_0 : Int) < many)) = false →
                          ((List.length l ≤ big) →
                          ((I64 (↑(List.length l) : Int)) →
                          ((I64 (1 : Int)) →
                          (I64 ((↑(List.length l) : Int) - (1 : Int))) ∧
                          (∃ (x : Nat), x ≤ List.length l ∧ ((↑(List.length l) : Int) - (1 : Int) = (↑x : Int) - (1 : Int) ∧ True) ∧ fillT (Int.toNat many) x_0 = firstT l (Int.toNat many) x ∧ List.replicate (Int.toNat (↑(List.length l) : Int)) (zeroD (Ty.int IntKind.i64)) = nextT l (Int.toNat many) x ∧ True) ∧
                          (∀ x_1 : Nat,
                          ((x_1 ≤ List.length l) →
                          (((decide ((↑x_1 : Int) - (1 : Int) ≥ (0 : Int))) = true →
                            ((0 : Int) ≤ (↑x_1 : Int) - (1 : Int) ∧ (↑x_1 : Int) - (1 : Int) < (↑(List.length l) : Int)) ∧
                            (True) ∧
                            (IntKind.wrap IntKind.u32 many ≠ (0 : Int)) ∧
                            (∀ x_2 : Int,
                            ((x_2 = Int.tmod (↑(hashF (nth tSymbol l (Int.toNat ((↑x_1 : Int) - (1 : Int)))).fst) : Int) (IntKind.wrap IntKind.u32 many)) →
                            ((0 : Int) ≤ x_2 ∧ x_2 < (↑(List.length (firstT l (Int.toNat many) x_1)) : Int)) ∧
                            (Int.toNat x_2 < List.length (firstT l (Int.toNat many) x_1)) ∧
                            ((0 : Int) ≤ (↑x_1 : Int) - (1 : Int) ∧ (↑x_1 : Int) - (1 : Int) < (↑(List.length (nextT l (Int.toNat many) x_1)) : Int)) ∧
                            (Int.toNat ((↑x_1 : Int) - (1 : Int)) < List.length (nextT l (Int.toNat many) x_1)) ∧
                            ((0 : Int) ≤ x_2 ∧ x_2 < (↑(List.length (firstT l (Int.toNat many) x_1)) : Int)) ∧
                            (Int.toNat x_2 < List.length (firstT l (Int.toNat many) x_1)) ∧
                            ((I64 ((↑x_1 : Int) - (1 : Int))) →
                            ((I64 (1 : Int)) →
                            (I64 ((↑x_1 : Int) - (1 : Int) - (1 : Int))) ∧
                            (∃ (x' : Nat), x' ≤ List.length l ∧ x' < x_1 ∧ ((↑x_1 : Int) - (1 : Int) - (1 : Int) = (↑x' : Int) - (1 : Int) ∧ True) ∧ List.set (firstT l (Int.toNat many) x_1) (Int.toNat x_2) ((↑x_1 : Int) - (1 : Int)) = firstT l (Int.toNat many) x' ∧ List.set (nextT l (Int.toNat many) x_1) (Int.toNat ((↑x_1 : Int) - (1 : Int))) (nth (Ty.int IntKind.i64) (firstT l (Int.toNat many) x_1) (Int.toNat x_2)) = nextT l (Int.toNat many) x' ∧ (C.mrow ((0 : Nat) + (1 : Nat) + (1 : Nat) + (1 : Nat)) = C.mrow ((0 : Nat) + (1 : Nat) + (1 : Nat) + (1 : Nat)) ∧ C.mrow ((0 : Nat) + (1 : Nat) + (1 : Nat) + (1 : Nat) + (1 : Nat)) = C.mrow ((0 : Nat) + (1 : Nat) + (1 : Nat) + (1 : Nat) + (1 : Nat)) ∧ True) ∧ @List.nil Int = @List.nil Int ∧ @List.nil Int = @List.nil Int ∧ (@List.nil Int = @List.nil Int ∧ @List.nil Int = @List.nil Int ∧ True) ∧ @List.nil Int = @List.nil Int ∧ @List.nil Int = @List.nil Int ∧ True)))))) ∧
                          ((decide ((↑x_1 : Int) - (1 : Int) ≥ (0 : Int))) = false →
                            (((firstT l (Int.toNat many) x_1, nextT l (Int.toNat many) x_1, ()), Err.nil) = makeF (l, many))))))))))))) := by
                refine ⟨?_, ?_⟩
                · first | exact True.intro | rfl | omega | assumption | (simp only [I64, big] at *; omega) | (simp_all; done)
                refine ⟨?_, ?_⟩
                · exact ⟨0, by omega, ⟨rfl, trivial⟩, (fillT_zero _).symm, trivial⟩
                intro x_0
                intro h5
                refine ⟨fun h6 => ?_, fun h6 => ?_⟩
                · try simp only [decide_eq_true_eq, decide_eq_false_iff_not, beq_iff_eq, beq_eq_false_iff_ne, bne_iff_ne, bne_eq_false_iff_eq, Bool.not_eq_true', Bool.not_eq_false', Bool.not_eq_true, Bool.not_eq_false, ne_eq, Bool.and_eq_true, Bool.or_eq_true, Bool.and_eq_false_iff, Bool.or_eq_false_iff, reduceCtorEq, Int.not_lt, Int.not_le] at h6
                  refine ⟨?_, ?_⟩
                  · rw [fillT_length]; omega
                  refine ⟨?_, ?_⟩
                  · rw [fillT_length]; omega
                  intro h7
                  intro h8
                  refine ⟨?_, ?_⟩
                  · first | exact True.intro | rfl | omega | assumption | (simp only [I64, big] at *; omega) | (simp_all; done)
                  exact ⟨x_0 + 1, by omega, by omega, ⟨by omega, trivial⟩, by rw [Int.toNat_natCast, fillT_set], (by repeat' (first | exact trivial | rfl | apply And.intro))⟩
                · try simp only [decide_eq_true_eq, decide_eq_false_iff_not, beq_iff_eq, beq_eq_false_iff_ne, bne_iff_ne, bne_eq_false_iff_eq, Bool.not_eq_true', Bool.not_eq_false', Bool.not_eq_true, Bool.not_eq_false, ne_eq, Bool.and_eq_true, Bool.or_eq_true, Bool.and_eq_false_iff, Bool.or_eq_false_iff, reduceCtorEq, Int.not_lt, Int.not_le] at h6
                  intro h7
                  intro h8
                  intro h9
                  refine ⟨?_, ?_⟩
                  · first | exact True.intro | rfl | omega | assumption | (simp only [I64, big] at *; omega) | (simp_all; done)
                  refine ⟨?_, ?_⟩
                  · exact ⟨l.length, by omega, ⟨rfl, trivial⟩, by rw [show x_0 = many.toNat by omega]; exact fillT_full _ _, by rw [Int.toNat_natCast]; exact (nextT_full _ _).symm, trivial⟩
                  intro x_1
                  intro h10
                  refine ⟨fun h11 => ?_, fun h11 => ?_⟩
                  · try simp only [decide_eq_true_eq, decide_eq_false_iff_not, beq_iff_eq, beq_eq_false_iff_ne, bne_iff_ne, bne_eq_false_iff_eq, Bool.not_eq_true', Bool.not_eq_false', Bool.not_eq_true, Bool.not_eq_false, ne_eq, Bool.and_eq_true, Bool.or_eq_true, Bool.and_eq_false_iff, Bool.or_eq_false_iff, reduceCtorEq, Int.not_lt, Int.not_le] at h11
                    refine ⟨?_, ?_⟩
                    · first | exact True.intro | rfl | omega | assumption | (simp only [I64, big] at *; omega) | (simp_all; done)
                    refine ⟨?_, ?_⟩
                    · first | exact True.intro | rfl | omega | assumption | (simp only [I64, big] at *; omega) | (simp_all; done)
                    refine ⟨?_, ?_⟩
                    · rw [wrap_u32_small (by omega) (by omega)]; omega
                    intro x_2
                    intro h12
                    refine ⟨?_, ?_⟩
                    · rw [firstT_length]; have hb := bucket_eq (by omega) (by omega) ‹x_2 = _›; have := bucketN_lt (l := l) (m := many.toNat) (j := Int.toNat ((x_1 : Int) - 1)) (by omega); omega
                    refine ⟨?_, ?_⟩
                    · rw [firstT_length]; have hb := bucket_eq (by omega) (by omega) ‹x_2 = _›; have := bucketN_lt (l := l) (m := many.toNat) (j := Int.toNat ((x_1 : Int) - 1)) (by omega); omega
                    refine ⟨?_, ?_⟩
                    · rw [nextT_length]; omega
                    refine ⟨?_, ?_⟩
                    · rw [nextT_length]; omega
                    refine ⟨?_, ?_⟩
                    · rw [firstT_length]; have hb := bucket_eq (by omega) (by omega) ‹x_2 = _›; have := bucketN_lt (l := l) (m := many.toNat) (j := Int.toNat ((x_1 : Int) - 1)) (by omega); omega
                    refine ⟨?_, ?_⟩
                    · rw [firstT_length]; have hb := bucket_eq (by omega) (by omega) ‹x_2 = _›; have := bucketN_lt (l := l) (m := many.toNat) (j := Int.toNat ((x_1 : Int) - 1)) (by omega); omega
                    intro h13
                    intro h14
                    refine ⟨?_, ?_⟩
                    · first | exact True.intro | rfl | omega | assumption | (simp only [I64, big] at *; omega) | (simp_all; done)
                    obtain ⟨k, rfl⟩ : ∃ k, x_1 = k + 1 := ⟨x_1 - 1, by omega⟩
                    have hj : Int.toNat (((k + 1 : Nat) : Int) - 1) = k := by omega
                    have hb := bucket_eq (by omega) (by omega) ‹x_2 = _›
                    rw [hj] at hb
                    exact ⟨k, by omega, by omega, ⟨by omega, trivial⟩, make_first (by omega) hb (by omega), make_next (by omega) hb hj, (by repeat' (first | exact trivial | rfl | apply And.intro))⟩
                  · try simp only [decide_eq_true_eq, decide_eq_false_iff_not, beq_iff_eq, beq_eq_false_iff_ne, bne_iff_ne, bne_eq_false_iff_eq, Bool.not_eq_true', Bool.not_eq_false', Bool.not_eq_true, Bool.not_eq_false, ne_eq, Bool.and_eq_true, Bool.or_eq_true, Bool.and_eq_false_iff, Bool.or_eq_false_iff, reduceCtorEq, Int.not_lt, Int.not_le] at h11
                    obtain rfl : x_1 = 0 := by omega
                    simp only [makeF]; rw [if_neg (by omega), if_neg (by omega)]; rfl
            exact ⟨hb5_0, hb5_1⟩
        have hb5_1 :
            ((0 : Int) ≤ (↑(List.length l) : Int) ∧ (↑(List.length l) : Int) = (↑(List.length l) : Int) ∧ (↑(List.length l) : Int) ≤ (1000000000 : Int)) ∧
                  (((0 : Int) ≤ many ∧ many = many ∧ many ≤ (1000000000 : Int)) ∧
                    (∃ (x : Nat), x ≤ Int.toNat many ∧ ((0 : Int) = (↑x : Int) ∧ True) ∧ List.replicate (Int.toNat many) (zeroD (Ty.int IntKind.i64)) = fillT (Int.toNat many) x ∧ True) ∧
                    (∀ x_0 : Nat,
                    ((x_0 ≤ Int.toNat many) →
                    (((decide ((↑x_0 : Int) < many)) = true →
                      ((0 : Int) ≤ (↑x_0 : Int) ∧ (↑x_0 : Int) < (↑(List.length (fillT (Int.toNat many) x_0)) : Int)) ∧
                      (Int.toNat (↑x_0 : Int) < List.length (fillT (Int.toNat many) x_0)) ∧
                      ((I64 (↑x_0 : Int)) →
                      ((I64 (1 : Int)) →
                      (I64 ((↑x_0 : Int) + (1 : Int))) ∧
                      (∃ (x' : Nat), x' ≤ Int.toNat many ∧ Int.toNat many - x' < Int.toNat many - x_0 ∧ ((↑x_0 : Int) + (1 : Int) = (↑x' : Int) ∧ True) ∧ List.set (fillT (Int.toNat many) x_0) (Int.toNat (↑x_0 : Int)) (-1 : Int) = fillT (Int.toNat many) x' ∧ (C.mrow ((0 : Nat) + (1 : Nat) + (1 : Nat) + (1 : Nat)) = C.mrow ((0 : Nat) + (1 : Nat) + (1 : Nat) + (1 : Nat)) ∧ C.mrow ((0 : Nat) + (1 : Nat) + (1 : Nat) + (1 : Nat) + (1 : Nat)) = C.mrow ((0 : Nat) + (1 : Nat) + (1 : Nat) + (1 : Nat) + (1 : Nat)) ∧ True) ∧ @List.nil Int = @List.nil Int ∧ @List.nil Int = @List.nil Int ∧ List.replicate (Int.toNat (↑(List.length l) : Int)) (zeroD (Ty.int IntKind.i64)) = List.replicate (Int.toNat (↑(List.length l) : Int)) (zeroD (Ty.int IntKind.i64)) ∧ (@List.nil Int = @List.nil Int ∧ @List.nil Int = @List.nil Int ∧ True) ∧ @List.nil Int = @List.nil Int ∧ @List.nil Int = @List.nil Int ∧ True)))) ∧
                    ((decide ((↑x_0 : Int) < many)) = false →
                      ((List.length l ≤ big) →
                      ((I64 (↑(List.length l) : Int)) →
                      ((I64 (1 : Int)) →
                      (I64 ((↑(List.length l) : Int) - (1 : Int))) ∧
                      (∃ (x : Nat), x ≤ List.length l ∧ ((↑(List.length l) : Int) - (1 : Int) = (↑x : Int) - (1 : Int) ∧ True) ∧ fillT (Int.toNat many) x_0 = firstT l (Int.toNat many) x ∧ List.replicate (Int.toNat (↑(List.length l) : Int)) (zeroD (Ty.int IntKind.i64)) = nextT l (Int.toNat many) x ∧ True) ∧
                      (∀ x_1 : Nat,
                      ((x_1 ≤ List.length l) →
                      (((decide ((↑x_1 : Int) - (1 : Int) ≥ (0 : Int))) = true →
                        ((0 : Int) ≤ (↑x_1 : Int) - (1 : Int) ∧ (↑x_1 : Int) - (1 : Int) < (↑(List.length l) : Int)) ∧
                        (True) ∧
                        (IntKind.wrap IntKind.u32 many ≠ (0 : Int)) ∧
                        (∀ x_2 : Int,
                        ((x_2 = Int.tmod (↑(hashF (nth tSymbol l (Int.toNat ((↑x_1 : Int) - (1 : Int)))).fst) : Int) (IntKind.wrap IntKind.u32 many)) →
                        ((0 : Int) ≤ x_2 ∧ x_2 < (↑(List.length (firstT l (Int.toNat many) x_1)) : Int)) ∧
                        (Int.toNat x_2 < List.length (firstT l (Int.toNat many) x_1)) ∧
                        ((0 : Int) ≤ (↑x_1 : Int) - (1 : Int) ∧ (↑x_1 : Int) - (1 : Int) < (↑(List.length (nextT l (Int.toNat many) x_1)) : Int)) ∧
                        (Int.toNat ((↑x_1 : Int) - (1 : Int)) < List.length (nextT l (Int.toNat many) x_1)) ∧
                        ((0 : Int) ≤ x_2 ∧ x_2 < (↑(List.length (firstT l (Int.toNat many) x_1)) : Int)) ∧
                        (Int.toNat x_2 < List.length (firstT l (Int.toNat many) x_1)) ∧
                        ((I64 ((↑x_1 : Int) - (1 : Int))) →
                        ((I64 (1 : Int)) →
                        (I64 ((↑x_1 : Int) - (1 : Int) - (1 : Int))) ∧
                        (∃ (x' : Nat), x' ≤ List.length l ∧ x' < x_1 ∧ ((↑x_1 : Int) - (1 : Int) - (1 : Int) = (↑x' : Int) - (1 : Int) ∧ True) ∧ List.set (firstT l (Int.toNat many) x_1) (Int.toNat x_2) ((↑x_1 : Int) - (1 : Int)) = firstT l (Int.toNat many) x' ∧ List.set (nextT l (Int.toNat many) x_1) (Int.toNat ((↑x_1 : Int) - (1 : Int))) (nth (Ty.int IntKind.i64) (firstT l (Int.toNat many) x_1) (Int.toNat x_2)) = nextT l (Int.toNat many) x' ∧ (C.mrow ((0 : Nat) + (1 : Nat) + (1 : Nat) + (1 : Nat)) = C.mrow ((0 : Nat) + (1 : Nat) + (1 : Nat) + (1 : Nat)) ∧ C.mrow ((0 : Nat) + (1 : Nat) + (1 : Nat) + (1 : Nat) + (1 : Nat)) = C.mrow ((0 : Nat) + (1 : Nat) + (1 : Nat) + (1 : Nat) + (1 : Nat)) ∧ True) ∧ @List.nil Int = @List.nil Int ∧ @List.nil Int = @List.nil Int ∧ (@List.nil Int = @List.nil Int ∧ @List.nil Int = @List.nil Int ∧ True) ∧ @List.nil Int = @List.nil Int ∧ @List.nil Int = @List.nil Int ∧ True)))))) ∧
                      ((decide ((↑x_1 : Int) - (1 : Int) ≥ (0 : Int))) = false →
                        (((firstT l (Int.toNat many) x_1, nextT l (Int.toNat many) x_1, ()), Err.nil) = makeF (l, many)))))))))))))) ∧
                  (((0 : Int) ≤ many ∧ many = many ∧ many ≤ (1000000000 : Int)) ∧
                    (∃ (x : Nat), x ≤ Int.toNat many ∧ ((0 : Int) = (↑x : Int) ∧ True) ∧ List.replicate (Int.toNat many) (zeroD (Ty.int IntKind.i64)) = fillT (Int.toNat many) x ∧ True) ∧
                    (∀ x_0 : Nat,
                    ((x_0 ≤ Int.toNat many) →
                    (((decide ((↑x_0 : Int) < many)) = true →
                      ((0 : Int) ≤ (↑x_0 : Int) ∧ (↑x_0 : Int) < (↑(List.length (fillT (Int.toNat many) x_0)) : Int)) ∧
                      (Int.toNat (↑x_0 : Int) < List.length (fillT (Int.toNat many) x_0)) ∧
                      ((I64 (↑x_0 : Int)) →
                      ((I64 (1 : Int)) →
                      (I64 ((↑x_0 : Int) + (1 : Int))) ∧
                      (∃ (x' : Nat), x' ≤ Int.toNat many ∧ Int.toNat many - x' < Int.toNat many - x_0 ∧ ((↑x_0 : Int) + (1 : Int) = (↑x' : Int) ∧ True) ∧ List.set (fillT (Int.toNat many) x_0) (Int.toNat (↑x_0 : Int)) (-1 : Int) = fillT (Int.toNat many) x' ∧ (C.mrow ((0 : Nat) + (1 : Nat) + (1 : Nat) + (1 : Nat)) = C.mrow ((0 : Nat) + (1 : Nat) + (1 : Nat) + (1 : Nat)) ∧ C.mrow ((0 : Nat) + (1 : Nat) + (1 : Nat) + (1 : Nat) + (1 : Nat)) = C.mrow ((0 : Nat) + (1 : Nat) + (1 : Nat) + (1 : Nat) + (1 : Nat)) ∧ True) ∧ @List.nil Int = @List.nil Int ∧ @List.nil Int = @List.nil Int ∧ List.replicate (Int.toNat (↑(List.length l) : Int)) (zeroD (Ty.int IntKind.i64)) = List.replicate (Int.toNat (↑(List.length l) : Int)) (zeroD (Ty.int IntKind.i64)) ∧ (@List.nil Int = @List.nil Int ∧ @List.nil Int = @List.nil Int ∧ True) ∧ @List.nil Int = @List.nil Int ∧ @List.nil Int = @List.nil Int ∧ True)))) ∧
                    ((decide ((↑x_0 : Int) < many)) = false →
                      ((List.length l ≤ big) →
                      ((I64 (↑(List.length l) : Int)) →
                      ((I64 (1 : Int)) →
                      (I64 ((↑(List.length l) : Int) - (1 : Int))) ∧
                      (∃ (x : Nat), x ≤ List.length l ∧ ((↑(List.length l) : Int) - (1 : Int) = (↑x : Int) - (1 : Int) ∧ True) ∧ fillT (Int.toNat many) x_0 = firstT l (Int.toNat many) x ∧ List.replicate (Int.toNat (↑(List.length l) : Int)) (zeroD (Ty.int IntKind.i64)) = nextT l (Int.toNat many) x ∧ True) ∧
                      (∀ x_1 : Nat,
                      ((x_1 ≤ List.length l) →
                      (((decide ((↑x_1 : Int) - (1 : Int) ≥ (0 : Int))) = true →
                        ((0 : Int) ≤ (↑x_1 : Int) - (1 : Int) ∧ (↑x_1 : Int) - (1 : Int) < (↑(List.length l) : Int)) ∧
                        (True) ∧
                        (IntKind.wrap IntKind.u32 many ≠ (0 : Int)) ∧
                        (∀ x_2 : Int,
                        ((x_2 = Int.tmod (↑(hashF (nth tSymbol l (Int.toNat ((↑x_1 : Int) - (1 : Int)))).fst) : Int) (IntKind.wrap IntKind.u32 many)) →
                        ((0 : Int) ≤ x_2 ∧ x_2 < (↑(List.length (firstT l (Int.toNat many) x_1)) : Int)) ∧
                        (Int.toNat x_2 < List.length (firstT l (Int.toNat many) x_1)) ∧
                        ((0 : Int) ≤ (↑x_1 : Int) - (1 : Int) ∧ (↑x_1 : Int) - (1 : Int) < (↑(List.length (nextT l (Int.toNat many) x_1)) : Int)) ∧
                        (Int.toNat ((↑x_1 : Int) - (1 : Int)) < List.length (nextT l (Int.toNat many) x_1)) ∧
                        ((0 : Int) ≤ x_2 ∧ x_2 < (↑(List.length (firstT l (Int.toNat many) x_1)) : Int)) ∧
                        (Int.toNat x_2 < List.length (firstT l (Int.toNat many) x_1)) ∧
                        ((I64 ((↑x_1 : Int) - (1 : Int))) →
                        ((I64 (1 : Int)) →
                        (I64 ((↑x_1 : Int) - (1 : Int) - (1 : Int))) ∧
                        (∃ (x' : Nat), x' ≤ List.length l ∧ x' < x_1 ∧ ((↑x_1 : Int) - (1 : Int) - (1 : Int) = (↑x' : Int) - (1 : Int) ∧ True) ∧ List.set (firstT l (Int.toNat many) x_1) (Int.toNat x_2) ((↑x_1 : Int) - (1 : Int)) = firstT l (Int.toNat many) x' ∧ List.set (nextT l (Int.toNat many) x_1) (Int.toNat ((↑x_1 : Int) - (1 : Int))) (nth (Ty.int IntKind.i64) (firstT l (Int.toNat many) x_1) (Int.toNat x_2)) = nextT l (Int.toNat many) x' ∧ (C.mrow ((0 : Nat) + (1 : Nat) + (1 : Nat) + (1 : Nat)) = C.mrow ((0 : Nat) + (1 : Nat) + (1 : Nat) + (1 : Nat)) ∧ C.mrow ((0 : Nat) + (1 : Nat) + (1 : Nat) + (1 : Nat) + (1 : Nat)) = C.mrow ((0 : Nat) + (1 : Nat) + (1 : Nat) + (1 : Nat) + (1 : Nat)) ∧ True) ∧ @List.nil Int = @List.nil Int ∧ @List.nil Int = @List.nil Int ∧ (@List.nil Int = @List.nil Int ∧ @List.nil Int = @List.nil Int ∧ True) ∧ @List.nil Int = @List.nil Int ∧ @List.nil Int = @List.nil Int ∧ True)))))) ∧
                      ((decide ((↑x_1 : Int) - (1 : Int) ≥ (0 : Int))) = false →
                        (((firstT l (Int.toNat many) x_1, nextT l (Int.toNat many) x_1, ()), Err.nil) = makeF (l, many)))))))))))))) := by
            refine ⟨?_, ?_⟩
            · first | exact True.intro | rfl | omega | assumption | (simp only [I64, big] at *; omega) | (simp_all; done)
            have hb5_0 :
                ((0 : Int) ≤ many ∧ many = many ∧ many ≤ (1000000000 : Int)) ∧
                        (∃ (x : Nat), x ≤ Int.toNat many ∧ ((0 : Int) = (↑x : Int) ∧ True) ∧ List.replicate (Int.toNat many) (zeroD (Ty.int IntKind.i64)) = fillT (Int.toNat many) x ∧ True) ∧
                        (∀ x_0 : Nat,
                        ((x_0 ≤ Int.toNat many) →
                        (((decide ((↑x_0 : Int) < many)) = true →
                          ((0 : Int) ≤ (↑x_0 : Int) ∧ (↑x_0 : Int) < (↑(List.length (fillT (Int.toNat many) x_0)) : Int)) ∧
                          (Int.toNat (↑x_0 : Int) < List.length (fillT (Int.toNat many) x_0)) ∧
                          ((I64 (↑x_0 : Int)) →
                          ((I64 (1 : Int)) →
                          (I64 ((↑x_0 : Int) + (1 : Int))) ∧
                          (∃ (x' : Nat), x' ≤ Int.toNat many ∧ Int.toNat many - x' < Int.toNat many - x_0 ∧ ((↑x_0 : Int) + (1 : Int) = (↑x' : Int) ∧ True) ∧ List.set (fillT (Int.toNat many) x_0) (Int.toNat (↑x_0 : Int)) (-1 : Int) = fillT (Int.toNat many) x' ∧ (C.mrow ((0 : Nat) + (1 : Nat) + (1 : Nat) + (1 : Nat)) = C.mrow ((0 : Nat) + (1 : Nat) + (1 : Nat) + (1 : Nat)) ∧ C.mrow ((0 : Nat) + (1 : Nat) + (1 : Nat) + (1 : Nat) + (1 : Nat)) = C.mrow ((0 : Nat) + (1 : Nat) + (1 : Nat) + (1 : Nat) + (1 : Nat)) ∧ True) ∧ @List.nil Int = @List.nil Int ∧ @List.nil Int = @List.nil Int ∧ List.replicate (Int.toNat (↑(List.length l) : Int)) (zeroD (Ty.int IntKind.i64)) = List.replicate (Int.toNat (↑(List.length l) : Int)) (zeroD (Ty.int IntKind.i64)) ∧ (@List.nil Int = @List.nil Int ∧ @List.nil Int = @List.nil Int ∧ True) ∧ @List.nil Int = @List.nil Int ∧ @List.nil Int = @List.nil Int ∧ True)))) ∧
                        ((decide ((↑x_0 : Int) < many)) = false →
                          ((List.length l ≤ big) →
                          ((I64 (↑(List.length l) : Int)) →
                          ((I64 (1 : Int)) →
                          (I64 ((↑(List.length l) : Int) - (1 : Int))) ∧
                          (∃ (x : Nat), x ≤ List.length l ∧ ((↑(List.length l) : Int) - (1 : Int) = (↑x : Int) - (1 : Int) ∧ True) ∧ fillT (Int.toNat many) x_0 = firstT l (Int.toNat many) x ∧ List.replicate (Int.toNat (↑(List.length l) : Int)) (zeroD (Ty.int IntKind.i64)) = nextT l (Int.toNat many) x ∧ True) ∧
                          (∀ x_1 : Nat,
                          ((x_1 ≤ List.length l) →
                          (((decide ((↑x_1 : Int) - (1 : Int) ≥ (0 : Int))) = true →
                            ((0 : Int) ≤ (↑x_1 : Int) - (1 : Int) ∧ (↑x_1 : Int) - (1 : Int) < (↑(List.length l) : Int)) ∧
                            (True) ∧
                            (IntKind.wrap IntKind.u32 many ≠ (0 : Int)) ∧
                            (∀ x_2 : Int,
                            ((x_2 = Int.tmod (↑(hashF (nth tSymbol l (Int.toNat ((↑x_1 : Int) - (1 : Int)))).fst) : Int) (IntKind.wrap IntKind.u32 many)) →
                            ((0 : Int) ≤ x_2 ∧ x_2 < (↑(List.length (firstT l (Int.toNat many) x_1)) : Int)) ∧
                            (Int.toNat x_2 < List.length (firstT l (Int.toNat many) x_1)) ∧
                            ((0 : Int) ≤ (↑x_1 : Int) - (1 : Int) ∧ (↑x_1 : Int) - (1 : Int) < (↑(List.length (nextT l (Int.toNat many) x_1)) : Int)) ∧
                            (Int.toNat ((↑x_1 : Int) - (1 : Int)) < List.length (nextT l (Int.toNat many) x_1)) ∧
                            ((0 : Int) ≤ x_2 ∧ x_2 < (↑(List.length (firstT l (Int.toNat many) x_1)) : Int)) ∧
                            (Int.toNat x_2 < List.length (firstT l (Int.toNat many) x_1)) ∧
                            ((I64 ((↑x_1 : Int) - (1 : Int))) →
                            ((I64 (1 : Int)) →
                            (I64 ((↑x_1 : Int) - (1 : Int) - (1 : Int))) ∧
                            (∃ (x' : Nat), x' ≤ List.length l ∧ x' < x_1 ∧ ((↑x_1 : Int) - (1 : Int) - (1 : Int) = (↑x' : Int) - (1 : Int) ∧ True) ∧ List.set (firstT l (Int.toNat many) x_1) (Int.toNat x_2) ((↑x_1 : Int) - (1 : Int)) = firstT l (Int.toNat many) x' ∧ List.set (nextT l (Int.toNat many) x_1) (Int.toNat ((↑x_1 : Int) - (1 : Int))) (nth (Ty.int IntKind.i64) (firstT l (Int.toNat many) x_1) (Int.toNat x_2)) = nextT l (Int.toNat many) x' ∧ (C.mrow ((0 : Nat) + (1 : Nat) + (1 : Nat) + (1 : Nat)) = C.mrow ((0 : Nat) + (1 : Nat) + (1 : Nat) + (1 : Nat)) ∧ C.mrow ((0 : Nat) + (1 : Nat) + (1 : Nat) + (1 : Nat) + (1 : Nat)) = C.mrow ((0 : Nat) + (1 : Nat) + (1 : Nat) + (1 : Nat) + (1 : Nat)) ∧ True) ∧ @List.nil Int = @List.nil Int ∧ @List.nil Int = @List.nil Int ∧ (@List.nil Int = @List.nil Int ∧ @List.nil Int = @List.nil Int ∧ True) ∧ @List.nil Int = @List.nil Int ∧ @List.nil Int = @List.nil Int ∧ True)))))) ∧
                          ((decide ((↑x_1 : Int) - (1 : Int) ≥ (0 : Int))) = false →
                            (((firstT l (Int.toNat many) x_1, nextT l (Int.toNat many) x_1, ()), Err.nil) = makeF (l, many))))))))))))) := by
                refine ⟨?_, ?_⟩
                · first | exact True.intro | rfl | omega | assumption | (simp only [I64, big] at *; omega) | (simp_all; done)
                refine ⟨?_, ?_⟩
                · exact ⟨0, by omega, ⟨rfl, trivial⟩, (fillT_zero _).symm, trivial⟩
                intro x_0
                intro h5
                refine ⟨fun h6 => ?_, fun h6 => ?_⟩
                · try simp only [decide_eq_true_eq, decide_eq_false_iff_not, beq_iff_eq, beq_eq_false_iff_ne, bne_iff_ne, bne_eq_false_iff_eq, Bool.not_eq_true', Bool.not_eq_false', Bool.not_eq_true, Bool.not_eq_false, ne_eq, Bool.and_eq_true, Bool.or_eq_true, Bool.and_eq_false_iff, Bool.or_eq_false_iff, reduceCtorEq, Int.not_lt, Int.not_le] at h6
                  refine ⟨?_, ?_⟩
                  · rw [fillT_length]; omega
                  refine ⟨?_, ?_⟩
                  · rw [fillT_length]; omega
                  intro h7
                  intro h8
                  refine ⟨?_, ?_⟩
                  · first | exact True.intro | rfl | omega | assumption | (simp only [I64, big] at *; omega) | (simp_all; done)
                  exact ⟨x_0 + 1, by omega, by omega, ⟨by omega, trivial⟩, by rw [Int.toNat_natCast, fillT_set], (by repeat' (first | exact trivial | rfl | apply And.intro))⟩
                · try simp only [decide_eq_true_eq, decide_eq_false_iff_not, beq_iff_eq, beq_eq_false_iff_ne, bne_iff_ne, bne_eq_false_iff_eq, Bool.not_eq_true', Bool.not_eq_false', Bool.not_eq_true, Bool.not_eq_false, ne_eq, Bool.and_eq_true, Bool.or_eq_true, Bool.and_eq_false_iff, Bool.or_eq_false_iff, reduceCtorEq, Int.not_lt, Int.not_le] at h6
                  intro h7
                  intro h8
                  intro h9
                  refine ⟨?_, ?_⟩
                  · first | exact True.intro | rfl | omega | assumption | (simp only [I64, big] at *; omega) | (simp_all; done)
                  refine ⟨?_, ?_⟩
                  · exact ⟨l.length, by omega, ⟨rfl, trivial⟩, by rw [show x_0 = many.toNat by omega]; exact fillT_full _ _, by rw [Int.toNat_natCast]; exact (nextT_full _ _).symm, trivial⟩
                  intro x_1
                  intro h10
                  refine ⟨fun h11 => ?_, fun h11 => ?_⟩
                  · try simp only [decide_eq_true_eq, decide_eq_false_iff_not, beq_iff_eq, beq_eq_false_iff_ne, bne_iff_ne, bne_eq_false_iff_eq, Bool.not_eq_true', Bool.not_eq_false', Bool.not_eq_true, Bool.not_eq_false, ne_eq, Bool.and_eq_true, Bool.or_eq_true, Bool.and_eq_false_iff, Bool.or_eq_false_iff, reduceCtorEq, Int.not_lt, Int.not_le] at h11
                    refine ⟨?_, ?_⟩
                    · first | exact True.intro | rfl | omega | assumption | (simp only [I64, big] at *; omega) | (simp_all; done)
                    refine ⟨?_, ?_⟩
                    · first | exact True.intro | rfl | omega | assumption | (simp only [I64, big] at *; omega) | (simp_all; done)
                    refine ⟨?_, ?_⟩
                    · rw [wrap_u32_small (by omega) (by omega)]; omega
                    intro x_2
                    intro h12
                    refine ⟨?_, ?_⟩
                    · rw [firstT_length]; have hb := bucket_eq (by omega) (by omega) ‹x_2 = _›; have := bucketN_lt (l := l) (m := many.toNat) (j := Int.toNat ((x_1 : Int) - 1)) (by omega); omega
                    refine ⟨?_, ?_⟩
                    · rw [firstT_length]; have hb := bucket_eq (by omega) (by omega) ‹x_2 = _›; have := bucketN_lt (l := l) (m := many.toNat) (j := Int.toNat ((x_1 : Int) - 1)) (by omega); omega
                    refine ⟨?_, ?_⟩
                    · rw [nextT_length]; omega
                    refine ⟨?_, ?_⟩
                    · rw [nextT_length]; omega
                    refine ⟨?_, ?_⟩
                    · rw [firstT_length]; have hb := bucket_eq (by omega) (by omega) ‹x_2 = _›; have := bucketN_lt (l := l) (m := many.toNat) (j := Int.toNat ((x_1 : Int) - 1)) (by omega); omega
                    refine ⟨?_, ?_⟩
                    · rw [firstT_length]; have hb := bucket_eq (by omega) (by omega) ‹x_2 = _›; have := bucketN_lt (l := l) (m := many.toNat) (j := Int.toNat ((x_1 : Int) - 1)) (by omega); omega
                    intro h13
                    intro h14
                    refine ⟨?_, ?_⟩
                    · first | exact True.intro | rfl | omega | assumption | (simp only [I64, big] at *; omega) | (simp_all; done)
                    obtain ⟨k, rfl⟩ : ∃ k, x_1 = k + 1 := ⟨x_1 - 1, by omega⟩
                    have hj : Int.toNat (((k + 1 : Nat) : Int) - 1) = k := by omega
                    have hb := bucket_eq (by omega) (by omega) ‹x_2 = _›
                    rw [hj] at hb
                    exact ⟨k, by omega, by omega, ⟨by omega, trivial⟩, make_first (by omega) hb (by omega), make_next (by omega) hb hj, (by repeat' (first | exact trivial | rfl | apply And.intro))⟩
                  · try simp only [decide_eq_true_eq, decide_eq_false_iff_not, beq_iff_eq, beq_eq_false_iff_ne, bne_iff_ne, bne_eq_false_iff_eq, Bool.not_eq_true', Bool.not_eq_false', Bool.not_eq_true, Bool.not_eq_false, ne_eq, Bool.and_eq_true, Bool.or_eq_true, Bool.and_eq_false_iff, Bool.or_eq_false_iff, reduceCtorEq, Int.not_lt, Int.not_le] at h11
                    obtain rfl : x_1 = 0 := by omega
                    simp only [makeF]; rw [if_neg (by omega), if_neg (by omega)]; rfl
            exact ⟨hb5_0, hb5_0⟩
        have hb5_2 :
            ((0 : Int) ≤ many ∧ many = many ∧ many ≤ (1000000000 : Int)) ∧
                  ((0 : Int) ≤ (↑(List.length l) : Int) ∧ (↑(List.length l) : Int) = (↑(List.length l) : Int) ∧ (↑(List.length l) : Int) ≤ (1000000000 : Int)) ∧
                  (∃ (x : Nat), x ≤ Int.toNat many ∧ ((0 : Int) = (↑x : Int) ∧ True) ∧ List.replicate (Int.toNat many) (zeroD (Ty.int IntKind.i64)) = fillT (Int.toNat many) x ∧ True) ∧
                  (∀ x_0 : Nat,
                  ((x_0 ≤ Int.toNat many) →
                  (((decide ((↑x_0 : Int) < many)) = true →
                    ((0 : Int) ≤ (↑x_0 : Int) ∧ (↑x_0 : Int) < (↑(List.length (fillT (Int.toNat many) x_0)) : Int)) ∧
                    (Int.toNat (↑x_0 : Int) < List.length (fillT (Int.toNat many) x_0)) ∧
                    ((I64 (↑x_0 : Int)) →
                    ((I64 (1 : Int)) →
                    (I64 ((↑x_0 : Int) + (1 : Int))) ∧
                    (∃ (x' : Nat), x' ≤ Int.toNat many ∧ Int.toNat many - x' < Int.toNat many - x_0 ∧ ((↑x_0 : Int) + (1 : Int) = (↑x' : Int) ∧ True) ∧ List.set (fillT (Int.toNat many) x_0) (Int.toNat (↑x_0 : Int)) (-1 : Int) = fillT (Int.toNat many) x' ∧ List.replicate (Int.toNat (↑(List.length l) : Int)) (zeroD (Ty.int IntKind.i64)) = List.replicate (Int.toNat (↑(List.length l) : Int)) (zeroD (Ty.int IntKind.i64)) ∧ (C.mrow ((0 : Nat) + (1 : Nat) + (1 : Nat) + (1 : Nat)) = C.mrow ((0 : Nat) + (1 : Nat) + (1 : Nat) + (1 : Nat)) ∧ C.mrow ((0 : Nat) + (1 : Nat) + (1 : Nat) + (1 : Nat) + (1 : Nat)) = C.mrow ((0 : Nat) + (1 : Nat) + (1 : Nat) + (1 : Nat) + (1 : Nat)) ∧ True) ∧ @List.nil Int = @List.nil Int ∧ @List.nil Int = @List.nil Int ∧ (@List.nil Int = @List.nil Int ∧ @List.nil Int = @List.nil Int ∧ True) ∧ @List.nil Int = @List.nil Int ∧ @List.nil Int = @List.nil Int ∧ True)))) ∧
                  ((decide ((↑x_0 : Int) < many)) = false →
                    ((List.length l ≤ big) →
                    ((I64 (↑(List.length l) : Int)) →
                    ((I64 (1 : Int)) →
                    (I64 ((↑(List.length l) : Int) - (1 : Int))) ∧
                    (∃ (x : Nat), x ≤ List.length l ∧ ((↑(List.length l) : Int) - (1 : Int) = (↑x : Int) - (1 : Int) ∧ True) ∧ fillT (Int.toNat many) x_0 = firstT l (Int.toNat many) x ∧ List.replicate (Int.toNat (↑(List.length l) : Int)) (zeroD (Ty.int IntKind.i64)) = nextT l (Int.toNat many) x ∧ True) ∧
                    (∀ x_1 : Nat,
                    ((x_1 ≤ List.length l) →
                    (((decide ((↑x_1 : Int) - (1 : Int) ≥ (0 : Int))) = true →
                      ((0 : Int) ≤ (↑x_1 : Int) - (1 : Int) ∧ (↑x_1 : Int) - (1 : Int) < (↑(List.length l) : Int)) ∧
                      (True) ∧
                      (IntKind.wrap IntKind.u32 many ≠ (0 : Int)) ∧
                      (∀ x_2 : Int,
                      ((x_2 = Int.tmod (↑(hashF (nth tSymbol l (Int.toNat ((↑x_1 : Int) - (1 : Int)))).fst) : Int) (IntKind.wrap IntKind.u32 many)) →
                      ((0 : Int) ≤ x_2 ∧ x_2 < (↑(List.length (firstT l (Int.toNat many) x_1)) : Int)) ∧
                      (Int.toNat x_2 < List.length (firstT l (Int.toNat many) x_1)) ∧
                      ((0 : Int) ≤ (↑x_1 : Int) - (1 : Int) ∧ (↑x_1 : Int) - (1 : Int) < (↑(List.length (nextT l (Int.toNat many) x_1)) : Int)) ∧
                      (Int.toNat ((↑x_1 : Int) - (1 : Int)) < List.length (nextT l (Int.toNat many) x_1)) ∧
                      ((0 : Int) ≤ x_2 ∧ x_2 < (↑(List.length (firstT l (Int.toNat many) x_1)) : Int)) ∧
                      (Int.toNat x_2 < List.length (firstT l (Int.toNat many) x_1)) ∧
                      ((I64 ((↑x_1 : Int) - (1 : Int))) →
                      ((I64 (1 : Int)) →
                      (I64 ((↑x_1 : Int) - (1 : Int) - (1 : Int))) ∧
                      (∃ (x' : Nat), x' ≤ List.length l ∧ x' < x_1 ∧ ((↑x_1 : Int) - (1 : Int) - (1 : Int) = (↑x' : Int) - (1 : Int) ∧ True) ∧ List.set (firstT l (Int.toNat many) x_1) (Int.toNat x_2) ((↑x_1 : Int) - (1 : Int)) = firstT l (Int.toNat many) x' ∧ List.set (nextT l (Int.toNat many) x_1) (Int.toNat ((↑x_1 : Int) - (1 : Int))) (nth (Ty.int IntKind.i64) (firstT l (Int.toNat many) x_1) (Int.toNat x_2)) = nextT l (Int.toNat many) x' ∧ (C.mrow ((0 : Nat) + (1 : Nat) + (1 : Nat) + (1 : Nat)) = C.mrow ((0 : Nat) + (1 : Nat) + (1 : Nat) + (1 : Nat)) ∧ C.mrow ((0 : Nat) + (1 : Nat) + (1 : Nat) + (1 : Nat) + (1 : Nat)) = C.mrow ((0 : Nat) + (1 : Nat) + (1 : Nat) + (1 : Nat) + (1 : Nat)) ∧ True) ∧ @List.nil Int = @List.nil Int ∧ @List.nil Int = @List.nil Int ∧ (@List.nil Int = @List.nil Int ∧ @List.nil Int = @List.nil Int ∧ True) ∧ @List.nil Int = @List.nil Int ∧ @List.nil Int = @List.nil Int ∧ True)))))) ∧
                    ((decide ((↑x_1 : Int) - (1 : Int) ≥ (0 : Int))) = false →
                      (((firstT l (Int.toNat many) x_1, nextT l (Int.toNat many) x_1, ()), Err.nil) = makeF (l, many))))))))))))) := by
            refine ⟨?_, ?_⟩
            · first | exact True.intro | rfl | omega | assumption | (simp only [I64, big] at *; omega) | (simp_all; done)
            refine ⟨?_, ?_⟩
            · first | exact True.intro | rfl | omega | assumption | (simp only [I64, big] at *; omega) | (simp_all; done)
            refine ⟨?_, ?_⟩
            · exact ⟨0, by omega, ⟨rfl, trivial⟩, (fillT_zero _).symm, trivial⟩
            intro x_0
            intro h5
            refine ⟨fun h6 => ?_, fun h6 => ?_⟩
            · try simp only [decide_eq_true_eq, decide_eq_false_iff_not, beq_iff_eq, beq_eq_false_iff_ne, bne_iff_ne, bne_eq_false_iff_eq, Bool.not_eq_true', Bool.not_eq_false', Bool.not_eq_true, Bool.not_eq_false, ne_eq, Bool.and_eq_true, Bool.or_eq_true, Bool.and_eq_false_iff, Bool.or_eq_false_iff, reduceCtorEq, Int.not_lt, Int.not_le] at h6
              refine ⟨?_, ?_⟩
              · rw [fillT_length]; omega
              refine ⟨?_, ?_⟩
              · rw [fillT_length]; omega
              intro h7
              intro h8
              refine ⟨?_, ?_⟩
              · first | exact True.intro | rfl | omega | assumption | (simp only [I64, big] at *; omega) | (simp_all; done)
              exact ⟨x_0 + 1, by omega, by omega, ⟨by omega, trivial⟩, by rw [Int.toNat_natCast, fillT_set], (by repeat' (first | exact trivial | rfl | apply And.intro))⟩
            · try simp only [decide_eq_true_eq, decide_eq_false_iff_not, beq_iff_eq, beq_eq_false_iff_ne, bne_iff_ne, bne_eq_false_iff_eq, Bool.not_eq_true', Bool.not_eq_false', Bool.not_eq_true, Bool.not_eq_false, ne_eq, Bool.and_eq_true, Bool.or_eq_true, Bool.and_eq_false_iff, Bool.or_eq_false_iff, reduceCtorEq, Int.not_lt, Int.not_le] at h6
              intro h7
              intro h8
              intro h9
              refine ⟨?_, ?_⟩
              · first | exact True.intro | rfl | omega | assumption | (simp only [I64, big] at *; omega) | (simp_all; done)
              refine ⟨?_, ?_⟩
              · exact ⟨l.length, by omega, ⟨rfl, trivial⟩, by rw [show x_0 = many.toNat by omega]; exact fillT_full _ _, by rw [Int.toNat_natCast]; exact (nextT_full _ _).symm, trivial⟩
              intro x_1
              intro h10
              refine ⟨fun h11 => ?_, fun h11 => ?_⟩
              · try simp only [decide_eq_true_eq, decide_eq_false_iff_not, beq_iff_eq, beq_eq_false_iff_ne, bne_iff_ne, bne_eq_false_iff_eq, Bool.not_eq_true', Bool.not_eq_false', Bool.not_eq_true, Bool.not_eq_false, ne_eq, Bool.and_eq_true, Bool.or_eq_true, Bool.and_eq_false_iff, Bool.or_eq_false_iff, reduceCtorEq, Int.not_lt, Int.not_le] at h11
                refine ⟨?_, ?_⟩
                · first | exact True.intro | rfl | omega | assumption | (simp only [I64, big] at *; omega) | (simp_all; done)
                refine ⟨?_, ?_⟩
                · first | exact True.intro | rfl | omega | assumption | (simp only [I64, big] at *; omega) | (simp_all; done)
                refine ⟨?_, ?_⟩
                · rw [wrap_u32_small (by omega) (by omega)]; omega
                intro x_2
                intro h12
                refine ⟨?_, ?_⟩
                · rw [firstT_length]; have hb := bucket_eq (by omega) (by omega) ‹x_2 = _›; have := bucketN_lt (l := l) (m := many.toNat) (j := Int.toNat ((x_1 : Int) - 1)) (by omega); omega
                refine ⟨?_, ?_⟩
                · rw [firstT_length]; have hb := bucket_eq (by omega) (by omega) ‹x_2 = _›; have := bucketN_lt (l := l) (m := many.toNat) (j := Int.toNat ((x_1 : Int) - 1)) (by omega); omega
                refine ⟨?_, ?_⟩
                · rw [nextT_length]; omega
                refine ⟨?_, ?_⟩
                · rw [nextT_length]; omega
                refine ⟨?_, ?_⟩
                · rw [firstT_length]; have hb := bucket_eq (by omega) (by omega) ‹x_2 = _›; have := bucketN_lt (l := l) (m := many.toNat) (j := Int.toNat ((x_1 : Int) - 1)) (by omega); omega
                refine ⟨?_, ?_⟩
                · rw [firstT_length]; have hb := bucket_eq (by omega) (by omega) ‹x_2 = _›; have := bucketN_lt (l := l) (m := many.toNat) (j := Int.toNat ((x_1 : Int) - 1)) (by omega); omega
                intro h13
                intro h14
                refine ⟨?_, ?_⟩
                · first | exact True.intro | rfl | omega | assumption | (simp only [I64, big] at *; omega) | (simp_all; done)
                obtain ⟨k, rfl⟩ : ∃ k, x_1 = k + 1 := ⟨x_1 - 1, by omega⟩
                have hj : Int.toNat (((k + 1 : Nat) : Int) - 1) = k := by omega
                have hb := bucket_eq (by omega) (by omega) ‹x_2 = _›
                rw [hj] at hb
                exact ⟨k, by omega, by omega, ⟨by omega, trivial⟩, make_first (by omega) hb (by omega), make_next (by omega) hb hj, (by repeat' (first | exact trivial | rfl | apply And.intro))⟩
              · try simp only [decide_eq_true_eq, decide_eq_false_iff_not, beq_iff_eq, beq_eq_false_iff_ne, bne_iff_ne, bne_eq_false_iff_eq, Bool.not_eq_true', Bool.not_eq_false', Bool.not_eq_true, Bool.not_eq_false, ne_eq, Bool.and_eq_true, Bool.or_eq_true, Bool.and_eq_false_iff, Bool.or_eq_false_iff, reduceCtorEq, Int.not_lt, Int.not_le] at h11
                obtain rfl : x_1 = 0 := by omega
                simp only [makeF]; rw [if_neg (by omega), if_neg (by omega)]; rfl
        have hb5_3 :
            ((0 : Int) ≤ (↑(List.length l) : Int) ∧ (↑(List.length l) : Int) = (↑(List.length l) : Int) ∧ (↑(List.length l) : Int) ≤ (1000000000 : Int)) ∧
                  ((0 : Int) ≤ many ∧ many = many ∧ many ≤ (1000000000 : Int)) ∧
                  (∃ (x : Nat), x ≤ Int.toNat many ∧ ((0 : Int) = (↑x : Int) ∧ True) ∧ List.replicate (Int.toNat many) (zeroD (Ty.int IntKind.i64)) = fillT (Int.toNat many) x ∧ True) ∧
                  (∀ x_0 : Nat,
                  ((x_0 ≤ Int.toNat many) →
                  (((decide ((↑x_0 : Int) < many)) = true →
                    ((0 : Int) ≤ (↑x_0 : Int) ∧ (↑x_0 : Int) < (↑(List.length (fillT (Int.toNat many) x_0)) : Int)) ∧
                    (Int.toNat (↑x_0 : Int) < List.length (fillT (Int.toNat many) x_0)) ∧
                    ((I64 (↑x_0 : Int)) →
                    ((I64 (1 : Int)) →
                    (I64 ((↑x_0 : Int) + (1 : Int))) ∧
                    (∃ (x' : Nat), x' ≤ Int.toNat many ∧ Int.toNat many - x' < Int.toNat many - x_0 ∧ ((↑x_0 : Int) + (1 : Int) = (↑x' : Int) ∧ True) ∧ List.set (fillT (Int.toNat many) x_0) (Int.toNat (↑x_0 : Int)) (-1 : Int) = fillT (Int.toNat many) x' ∧ List.replicate (Int.toNat (↑(List.length l) : Int)) (zeroD (Ty.int IntKind.i64)) = List.replicate (Int.toNat (↑(List.length l) : Int)) (zeroD (Ty.int IntKind.i64)) ∧ (C.mrow ((0 : Nat) + (1 : Nat) + (1 : Nat) + (1 : Nat)) = C.mrow ((0 : Nat) + (1 : Nat) + (1 : Nat) + (1 : Nat)) ∧ C.mrow ((0 : Nat) + (1 : Nat) + (1 : Nat) + (1 : Nat) + (1 : Nat)) = C.mrow ((0 : Nat) + (1 : Nat) + (1 : Nat) + (1 : Nat) + (1 : Nat)) ∧ True) ∧ @List.nil Int = @List.nil Int ∧ @List.nil Int = @List.nil Int ∧ (@List.nil Int = @List.nil Int ∧ @List.nil Int = @List.nil Int ∧ True) ∧ @List.nil Int = @List.nil Int ∧ @List.nil Int = @List.nil Int ∧ True)))) ∧
                  ((decide ((↑x_0 : Int) < many)) = false →
                    ((List.length l ≤ big) →
                    ((I64 (↑(List.length l) : Int)) →
                    ((I64 (1 : Int)) →
                    (I64 ((↑(List.length l) : Int) - (1 : Int))) ∧
                    (∃ (x : Nat), x ≤ List.length l ∧ ((↑(List.length l) : Int) - (1 : Int) = (↑x : Int) - (1 : Int) ∧ True) ∧ fillT (Int.toNat many) x_0 = firstT l (Int.toNat many) x ∧ List.replicate (Int.toNat (↑(List.length l) : Int)) (zeroD (Ty.int IntKind.i64)) = nextT l (Int.toNat many) x ∧ True) ∧
                    (∀ x_1 : Nat,
                    ((x_1 ≤ List.length l) →
                    (((decide ((↑x_1 : Int) - (1 : Int) ≥ (0 : Int))) = true →
                      ((0 : Int) ≤ (↑x_1 : Int) - (1 : Int) ∧ (↑x_1 : Int) - (1 : Int) < (↑(List.length l) : Int)) ∧
                      (True) ∧
                      (IntKind.wrap IntKind.u32 many ≠ (0 : Int)) ∧
                      (∀ x_2 : Int,
                      ((x_2 = Int.tmod (↑(hashF (nth tSymbol l (Int.toNat ((↑x_1 : Int) - (1 : Int)))).fst) : Int) (IntKind.wrap IntKind.u32 many)) →
                      ((0 : Int) ≤ x_2 ∧ x_2 < (↑(List.length (firstT l (Int.toNat many) x_1)) : Int)) ∧
                      (Int.toNat x_2 < List.length (firstT l (Int.toNat many) x_1)) ∧
                      ((0 : Int) ≤ (↑x_1 : Int) - (1 : Int) ∧ (↑x_1 : Int) - (1 : Int) < (↑(List.length (nextT l (Int.toNat many) x_1)) : Int)) ∧
                      (Int.toNat ((↑x_1 : Int) - (1 : Int)) < List.length (nextT l (Int.toNat many) x_1)) ∧
                      ((0 : Int) ≤ x_2 ∧ x_2 < (↑(List.length (firstT l (Int.toNat many) x_1)) : Int)) ∧
                      (Int.toNat x_2 < List.length (firstT l (Int.toNat many) x_1)) ∧
                      ((I64 ((↑x_1 : Int) - (1 : Int))) →
                      ((I64 (1 : Int)) →
                      (I64 ((↑x_1 : Int) - (1 : Int) - (1 : Int))) ∧
                      (∃ (x' : Nat), x' ≤ List.length l ∧ x' < x_1 ∧ ((↑x_1 : Int) - (1 : Int) - (1 : Int) = (↑x' : Int) - (1 : Int) ∧ True) ∧ List.set (firstT l (Int.toNat many) x_1) (Int.toNat x_2) ((↑x_1 : Int) - (1 : Int)) = firstT l (Int.toNat many) x' ∧ List.set (nextT l (Int.toNat many) x_1) (Int.toNat ((↑x_1 : Int) - (1 : Int))) (nth (Ty.int IntKind.i64) (firstT l (Int.toNat many) x_1) (Int.toNat x_2)) = nextT l (Int.toNat many) x' ∧ (C.mrow ((0 : Nat) + (1 : Nat) + (1 : Nat) + (1 : Nat)) = C.mrow ((0 : Nat) + (1 : Nat) + (1 : Nat) + (1 : Nat)) ∧ C.mrow ((0 : Nat) + (1 : Nat) + (1 : Nat) + (1 : Nat) + (1 : Nat)) = C.mrow ((0 : Nat) + (1 : Nat) + (1 : Nat) + (1 : Nat) + (1 : Nat)) ∧ True) ∧ @List.nil Int = @List.nil Int ∧ @List.nil Int = @List.nil Int ∧ (@List.nil Int = @List.nil Int ∧ @List.nil Int = @List.nil Int ∧ True) ∧ @List.nil Int = @List.nil Int ∧ @List.nil Int = @List.nil Int ∧ True)))))) ∧
                    ((decide ((↑x_1 : Int) - (1 : Int) ≥ (0 : Int))) = false →
                      (((firstT l (Int.toNat many) x_1, nextT l (Int.toNat many) x_1, ()), Err.nil) = makeF (l, many))))))))))))) := by
            refine ⟨?_, ?_⟩
            · first | exact True.intro | rfl | omega | assumption | (simp only [I64, big] at *; omega) | (simp_all; done)
            refine ⟨?_, ?_⟩
            · first | exact True.intro | rfl | omega | assumption | (simp only [I64, big] at *; omega) | (simp_all; done)
            refine ⟨?_, ?_⟩
            · exact ⟨0, by omega, ⟨rfl, trivial⟩, (fillT_zero _).symm, trivial⟩
            intro x_0
            intro h5
            refine ⟨fun h6 => ?_, fun h6 => ?_⟩
            · try simp only [decide_eq_true_eq, decide_eq_false_iff_not, beq_iff_eq, beq_eq_false_iff_ne, bne_iff_ne, bne_eq_false_iff_eq, Bool.not_eq_true', Bool.not_eq_false', Bool.not_eq_true, Bool.not_eq_false, ne_eq, Bool.and_eq_true, Bool.or_eq_true, Bool.and_eq_false_iff, Bool.or_eq_false_iff, reduceCtorEq, Int.not_lt, Int.not_le] at h6
              refine ⟨?_, ?_⟩
              · rw [fillT_length]; omega
              refine ⟨?_, ?_⟩
              · rw [fillT_length]; omega
              intro h7
              intro h8
              refine ⟨?_, ?_⟩
              · first | exact True.intro | rfl | omega | assumption | (simp only [I64, big] at *; omega) | (simp_all; done)
              exact ⟨x_0 + 1, by omega, by omega, ⟨by omega, trivial⟩, by rw [Int.toNat_natCast, fillT_set], (by repeat' (first | exact trivial | rfl | apply And.intro))⟩
            · try simp only [decide_eq_true_eq, decide_eq_false_iff_not, beq_iff_eq, beq_eq_false_iff_ne, bne_iff_ne, bne_eq_false_iff_eq, Bool.not_eq_true', Bool.not_eq_false', Bool.not_eq_true, Bool.not_eq_false, ne_eq, Bool.and_eq_true, Bool.or_eq_true, Bool.and_eq_false_iff, Bool.or_eq_false_iff, reduceCtorEq, Int.not_lt, Int.not_le] at h6
              intro h7
              intro h8
              intro h9
              refine ⟨?_, ?_⟩
              · first | exact True.intro | rfl | omega | assumption | (simp only [I64, big] at *; omega) | (simp_all; done)
              refine ⟨?_, ?_⟩
              · exact ⟨l.length, by omega, ⟨rfl, trivial⟩, by rw [show x_0 = many.toNat by omega]; exact fillT_full _ _, by rw [Int.toNat_natCast]; exact (nextT_full _ _).symm, trivial⟩
              intro x_1
              intro h10
              refine ⟨fun h11 => ?_, fun h11 => ?_⟩
              · try simp only [decide_eq_true_eq, decide_eq_false_iff_not, beq_iff_eq, beq_eq_false_iff_ne, bne_iff_ne, bne_eq_false_iff_eq, Bool.not_eq_true', Bool.not_eq_false', Bool.not_eq_true, Bool.not_eq_false, ne_eq, Bool.and_eq_true, Bool.or_eq_true, Bool.and_eq_false_iff, Bool.or_eq_false_iff, reduceCtorEq, Int.not_lt, Int.not_le] at h11
                refine ⟨?_, ?_⟩
                · first | exact True.intro | rfl | omega | assumption | (simp only [I64, big] at *; omega) | (simp_all; done)
                refine ⟨?_, ?_⟩
                · first | exact True.intro | rfl | omega | assumption | (simp only [I64, big] at *; omega) | (simp_all; done)
                refine ⟨?_, ?_⟩
                · rw [wrap_u32_small (by omega) (by omega)]; omega
                intro x_2
                intro h12
                refine ⟨?_, ?_⟩
                · rw [firstT_length]; have hb := bucket_eq (by omega) (by omega) ‹x_2 = _›; have := bucketN_lt (l := l) (m := many.toNat) (j := Int.toNat ((x_1 : Int) - 1)) (by omega); omega
                refine ⟨?_, ?_⟩
                · rw [firstT_length]; have hb := bucket_eq (by omega) (by omega) ‹x_2 = _›; have := bucketN_lt (l := l) (m := many.toNat) (j := Int.toNat ((x_1 : Int) - 1)) (by omega); omega
                refine ⟨?_, ?_⟩
                · rw [nextT_length]; omega
                refine ⟨?_, ?_⟩
                · rw [nextT_length]; omega
                refine ⟨?_, ?_⟩
                · rw [firstT_length]; have hb := bucket_eq (by omega) (by omega) ‹x_2 = _›; have := bucketN_lt (l := l) (m := many.toNat) (j := Int.toNat ((x_1 : Int) - 1)) (by omega); omega
                refine ⟨?_, ?_⟩
                · rw [firstT_length]; have hb := bucket_eq (by omega) (by omega) ‹x_2 = _›; have := bucketN_lt (l := l) (m := many.toNat) (j := Int.toNat ((x_1 : Int) - 1)) (by omega); omega
                intro h13
                intro h14
                refine ⟨?_, ?_⟩
                · first | exact True.intro | rfl | omega | assumption | (simp only [I64, big] at *; omega) | (simp_all; done)
                obtain ⟨k, rfl⟩ : ∃ k, x_1 = k + 1 := ⟨x_1 - 1, by omega⟩
                have hj : Int.toNat (((k + 1 : Nat) : Int) - 1) = k := by omega
                have hb := bucket_eq (by omega) (by omega) ‹x_2 = _›
                rw [hj] at hb
                exact ⟨k, by omega, by omega, ⟨by omega, trivial⟩, make_first (by omega) hb (by omega), make_next (by omega) hb hj, (by repeat' (first | exact trivial | rfl | apply And.intro))⟩
              · try simp only [decide_eq_true_eq, decide_eq_false_iff_not, beq_iff_eq, beq_eq_false_iff_ne, bne_iff_ne, bne_eq_false_iff_eq, Bool.not_eq_true', Bool.not_eq_false', Bool.not_eq_true, Bool.not_eq_false, ne_eq, Bool.and_eq_true, Bool.or_eq_true, Bool.and_eq_false_iff, Bool.or_eq_false_iff, reduceCtorEq, Int.not_lt, Int.not_le] at h11
                obtain rfl : x_1 = 0 := by omega
                simp only [makeF]; rw [if_neg (by omega), if_neg (by omega)]; rfl
        exact ⟨hb5_0, hb5_1, hb5_2, hb5_3⟩
theorem Try.ok_Make : PureOK Try.prog Try.B.eT 16 [.slice tSymbol, .int .i64] [tTable, .err] (fun _ => True) (fun x y => y = (fun x => makeF x) x) :=
  pure_fn (X := noExt) Try.nameCtxOK Try.func16 (by kernel_rfl) (fun x => makeAnn x.1 x.2) (fun x hw hp => vc_Make x.1 x.2 hw)
def findAnn (t : D tTable) (l : List (D tSymbol)) (s : List UInt8) : Anns := [(0, fun st => { X := Nat × Int, inv := fun x => x.1 ≤ l.length ∧ chase t.2.1 l s (l.length - x.1) x.2 = chase t.2.1 l s l.length (nth (.int .i64) t.1 (hashF s % t.1.length)), meas := fun x => l.length - x.1, slots := fun x => [(25, .s (.one (.d (.int .i64) x.1))), (7, .s (.one (.d (.int .i64) x.2)))], objs := fun _ => [], keep := [1, 2, 3, 6, 24], keepObj := [] })]
set_option maxRecDepth 100000 in
set_option maxHeartbeats 1000000 in
theorem vc_Find (t : D tTable) (l : List (D tSymbol)) (s : List UInt8) (hw : wfL [tTable, .slice tSymbol, .str] (t, l, s)) (hp : (fun x => x.1.1.length ≤ 40) (t, l, s)) : (fnVCs Try.B Try.nameCtx Try.f17 (findAnn t l s) [tTable, .slice tSymbol, .str] [.int .i64] (fun x y => y = (fun x => findF x) x) (t, l, s)).holds := by
  refine holds_of (p :=
    ((List.length t.fst ≤ big) →
      ((((↑(List.length t.fst) : Int) == (0 : Int)) = true →
        ((-1 : Int) = findF (t, l, s))) ∧
      (((↑(List.length t.fst) : Int) == (0 : Int)) = false →
        ((List.length t.fst ≤ big) →
        (True) ∧
        (IntKind.wrap IntKind.u32 (↑(List.length t.fst) : Int) ≠ (0 : Int)) ∧
        (∀ x_0 : Int,
        ((x_0 = Int.tmod (↑(hashF s) : Int) (IntKind.wrap IntKind.u32 (↑(List.length t.fst) : Int))) →
        ((0 : Int) ≤ x_0 ∧ x_0 < (↑(List.length t.fst) : Int)) ∧
        ((List.length l ≤ big) →
        (∃ (x : Nat × Int), (x.fst ≤ List.length l ∧ chase t.snd.fst l s (List.length l - x.fst) x.snd = chase t.snd.fst l s (List.length l) (nth (Ty.int IntKind.i64) t.fst (hashF s % List.length t.fst))) ∧ ((0 : Int) = (↑x.fst : Int) ∧ nth (Ty.int IntKind.i64) t.fst (Int.toNat x_0) = x.snd ∧ True) ∧ True) ∧
        (∀ x_1 : Nat × Int,
        ((x_1.fst ≤ List.length l ∧ chase t.snd.fst l s (List.length l - x_1.fst) x_1.snd = chase t.snd.fst l s (List.length l) (nth (Ty.int IntKind.i64) t.fst (hashF s % List.length t.fst))) →
        (((decide ((↑x_1.fst : Int) < (↑(List.length l) : Int))) = true →
          (((decide (x_1.snd < (0 : Int))) = true →
            (((decide (x_1.snd < (0 : Int))) = true →
              ((-1 : Int) = findF (t, l, s))) ∧
            ((decide (x_1.snd < (0 : Int))) = false →
              ((List.length l ≤ big) →
              (((decide (x_1.snd ≥ (↑(List.length l) : Int))) = true →
                ((-1 : Int) = findF (t, l, s))) ∧
              ((decide (x_1.snd ≥ (↑(List.length l) : Int))) = false →
                ((0 : Int) ≤ x_1.snd ∧ x_1.snd < (↑(List.length l) : Int)) ∧
                (((!(nth tSymbol l (Int.toNat x_1.snd)).fst == s) = true →
                  ((-1 : Int) = findF (t, l, s))) ∧
                ((!(nth tSymbol l (Int.toNat x_1.snd)).fst == s) = false →
                  (x_1.snd = findF (t, l, s)))))))))) ∧
          ((decide (x_1.snd < (0 : Int))) = false →
            ((List.length l ≤ big) →
            (((decide (x_1.snd ≥ (↑(List.length l) : Int))) = true →
              (((decide (x_1.snd < (0 : Int))) = true →
                ((-1 : Int) = findF (t, l, s))) ∧
              ((decide (x_1.snd < (0 : Int))) = false →
                ((List.length l ≤ big) →
                (((decide (x_1.snd ≥ (↑(List.length l) : Int))) = true →
                  ((-1 : Int) = findF (t, l, s))) ∧
                ((decide (x_1.snd ≥ (↑(List.length l) : Int))) = false →
                  ((0 : Int) ≤ x_1.snd ∧ x_1.snd < (↑(List.length l) : Int)) ∧
                  (((!(nth tSymbol l (Int.toNat x_1.snd)).fst == s) = true →
                    ((-1 : Int) = findF (t, l, s))) ∧
                  ((!(nth tSymbol l (Int.toNat x_1.snd)).fst == s) = false →
                    (x_1.snd = findF (t, l, s)))))))))) ∧
            ((decide (x_1.snd ≥ (↑(List.length l) : Int))) = false →
              ((List.length t.snd.fst ≤ big) →
              (((decide (x_1.snd ≥ (↑(List.length t.snd.fst) : Int))) = true →
                (((decide (x_1.snd < (0 : Int))) = true →
                  ((-1 : Int) = findF (t, l, s))) ∧
                ((decide (x_1.snd < (0 : Int))) = false →
                  ((List.length l ≤ big) →
                  (((decide (x_1.snd ≥ (↑(List.length l) : Int))) = true →
                    ((-1 : Int) = findF (t, l, s))) ∧
                  ((decide (x_1.snd ≥ (↑(List.length l) : Int))) = false →
                    ((0 : Int) ≤ x_1.snd ∧ x_1.snd < (↑(List.length l) : Int)) ∧
                    (((!(nth tSymbol l (Int.toNat x_1.snd)).fst == s) = true →
                      ((-1 : Int) = findF (t, l, s))) ∧
                    ((!(nth tSymbol l (Int.toNat x_1.snd)).fst == s) = false →
                      (x_1.snd = findF (t, l, s)))))))))) ∧
              ((decide (x_1.snd ≥ (↑(List.length t.snd.fst) : Int))) = false →
                ((0 : Int) ≤ x_1.snd ∧ x_1.snd < (↑(List.length l) : Int)) ∧
                ((((nth tSymbol l (Int.toNat x_1.snd)).fst == s) = true →
                  (((decide (x_1.snd < (0 : Int))) = true →
                    ((-1 : Int) = findF (t, l, s))) ∧
                  ((decide (x_1.snd < (0 : Int))) = false →
                    ((List.length l ≤ big) →
                    (((decide (x_1.snd ≥ (↑(List.length l) : Int))) = true →
                      ((-1 : Int) = findF (t, l, s))) ∧
                    ((decide (x_1.snd ≥ (↑(List.length l) : Int))) = false →
                      ((0 : Int) ≤ x_1.snd ∧ x_1.snd < (↑(List.length l) : Int)) ∧
                      (((!(nth tSymbol l (Int.toNat x_1.snd)).fst == s) = true →
                        ((-1 : Int) = findF (t, l, s))) ∧
                      ((!(nth tSymbol l (Int.toNat x_1.snd)).fst == s) = false →
                        (x_1.snd = findF (t, l, s)))))))))) ∧
                (((nth tSymbol l (Int.toNat x_1.snd)).fst == s) = false →
                  ((0 : Int) ≤ x_1.snd ∧ x_1.snd < (↑(List.length t.snd.fst) : Int)) ∧
                  ((I64 (↑x_1.fst : Int)) →
                  ((I64 (1 : Int)) →
                  (I64 ((↑x_1.fst : Int) + (1 : Int))) ∧
                  (∃ (x' : Nat × Int), (x'.fst ≤ List.length l ∧ chase t.snd.fst l s (List.length l - x'.fst) x'.snd = chase t.snd.fst l s (List.length l) (nth (Ty.int IntKind.i64) t.fst (hashF s % List.length t.fst))) ∧ List.length l - x'.fst < List.length l - x_1.fst ∧ ((↑x_1.fst : Int) + (1 : Int) = (↑x'.fst : Int) ∧ nth (Ty.int IntKind.i64) t.snd.fst (Int.toNat x_1.snd) = x'.snd ∧ True) ∧ (t.fst = t.fst ∧ t.snd.fst = t.snd.fst ∧ True) ∧ True)))))))))))))) ∧
        ((decide ((↑x_1.fst : Int) < (↑(List.length l) : Int))) = false →
          (((decide (x_1.snd < (0 : Int))) = true →
            ((-1 : Int) = findF (t, l, s))) ∧
          ((decide (x_1.snd < (0 : Int))) = false →
            ((List.length l ≤ big) →
            (((decide (x_1.snd ≥ (↑(List.length l) : Int))) = true →
              ((-1 : Int) = findF (t, l, s))) ∧
            ((decide (x_1.snd ≥ (↑(List.length l) : Int))) = false →
              ((0 : Int) ≤ x_1.snd ∧ x_1.snd < (↑(List.length l) : Int)) ∧
              (((!(nth tSymbol l (Int.toNat x_1.snd)).fst == s) = true →
                ((-1 : Int) = findF (t, l, s))) ∧
              ((!(nth tSymbol l (Int.toNat x_1.snd)).fst == s) = false →
                (x_1.snd = findF (t, l, s))))))))))))))))))))) (by kernel_rfl) ?_
  dsimp only at hp
  intro h0
  refine ⟨fun h1 => ?_, fun h1 => ?_⟩
  · try simp only [decide_eq_true_eq, decide_eq_false_iff_not, beq_iff_eq, beq_eq_false_iff_ne, bne_iff_ne, bne_eq_false_iff_eq, Bool.not_eq_true', Bool.not_eq_false', Bool.not_eq_true, Bool.not_eq_false, ne_eq, Bool.and_eq_true, Bool.or_eq_true, Bool.and_eq_false_iff, Bool.or_eq_false_iff, reduceCtorEq, Int.not_lt, Int.not_le] at h1
    show _ = find3 t l s; unfold find3; rw [if_pos (by omega)]
  · try simp only [decide_eq_true_eq, decide_eq_false_iff_not, beq_iff_eq, beq_eq_false_iff_ne, bne_iff_ne, bne_eq_false_iff_eq, Bool.not_eq_true', Bool.not_eq_false', Bool.not_eq_true, Bool.not_eq_false, ne_eq, Bool.and_eq_true, Bool.or_eq_true, Bool.and_eq_false_iff, Bool.or_eq_false_iff, reduceCtorEq, Int.not_lt, Int.not_le] at h1
    intro h2
    refine ⟨?_, ?_⟩
    · first | exact True.intro | rfl | omega | assumption | (simp only [I64, big] at *; omega) | (simp_all; done)
    refine ⟨?_, ?_⟩
    · rw [wrap_u32_small (by omega) (by omega)]; omega
    intro x_0
    intro h3
    refine ⟨?_, ?_⟩
    · have := hash_rem (by omega) (by omega) h3; have := Nat.mod_lt (hashF s) (show 0 < t.1.length by omega); omega
    intro h4
    refine ⟨?_, ?_⟩
    · have hr := hash_rem (by omega) (by omega) h3
      exact ⟨(0, _), ⟨by omega, by rw [Nat.sub_zero]⟩, ⟨rfl, by rw [hr, Int.toNat_natCast], trivial⟩, (by repeat' (first | exact trivial | rfl | apply And.intro))⟩
    intro x_1
    intro h5
    refine ⟨fun h6 => ?_, fun h6 => ?_⟩
    · try simp only [decide_eq_true_eq, decide_eq_false_iff_not, beq_iff_eq, beq_eq_false_iff_ne, bne_iff_ne, bne_eq_false_iff_eq, Bool.not_eq_true', Bool.not_eq_false', Bool.not_eq_true, Bool.not_eq_false, ne_eq, Bool.and_eq_true, Bool.or_eq_true, Bool.and_eq_false_iff, Bool.or_eq_false_iff, reduceCtorEq, Int.not_lt, Int.not_le] at h6
      refine ⟨fun h7 => ?_, fun h7 => ?_⟩
      · try simp only [decide_eq_true_eq, decide_eq_false_iff_not, beq_iff_eq, beq_eq_false_iff_ne, bne_iff_ne, bne_eq_false_iff_eq, Bool.not_eq_true', Bool.not_eq_false', Bool.not_eq_true, Bool.not_eq_false, ne_eq, Bool.and_eq_true, Bool.or_eq_true, Bool.and_eq_false_iff, Bool.or_eq_false_iff, reduceCtorEq, Int.not_lt, Int.not_le] at h7
        refine ⟨fun h8 => ?_, fun h8 => ?_⟩
        · try simp only [decide_eq_true_eq, decide_eq_false_iff_not, beq_iff_eq, beq_eq_false_iff_ne, bne_iff_ne, bne_eq_false_iff_eq, Bool.not_eq_true', Bool.not_eq_false', Bool.not_eq_true, Bool.not_eq_false, ne_eq, Bool.and_eq_true, Bool.or_eq_true, Bool.and_eq_false_iff, Bool.or_eq_false_iff, reduceCtorEq, Int.not_lt, Int.not_le] at h8
          exact find_none (by omega) h5.2 (by first | (rintro ⟨a, b, c, d, e⟩; omega) | (rintro ⟨a, b, c, d, e⟩; contradiction)) (by first | (rintro ⟨a, b, c⟩; omega) | (rintro ⟨a, b, c⟩; contradiction))
        · try simp only [decide_eq_true_eq, decide_eq_false_iff_not, beq_iff_eq, beq_eq_false_iff_ne, bne_iff_ne, bne_eq_false_iff_eq, Bool.not_eq_true', Bool.not_eq_false', Bool.not_eq_true, Bool.not_eq_false, ne_eq, Bool.and_eq_true, Bool.or_eq_true, Bool.and_eq_false_iff, Bool.or_eq_false_iff, reduceCtorEq, Int.not_lt, Int.not_le] at h8
          intro h9
          refine ⟨fun h10 => ?_, fun h10 => ?_⟩
          · try simp only [decide_eq_true_eq, decide_eq_false_iff_not, beq_iff_eq, beq_eq_false_iff_ne, bne_iff_ne, bne_eq_false_iff_eq, Bool.not_eq_true', Bool.not_eq_false', Bool.not_eq_true, Bool.not_eq_false, ne_eq, Bool.and_eq_true, Bool.or_eq_true, Bool.and_eq_false_iff, Bool.or_eq_false_iff, reduceCtorEq, Int.not_lt, Int.not_le] at h10
            exact find_none (by omega) h5.2 (by first | (rintro ⟨a, b, c, d, e⟩; omega) | (rintro ⟨a, b, c, d, e⟩; contradiction)) (by first | (rintro ⟨a, b, c⟩; omega) | (rintro ⟨a, b, c⟩; contradiction))
          · try simp only [decide_eq_true_eq, decide_eq_false_iff_not, beq_iff_eq, beq_eq_false_iff_ne, bne_iff_ne, bne_eq_false_iff_eq, Bool.not_eq_true', Bool.not_eq_false', Bool.not_eq_true, Bool.not_eq_false, ne_eq, Bool.and_eq_true, Bool.or_eq_true, Bool.and_eq_false_iff, Bool.or_eq_false_iff, reduceCtorEq, Int.not_lt, Int.not_le] at h10
            refine ⟨?_, ?_⟩
            · first | exact True.intro | rfl | omega | assumption | (simp only [I64, big] at *; omega) | (simp_all; done)
            refine ⟨fun h11 => ?_, fun h11 => ?_⟩
            · try simp only [decide_eq_true_eq, decide_eq_false_iff_not, beq_iff_eq, beq_eq_false_iff_ne, bne_iff_ne, bne_eq_false_iff_eq, Bool.not_eq_true', Bool.not_eq_false', Bool.not_eq_true, Bool.not_eq_false, ne_eq, Bool.and_eq_true, Bool.or_eq_true, Bool.and_eq_false_iff, Bool.or_eq_false_iff, reduceCtorEq, Int.not_lt, Int.not_le] at h11
              exact find_none (by omega) h5.2 (by first | (rintro ⟨a, b, c, d, e⟩; omega) | (rintro ⟨a, b, c, d, e⟩; contradiction)) (by first | (rintro ⟨a, b, c⟩; omega) | (rintro ⟨a, b, c⟩; contradiction))
            · try simp only [decide_eq_true_eq, decide_eq_false_iff_not, beq_iff_eq, beq_eq_false_iff_ne, bne_iff_ne, bne_eq_false_iff_eq, Bool.not_eq_true', Bool.not_eq_false', Bool.not_eq_true, Bool.not_eq_false, ne_eq, Bool.and_eq_true, Bool.or_eq_true, Bool.and_eq_false_iff, Bool.or_eq_false_iff, reduceCtorEq, Int.not_lt, Int.not_le] at h11
              exact find_some (by omega) h5.2 (by first | (rintro ⟨a, b, c, d, e⟩; omega) | (rintro ⟨a, b, c, d, e⟩; contradiction)) (by omega) (by omega) (by assumption)
      · try simp only [decide_eq_true_eq, decide_eq_false_iff_not, beq_iff_eq, beq_eq_false_iff_ne, bne_iff_ne, bne_eq_false_iff_eq, Bool.not_eq_true', Bool.not_eq_false', Bool.not_eq_true, Bool.not_eq_false, ne_eq, Bool.and_eq_true, Bool.or_eq_true, Bool.and_eq_false_iff, Bool.or_eq_false_iff, reduceCtorEq, Int.not_lt, Int.not_le] at h7
        intro h8
        refine ⟨fun h9 => ?_, fun h9 => ?_⟩
        · try simp only [decide_eq_true_eq, decide_eq_false_iff_not, beq_iff_eq, beq_eq_false_iff_ne, bne_iff_ne, bne_eq_false_iff_eq, Bool.not_eq_true', Bool.not_eq_false', Bool.not_eq_true, Bool.not_eq_false, ne_eq, Bool.and_eq_true, Bool.or_eq_true, Bool.and_eq_false_iff, Bool.or_eq_false_iff, reduceCtorEq, Int.not_lt, Int.not_le] at h9
          refine ⟨fun h10 => ?_, fun h10 => ?_⟩
          · try simp only [decide_eq_true_eq, decide_eq_false_iff_not, beq_iff_eq, beq_eq_false_iff_ne, bne_iff_ne, bne_eq_false_iff_eq, Bool.not_eq_true', Bool.not_eq_false', Bool.not_eq_true, Bool.not_eq_false, ne_eq, Bool.and_eq_true, Bool.or_eq_true, Bool.and_eq_false_iff, Bool.or_eq_false_iff, reduceCtorEq, Int.not_lt, Int.not_le] at h10
            exact find_none (by omega) h5.2 (by first | (rintro ⟨a, b, c, d, e⟩; omega) | (rintro ⟨a, b, c, d, e⟩; contradiction)) (by first | (rintro ⟨a, b, c⟩; omega) | (rintro ⟨a, b, c⟩; contradiction))
          · try simp only [decide_eq_true_eq, decide_eq_false_iff_not, beq_iff_eq, beq_eq_false_iff_ne, bne_iff_ne, bne_eq_false_iff_eq, Bool.not_eq_true', Bool.not_eq_false', Bool.not_eq_true, Bool.not_eq_false, ne_eq, Bool.and_eq_true, Bool.or_eq_true, Bool.and_eq_false_iff, Bool.or_eq_false_iff, reduceCtorEq, Int.not_lt, Int.not_le] at h10
            intro h11
            refine ⟨fun h12 => ?_, fun h12 => ?_⟩
            · try simp only [decide_eq_true_eq, decide_eq_false_iff_not, beq_iff_eq, beq_eq_false_iff_ne, bne_iff_ne, bne_eq_false_iff_eq, Bool.not_eq_true', Bool.not_eq_false', Bool.not_eq_true, Bool.not_eq_false, ne_eq, Bool.and_eq_true, Bool.or_eq_true, Bool.and_eq_false_iff, Bool.or_eq_false_iff, reduceCtorEq, Int.not_lt, Int.not_le] at h12
              exact find_none (by omega) h5.2 (by first | (rintro ⟨a, b, c, d, e⟩; omega) | (rintro ⟨a, b, c, d, e⟩; contradiction)) (by first | (rintro ⟨a, b, c⟩; omega) | (rintro ⟨a, b, c⟩; contradiction))
            · try simp only [decide_eq_true_eq, decide_eq_false_iff_not, beq_iff_eq, beq_eq_false_iff_ne, bne_iff_ne, bne_eq_false_iff_eq, Bool.not_eq_true', Bool.not_eq_false', Bool.not_eq_true, Bool.not_eq_false, ne_eq, Bool.and_eq_true, Bool.or_eq_true, Bool.and_eq_false_iff, Bool.or_eq_false_iff, reduceCtorEq, Int.not_lt, Int.not_le] at h12
              refine ⟨?_, ?_⟩
              · first | exact True.intro | rfl | omega | assumption | (simp only [I64, big] at *; omega) | (simp_all; done)
              refine ⟨fun h13 => ?_, fun h13 => ?_⟩
              · try simp only [decide_eq_true_eq, decide_eq_false_iff_not, beq_iff_eq, beq_eq_false_iff_ne, bne_iff_ne, bne_eq_false_iff_eq, Bool.not_eq_true', Bool.not_eq_false', Bool.not_eq_true, Bool.not_eq_false, ne_eq, Bool.and_eq_true, Bool.or_eq_true, Bool.and_eq_false_iff, Bool.or_eq_false_iff, reduceCtorEq, Int.not_lt, Int.not_le] at h13
                exact find_none (by omega) h5.2 (by first | (rintro ⟨a, b, c, d, e⟩; omega) | (rintro ⟨a, b, c, d, e⟩; contradiction)) (by first | (rintro ⟨a, b, c⟩; omega) | (rintro ⟨a, b, c⟩; contradiction))
              · try simp only [decide_eq_true_eq, decide_eq_false_iff_not, beq_iff_eq, beq_eq_false_iff_ne, bne_iff_ne, bne_eq_false_iff_eq, Bool.not_eq_true', Bool.not_eq_false', Bool.not_eq_true, Bool.not_eq_false, ne_eq, Bool.and_eq_true, Bool.or_eq_true, Bool.and_eq_false_iff, Bool.or_eq_false_iff, reduceCtorEq, Int.not_lt, Int.not_le] at h13
                exact find_some (by omega) h5.2 (by first | (rintro ⟨a, b, c, d, e⟩; omega) | (rintro ⟨a, b, c, d, e⟩; contradiction)) (by omega) (by omega) (by assumption)
        · try simp only [decide_eq_true_eq, decide_eq_false_iff_not, beq_iff_eq, beq_eq_false_iff_ne, bne_iff_ne, bne_eq_false_iff_eq, Bool.not_eq_true', Bool.not_eq_false', Bool.not_eq_true, Bool.not_eq_false, ne_eq, Bool.and_eq_true, Bool.or_eq_true, Bool.and_eq_false_iff, Bool.or_eq_false_iff, reduceCtorEq, Int.not_lt, Int.not_le] at h9
          intro h10
          refine ⟨fun h11 => ?_, fun h11 => ?_⟩
          · try simp only [decide_eq_true_eq, decide_eq_false_iff_not, beq_iff_eq, beq_eq_false_iff_ne, bne_iff_ne, bne_eq_false_iff_eq, Bool.not_eq_true', Bool.not_eq_false', Bool.not_eq_true, Bool.not_eq_false, ne_eq, Bool.and_eq_true, Bool.or_eq_true, Bool.and_eq_false_iff, Bool.or_eq_false_iff, reduceCtorEq, Int.not_lt, Int.not_le] at h11
            refine ⟨fun h12 => ?_, fun h12 => ?_⟩
            · try simp only [decide_eq_true_eq, decide_eq_false_iff_not, beq_iff_eq, beq_eq_false_iff_ne, bne_iff_ne, bne_eq_false_iff_eq, Bool.not_eq_true', Bool.not_eq_false', Bool.not_eq_true, Bool.not_eq_false, ne_eq, Bool.and_eq_true, Bool.or_eq_true, Bool.and_eq_false_iff, Bool.or_eq_false_iff, reduceCtorEq, Int.not_lt, Int.not_le] at h12
              exact find_none (by omega) h5.2 (by first | (rintro ⟨a, b, c, d, e⟩; omega) | (rintro ⟨a, b, c, d, e⟩; contradiction)) (by first | (rintro ⟨a, b, c⟩; omega) | (rintro ⟨a, b, c⟩; contradiction))
            · try simp only [decide_eq_true_eq, decide_eq_false_iff_not, beq_iff_eq, beq_eq_false_iff_ne, bne_iff_ne, bne_eq_false_iff_eq, Bool.not_eq_true', Bool.not_eq_false', Bool.not_eq_true, Bool.not_eq_false, ne_eq, Bool.and_eq_true, Bool.or_eq_true, Bool.and_eq_false_iff, Bool.or_eq_false_iff, reduceCtorEq, Int.not_lt, Int.not_le] at h12
              intro h13
              refine ⟨fun h14 => ?_, fun h14 => ?_⟩
              · try simp only [decide_eq_true_eq, decide_eq_false_iff_not, beq_iff_eq, beq_eq_false_iff_ne, bne_iff_ne, bne_eq_false_iff_eq, Bool.not_eq_true', Bool.not_eq_false', Bool.not_eq_true, Bool.not_eq_false, ne_eq, Bool.and_eq_true, Bool.or_eq_true, Bool.and_eq_false_iff, Bool.or_eq_false_iff, reduceCtorEq, Int.not_lt, Int.not_le] at h14
                exact find_none (by omega) h5.2 (by first | (rintro ⟨a, b, c, d, e⟩; omega) | (rintro ⟨a, b, c, d, e⟩; contradiction)) (by first | (rintro ⟨a, b, c⟩; omega) | (rintro ⟨a, b, c⟩; contradiction))
              · try simp only [decide_eq_true_eq, decide_eq_false_iff_not, beq_iff_eq, beq_eq_false_iff_ne, bne_iff_ne, bne_eq_false_iff_eq, Bool.not_eq_true', Bool.not_eq_false', Bool.not_eq_true, Bool.not_eq_false, ne_eq, Bool.and_eq_true, Bool.or_eq_true, Bool.and_eq_false_iff, Bool.or_eq_false_iff, reduceCtorEq, Int.not_lt, Int.not_le] at h14
                refine ⟨?_, ?_⟩
                · first | exact True.intro | rfl | omega | assumption | (simp only [I64, big] at *; omega) | (simp_all; done)
                refine ⟨fun h15 => ?_, fun h15 => ?_⟩
                · try simp only [decide_eq_true_eq, decide_eq_false_iff_not, beq_iff_eq, beq_eq_false_iff_ne, bne_iff_ne, bne_eq_false_iff_eq, Bool.not_eq_true', Bool.not_eq_false', Bool.not_eq_true, Bool.not_eq_false, ne_eq, Bool.and_eq_true, Bool.or_eq_true, Bool.and_eq_false_iff, Bool.or_eq_false_iff, reduceCtorEq, Int.not_lt, Int.not_le] at h15
                  exact find_none (by omega) h5.2 (by first | (rintro ⟨a, b, c, d, e⟩; omega) | (rintro ⟨a, b, c, d, e⟩; contradiction)) (by first | (rintro ⟨a, b, c⟩; omega) | (rintro ⟨a, b, c⟩; contradiction))
                · try simp only [decide_eq_true_eq, decide_eq_false_iff_not, beq_iff_eq, beq_eq_false_iff_ne, bne_iff_ne, bne_eq_false_iff_eq, Bool.not_eq_true', Bool.not_eq_false', Bool.not_eq_true, Bool.not_eq_false, ne_eq, Bool.and_eq_true, Bool.or_eq_true, Bool.and_eq_false_iff, Bool.or_eq_false_iff, reduceCtorEq, Int.not_lt, Int.not_le] at h15
                  exact find_some (by omega) h5.2 (by first | (rintro ⟨a, b, c, d, e⟩; omega) | (rintro ⟨a, b, c, d, e⟩; contradiction)) (by omega) (by omega) (by assumption)
          · try simp only [decide_eq_true_eq, decide_eq_false_iff_not, beq_iff_eq, beq_eq_false_iff_ne, bne_iff_ne, bne_eq_false_iff_eq, Bool.not_eq_true', Bool.not_eq_false', Bool.not_eq_true, Bool.not_eq_false, ne_eq, Bool.and_eq_true, Bool.or_eq_true, Bool.and_eq_false_iff, Bool.or_eq_false_iff, reduceCtorEq, Int.not_lt, Int.not_le] at h11
            refine ⟨?_, ?_⟩
            · first | exact True.intro | rfl | omega | assumption | (simp only [I64, big] at *; omega) | (simp_all; done)
            refine ⟨fun h12 => ?_, fun h12 => ?_⟩
            · try simp only [decide_eq_true_eq, decide_eq_false_iff_not, beq_iff_eq, beq_eq_false_iff_ne, bne_iff_ne, bne_eq_false_iff_eq, Bool.not_eq_true', Bool.not_eq_false', Bool.not_eq_true, Bool.not_eq_false, ne_eq, Bool.and_eq_true, Bool.or_eq_true, Bool.and_eq_false_iff, Bool.or_eq_false_iff, reduceCtorEq, Int.not_lt, Int.not_le] at h12
              refine ⟨fun h13 => ?_, fun h13 => ?_⟩
              · try simp only [decide_eq_true_eq, decide_eq_false_iff_not, beq_iff_eq, beq_eq_false_iff_ne, bne_iff_ne, bne_eq_false_iff_eq, Bool.not_eq_true', Bool.not_eq_false', Bool.not_eq_true, Bool.not_eq_false, ne_eq, Bool.and_eq_true, Bool.or_eq_true, Bool.and_eq_false_iff, Bool.or_eq_false_iff, reduceCtorEq, Int.not_lt, Int.not_le] at h13
                exact find_none (by omega) h5.2 (by first | (rintro ⟨a, b, c, d, e⟩; omega) | (rintro ⟨a, b, c, d, e⟩; contradiction)) (by first | (rintro ⟨a, b, c⟩; omega) | (rintro ⟨a, b, c⟩; contradiction))
              · try simp only [decide_eq_true_eq, decide_eq_false_iff_not, beq_iff_eq, beq_eq_false_iff_ne, bne_iff_ne, bne_eq_false_iff_eq, Bool.not_eq_true', Bool.not_eq_false', Bool.not_eq_true, Bool.not_eq_false, ne_eq, Bool.and_eq_true, Bool.or_eq_true, Bool.and_eq_false_iff, Bool.or_eq_false_iff, reduceCtorEq, Int.not_lt, Int.not_le] at h13
                intro h14
                refine ⟨fun h15 => ?_, fun h15 => ?_⟩
                · try simp only [decide_eq_true_eq, decide_eq_false_iff_not, beq_iff_eq, beq_eq_false_iff_ne, bne_iff_ne, bne_eq_false_iff_eq, Bool.not_eq_true', Bool.not_eq_false', Bool.not_eq_true, Bool.not_eq_false, ne_eq, Bool.and_eq_true, Bool.or_eq_true, Bool.and_eq_false_iff, Bool.or_eq_false_iff, reduceCtorEq, Int.not_lt, Int.not_le] at h15
                  exact find_none (by omega) h5.2 (by first | (rintro ⟨a, b, c, d, e⟩; omega) | (rintro ⟨a, b, c, d, e⟩; contradiction)) (by first | (rintro ⟨a, b, c⟩; omega) | (rintro ⟨a, b, c⟩; contradiction))
                · try simp only [decide_eq_true_eq, decide_eq_false_iff_not, beq_iff_eq, beq_eq_false_iff_ne, bne_iff_ne, bne_eq_false_iff_eq, Bool.not_eq_true', Bool.not_eq_false', Bool.not_eq_true, Bool.not_eq_false, ne_eq, Bool.and_eq_true, Bool.or_eq_true, Bool.and_eq_false_iff, Bool.or_eq_false_iff, reduceCtorEq, Int.not_lt, Int.not_le] at h15
                  refine ⟨?_, ?_⟩
                  · first | exact True.intro | rfl | omega | assumption | (simp only [I64, big] at *; omega) | (simp_all; done)
                  refine ⟨fun h16 => ?_, fun h16 => ?_⟩
                  · try simp only [decide_eq_true_eq, decide_eq_false_iff_not, beq_iff_eq, beq_eq_false_iff_ne, bne_iff_ne, bne_eq_false_iff_eq, Bool.not_eq_true', Bool.not_eq_false', Bool.not_eq_true, Bool.not_eq_false, ne_eq, Bool.and_eq_true, Bool.or_eq_true, Bool.and_eq_false_iff, Bool.or_eq_false_iff, reduceCtorEq, Int.not_lt, Int.not_le] at h16
                    exact find_none (by omega) h5.2 (by first | (rintro ⟨a, b, c, d, e⟩; omega) | (rintro ⟨a, b, c, d, e⟩; contradiction)) (by first | (rintro ⟨a, b, c⟩; omega) | (rintro ⟨a, b, c⟩; contradiction))
                  · try simp only [decide_eq_true_eq, decide_eq_false_iff_not, beq_iff_eq, beq_eq_false_iff_ne, bne_iff_ne, bne_eq_false_iff_eq, Bool.not_eq_true', Bool.not_eq_false', Bool.not_eq_true, Bool.not_eq_false, ne_eq, Bool.and_eq_true, Bool.or_eq_true, Bool.and_eq_false_iff, Bool.or_eq_false_iff, reduceCtorEq, Int.not_lt, Int.not_le] at h16
                    exact find_some (by omega) h5.2 (by first | (rintro ⟨a, b, c, d, e⟩; omega) | (rintro ⟨a, b, c, d, e⟩; contradiction)) (by omega) (by omega) (by assumption)
            · try simp only [decide_eq_true_eq, decide_eq_false_iff_not, beq_iff_eq, beq_eq_false_iff_ne, bne_iff_ne, bne_eq_false_iff_eq, Bool.not_eq_true', Bool.not_eq_false', Bool.not_eq_true, Bool.not_eq_false, ne_eq, Bool.and_eq_true, Bool.or_eq_true, Bool.and_eq_false_iff, Bool.or_eq_false_iff, reduceCtorEq, Int.not_lt, Int.not_le] at h12
              refine ⟨?_, ?_⟩
              · first | exact True.intro | rfl | omega | assumption | (simp only [I64, big] at *; omega) | (simp_all; done)
              intro h13
              intro h14
              refine ⟨?_, ?_⟩
              · first | exact True.intro | rfl | omega | assumption | (simp only [I64, big] at *; omega) | (simp_all; done)
              have hg := h5.2
              rw [show l.length - x_1.1 = (l.length - (x_1.1 + 1)) + 1 by omega, chase_go (by simp [nameIs]; exact ⟨by omega, by omega, by omega, by assumption⟩)] at hg
              exact ⟨(x_1.1 + 1, _), ⟨by omega, hg⟩, by omega, ⟨by omega, rfl, trivial⟩, (by repeat' (first | exact trivial | rfl | apply And.intro))⟩
    · try simp only [decide_eq_true_eq, decide_eq_false_iff_not, beq_iff_eq, beq_eq_false_iff_ne, bne_iff_ne, bne_eq_false_iff_eq, Bool.not_eq_true', Bool.not_eq_false', Bool.not_eq_true, Bool.not_eq_false, ne_eq, Bool.and_eq_true, Bool.or_eq_true, Bool.and_eq_false_iff, Bool.or_eq_false_iff, reduceCtorEq, Int.not_lt, Int.not_le] at h6
      refine ⟨fun h7 => ?_, fun h7 => ?_⟩
      · try simp only [decide_eq_true_eq, decide_eq_false_iff_not, beq_iff_eq, beq_eq_false_iff_ne, bne_iff_ne, bne_eq_false_iff_eq, Bool.not_eq_true', Bool.not_eq_false', Bool.not_eq_true, Bool.not_eq_false, ne_eq, Bool.and_eq_true, Bool.or_eq_true, Bool.and_eq_false_iff, Bool.or_eq_false_iff, reduceCtorEq, Int.not_lt, Int.not_le] at h7
        exact find_none (by omega) h5.2 (by first | (rintro ⟨a, b, c, d, e⟩; omega) | (rintro ⟨a, b, c, d, e⟩; contradiction)) (by first | (rintro ⟨a, b, c⟩; omega) | (rintro ⟨a, b, c⟩; contradiction))
      · try simp only [decide_eq_true_eq, decide_eq_false_iff_not, beq_iff_eq, beq_eq_false_iff_ne, bne_iff_ne, bne_eq_false_iff_eq, Bool.not_eq_true', Bool.not_eq_false', Bool.not_eq_true, Bool.not_eq_false, ne_eq, Bool.and_eq_true, Bool.or_eq_true, Bool.and_eq_false_iff, Bool.or_eq_false_iff, reduceCtorEq, Int.not_lt, Int.not_le] at h7
        intro h8
        refine ⟨fun h9 => ?_, fun h9 => ?_⟩
        · try simp only [decide_eq_true_eq, decide_eq_false_iff_not, beq_iff_eq, beq_eq_false_iff_ne, bne_iff_ne, bne_eq_false_iff_eq, Bool.not_eq_true', Bool.not_eq_false', Bool.not_eq_true, Bool.not_eq_false, ne_eq, Bool.and_eq_true, Bool.or_eq_true, Bool.and_eq_false_iff, Bool.or_eq_false_iff, reduceCtorEq, Int.not_lt, Int.not_le] at h9
          exact find_none (by omega) h5.2 (by first | (rintro ⟨a, b, c, d, e⟩; omega) | (rintro ⟨a, b, c, d, e⟩; contradiction)) (by first | (rintro ⟨a, b, c⟩; omega) | (rintro ⟨a, b, c⟩; contradiction))
        · try simp only [decide_eq_true_eq, decide_eq_false_iff_not, beq_iff_eq, beq_eq_false_iff_ne, bne_iff_ne, bne_eq_false_iff_eq, Bool.not_eq_true', Bool.not_eq_false', Bool.not_eq_true, Bool.not_eq_false, ne_eq, Bool.and_eq_true, Bool.or_eq_true, Bool.and_eq_false_iff, Bool.or_eq_false_iff, reduceCtorEq, Int.not_lt, Int.not_le] at h9
          refine ⟨?_, ?_⟩
          · first | exact True.intro | rfl | omega | assumption | (simp only [I64, big] at *; omega) | (simp_all; done)
          refine ⟨fun h10 => ?_, fun h10 => ?_⟩
          · try simp only [decide_eq_true_eq, decide_eq_false_iff_not, beq_iff_eq, beq_eq_false_iff_ne, bne_iff_ne, bne_eq_false_iff_eq, Bool.not_eq_true', Bool.not_eq_false', Bool.not_eq_true, Bool.not_eq_false, ne_eq, Bool.and_eq_true, Bool.or_eq_true, Bool.and_eq_false_iff, Bool.or_eq_false_iff, reduceCtorEq, Int.not_lt, Int.not_le] at h10
            exact find_none (by omega) h5.2 (by first | (rintro ⟨a, b, c, d, e⟩; omega) | (rintro ⟨a, b, c, d, e⟩; contradiction)) (by first | (rintro ⟨a, b, c⟩; omega) | (rintro ⟨a, b, c⟩; contradiction))
          · try simp only [decide_eq_true_eq, decide_eq_false_iff_not, beq_iff_eq, beq_eq_false_iff_ne, bne_iff_ne, bne_eq_false_iff_eq, Bool.not_eq_true', Bool.not_eq_false', Bool.not_eq_true, Bool.not_eq_false, ne_eq, Bool.and_eq_true, Bool.or_eq_true, Bool.and_eq_false_iff, Bool.or_eq_false_iff, reduceCtorEq, Int.not_lt, Int.not_le] at h10
            exact find_some (by omega) h5.2 (by first | (rintro ⟨a, b, c, d, e⟩; omega) | (rintro ⟨a, b, c, d, e⟩; contradiction)) (by omega) (by omega) (by assumption)
theorem Try.ok_Find : PureOK Try.prog Try.B.eT 17 [tTable, .slice tSymbol, .str] [.int .i64] (fun x => x.1.1.length ≤ 40) (fun x y => y = (fun x => findF x) x) :=
  pure_fn (X := noExt) Try.nameCtxOK Try.func17 (by kernel_rfl) (fun x => findAnn x.1 x.2.1 x.2.2) (fun x hw hp => vc_Find x.1 x.2.1 x.2.2 hw hp)
def Try.tableCtx : List (FuncId × (Bool × CSpec)) := [(44, (true, funSpec [.str] [.err] (fun _ => True) (fun s => errNo (nameFault s)))),
  (18, (true, funSpec [.str] [.int .u32] (fun _ => True) (fun s => (hashF s : Int)))),
  (22, (true, funSpec [.err] [.int .i64] (fun _ => True) (fun e => numE e))),
  (16, (true, treeSpec [.slice tSymbol, .int .i64] [tTable, .err] (fun _ => True) makeT)),
  (17, (true, funSpec [tTable, .slice tSymbol, .str] [.int .i64] (fun x => x.1.1.length ≤ 40) (fun x => findF x)))]
theorem Try.tableCtxOK {X : Ext} : CtxOK Try.prog Try.B X Try.tableCtx :=
  ctx1 (callOK_of_fun Try.ok_Check) (ctx1 (callOK_of_fun Try.ok_Hash) (ctx1 (callOK_of_fun Try.ok_number) (ctx1 (callOK_of_tree (PureOK.of_eq Try.ok_Make fun x => makeT_eval x)) (ctx1 (callOK_of_fun Try.ok_Find) (ctx0 Try.tyOK)))))
end Go.Proofs.Ytgokjhhcfemnhab

