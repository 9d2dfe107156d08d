/- A part of the proof that the law TopApart holds of the given program: facts that are used there. -/
import Derived.Test.YtgokjhhcfemnhabPlace
import Derived.Test.YtgokjhhcfemnhabRSame
import Derived.Test.YtgokjhhcfemnhabMrl12
import Derived.Test.YtgokjhhcfemnhabRows
set_option linter.unusedSimpArgs false
set_option linter.unusedVariables false
namespace Go.Proofs.Ytgokjhhcfemnhab
open Go.Vg Go.Mrl
/-! The law TopApart. -/
noncomputable def Try.lapartCtx : List (FuncId × (Bool × CSpec)) := [(44, (true, funSpec [.str] [.err] (fun _ => True) (fun s => errNo (nameFault s)))),
  (18, (true, funSpec [.str] [.int .u32] (fun _ => True) (fun s => (hashF s : Int)))),
  (22, (true, funSpec [.err] [.int .i64] (fun _ => True) (fun e => numE e))),
  (20, (true, funSpec [.int .i64] [.int .i64] (fun n => 0 ≤ n ∧ n ≤ 1000000) (fun n => roundF n))),
  (21, (true, funSpec [tRange, tRange] [.bool] (fun x => bnd x.1 ∧ bnd x.2) (fun x => apartF x.1 x.2))),
  (36, (true, funSpec [tRange, .slice tRange] [.bool] (fun x => bnd x.1 ∧ ∀ y ∈ x.2, bnd y) (fun x => freeF x.1 x.2))),
  (19, (true, funSpec [.slice (.int .i64), .slice tRange] [.slice (.int .i64), .err] (fun _ => True) (fun x => basesF x))),
  (12, (true, funSpec [.slice (.int .i64), .slice (.int .i64)] [.bool] (fun _ => True) (fun x => sameI x.1 x.2)))]
theorem Try.lapartCtxOK {X : Ext} : CtxOK Try.prog Try.B X Try.lapartCtx :=
  ctx1 (callOK_of_fun Try.ok_Check) (ctx1 (callOK_of_fun Try.ok_Hash) (ctx1 (callOK_of_fun Try.ok_number) (ctx1 (callOK_of_fun Try.ok_Round) (ctx1 (callOK_of_fun Try.ok_Apart) (ctx1 (callOK_of_fun Try.ok_free) (ctx1 (callOK_of_fun Try.ok_Bases) (ctx1 (callOK_of_fun Try.ok_SameNumbers) (ctx0 Try.tyOK))))))))
def taAnn (s : List Int) (l : List (D tRange)) : Anns := [
  (0, fun st => { X := Nat × List (D tRange), inv := fun x => x.1 ≤ s.length ∧ goBases x.2 (s.drop x.1) ((basesF (s, l)).1.take x.1) = some (basesF (s, l)).1 ∧ (∀ y ∈ x.2, okR y) ∧ x.2.length = l.length + x.1, meas := fun x => s.length - x.1, slots := fun x => [(8, sI x.1), (7, .s (.one (.app tRange x.2 (objOf st 7))))], objs := fun x => [(objOf st 7, .tok tRange x.2)], keep := [0, 5], mods := [objOf st 7] }),
  (2, fun st => { X := Nat, inv := fun j => 16 * (j : Int) ≤ (nth (.int .i64) (basesF (s, l)).1 (tmpD (.int .i64) st 8).toNat : Int) + 16, meas := fun j => 40 - j, slots := fun j => [(10, sI (16 * (j : Int)))], keep := [0, 5, 7, 8, 9, 52, 53, 54, 55, 58, 59, 60, 61, 62, 63, 64, 65, 66, 67, 68, 69, 70, 71, 72, 73, 74, 75, 76, 77, 78, 79, 80, 81, 82, 83, 84, 85, 86, 87, 88, 89, 90, 91, 92, 93, 94, 95, 96, 97, 98, 99, 100, 101] }),
  (4, fun st => { X := Nat, inv := fun k => k ≤ (tmpD (.slice tRange) st 7).length, meas := fun k => (tmpD (.slice tRange) st 7).length - k, slots := fun k => [(12, sI k), (11, sB (freeF (tmpD (.int .i64) st 10, tmpD (.int .i64) st 9, ()) ((tmpD (.slice tRange) st 7).take k)))], keep := [0, 4, 5, 7, 8, 9, 10, 52, 53, 54, 55, 58, 59, 60, 61, 62, 63, 64, 65, 66, 67, 68, 69, 70, 71, 72, 73, 74, 75, 76, 77, 78, 79, 80, 81, 82, 83, 84, 85, 86, 87, 88, 89, 90, 91, 92, 93, 94, 95, 96, 97, 98, 99, 100, 101, 102, 103, 104, 105, 106, 107] })]
set_option maxRecDepth 100000 in
set_option maxHeartbeats 1000000 in
theorem vc_TopApart (s : List Int) (l : List (D tRange)) (hw : wfL [.slice (.int .i64), .slice tRange] (s, l)) : (fnVCs (hintB Try.B [51]) Try.lapartCtx Try.f7 (taAnn s l) [.slice (.int .i64), .slice tRange] [.bool] (fun _ y => y = true) (s, l)).holds := by
  refine holds_of (p :=
    (True) ∧
      (((!Err.isNil Err.nil) = true →
        (false = true)) ∧
      ((!Err.isNil Err.nil) = false →
        (True) ∧
        (((!sameI (@List.nil Int ++ [baseAt (@List.nil (Int × Int × Unit)) (roundF (1 : Int)) (40 : Nat) (0 : Int)] ++ [baseAt (@List.nil (Int × Int × Unit) ++ [(baseAt (@List.nil (Int × Int × Unit)) (roundF (1 : Int)) (40 : Nat) (0 : Int), roundF (1 : Int), ())]) (roundF (1 : Int)) (40 : Nat) (0 : Int)]) [(0 : Int), (16 : Int)]) = true →
          (false = true)) ∧
        ((!sameI (@List.nil Int ++ [baseAt (@List.nil (Int × Int × Unit)) (roundF (1 : Int)) (40 : Nat) (0 : Int)] ++ [baseAt (@List.nil (Int × Int × Unit) ++ [(baseAt (@List.nil (Int × Int × Unit)) (roundF (1 : Int)) (40 : Nat) (0 : Int), roundF (1 : Int), ())]) (roundF (1 : Int)) (40 : Nat) (0 : Int)]) [(0 : Int), (16 : Int)]) = false →
          ((List.length s ≤ big) →
          (((decide ((↑(List.length s) : Int) > (10 : Int))) = true →
            (true = true)) ∧
          ((decide ((↑(List.length s) : Int) > (10 : Int))) = false →
            ((List.length l ≤ big) →
            (((decide ((↑(List.length l) : Int) > (20 : Int))) = true →
              (true = true)) ∧
            ((decide ((↑(List.length l) : Int) > (20 : Int))) = false →
              (True) ∧
              (((!Err.isNil (basesF (s, l)).snd) = true →
                ((List.length (basesF (s, l)).fst ≤ big) →
                (((↑(List.length (basesF (s, l)).fst) : Int) == (0 : Int)) = true))) ∧
              ((!Err.isNil (basesF (s, l)).snd) = false →
                ((List.length (basesF (s, l)).fst ≤ big) →
                ((List.length s ≤ big) →
                ((((↑(List.length (basesF (s, l)).fst) : Int) != (↑(List.length s) : Int)) = true →
                  (false = true)) ∧
                (((↑(List.length (basesF (s, l)).fst) : Int) != (↑(List.length s) : Int)) = false →
                  (List.length l ≤ (1000000000 : Nat)) ∧
                  (∃ (x : Nat × List (Int × Int × Unit)), (x.fst ≤ List.length s ∧ goBases x.snd (List.drop x.fst s) (List.take x.fst (basesF (s, l)).fst) = some (basesF (s, l)).fst ∧ (∀ (y : Int × Int × Unit), y ∈ x.snd → okR y) ∧ List.length x.snd = List.length l + x.fst) ∧ ((0 : Int) = (↑x.fst : Int) ∧ l = x.snd ∧ True) ∧ l = x.snd ∧ True) ∧
                  (∀ x_0 : Nat × List (Int × Int × Unit),
                  ((x_0.fst ≤ List.length s ∧ goBases x_0.snd (List.drop x_0.fst s) (List.take x_0.fst (basesF (s, l)).fst) = some (basesF (s, l)).fst ∧ (∀ (y : Int × Int × Unit), y ∈ x_0.snd → okR y) ∧ List.length x_0.snd = List.length l + x_0.fst) →
                  ((List.length (basesF (s, l)).fst ≤ big) →
                  (((decide ((↑x_0.fst : Int) < (↑(List.length (basesF (s, l)).fst) : Int))) = true →
                    ((0 : Int) ≤ (↑x_0.fst : Int) ∧ (↑x_0.fst : Int) < (↑(List.length s) : Int)) ∧
                    ((0 : Int) ≤ nth (Ty.int IntKind.i64) s x_0.fst ∧ nth (Ty.int IntKind.i64) s x_0.fst ≤ (1000000 : Int)) ∧
                    ((0 : Int) ≤ (↑x_0.fst : Int) ∧ (↑x_0.fst : Int) < (↑(List.length (basesF (s, l)).fst) : Int)) ∧
                    (((decide (nth (Ty.int IntKind.i64) (basesF (s, l)).fst x_0.fst < (0 : Int))) = true →
                      (false = true)) ∧
                    ((decide (nth (Ty.int IntKind.i64) (basesF (s, l)).fst x_0.fst < (0 : Int))) = false →
                      ((0 : Int) ≤ (↑x_0.fst : Int) ∧ (↑x_0.fst : Int) < (↑(List.length (basesF (s, l)).fst) : Int)) ∧
                      ((16 : Int) ≠ (0 : Int)) ∧
                      (∀ x_1 : Int,
                      ((x_1 = Int.tmod (nth (Ty.int IntKind.i64) (basesF (s, l)).fst x_0.fst) (16 : Int)) →
                      (((x_1 != (0 : Int)) = true →
                        (false = true)) ∧
                      ((x_1 != (0 : Int)) = false →
                        ((0 : Int) ≤ (↑x_0.fst : Int) ∧ (↑x_0.fst : Int) < (↑(List.length s) : Int)) ∧
                        (((decide (roundF (nth (Ty.int IntKind.i64) s x_0.fst) < nth (Ty.int IntKind.i64) s x_0.fst)) = true →
                          (false = true)) ∧
                        ((decide (roundF (nth (Ty.int IntKind.i64) s x_0.fst) < nth (Ty.int IntKind.i64) s x_0.fst)) = false →
                          ((0 : Int) ≤ (↑x_0.fst : Int) ∧ (↑x_0.fst : Int) < (↑(List.length s) : Int)) ∧
                          ((I64 (nth (Ty.int IntKind.i64) s x_0.fst)) →
                          ((I64 (16 : Int)) →
                          (I64 (nth (Ty.int IntKind.i64) s x_0.fst + (16 : Int))) ∧
                          (((decide (roundF (nth (Ty.int IntKind.i64) s x_0.fst) ≥ nth (Ty.int IntKind.i64) s x_0.fst + (16 : Int))) = true →
                            (false = true)) ∧
                          ((decide (roundF (nth (Ty.int IntKind.i64) s x_0.fst) ≥ nth (Ty.int IntKind.i64) s x_0.fst + (16 : Int))) = false →
                            ((0 : Int) ≤ (↑x_0.fst : Int) ∧ (↑x_0.fst : Int) < (↑(List.length (basesF (s, l)).fst) : Int)) ∧
                            ((I64 (nth (Ty.int IntKind.i64) (basesF (s, l)).fst x_0.fst)) →
                            ((I64 (roundF (nth (Ty.int IntKind.i64) s x_0.fst))) →
                            (I64 (nth (Ty.int IntKind.i64) (basesF (s, l)).fst x_0.fst + roundF (nth (Ty.int IntKind.i64) s x_0.fst))) ∧
                            (((decide (nth (Ty.int IntKind.i64) (basesF (s, l)).fst x_0.fst + roundF (nth (Ty.int IntKind.i64) s x_0.fst) > (256 : Int))) = true →
                              (false = true)) ∧
                            ((decide (nth (Ty.int IntKind.i64) (basesF (s, l)).fst x_0.fst + roundF (nth (Ty.int IntKind.i64) s x_0.fst) > (256 : Int))) = false →
                              (∃ (x : Nat), (16 : Int) * (↑x : Int) ≤ nth (Ty.int IntKind.i64) (basesF (s, l)).fst x_0.fst + (16 : Int) ∧ ((0 : Int) = (16 : Int) * (↑x : Int) ∧ True) ∧ True) ∧
                              (∀ x_2 : Nat,
                              (((16 : Int) * (↑x_2 : Int) ≤ nth (Ty.int IntKind.i64) (basesF (s, l)).fst x_0.fst + (16 : Int)) →
                              ((0 : Int) ≤ (↑x_0.fst : Int) ∧ (↑x_0.fst : Int) < (↑(List.length (basesF (s, l)).fst) : Int)) ∧
                              (((decide ((16 : Int) * (↑x_2 : Int) ≤ nth (Ty.int IntKind.i64) (basesF (s, l)).fst x_0.fst)) = true →
                                (∃ (x : Nat), x ≤ List.length x_0.snd ∧ ((0 : Int) = (↑x : Int) ∧ true = freeF ((16 : Int) * (↑x_2 : Int), roundF (nth (Ty.int IntKind.i64) s x_0.fst), ()) (List.take x x_0.snd) ∧ True) ∧ True) ∧
                                (∀ x_3 : Nat,
                                ((x_3 ≤ List.length x_0.snd) →
                                ((List.length x_0.snd ≤ big) →
                                (((decide ((↑x_3 : Int) < (↑(List.length x_0.snd) : Int))) = true →
                                  (((freeF ((16 : Int) * (↑x_2 : Int), roundF (nth (Ty.int IntKind.i64) s x_0.fst), ()) (List.take x_3 x_0.snd)) = true →
                                    ((0 : Int) ≤ (↑x_3 : Int) ∧ (↑x_3 : Int) < (↑(List.length x_0.snd) : Int)) ∧
                                    (bnd ((16 : Int) * (↑x_2 : Int), roundF (nth (Ty.int IntKind.i64) s x_0.fst), ()) ∧ bnd (nth tRange x_0.snd x_3)) ∧
                                    ((I64 (↑x_3 : Int)) →
                                    ((I64 (1 : Int)) →
                                    (I64 ((↑x_3 : Int) + (1 : Int))) ∧
                                    (∃ (x' : Nat), x' ≤ List.length x_0.snd ∧ List.length x_0.snd - x' < List.length x_0.snd - x_3 ∧ ((↑x_3 : Int) + (1 : Int) = (↑x' : Int) ∧ apartF ((16 : Int) * (↑x_2 : Int), roundF (nth (Ty.int IntKind.i64) s x_0.fst), ()) (nth tRange x_0.snd x_3) = freeF ((16 : Int) * (↑x_2 : Int), roundF (nth (Ty.int IntKind.i64) s x_0.fst), ()) (List.take x' x_0.snd) ∧ True) ∧ x_0.snd = x_0.snd ∧ True)))) ∧
                                  ((freeF ((16 : Int) * (↑x_2 : Int), roundF (nth (Ty.int IntKind.i64) s x_0.fst), ()) (List.take x_3 x_0.snd)) = false →
                                    ((I64 (↑x_3 : Int)) →
                                    ((I64 (1 : Int)) →
                                    (I64 ((↑x_3 : Int) + (1 : Int))) ∧
                                    (∃ (x' : Nat), x' ≤ List.length x_0.snd ∧ List.length x_0.snd - x' < List.length x_0.snd - x_3 ∧ ((↑x_3 : Int) + (1 : Int) = (↑x' : Int) ∧ false = freeF ((16 : Int) * (↑x_2 : Int), roundF (nth (Ty.int IntKind.i64) s x_0.fst), ()) (List.take x' x_0.snd) ∧ True) ∧ x_0.snd = x_0.snd ∧ True)))))) ∧
                                ((decide ((↑x_3 : Int) < (↑(List.length x_0.snd) : Int))) = false →
                                  ((0 : Int) ≤ (↑x_0.fst : Int) ∧ (↑x_0.fst : Int) < (↑(List.length (basesF (s, l)).fst) : Int)) ∧
                                  (((!freeF ((16 : Int) * (↑x_2 : Int), roundF (nth (Ty.int IntKind.i64) s x_0.fst), ()) (List.take x_3 x_0.snd) == ((16 : Int) * (↑x_2 : Int) == nth (Ty.int IntKind.i64) (basesF (s, l)).fst x_0.fst)) = true →
                                    (false = true)) ∧
                                  ((!freeF ((16 : Int) * (↑x_2 : Int), roundF (nth (Ty.int IntKind.i64) s x_0.fst), ()) (List.take x_3 x_0.snd) == ((16 : Int) * (↑x_2 : Int) == nth (Ty.int IntKind.i64) (basesF (s, l)).fst x_0.fst)) = false →
                                    ((I64 ((16 : Int) * (↑x_2 : Int))) →
                                    ((I64 (16 : Int)) →
                                    (I64 ((16 : Int) * (↑x_2 : Int) + (16 : Int))) ∧
                                    (∃ (x' : Nat), (16 : Int) * (↑x' : Int) ≤ nth (Ty.int IntKind.i64) (basesF (s, l)).fst x_0.fst + (16 : Int) ∧ (40 : Nat) - x' < (40 : Nat) - x_2 ∧ ((16 : Int) * (↑x_2 : Int) + (16 : Int) = (16 : Int) * (↑x' : Int) ∧ True) ∧ x_0.snd = x_0.snd ∧ True))))))))))) ∧
                              ((decide ((16 : Int) * (↑x_2 : Int) ≤ nth (Ty.int IntKind.i64) (basesF (s, l)).fst x_0.fst)) = false →
                                ((0 : Int) ≤ (↑x_0.fst : Int) ∧ (↑x_0.fst : Int) < (↑(List.length (basesF (s, l)).fst) : Int)) ∧
                                (x_0.snd = x_0.snd ∧ List.length x_0.snd + List.length [(nth (Ty.int IntKind.i64) (basesF (s, l)).fst x_0.fst, roundF (nth (Ty.int IntKind.i64) s x_0.fst), ())] ≤ (1000000000 : Nat)) ∧
                                ((I64 (↑x_0.fst : Int)) →
                                ((I64 (1 : Int)) →
                                (I64 ((↑x_0.fst : Int) + (1 : Int))) ∧
                                (∃ (x' : Nat × List (Int × Int × Unit)), (x'.fst ≤ List.length s ∧ goBases x'.snd (List.drop x'.fst s) (List.take x'.fst (basesF (s, l)).fst) = some (basesF (s, l)).fst ∧ (∀ (y : Int × Int × Unit), y ∈ x'.snd → okR y) ∧ List.length x'.snd = List.length l + x'.fst) ∧ List.length s - x'.fst < List.length s - x_0.fst ∧ ((↑x_0.fst : Int) + (1 : Int) = (↑x'.fst : Int) ∧ x_0.snd ++ [(nth (Ty.int IntKind.i64) (basesF (s, l)).fst x_0.fst, roundF (nth (Ty.int IntKind.i64) s x_0.fst), ())] = x'.snd ∧ True) ∧ x_0.snd ++ [(nth (Ty.int IntKind.i64) (basesF (s, l)).fst x_0.fst, roundF (nth (Ty.int IntKind.i64) s x_0.fst), ())] = x'.snd ∧ True)))))))))))))))))))))))) ∧
                  ((decide ((↑x_0.fst : Int) < (↑(List.length (basesF (s, l)).fst) : Int))) = false →
                    (true = true))))))))))))))))))))))) (by kernel_rfl) ?_
  refine ⟨?_, ?_⟩
  · first | exact True.intro | rfl | omega | assumption | (dsimp only [D] at *; omega) | (simp only [I64, big] at *; omega) | (simp_all; done)
  refine ⟨fun h0 => ?_, fun h0 => ?_⟩
  · exact absurd (show false = true from h0) (by decide)
  ·
    refine ⟨?_, ?_⟩
    · first | exact True.intro | rfl | omega | assumption | (dsimp only [D] at *; omega) | (simp only [I64, big] at *; omega) | (simp_all; done)
    refine ⟨fun h1 => ?_, fun h1 => ?_⟩
    · exact absurd (show false = true from h1) (by decide)
    ·
      intro h2
      refine ⟨fun h3 => ?_, fun h3 => ?_⟩
      · try simp only [decide_eq_true_eq, decide_eq_false_iff_not, beq_iff_eq, beq_eq_false_iff_ne, bne_iff_ne, bne_eq_false_iff_eq, Bool.not_eq_true', Bool.not_eq_false', Bool.not_eq_true, Bool.not_eq_false, ne_eq, Bool.and_eq_true, Bool.or_eq_true, Bool.and_eq_false_iff, Bool.or_eq_false_iff, reduceCtorEq, Int.not_lt, Int.not_le] at h3
        first | exact True.intro | rfl | omega | assumption | (dsimp only [D] at *; omega) | (simp only [I64, big] at *; omega) | (simp_all; done)
      · try simp only [decide_eq_true_eq, decide_eq_false_iff_not, beq_iff_eq, beq_eq_false_iff_ne, bne_iff_ne, bne_eq_false_iff_eq, Bool.not_eq_true', Bool.not_eq_false', Bool.not_eq_true, Bool.not_eq_false, ne_eq, Bool.and_eq_true, Bool.or_eq_true, Bool.and_eq_false_iff, Bool.or_eq_false_iff, reduceCtorEq, Int.not_lt, Int.not_le] at h3
        intro h4
        refine ⟨fun h5 => ?_, fun h5 => ?_⟩
        · try simp only [decide_eq_true_eq, decide_eq_false_iff_not, beq_iff_eq, beq_eq_false_iff_ne, bne_iff_ne, bne_eq_false_iff_eq, Bool.not_eq_true', Bool.not_eq_false', Bool.not_eq_true, Bool.not_eq_false, ne_eq, Bool.and_eq_true, Bool.or_eq_true, Bool.and_eq_false_iff, Bool.or_eq_false_iff, reduceCtorEq, Int.not_lt, Int.not_le] at h5
          first | exact True.intro | rfl | omega | assumption | (dsimp only [D] at *; omega) | (simp only [I64, big] at *; omega) | (simp_all; done)
        · try simp only [decide_eq_true_eq, decide_eq_false_iff_not, beq_iff_eq, beq_eq_false_iff_ne, bne_iff_ne, bne_eq_false_iff_eq, Bool.not_eq_true', Bool.not_eq_false', Bool.not_eq_true, Bool.not_eq_false, ne_eq, Bool.and_eq_true, Bool.or_eq_true, Bool.and_eq_false_iff, Bool.or_eq_false_iff, reduceCtorEq, Int.not_lt, Int.not_le] at h5
          refine ⟨?_, ?_⟩
          · first | exact True.intro | rfl | omega | assumption | (dsimp only [D] at *; omega) | (simp only [I64, big] at *; omega) | (simp_all; done)
          refine ⟨fun h6 => ?_, fun h6 => ?_⟩
          · try simp only [decide_eq_true_eq, decide_eq_false_iff_not, beq_iff_eq, beq_eq_false_iff_ne, bne_iff_ne, bne_eq_false_iff_eq, Bool.not_eq_true', Bool.not_eq_false', Bool.not_eq_true, Bool.not_eq_false, ne_eq, Bool.and_eq_true, Bool.or_eq_true, Bool.and_eq_false_iff, Bool.or_eq_false_iff, reduceCtorEq, Int.not_lt, Int.not_le] at h6
            intro h7
            rw [basesF_err (by assumption)]; rfl
          · try simp only [decide_eq_true_eq, decide_eq_false_iff_not, beq_iff_eq, beq_eq_false_iff_ne, bne_iff_ne, bne_eq_false_iff_eq, Bool.not_eq_true', Bool.not_eq_false', Bool.not_eq_true, Bool.not_eq_false, ne_eq, Bool.and_eq_true, Bool.or_eq_true, Bool.and_eq_false_iff, Bool.or_eq_false_iff, reduceCtorEq, Int.not_lt, Int.not_le] at h6
            intro h7
            intro h8
            refine ⟨fun h9 => ?_, fun h9 => ?_⟩
            · try simp only [decide_eq_true_eq, decide_eq_false_iff_not, beq_iff_eq, beq_eq_false_iff_ne, bne_iff_ne, bne_eq_false_iff_eq, Bool.not_eq_true', Bool.not_eq_false', Bool.not_eq_true, Bool.not_eq_false, ne_eq, Bool.and_eq_true, Bool.or_eq_true, Bool.and_eq_false_iff, Bool.or_eq_false_iff, reduceCtorEq, Int.not_lt, Int.not_le] at h9
              have hn := basesF_nil (s := s) (l := l) (by assumption); omega
            · try simp only [decide_eq_true_eq, decide_eq_false_iff_not, beq_iff_eq, beq_eq_false_iff_ne, bne_iff_ne, bne_eq_false_iff_eq, Bool.not_eq_true', Bool.not_eq_false', Bool.not_eq_true, Bool.not_eq_false, ne_eq, Bool.and_eq_true, Bool.or_eq_true, Bool.and_eq_false_iff, Bool.or_eq_false_iff, reduceCtorEq, Int.not_lt, Int.not_le] at h9
              refine ⟨?_, ?_⟩
              · first | exact True.intro | rfl | omega | assumption | (dsimp only [D] at *; omega) | (simp only [I64, big] at *; omega) | (simp_all; done)
              refine ⟨?_, ?_⟩
              · have hn := basesF_nil (s := s) (l := l) (by assumption)
                exact ⟨(0, l), ⟨by simp only; omega, hn.2.2.2.2.1, hn.2.2.2.1, rfl⟩, (by repeat' (first | exact trivial | rfl | apply And.intro)), (by repeat' (first | exact trivial | rfl | apply And.intro))⟩
              intro x_0 q_0
              intro h10
              refine ⟨fun h11 => ?_, fun h11 => ?_⟩
              · try simp only [decide_eq_true_eq, decide_eq_false_iff_not, beq_iff_eq, beq_eq_false_iff_ne, bne_iff_ne, bne_eq_false_iff_eq, Bool.not_eq_true', Bool.not_eq_false', Bool.not_eq_true, Bool.not_eq_false, ne_eq, Bool.and_eq_true, Bool.or_eq_true, Bool.and_eq_false_iff, Bool.or_eq_false_iff, reduceCtorEq, Int.not_lt, Int.not_le] at h11
                refine ⟨?_, ?_⟩
                · first | exact True.intro | rfl | omega | assumption | (dsimp only [D] at *; omega) | (simp only [I64, big] at *; omega) | (simp_all; done)
                refine ⟨?_, ?_⟩
                · have hn := basesF_nil (s := s) (l := l) (by assumption); have := hn.2.2.1 x_0.1 (by omega); (try dsimp only [D] at *); omega
                refine ⟨?_, ?_⟩
                · first | exact True.intro | rfl | omega | assumption | (dsimp only [D] at *; omega) | (simp only [I64, big] at *; omega) | (simp_all; done)
                refine ⟨fun h12 => ?_, fun h12 => ?_⟩
                · try simp only [decide_eq_true_eq, decide_eq_false_iff_not, beq_iff_eq, beq_eq_false_iff_ne, bne_iff_ne, bne_eq_false_iff_eq, Bool.not_eq_true', Bool.not_eq_false', Bool.not_eq_true, Bool.not_eq_false, ne_eq, Bool.and_eq_true, Bool.or_eq_true, Bool.and_eq_false_iff, Bool.or_eq_false_iff, reduceCtorEq, Int.not_lt, Int.not_le] at h12
                  have hn := basesF_nil (s := s) (l := l) (by assumption); have hnx := goBases_next (k := x_0.1) (by omega) q_0.2.1 hn.2.2.2.2.2; have hs := hn.2.2.1 x_0.1 (by omega); have hr := roundF_range hs.1 hs.2
                  obtain ⟨d, hd⟩ := base_mult hnx.2.1 (by omega); have e := hnx.1; (try dsimp only [D] at *); omega
                · try simp only [decide_eq_true_eq, decide_eq_false_iff_not, beq_iff_eq, beq_eq_false_iff_ne, bne_iff_ne, bne_eq_false_iff_eq, Bool.not_eq_true', Bool.not_eq_false', Bool.not_eq_true, Bool.not_eq_false, ne_eq, Bool.and_eq_true, Bool.or_eq_true, Bool.and_eq_false_iff, Bool.or_eq_false_iff, reduceCtorEq, Int.not_lt, Int.not_le] at h12
                  refine ⟨?_, ?_⟩
                  · first | exact True.intro | rfl | omega | assumption | (dsimp only [D] at *; omega) | (simp only [I64, big] at *; omega) | (simp_all; done)
                  refine ⟨?_, ?_⟩
                  · first | exact True.intro | rfl | omega | assumption | (dsimp only [D] at *; omega) | (simp only [I64, big] at *; omega) | (simp_all; done)
                  intro x_1 q_1
                  refine ⟨fun h13 => ?_, fun h13 => ?_⟩
                  · try simp only [decide_eq_true_eq, decide_eq_false_iff_not, beq_iff_eq, beq_eq_false_iff_ne, bne_iff_ne, bne_eq_false_iff_eq, Bool.not_eq_true', Bool.not_eq_false', Bool.not_eq_true, Bool.not_eq_false, ne_eq, Bool.and_eq_true, Bool.or_eq_true, Bool.and_eq_false_iff, Bool.or_eq_false_iff, reduceCtorEq, Int.not_lt, Int.not_le] at h13
                    have hn := basesF_nil (s := s) (l := l) (by assumption); have hnx := goBases_next (k := x_0.1) (by omega) q_0.2.1 hn.2.2.2.2.2; have hs := hn.2.2.1 x_0.1 (by omega); have hr := roundF_range hs.1 hs.2
                    obtain ⟨d, hd⟩ := base_mult hnx.2.1 (by omega)
                    rw [hnx.1, hd, Int.tmod_eq_emod_of_nonneg (by omega)] at q_1; omega
                  · try simp only [decide_eq_true_eq, decide_eq_false_iff_not, beq_iff_eq, beq_eq_false_iff_ne, bne_iff_ne, bne_eq_false_iff_eq, Bool.not_eq_true', Bool.not_eq_false', Bool.not_eq_true, Bool.not_eq_false, ne_eq, Bool.and_eq_true, Bool.or_eq_true, Bool.and_eq_false_iff, Bool.or_eq_false_iff, reduceCtorEq, Int.not_lt, Int.not_le] at h13
                    refine ⟨?_, ?_⟩
                    · first | exact True.intro | rfl | omega | assumption | (dsimp only [D] at *; omega) | (simp only [I64, big] at *; omega) | (simp_all; done)
                    refine ⟨fun h14 => ?_, fun h14 => ?_⟩
                    · try simp only [decide_eq_true_eq, decide_eq_false_iff_not, beq_iff_eq, beq_eq_false_iff_ne, bne_iff_ne, bne_eq_false_iff_eq, Bool.not_eq_true', Bool.not_eq_false', Bool.not_eq_true, Bool.not_eq_false, ne_eq, Bool.and_eq_true, Bool.or_eq_true, Bool.and_eq_false_iff, Bool.or_eq_false_iff, reduceCtorEq, Int.not_lt, Int.not_le] at h14
                      have := roundF_near (n := nth (.int .i64) s x_0.1); (try dsimp only [D] at *); omega
                    · try simp only [decide_eq_true_eq, decide_eq_false_iff_not, beq_iff_eq, beq_eq_false_iff_ne, bne_iff_ne, bne_eq_false_iff_eq, Bool.not_eq_true', Bool.not_eq_false', Bool.not_eq_true, Bool.not_eq_false, ne_eq, Bool.and_eq_true, Bool.or_eq_true, Bool.and_eq_false_iff, Bool.or_eq_false_iff, reduceCtorEq, Int.not_lt, Int.not_le] at h14
                      refine ⟨?_, ?_⟩
                      · first | exact True.intro | rfl | omega | assumption | (dsimp only [D] at *; omega) | (simp only [I64, big] at *; omega) | (simp_all; done)
                      intro h15
                      intro h16
                      refine ⟨?_, ?_⟩
                      · have hn := basesF_nil (s := s) (l := l) (by assumption); have := hn.2.2.1 x_0.1 (by omega); simp only [I64]; (try dsimp only [D] at *); omega
                      refine ⟨fun h17 => ?_, fun h17 => ?_⟩
                      · try simp only [decide_eq_true_eq, decide_eq_false_iff_not, beq_iff_eq, beq_eq_false_iff_ne, bne_iff_ne, bne_eq_false_iff_eq, Bool.not_eq_true', Bool.not_eq_false', Bool.not_eq_true, Bool.not_eq_false, ne_eq, Bool.and_eq_true, Bool.or_eq_true, Bool.and_eq_false_iff, Bool.or_eq_false_iff, reduceCtorEq, Int.not_lt, Int.not_le] at h17
                        have := roundF_near (n := nth (.int .i64) s x_0.1); (try dsimp only [D] at *); omega
                      · try simp only [decide_eq_true_eq, decide_eq_false_iff_not, beq_iff_eq, beq_eq_false_iff_ne, bne_iff_ne, bne_eq_false_iff_eq, Bool.not_eq_true', Bool.not_eq_false', Bool.not_eq_true, Bool.not_eq_false, ne_eq, Bool.and_eq_true, Bool.or_eq_true, Bool.and_eq_false_iff, Bool.or_eq_false_iff, reduceCtorEq, Int.not_lt, Int.not_le] at h17
                        refine ⟨?_, ?_⟩
                        · first | exact True.intro | rfl | omega | assumption | (dsimp only [D] at *; omega) | (simp only [I64, big] at *; omega) | (simp_all; done)
                        intro h18
                        intro h19
                        refine ⟨?_, ?_⟩
                        · have hn := basesF_nil (s := s) (l := l) (by assumption); have hnx := goBases_next (k := x_0.1) (by omega) q_0.2.1 hn.2.2.2.2.2; have hs := hn.2.2.1 x_0.1 (by omega); have hr := roundF_range hs.1 hs.2
                          simp only [I64]; obtain ⟨d, hd⟩ := base_mult hnx.2.1 (by omega); have e := hnx.1; (try dsimp only [D] at *); omega
                        refine ⟨fun h20 => ?_, fun h20 => ?_⟩
                        · try simp only [decide_eq_true_eq, decide_eq_false_iff_not, beq_iff_eq, beq_eq_false_iff_ne, bne_iff_ne, bne_eq_false_iff_eq, Bool.not_eq_true', Bool.not_eq_false', Bool.not_eq_true, Bool.not_eq_false, ne_eq, Bool.and_eq_true, Bool.or_eq_true, Bool.and_eq_false_iff, Bool.or_eq_false_iff, reduceCtorEq, Int.not_lt, Int.not_le] at h20
                          have hn := basesF_nil (s := s) (l := l) (by assumption); have hnx := goBases_next (k := x_0.1) (by omega) q_0.2.1 hn.2.2.2.2.2; have hs := hn.2.2.1 x_0.1 (by omega); have hr := roundF_range hs.1 hs.2
                          have e := hnx.1; (try dsimp only [D] at *); omega
                        · try simp only [decide_eq_true_eq, decide_eq_false_iff_not, beq_iff_eq, beq_eq_false_iff_ne, bne_iff_ne, bne_eq_false_iff_eq, Bool.not_eq_true', Bool.not_eq_false', Bool.not_eq_true, Bool.not_eq_false, ne_eq, Bool.and_eq_true, Bool.or_eq_true, Bool.and_eq_false_iff, Bool.or_eq_false_iff, reduceCtorEq, Int.not_lt, Int.not_le] at h20
                          refine ⟨?_, ?_⟩
                          · exact ⟨0, by omega, ⟨rfl, trivial⟩, trivial⟩
                          intro x_2 q_2
                          refine ⟨?_, ?_⟩
                          · first | exact True.intro | rfl | omega | assumption | (dsimp only [D] at *; omega) | (simp only [I64, big] at *; omega) | (simp_all; done)
                          refine ⟨fun h21 => ?_, fun h21 => ?_⟩
                          · try simp only [decide_eq_true_eq, decide_eq_false_iff_not, beq_iff_eq, beq_eq_false_iff_ne, bne_iff_ne, bne_eq_false_iff_eq, Bool.not_eq_true', Bool.not_eq_false', Bool.not_eq_true, Bool.not_eq_false, ne_eq, Bool.and_eq_true, Bool.or_eq_true, Bool.and_eq_false_iff, Bool.or_eq_false_iff, reduceCtorEq, Int.not_lt, Int.not_le] at h21
                            refine ⟨?_, ?_⟩
                            · refine ⟨0, ?_⟩; (repeat' (first | exact trivial | rfl | omega | assumption | apply And.intro))
                            intro x_3 q_3
                            intro h22
                            refine ⟨fun h23 => ?_, fun h23 => ?_⟩
                            · try simp only [decide_eq_true_eq, decide_eq_false_iff_not, beq_iff_eq, beq_eq_false_iff_ne, bne_iff_ne, bne_eq_false_iff_eq, Bool.not_eq_true', Bool.not_eq_false', Bool.not_eq_true, Bool.not_eq_false, ne_eq, Bool.and_eq_true, Bool.or_eq_true, Bool.and_eq_false_iff, Bool.or_eq_false_iff, reduceCtorEq, Int.not_lt, Int.not_le] at h23
                              refine ⟨fun h24 => ?_, fun h24 => ?_⟩
                              · try simp only [decide_eq_true_eq, decide_eq_false_iff_not, beq_iff_eq, beq_eq_false_iff_ne, bne_iff_ne, bne_eq_false_iff_eq, Bool.not_eq_true', Bool.not_eq_false', Bool.not_eq_true, Bool.not_eq_false, ne_eq, Bool.and_eq_true, Bool.or_eq_true, Bool.and_eq_false_iff, Bool.or_eq_false_iff, reduceCtorEq, Int.not_lt, Int.not_le] at h24
                                refine ⟨?_, ?_⟩
                                · first | exact True.intro | rfl | omega | assumption | (dsimp only [D] at *; omega) | (simp only [I64, big] at *; omega) | (simp_all; done)
                                refine ⟨?_, ?_⟩
                                · have hn := basesF_nil (s := s) (l := l) (by assumption); have hnx := goBases_next (k := x_0.1) (by omega) q_0.2.1 hn.2.2.2.2.2; have hs := hn.2.2.1 x_0.1 (by omega); have hr := roundF_range hs.1 hs.2
                                  exact ⟨by refine ⟨?_, ?_, ?_, ?_⟩ <;> simp only <;> omega, (q_0.2.2.1 _ (nth_mem (t := tRange) (by omega))).bnd⟩
                                intro h25
                                intro h26
                                refine ⟨?_, ?_⟩
                                · first | exact True.intro | rfl | omega | assumption | (dsimp only [D] at *; omega) | (simp only [I64, big] at *; omega) | (simp_all; done)
                                exact ⟨x_3 + 1, by omega, by omega, ⟨by omega, by rw [freeF_take (by omega)]; simp_all, trivial⟩, (by repeat' (first | exact trivial | rfl | apply And.intro))⟩
                              · try simp only [decide_eq_true_eq, decide_eq_false_iff_not, beq_iff_eq, beq_eq_false_iff_ne, bne_iff_ne, bne_eq_false_iff_eq, Bool.not_eq_true', Bool.not_eq_false', Bool.not_eq_true, Bool.not_eq_false, ne_eq, Bool.and_eq_true, Bool.or_eq_true, Bool.and_eq_false_iff, Bool.or_eq_false_iff, reduceCtorEq, Int.not_lt, Int.not_le] at h24
                                intro h25
                                intro h26
                                refine ⟨?_, ?_⟩
                                · first | exact True.intro | rfl | omega | assumption | (dsimp only [D] at *; omega) | (simp only [I64, big] at *; omega) | (simp_all; done)
                                exact ⟨x_3 + 1, by omega, by omega, ⟨by omega, by rw [freeF_take (by omega)]; simp_all, trivial⟩, (by repeat' (first | exact trivial | rfl | apply And.intro))⟩
                            · try simp only [decide_eq_true_eq, decide_eq_false_iff_not, beq_iff_eq, beq_eq_false_iff_ne, bne_iff_ne, bne_eq_false_iff_eq, Bool.not_eq_true', Bool.not_eq_false', Bool.not_eq_true, Bool.not_eq_false, ne_eq, Bool.and_eq_true, Bool.or_eq_true, Bool.and_eq_false_iff, Bool.or_eq_false_iff, reduceCtorEq, Int.not_lt, Int.not_le] at h23
                              refine ⟨?_, ?_⟩
                              · first | exact True.intro | rfl | omega | assumption | (dsimp only [D] at *; omega) | (simp only [I64, big] at *; omega) | (simp_all; done)
                              refine ⟨fun h24 => ?_, fun h24 => ?_⟩
                              · try simp only [decide_eq_true_eq, decide_eq_false_iff_not, beq_iff_eq, beq_eq_false_iff_ne, bne_iff_ne, bne_eq_false_iff_eq, Bool.not_eq_true', Bool.not_eq_false', Bool.not_eq_true, Bool.not_eq_false, ne_eq, Bool.and_eq_true, Bool.or_eq_true, Bool.and_eq_false_iff, Bool.or_eq_false_iff, reduceCtorEq, Int.not_lt, Int.not_le] at h24
                                have hn := basesF_nil (s := s) (l := l) (by assumption); have hnx := goBases_next (k := x_0.1) (by omega) q_0.2.1 hn.2.2.2.2.2; have hs := hn.2.2.1 x_0.1 (by omega); have hr := roundF_range hs.1 hs.2
                                have ht := base_test hnx.1 (by omega) (by omega) (j := x_2) (by omega)
                                rw [List.take_of_length_le (by omega)] at h24
                                exact absurd ht h24
                              · try simp only [decide_eq_true_eq, decide_eq_false_iff_not, beq_iff_eq, beq_eq_false_iff_ne, bne_iff_ne, bne_eq_false_iff_eq, Bool.not_eq_true', Bool.not_eq_false', Bool.not_eq_true, Bool.not_eq_false, ne_eq, Bool.and_eq_true, Bool.or_eq_true, Bool.and_eq_false_iff, Bool.or_eq_false_iff, reduceCtorEq, Int.not_lt, Int.not_le] at h24
                                intro h25
                                intro h26
                                refine ⟨?_, ?_⟩
                                · have hn := basesF_nil (s := s) (l := l) (by assumption); have hnx := goBases_next (k := x_0.1) (by omega) q_0.2.1 hn.2.2.2.2.2; have hs := hn.2.2.1 x_0.1 (by omega); have hr := roundF_range hs.1 hs.2
                                  simp only [I64]; omega
                                have hn := basesF_nil (s := s) (l := l) (by assumption); have hnx := goBases_next (k := x_0.1) (by omega) q_0.2.1 hn.2.2.2.2.2; have hs := hn.2.2.1 x_0.1 (by omega); have hr := roundF_range hs.1 hs.2
                                exact ⟨x_2 + 1, by omega, by omega, ⟨by omega, trivial⟩, (by repeat' (first | exact trivial | rfl | apply And.intro))⟩
                          · try simp only [decide_eq_true_eq, decide_eq_false_iff_not, beq_iff_eq, beq_eq_false_iff_ne, bne_iff_ne, bne_eq_false_iff_eq, Bool.not_eq_true', Bool.not_eq_false', Bool.not_eq_true, Bool.not_eq_false, ne_eq, Bool.and_eq_true, Bool.or_eq_true, Bool.and_eq_false_iff, Bool.or_eq_false_iff, reduceCtorEq, Int.not_lt, Int.not_le] at h21
                            refine ⟨?_, ?_⟩
                            · first | exact True.intro | rfl | omega | assumption | (dsimp only [D] at *; omega) | (simp only [I64, big] at *; omega) | (simp_all; done)
                            refine ⟨?_, ?_⟩
                            · have hn := basesF_nil (s := s) (l := l) (by assumption); simp only [List.length_singleton, true_and]; omega
                            intro h22
                            intro h23
                            refine ⟨?_, ?_⟩
                            · first | exact True.intro | rfl | omega | assumption | (dsimp only [D] at *; omega) | (simp only [I64, big] at *; omega) | (simp_all; done)
                            have hn := basesF_nil (s := s) (l := l) (by assumption); have hnx := goBases_next (k := x_0.1) (by omega) q_0.2.1 hn.2.2.2.2.2; have hs := hn.2.2.1 x_0.1 (by omega); have hr := roundF_range hs.1 hs.2
                            obtain ⟨d, hd⟩ := base_mult hnx.2.1 (by omega)
                            exact ⟨(x_0.1 + 1, x_0.2 ++ [(nth (.int .i64) (basesF (s, l)).1 x_0.1, roundF (nth (.int .i64) s x_0.1), ())]), ⟨by omega, by rw [hnx.1]; exact hnx.2.2, okR_snoc q_0.2.2.1 (by refine ⟨?_, ?_, ?_, ?_⟩ <;> simp only <;> omega), by simp only [List.length_append, List.length_singleton]; omega⟩, by simp only; omega, ⟨by simp only; omega, rfl, trivial⟩, (by repeat' (first | exact trivial | rfl | apply And.intro))⟩
              · try simp only [decide_eq_true_eq, decide_eq_false_iff_not, beq_iff_eq, beq_eq_false_iff_ne, bne_iff_ne, bne_eq_false_iff_eq, Bool.not_eq_true', Bool.not_eq_false', Bool.not_eq_true, Bool.not_eq_false, ne_eq, Bool.and_eq_true, Bool.or_eq_true, Bool.and_eq_false_iff, Bool.or_eq_false_iff, reduceCtorEq, Int.not_lt, Int.not_le] at h11
                first | exact True.intro | rfl | omega | assumption | (dsimp only [D] at *; omega) | (simp only [I64, big] at *; omega) | (simp_all; done)
theorem Try.ok_TopApart : PureOK Try.prog Try.B.eT 7 [.slice (.int .i64), .slice tRange] [.bool] (fun _ => True) (fun _ y => y = true) :=
  pure_fn (B := (hintB Try.B [51])) (X := noExt) (CtxOK.hint (l := [51]) Try.lapartCtxOK) Try.func7 (by kernel_rfl) (fun x => taAnn x.1 x.2) (fun x hw hp => vc_TopApart x.1 x.2 hw)
open Go.ChangeShapes Go.WideShapes Go.ChangeAt Go.RowKit in
set_option maxRecDepth 100000 in
theorem topApart_lifted (os : Os) (started : os.Started) (H : Type) (enc : TypeId × Value → H) :
    ReturnsInHanded {} Try.checked os 7 .any (Rows.topApartSpec.pre6 enc Try.prog Try.f7 Rows.topApartRow.domain false) (Rows.topApartSpec.post enc Try.prog Try.f7 false true false false) := by
  refine returnsInHanded_of_change (C := Try.checked) (by kernel_rfl) started (by kernel_rfl) Try.func7
    (ChangeSpec.witness6 (enc := enc) (C := Try.checked) false ⟨#[], #[.slice none 0 0, .slice none 0 0], []⟩ 8 (by kernel_rfl) (by kernel_rfl) (by kernel_rfl) (by kernel_rfl)) ?_
  intro W base args ds gs before hval hW hcnd _
  exact law_calls (C := Try.checked) (n := 16) rfl (by kernel_rfl) (fun ds h => by match ds, h with | [_, _], _ => rfl) (by kernel_rfl) (by kernel_rfl) (by kernel_rfl) (tb := 4) (by kernel_rfl) Try.ok_TopApart hval hW (fun _ _ => trivial)
open Go.ChangeShapes Go.WideShapes Go.ChangeAt Go.RowKit in
theorem topApart_holds : Rows.TopApartSaid :=
  OpenClaim.holds_of_wide 7 Try.f7 rfl rfl rfl rfl rfl rfl rfl ⟨rfl, rfl, rfl, rfl, rfl⟩ rfl rfl rfl rfl rfl (by kernel_rfl) Try.func7 (by kernel_rfl)
    (of_decide_eq_true (by kernel_rfl)) (by unfold Func.isWrapper; first | (rw [if_pos (by decide +kernel)]; kernel_rfl) | (rw [if_neg (by decide +kernel)]; exact ⟨rfl, rfl⟩))
    (fun os started H enc _ => topApart_lifted os started H enc)
#print axioms topApart_holds
end Go.Proofs.Ytgokjhhcfemnhab

