/- A part of the proof that the law PlaceSays holds of the given program: facts that are used there. -/
import Derived.Test.YtgokjhhcfemnhaaRPlace
import Derived.Test.YtgokjhhcfemnhaaRSame
import Derived.Test.YtgokjhhcfemnhaaRows
set_option linter.unusedSimpArgs false
set_option linter.unusedVariables false
namespace Go.Proofs.Ytgokjhhcfemnhaa
open Go.Vg Go.Mrl
/-! The laws of places. -/
noncomputable def Try.lplaceCtx : List (FuncId × (Bool × CSpec)) := [(12, (true, funSpec [.str] [.err] (fun _ => True) (fun s => errNo (nameFault s)))),
  (13, (true, funSpec [.str] [.int .i64] (fun _ => True) (fun s => nameFault s))),
  (14, (true, funSpec [.str] [.int .u32] (fun _ => True) (fun s => (hashF s : Int)))),
  (15, (true, funSpec [.str] [.int .i64] (fun _ => True) (fun s => (hashF s : Int)))),
  (11, (true, funSpec [.err, .int .i64] [.bool] (fun _ => True) (fun x => sameE x.1 x.2))),
  (22, (true, funSpec [.int .i64] [.int .i64] (fun n => 0 ≤ n ∧ n ≤ 1000000) (fun n => roundF n))),
  (20, (true, funSpec [tRange, tRange] [.bool] (fun x => bnd x.1 ∧ bnd x.2) (fun x => apartF x.1 x.2))),
  (51, (true, funSpec [tRange, .slice tRange] [.bool] (fun x => bnd x.1 ∧ ∀ y ∈ x.2, bnd y) (fun x => freeF x.1 x.2))),
  (24, (true, funSpec [.slice (.int .i64), .slice tRange] [.slice (.int .i64), .err] (fun _ => True) (fun x => basesF x))),
  (23, (true, funSpec [.int .i64] [.int .i64] (fun n => 0 ≤ n ∧ n ≤ 1000000) (fun n => roundF n))),
  (21, (true, funSpec [tRange, tRange] [.bool] (fun x => bnd x.1 ∧ bnd x.2) (fun x => apartF x.1 x.2))),
  (25, (true, funSpec [.slice (.int .i64), .slice tRange] [.slice (.int .i64), .int .i64] (fun _ => True) (fun x => rbasesF x))),
  (26, (true, funSpec [.slice (.int .i64), .slice (.int .i64)] [.bool] (fun _ => True) (fun x => sameI x.1 x.2)))]
theorem Try.lplaceCtxOK {X : Ext} : CtxOK Try.prog Try.B X Try.lplaceCtx :=
  ctx1 (callOK_of_fun Try.ok_Check) (ctx1 (callOK_of_fun Try.ok_NameFault) (ctx1 (callOK_of_fun Try.ok_Hash) (ctx1 (callOK_of_fun Try.ok_RHash) (ctx1 (callOK_of_fun Try.ok_same) (ctx1 (callOK_of_fun Try.ok_Round) (ctx1 (callOK_of_fun Try.ok_Apart) (ctx1 (callOK_of_fun Try.ok_free) (ctx1 (callOK_of_fun Try.ok_Bases) (ctx1 (callOK_of_fun Try.ok_RPages) (ctx1 (callOK_of_fun Try.ok_RApart) (ctx1 (callOK_of_fun Try.ok_RBases) (ctx1 (callOK_of_fun Try.ok_SameNumbers) (ctx0 Try.tyOK)))))))))))))
set_option maxRecDepth 100000 in
set_option maxHeartbeats 1000000 in
theorem vc_places  (hw : wfL [] ()) : (fnVCs Try.B Try.lplaceCtx Try.f19 [] [] [.bool] (fun x y => y = (fun _ => true) x) ()).holds := by
  refine holds_of (p :=
    (True) ∧
      (True) ∧
      (((sameE Err.nil (0 : Int)) = true →
        (True) ∧
        (sameI (@List.nil Int ++ [baseAt [((20 : Int), (5 : Int), ())] (roundF (17 : Int)) (40 : Nat) (0 : Int)] ++ [baseAt ([((20 : Int), (5 : Int), ())] ++ [(baseAt [((20 : Int), (5 : Int), ())] (roundF (17 : Int)) (40 : Nat) (0 : Int), roundF (17 : Int), ())]) (roundF (3 : Int)) (40 : Nat) (0 : Int)]) [(32 : Int), (0 : Int)] = true)) ∧
      ((sameE Err.nil (0 : Int)) = false →
        (false = true)))) (by kernel_rfl) ?_
  refine ⟨?_, ?_⟩
  · first | rfl | decide +kernel | omega | (simp_all; done)
  refine ⟨?_, ?_⟩
  · first | rfl | decide +kernel | omega | (simp_all; done)
  refine ⟨fun h0 => ?_, fun h0 => ?_⟩
  ·
    refine ⟨?_, ?_⟩
    · first | rfl | decide +kernel | omega | (simp_all; done)
    first | rfl | decide +kernel | omega | (simp_all; done)
  · exact absurd (show true = false from h0) (by decide)
theorem Try.ok_places : PureOK Try.prog Try.B.eT 19 [] [.bool] (fun _ => True) (fun x y => y = (fun _ => true) x) :=
  pure_fn (X := noExt) Try.lplaceCtxOK Try.func19 (by kernel_rfl) (fun _ => []) (fun x hw hp => vc_places  hw)
noncomputable def Try.lplace2Ctx : List (FuncId × (Bool × CSpec)) := [(12, (true, funSpec [.str] [.err] (fun _ => True) (fun s => errNo (nameFault s)))),
  (13, (true, funSpec [.str] [.int .i64] (fun _ => True) (fun s => nameFault s))),
  (14, (true, funSpec [.str] [.int .u32] (fun _ => True) (fun s => (hashF s : Int)))),
  (15, (true, funSpec [.str] [.int .i64] (fun _ => True) (fun s => (hashF s : Int)))),
  (11, (true, funSpec [.err, .int .i64] [.bool] (fun _ => True) (fun x => sameE x.1 x.2))),
  (22, (true, funSpec [.int .i64] [.int .i64] (fun n => 0 ≤ n ∧ n ≤ 1000000) (fun n => roundF n))),
  (20, (true, funSpec [tRange, tRange] [.bool] (fun x => bnd x.1 ∧ bnd x.2) (fun x => apartF x.1 x.2))),
  (51, (true, funSpec [tRange, .slice tRange] [.bool] (fun x => bnd x.1 ∧ ∀ y ∈ x.2, bnd y) (fun x => freeF x.1 x.2))),
  (24, (true, funSpec [.slice (.int .i64), .slice tRange] [.slice (.int .i64), .err] (fun _ => True) (fun x => basesF x))),
  (23, (true, funSpec [.int .i64] [.int .i64] (fun n => 0 ≤ n ∧ n ≤ 1000000) (fun n => roundF n))),
  (21, (true, funSpec [tRange, tRange] [.bool] (fun x => bnd x.1 ∧ bnd x.2) (fun x => apartF x.1 x.2))),
  (25, (true, funSpec [.slice (.int .i64), .slice tRange] [.slice (.int .i64), .int .i64] (fun _ => True) (fun x => rbasesF x))),
  (26, (true, funSpec [.slice (.int .i64), .slice (.int .i64)] [.bool] (fun _ => True) (fun x => sameI x.1 x.2))),
  (19, (true, funSpec [] [.bool] (fun _ => True) (fun _ => true)))]
theorem Try.lplace2CtxOK {X : Ext} : CtxOK Try.prog Try.B X Try.lplace2Ctx :=
  ctx1 (callOK_of_fun Try.ok_Check) (ctx1 (callOK_of_fun Try.ok_NameFault) (ctx1 (callOK_of_fun Try.ok_Hash) (ctx1 (callOK_of_fun Try.ok_RHash) (ctx1 (callOK_of_fun Try.ok_same) (ctx1 (callOK_of_fun Try.ok_Round) (ctx1 (callOK_of_fun Try.ok_Apart) (ctx1 (callOK_of_fun Try.ok_free) (ctx1 (callOK_of_fun Try.ok_Bases) (ctx1 (callOK_of_fun Try.ok_RPages) (ctx1 (callOK_of_fun Try.ok_RApart) (ctx1 (callOK_of_fun Try.ok_RBases) (ctx1 (callOK_of_fun Try.ok_SameNumbers) (ctx1 (callOK_of_fun Try.ok_places) (ctx0 Try.tyOK))))))))))))))
def psAnn (s : List Int) (l : List (D tRange)) : Anns := [
  (0, fun st => { X := Nat, inv := fun i => i ≤ l.length, meas := fun i => l.length - i, slots := fun i => [(6, sI i)], keep := [0, 1] }),
  (2, fun st => { X := Nat, inv := fun i => i ≤ s.length, meas := fun i => s.length - i, slots := fun i => [(9, sI i)], keep := [0, 1] })]
set_option maxRecDepth 100000 in
set_option maxHeartbeats 1000000 in
theorem vc_PlaceSays (s : List Int) (l : List (D tRange)) (hw : wfL [.slice (.int .i64), .slice tRange] (s, l)) : (fnVCs Try.B Try.lplace2Ctx Try.f5 (psAnn s l) [.slice (.int .i64), .slice tRange] [.bool] (fun _ y => y = true) (s, l)).holds := by
  refine holds_of (p :=
    (True) ∧
      (((!true) = true →
        (true = true)) ∧
      ((!true) = false →
        ((List.length s ≤ big) →
        (((decide ((↑(List.length s) : Int) > (10 : Int))) = true →
          (true = true)) ∧
        ((decide ((↑(List.length s) : Int) > (10 : Int))) = false →
          ((List.length l ≤ big) →
          (((decide ((↑(List.length l) : Int) > (25 : Int))) = true →
            (true = true)) ∧
          ((decide ((↑(List.length l) : Int) > (25 : Int))) = false →
            (∃ (x : Nat), x ≤ List.length l ∧ ((0 : Int) = (↑x : Int) ∧ True) ∧ True) ∧
            (∀ x_0 : Nat,
            ((x_0 ≤ List.length l) →
            ((I64 (↑x_0 : Int)) →
            ((I64 (1 : Int)) →
            (I64 ((↑x_0 : Int) + (1 : Int))) ∧
            ((List.length l ≤ big) →
            (((decide ((↑x_0 : Int) + (1 : Int) < (↑(List.length l) : Int))) = true →
              ((0 : Int) ≤ (↑x_0 : Int) ∧ (↑x_0 : Int) < (↑(List.length l) : Int)) ∧
              ((I64 (↑x_0 : Int)) →
              ((I64 (1 : Int)) →
              (I64 ((↑x_0 : Int) + (1 : Int))) ∧
              ((0 : Int) ≤ (↑x_0 : Int) + (1 : Int) ∧ (↑x_0 : Int) + (1 : Int) < (↑(List.length l) : Int)) ∧
              (((decide ((nth tRange l x_0).fst < (-300 : Int))) = true →
                (∃ (x : Nat), x ≤ List.length s ∧ ((0 : Int) = (↑x : Int) ∧ True) ∧ True) ∧
                (∀ x_1 : Nat,
                ((x_1 ≤ List.length s) →
                ((List.length s ≤ big) →
                (((decide ((↑x_1 : Int) < (↑(List.length s) : Int))) = true →
                  ((0 : Int) ≤ (↑x_1 : Int) ∧ (↑x_1 : Int) < (↑(List.length s) : Int)) ∧
                  (((decide (nth (Ty.int IntKind.i64) s x_1 ≥ (0 : Int))) = true →
                    ((0 : Int) ≤ (↑x_1 : Int) ∧ (↑x_1 : Int) < (↑(List.length s) : Int)) ∧
                    (((decide (nth (Ty.int IntKind.i64) s x_1 ≤ (1000 : Int))) = true →
                      ((0 : Int) ≤ (↑x_1 : Int) ∧ (↑x_1 : Int) < (↑(List.length s) : Int)) ∧
                      ((0 : Int) ≤ (↑x_1 : Int) ∧ (↑x_1 : Int) < (↑(List.length s) : Int)) ∧
                      ((0 : Int) ≤ nth (Ty.int IntKind.i64) s x_1 ∧ nth (Ty.int IntKind.i64) s x_1 ≤ (1000000 : Int)) ∧
                      ((0 : Int) ≤ nth (Ty.int IntKind.i64) s x_1 ∧ nth (Ty.int IntKind.i64) s x_1 ≤ (1000000 : Int)) ∧
                      (((roundF (nth (Ty.int IntKind.i64) s x_1) != roundF (nth (Ty.int IntKind.i64) s x_1)) = true →
                        (false = true)) ∧
                      ((roundF (nth (Ty.int IntKind.i64) s x_1) != roundF (nth (Ty.int IntKind.i64) s x_1)) = false →
                        ((I64 (↑x_1 : Int)) →
                        ((I64 (1 : Int)) →
                        (I64 ((↑x_1 : Int) + (1 : Int))) ∧
                        (∃ (x' : Nat), x' ≤ List.length s ∧ List.length s - x' < List.length s - x_1 ∧ ((↑x_1 : Int) + (1 : Int) = (↑x' : Int) ∧ True) ∧ ((nth tRange l (Int.toNat ((↑x_0 : Int) + (1 : Int)))).fst = (nth tRange l (Int.toNat ((↑x_0 : Int) + (1 : Int)))).fst ∧ (nth tRange l (Int.toNat ((↑x_0 : Int) + (1 : Int)))).snd.fst = (nth tRange l (Int.toNat ((↑x_0 : Int) + (1 : Int)))).snd.fst ∧ True) ∧ ((nth tRange l x_0).fst = (nth tRange l x_0).fst ∧ (nth tRange l x_0).snd.fst = (nth tRange l x_0).snd.fst ∧ True) ∧ True)))))) ∧
                    ((decide (nth (Ty.int IntKind.i64) s x_1 ≤ (1000 : Int))) = false →
                      ((I64 (↑x_1 : Int)) →
                      ((I64 (1 : Int)) →
                      (I64 ((↑x_1 : Int) + (1 : Int))) ∧
                      (∃ (x' : Nat), x' ≤ List.length s ∧ List.length s - x' < List.length s - x_1 ∧ ((↑x_1 : Int) + (1 : Int) = (↑x' : Int) ∧ True) ∧ ((nth tRange l (Int.toNat ((↑x_0 : Int) + (1 : Int)))).fst = (nth tRange l (Int.toNat ((↑x_0 : Int) + (1 : Int)))).fst ∧ (nth tRange l (Int.toNat ((↑x_0 : Int) + (1 : Int)))).snd.fst = (nth tRange l (Int.toNat ((↑x_0 : Int) + (1 : Int)))).snd.fst ∧ True) ∧ ((nth tRange l x_0).fst = (nth tRange l x_0).fst ∧ (nth tRange l x_0).snd.fst = (nth tRange l x_0).snd.fst ∧ True) ∧ True)))))) ∧
                  ((decide (nth (Ty.int IntKind.i64) s x_1 ≥ (0 : Int))) = false →
                    ((I64 (↑x_1 : Int)) →
                    ((I64 (1 : Int)) →
                    (I64 ((↑x_1 : Int) + (1 : Int))) ∧
                    (∃ (x' : Nat), x' ≤ List.length s ∧ List.length s - x' < List.length s - x_1 ∧ ((↑x_1 : Int) + (1 : Int) = (↑x' : Int) ∧ True) ∧ ((nth tRange l (Int.toNat ((↑x_0 : Int) + (1 : Int)))).fst = (nth tRange l (Int.toNat ((↑x_0 : Int) + (1 : Int)))).fst ∧ (nth tRange l (Int.toNat ((↑x_0 : Int) + (1 : Int)))).snd.fst = (nth tRange l (Int.toNat ((↑x_0 : Int) + (1 : Int)))).snd.fst ∧ True) ∧ ((nth tRange l x_0).fst = (nth tRange l x_0).fst ∧ (nth tRange l x_0).snd.fst = (nth tRange l x_0).snd.fst ∧ True) ∧ True)))))) ∧
                ((decide ((↑x_1 : Int) < (↑(List.length s) : Int))) = false →
                  (True) ∧
                  (True) ∧
                  (True) ∧
                  (((sameE (basesF (s, l)).snd (numE (basesF (s, l)).snd)) = true →
                    (True) ∧
                    (sameI (basesF (s, l)).fst (basesF (s, l)).fst = true)) ∧
                  ((sameE (basesF (s, l)).snd (numE (basesF (s, l)).snd)) = false →
                    (false = true))))))))) ∧
              ((decide ((nth tRange l x_0).fst < (-300 : Int))) = false →
                (((decide ((nth tRange l x_0).fst > (300 : Int))) = true →
                  (∃ (x : Nat), x ≤ List.length s ∧ ((0 : Int) = (↑x : Int) ∧ True) ∧ True) ∧
                  (∀ x_1 : Nat,
                  ((x_1 ≤ List.length s) →
                  ((List.length s ≤ big) →
                  (((decide ((↑x_1 : Int) < (↑(List.length s) : Int))) = true →
                    ((0 : Int) ≤ (↑x_1 : Int) ∧ (↑x_1 : Int) < (↑(List.length s) : Int)) ∧
                    (((decide (nth (Ty.int IntKind.i64) s x_1 ≥ (0 : Int))) = true →
                      ((0 : Int) ≤ (↑x_1 : Int) ∧ (↑x_1 : Int) < (↑(List.length s) : Int)) ∧
                      (((decide (nth (Ty.int IntKind.i64) s x_1 ≤ (1000 : Int))) = true →
                        ((0 : Int) ≤ (↑x_1 : Int) ∧ (↑x_1 : Int) < (↑(List.length s) : Int)) ∧
                        ((0 : Int) ≤ (↑x_1 : Int) ∧ (↑x_1 : Int) < (↑(List.length s) : Int)) ∧
                        ((0 : Int) ≤ nth (Ty.int IntKind.i64) s x_1 ∧ nth (Ty.int IntKind.i64) s x_1 ≤ (1000000 : Int)) ∧
                        ((0 : Int) ≤ nth (Ty.int IntKind.i64) s x_1 ∧ nth (Ty.int IntKind.i64) s x_1 ≤ (1000000 : Int)) ∧
                        (((roundF (nth (Ty.int IntKind.i64) s x_1) != roundF (nth (Ty.int IntKind.i64) s x_1)) = true →
                          (false = true)) ∧
                        ((roundF (nth (Ty.int IntKind.i64) s x_1) != roundF (nth (Ty.int IntKind.i64) s x_1)) = false →
                          ((I64 (↑x_1 : Int)) →
                          ((I64 (1 : Int)) →
                          (I64 ((↑x_1 : Int) + (1 : Int))) ∧
                          (∃ (x' : Nat), x' ≤ List.length s ∧ List.length s - x' < List.length s - x_1 ∧ ((↑x_1 : Int) + (1 : Int) = (↑x' : Int) ∧ True) ∧ ((nth tRange l (Int.toNat ((↑x_0 : Int) + (1 : Int)))).fst = (nth tRange l (Int.toNat ((↑x_0 : Int) + (1 : Int)))).fst ∧ (nth tRange l (Int.toNat ((↑x_0 : Int) + (1 : Int)))).snd.fst = (nth tRange l (Int.toNat ((↑x_0 : Int) + (1 : Int)))).snd.fst ∧ True) ∧ ((nth tRange l x_0).fst = (nth tRange l x_0).fst ∧ (nth tRange l x_0).snd.fst = (nth tRange l x_0).snd.fst ∧ True) ∧ True)))))) ∧
                      ((decide (nth (Ty.int IntKind.i64) s x_1 ≤ (1000 : Int))) = false →
                        ((I64 (↑x_1 : Int)) →
                        ((I64 (1 : Int)) →
                        (I64 ((↑x_1 : Int) + (1 : Int))) ∧
                        (∃ (x' : Nat), x' ≤ List.length s ∧ List.length s - x' < List.length s - x_1 ∧ ((↑x_1 : Int) + (1 : Int) = (↑x' : Int) ∧ True) ∧ ((nth tRange l (Int.toNat ((↑x_0 : Int) + (1 : Int)))).fst = (nth tRange l (Int.toNat ((↑x_0 : Int) + (1 : Int)))).fst ∧ (nth tRange l (Int.toNat ((↑x_0 : Int) + (1 : Int)))).snd.fst = (nth tRange l (Int.toNat ((↑x_0 : Int) + (1 : Int)))).snd.fst ∧ True) ∧ ((nth tRange l x_0).fst = (nth tRange l x_0).fst ∧ (nth tRange l x_0).snd.fst = (nth tRange l x_0).snd.fst ∧ True) ∧ True)))))) ∧
                    ((decide (nth (Ty.int IntKind.i64) s x_1 ≥ (0 : Int))) = false →
                      ((I64 (↑x_1 : Int)) →
                      ((I64 (1 : Int)) →
                      (I64 ((↑x_1 : Int) + (1 : Int))) ∧
                      (∃ (x' : Nat), x' ≤ List.length s ∧ List.length s - x' < List.length s - x_1 ∧ ((↑x_1 : Int) + (1 : Int) = (↑x' : Int) ∧ True) ∧ ((nth tRange l (Int.toNat ((↑x_0 : Int) + (1 : Int)))).fst = (nth tRange l (Int.toNat ((↑x_0 : Int) + (1 : Int)))).fst ∧ (nth tRange l (Int.toNat ((↑x_0 : Int) + (1 : Int)))).snd.fst = (nth tRange l (Int.toNat ((↑x_0 : Int) + (1 : Int)))).snd.fst ∧ True) ∧ ((nth tRange l x_0).fst = (nth tRange l x_0).fst ∧ (nth tRange l x_0).snd.fst = (nth tRange l x_0).snd.fst ∧ True) ∧ True)))))) ∧
                  ((decide ((↑x_1 : Int) < (↑(List.length s) : Int))) = false →
                    (True) ∧
                    (True) ∧
                    (True) ∧
                    (((sameE (basesF (s, l)).snd (numE (basesF (s, l)).snd)) = true →
                      (True) ∧
                      (sameI (basesF (s, l)).fst (basesF (s, l)).fst = true)) ∧
                    ((sameE (basesF (s, l)).snd (numE (basesF (s, l)).snd)) = false →
                      (false = true))))))))) ∧
                ((decide ((nth tRange l x_0).fst > (300 : Int))) = false →
                  (((decide ((nth tRange l x_0).snd.fst < (-300 : Int))) = true →
                    (∃ (x : Nat), x ≤ List.length s ∧ ((0 : Int) = (↑x : Int) ∧ True) ∧ True) ∧
                    (∀ x_1 : Nat,
                    ((x_1 ≤ List.length s) →
                    ((List.length s ≤ big) →
                    (((decide ((↑x_1 : Int) < (↑(List.length s) : Int))) = true →
                      ((0 : Int) ≤ (↑x_1 : Int) ∧ (↑x_1 : Int) < (↑(List.length s) : Int)) ∧
                      (((decide (nth (Ty.int IntKind.i64) s x_1 ≥ (0 : Int))) = true →
                        ((0 : Int) ≤ (↑x_1 : Int) ∧ (↑x_1 : Int) < (↑(List.length s) : Int)) ∧
                        (((decide (nth (Ty.int IntKind.i64) s x_1 ≤ (1000 : Int))) = true →
                          ((0 : Int) ≤ (↑x_1 : Int) ∧ (↑x_1 : Int) < (↑(List.length s) : Int)) ∧
                          ((0 : Int) ≤ (↑x_1 : Int) ∧ (↑x_1 : Int) < (↑(List.length s) : Int)) ∧
                          ((0 : Int) ≤ nth (Ty.int IntKind.i64) s x_1 ∧ nth (Ty.int IntKind.i64) s x_1 ≤ (1000000 : Int)) ∧
                          ((0 : Int) ≤ nth (Ty.int IntKind.i64) s x_1 ∧ nth (Ty.int IntKind.i64) s x_1 ≤ (1000000 : Int)) ∧
                          (((roundF (nth (Ty.int IntKind.i64) s x_1) != roundF (nth (Ty.int IntKind.i64) s x_1)) = true →
                            (false = true)) ∧
                          ((roundF (nth (Ty.int IntKind.i64) s x_1) != roundF (nth (Ty.int IntKind.i64) s x_1)) = false →
                            ((I64 (↑x_1 : Int)) →
                            ((I64 (1 : Int)) →
                            (I64 ((↑x_1 : Int) + (1 : Int))) ∧
                            (∃ (x' : Nat), x' ≤ List.length s ∧ List.length s - x' < List.length s - x_1 ∧ ((↑x_1 : Int) + (1 : Int) = (↑x' : Int) ∧ True) ∧ ((nth tRange l (Int.toNat ((↑x_0 : Int) + (1 : Int)))).fst = (nth tRange l (Int.toNat ((↑x_0 : Int) + (1 : Int)))).fst ∧ (nth tRange l (Int.toNat ((↑x_0 : Int) + (1 : Int)))).snd.fst = (nth tRange l (Int.toNat ((↑x_0 : Int) + (1 : Int)))).snd.fst ∧ True) ∧ ((nth tRange l x_0).fst = (nth tRange l x_0).fst ∧ (nth tRange l x_0).snd.fst = (nth tRange l x_0).snd.fst ∧ True) ∧ True)))))) ∧
                        ((decide (nth (Ty.int IntKind.i64) s x_1 ≤ (1000 : Int))) = false →
                          ((I64 (↑x_1 : Int)) →
                          ((I64 (1 : Int)) →
                          (I64 ((↑x_1 : Int) + (1 : Int))) ∧
                          (∃ (x' : Nat), x' ≤ List.length s ∧ List.length s - x' < List.length s - x_1 ∧ ((↑x_1 : Int) + (1 : Int) = (↑x' : Int) ∧ True) ∧ ((nth tRange l (Int.toNat ((↑x_0 : Int) + (1 : Int)))).fst = (nth tRange l (Int.toNat ((↑x_0 : Int) + (1 : Int)))).fst ∧ (nth tRange l (Int.toNat ((↑x_0 : Int) + (1 : Int)))).snd.fst = (nth tRange l (Int.toNat ((↑x_0 : Int) + (1 : Int)))).snd.fst ∧ True) ∧ ((nth tRange l x_0).fst = (nth tRange l x_0).fst ∧ (nth tRange l x_0).snd.fst = (nth tRange l x_0).snd.fst ∧ True) ∧ True)))))) ∧
                      ((decide (nth (Ty.int IntKind.i64) s x_1 ≥ (0 : Int))) = false →
                        ((I64 (↑x_1 : Int)) →
                        ((I64 (1 : Int)) →
                        (I64 ((↑x_1 : Int) + (1 : Int))) ∧
                        (∃ (x' : Nat), x' ≤ List.length s ∧ List.length s - x' < List.length s - x_1 ∧ ((↑x_1 : Int) + (1 : Int) = (↑x' : Int) ∧ True) ∧ ((nth tRange l (Int.toNat ((↑x_0 : Int) + (1 : Int)))).fst = (nth tRange l (Int.toNat ((↑x_0 : Int) + (1 : Int)))).fst ∧ (nth tRange l (Int.toNat ((↑x_0 : Int) + (1 : Int)))).snd.fst = (nth tRange l (Int.toNat ((↑x_0 : Int) + (1 : Int)))).snd.fst ∧ True) ∧ ((nth tRange l x_0).fst = (nth tRange l x_0).fst ∧ (nth tRange l x_0).snd.fst = (nth tRange l x_0).snd.fst ∧ True) ∧ True)))))) ∧
                    ((decide ((↑x_1 : Int) < (↑(List.length s) : Int))) = false →
                      (True) ∧
                      (True) ∧
                      (True) ∧
                      (((sameE (basesF (s, l)).snd (numE (basesF (s, l)).snd)) = true →
                        (True) ∧
                        (sameI (basesF (s, l)).fst (basesF (s, l)).fst = true)) ∧
                      ((sameE (basesF (s, l)).snd (numE (basesF (s, l)).snd)) = false →
                        (false = true))))))))) ∧
                  ((decide ((nth tRange l x_0).snd.fst < (-300 : Int))) = false →
                    (((decide ((nth tRange l x_0).snd.fst > (300 : Int))) = true →
                      (∃ (x : Nat), x ≤ List.length s ∧ ((0 : Int) = (↑x : Int) ∧ True) ∧ True) ∧
                      (∀ x_1 : Nat,
                      ((x_1 ≤ List.length s) →
                      ((List.length s ≤ big) →
                      (((decide ((↑x_1 : Int) < (↑(List.length s) : Int))) = true →
                        ((0 : Int) ≤ (↑x_1 : Int) ∧ (↑x_1 : Int) < (↑(List.length s) : Int)) ∧
                        (((decide (nth (Ty.int IntKind.i64) s x_1 ≥ (0 : Int))) = true →
                          ((0 : Int) ≤ (↑x_1 : Int) ∧ (↑x_1 : Int) < (↑(List.length s) : Int)) ∧
                          (((decide (nth (Ty.int IntKind.i64) s x_1 ≤ (1000 : Int))) = true →
                            ((0 : Int) ≤ (↑x_1 : Int) ∧ (↑x_1 : Int) < (↑(List.length s) : Int)) ∧
                            ((0 : Int) ≤ (↑x_1 : Int) ∧ (↑x_1 : Int) < (↑(List.length s) : Int)) ∧
                            ((0 : Int) ≤ nth (Ty.int IntKind.i64) s x_1 ∧ nth (Ty.int IntKind.i64) s x_1 ≤ (1000000 : Int)) ∧
                            ((0 : Int) ≤ nth (Ty.int IntKind.i64) s x_1 ∧ nth (Ty.int IntKind.i64) s x_1 ≤ (1000000 : Int)) ∧
                            (((roundF (nth (Ty.int IntKind.i64) s x_1) != roundF (nth (Ty.int IntKind.i64) s x_1)) = true →
                              (false = true)) ∧
                            ((roundF (nth (Ty.int IntKind.i64) s x_1) != roundF (nth (Ty.int IntKind.i64) s x_1)) = false →
                              ((I64 (↑x_1 : Int)) →
                              ((I64 (1 : Int)) →
                              (I64 ((↑x_1 : Int) + (1 : Int))) ∧
                              (∃ (x' : Nat), x' ≤ List.length s ∧ List.length s - x' < List.length s - x_1 ∧ ((↑x_1 : Int) + (1 : Int) = (↑x' : Int) ∧ True) ∧ ((nth tRange l (Int.toNat ((↑x_0 : Int) + (1 : Int)))).fst = (nth tRange l (Int.toNat ((↑x_0 : Int) + (1 : Int)))).fst ∧ (nth tRange l (Int.toNat ((↑x_0 : Int) + (1 : Int)))).snd.fst = (nth tRange l (Int.toNat ((↑x_0 : Int) + (1 : Int)))).snd.fst ∧ True) ∧ ((nth tRange l x_0).fst = (nth tRange l x_0).fst ∧ (nth tRange l x_0).snd.fst = (nth tRange l x_0).snd.fst ∧ True) ∧ True)))))) ∧
                          ((decide (nth (Ty.int IntKind.i64) s x_1 ≤ (1000 : Int))) = false →
                            ((I64 (↑x_1 : Int)) →
                            ((I64 (1 : Int)) →
                            (I64 ((↑x_1 : Int) + (1 : Int))) ∧
                            (∃ (x' : Nat), x' ≤ List.length s ∧ List.length s - x' < List.length s - x_1 ∧ ((↑x_1 : Int) + (1 : Int) = (↑x' : Int) ∧ True) ∧ ((nth tRange l (Int.toNat ((↑x_0 : Int) + (1 : Int)))).fst = (nth tRange l (Int.toNat ((↑x_0 : Int) + (1 : Int)))).fst ∧ (nth tRange l (Int.toNat ((↑x_0 : Int) + (1 : Int)))).snd.fst = (nth tRange l (Int.toNat ((↑x_0 : Int) + (1 : Int)))).snd.fst ∧ True) ∧ ((nth tRange l x_0).fst = (nth tRange l x_0).fst ∧ (nth tRange l x_0).snd.fst = (nth tRange l x_0).snd.fst ∧ True) ∧ True)))))) ∧
                        ((decide (nth (Ty.int IntKind.i64) s x_1 ≥ (0 : Int))) = false →
                          ((I64 (↑x_1 : Int)) →
                          ((I64 (1 : Int)) →
                          (I64 ((↑x_1 : Int) + (1 : Int))) ∧
                          (∃ (x' : Nat), x' ≤ List.length s ∧ List.length s - x' < List.length s - x_1 ∧ ((↑x_1 : Int) + (1 : Int) = (↑x' : Int) ∧ True) ∧ ((nth tRange l (Int.toNat ((↑x_0 : Int) + (1 : Int)))).fst = (nth tRange l (Int.toNat ((↑x_0 : Int) + (1 : Int)))).fst ∧ (nth tRange l (Int.toNat ((↑x_0 : Int) + (1 : Int)))).snd.fst = (nth tRange l (Int.toNat ((↑x_0 : Int) + (1 : Int)))).snd.fst ∧ True) ∧ ((nth tRange l x_0).fst = (nth tRange l x_0).fst ∧ (nth tRange l x_0).snd.fst = (nth tRange l x_0).snd.fst ∧ True) ∧ True)))))) ∧
                      ((decide ((↑x_1 : Int) < (↑(List.length s) : Int))) = false →
                        (True) ∧
                        (True) ∧
                        (True) ∧
                        (((sameE (basesF (s, l)).snd (numE (basesF (s, l)).snd)) = true →
                          (True) ∧
                          (sameI (basesF (s, l)).fst (basesF (s, l)).fst = true)) ∧
                        ((sameE (basesF (s, l)).snd (numE (basesF (s, l)).snd)) = false →
                          (false = true))))))))) ∧
                    ((decide ((nth tRange l x_0).snd.fst > (300 : Int))) = false →
                      (((decide ((nth tRange l (Int.toNat ((↑x_0 : Int) + (1 : Int)))).fst < (-300 : Int))) = true →
                        (∃ (x : Nat), x ≤ List.length s ∧ ((0 : Int) = (↑x : Int) ∧ True) ∧ True) ∧
                        (∀ x_1 : Nat,
                        ((x_1 ≤ List.length s) →
                        ((List.length s ≤ big) →
                        (((decide ((↑x_1 : Int) < (↑(List.length s) : Int))) = true →
                          ((0 : Int) ≤ (↑x_1 : Int) ∧ (↑x_1 : Int) < (↑(List.length s) : Int)) ∧
                          (((decide (nth (Ty.int IntKind.i64) s x_1 ≥ (0 : Int))) = true →
                            ((0 : Int) ≤ (↑x_1 : Int) ∧ (↑x_1 : Int) < (↑(List.length s) : Int)) ∧
                            (((decide (nth (Ty.int IntKind.i64) s x_1 ≤ (1000 : Int))) = true →
                              ((0 : Int) ≤ (↑x_1 : Int) ∧ (↑x_1 : Int) < (↑(List.length s) : Int)) ∧
                              ((0 : Int) ≤ (↑x_1 : Int) ∧ (↑x_1 : Int) < (↑(List.length s) : Int)) ∧
                              ((0 : Int) ≤ nth (Ty.int IntKind.i64) s x_1 ∧ nth (Ty.int IntKind.i64) s x_1 ≤ (1000000 : Int)) ∧
                              ((0 : Int) ≤ nth (Ty.int IntKind.i64) s x_1 ∧ nth (Ty.int IntKind.i64) s x_1 ≤ (1000000 : Int)) ∧
                              (((roundF (nth (Ty.int IntKind.i64) s x_1) != roundF (nth (Ty.int IntKind.i64) s x_1)) = true →
                                (false = true)) ∧
                              ((roundF (nth (Ty.int IntKind.i64) s x_1) != roundF (nth (Ty.int IntKind.i64) s x_1)) = false →
                                ((I64 (↑x_1 : Int)) →
                                ((I64 (1 : Int)) →
                                (I64 ((↑x_1 : Int) + (1 : Int))) ∧
                                (∃ (x' : Nat), x' ≤ List.length s ∧ List.length s - x' < List.length s - x_1 ∧ ((↑x_1 : Int) + (1 : Int) = (↑x' : Int) ∧ True) ∧ ((nth tRange l (Int.toNat ((↑x_0 : Int) + (1 : Int)))).fst = (nth tRange l (Int.toNat ((↑x_0 : Int) + (1 : Int)))).fst ∧ (nth tRange l (Int.toNat ((↑x_0 : Int) + (1 : Int)))).snd.fst = (nth tRange l (Int.toNat ((↑x_0 : Int) + (1 : Int)))).snd.fst ∧ True) ∧ ((nth tRange l x_0).fst = (nth tRange l x_0).fst ∧ (nth tRange l x_0).snd.fst = (nth tRange l x_0).snd.fst ∧ True) ∧ True)))))) ∧
                            ((decide (nth (Ty.int IntKind.i64) s x_1 ≤ (1000 : Int))) = false →
                              ((I64 (↑x_1 : Int)) →
                              ((I64 (1 : Int)) →
                              (I64 ((↑x_1 : Int) + (1 : Int))) ∧
                              (∃ (x' : Nat), x' ≤ List.length s ∧ List.length s - x' < List.length s - x_1 ∧ ((↑x_1 : Int) + (1 : Int) = (↑x' : Int) ∧ True) ∧ ((nth tRange l (Int.toNat ((↑x_0 : Int) + (1 : Int)))).fst = (nth tRange l (Int.toNat ((↑x_0 : Int) + (1 : Int)))).fst ∧ (nth tRange l (Int.toNat ((↑x_0 : Int) + (1 : Int)))).snd.fst = (nth tRange l (Int.toNat ((↑x_0 : Int) + (1 : Int)))).snd.fst ∧ True) ∧ ((nth tRange l x_0).fst = (nth tRange l x_0).fst ∧ (nth tRange l x_0).snd.fst = (nth tRange l x_0).snd.fst ∧ True) ∧ True)))))) ∧
                          ((decide (nth (Ty.int IntKind.i64) s x_1 ≥ (0 : Int))) = false →
                            ((I64 (↑x_1 : Int)) →
                            ((I64 (1 : Int)) →
                            (I64 ((↑x_1 : Int) + (1 : Int))) ∧
                            (∃ (x' : Nat), x' ≤ List.length s ∧ List.length s - x' < List.length s - x_1 ∧ ((↑x_1 : Int) + (1 : Int) = (↑x' : Int) ∧ True) ∧ ((nth tRange l (Int.toNat ((↑x_0 : Int) + (1 : Int)))).fst = (nth tRange l (Int.toNat ((↑x_0 : Int) + (1 : Int)))).fst ∧ (nth tRange l (Int.toNat ((↑x_0 : Int) + (1 : Int)))).snd.fst = (nth tRange l (Int.toNat ((↑x_0 : Int) + (1 : Int)))).snd.fst ∧ True) ∧ ((nth tRange l x_0).fst = (nth tRange l x_0).fst ∧ (nth tRange l x_0).snd.fst = (nth tRange l x_0).snd.fst ∧ True) ∧ True)))))) ∧
                        ((decide ((↑x_1 : Int) < (↑(List.length s) : Int))) = false →
                          (True) ∧
                          (True) ∧
                          (True) ∧
                          (((sameE (basesF (s, l)).snd (numE (basesF (s, l)).snd)) = true →
                            (True) ∧
                            (sameI (basesF (s, l)).fst (basesF (s, l)).fst = true)) ∧
                          ((sameE (basesF (s, l)).snd (numE (basesF (s, l)).snd)) = false →
                            (false = true))))))))) ∧
                      ((decide ((nth tRange l (Int.toNat ((↑x_0 : Int) + (1 : Int)))).fst < (-300 : Int))) = false →
                        (((decide ((nth tRange l (Int.toNat ((↑x_0 : Int) + (1 : Int)))).fst > (300 : Int))) = true →
                          (∃ (x : Nat), x ≤ List.length s ∧ ((0 : Int) = (↑x : Int) ∧ True) ∧ True) ∧
                          (∀ x_1 : Nat,
                          ((x_1 ≤ List.length s) →
                          ((List.length s ≤ big) →
                          (((decide ((↑x_1 : Int) < (↑(List.length s) : Int))) = true →
                            ((0 : Int) ≤ (↑x_1 : Int) ∧ (↑x_1 : Int) < (↑(List.length s) : Int)) ∧
                            (((decide (nth (Ty.int IntKind.i64) s x_1 ≥ (0 : Int))) = true →
                              ((0 : Int) ≤ (↑x_1 : Int) ∧ (↑x_1 : Int) < (↑(List.length s) : Int)) ∧
                              (((decide (nth (Ty.int IntKind.i64) s x_1 ≤ (1000 : Int))) = true →
                                ((0 : Int) ≤ (↑x_1 : Int) ∧ (↑x_1 : Int) < (↑(List.length s) : Int)) ∧
                                ((0 : Int) ≤ (↑x_1 : Int) ∧ (↑x_1 : Int) < (↑(List.length s) : Int)) ∧
                                ((0 : Int) ≤ nth (Ty.int IntKind.i64) s x_1 ∧ nth (Ty.int IntKind.i64) s x_1 ≤ (1000000 : Int)) ∧
                                ((0 : Int) ≤ nth (Ty.int IntKind.i64) s x_1 ∧ nth (Ty.int IntKind.i64) s x_1 ≤ (1000000 : Int)) ∧
                                (((roundF (nth (Ty.int IntKind.i64) s x_1) != roundF (nth (Ty.int IntKind.i64) s x_1)) = true →
                                  (false = true)) ∧
                                ((roundF (nth (Ty.int IntKind.i64) s x_1) != roundF (nth (Ty.int IntKind.i64) s x_1)) = false →
                                  ((I64 (↑x_1 : Int)) →
                                  ((I64 (1 : Int)) →
                                  (I64 ((↑x_1 : Int) + (1 : Int))) ∧
                                  (∃ (x' : Nat), x' ≤ List.length s ∧ List.length s - x' < List.length s - x_1 ∧ ((↑x_1 : Int) + (1 : Int) = (↑x' : Int) ∧ True) ∧ ((nth tRange l (Int.toNat ((↑x_0 : Int) + (1 : Int)))).fst = (nth tRange l (Int.toNat ((↑x_0 : Int) + (1 : Int)))).fst ∧ (nth tRange l (Int.toNat ((↑x_0 : Int) + (1 : Int)))).snd.fst = (nth tRange l (Int.toNat ((↑x_0 : Int) + (1 : Int)))).snd.fst ∧ True) ∧ ((nth tRange l x_0).fst = (nth tRange l x_0).fst ∧ (nth tRange l x_0).snd.fst = (nth tRange l x_0).snd.fst ∧ True) ∧ True)))))) ∧
                              ((decide (nth (Ty.int IntKind.i64) s x_1 ≤ (1000 : Int))) = false →
                                ((I64 (↑x_1 : Int)) →
                                ((I64 (1 : Int)) →
                                (I64 ((↑x_1 : Int) + (1 : Int))) ∧
                                (∃ (x' : Nat), x' ≤ List.length s ∧ List.length s - x' < List.length s - x_1 ∧ ((↑x_1 : Int) + (1 : Int) = (↑x' : Int) ∧ True) ∧ ((nth tRange l (Int.toNat ((↑x_0 : Int) + (1 : Int)))).fst = (nth tRange l (Int.toNat ((↑x_0 : Int) + (1 : Int)))).fst ∧ (nth tRange l (Int.toNat ((↑x_0 : Int) + (1 : Int)))).snd.fst = (nth tRange l (Int.toNat ((↑x_0 : Int) + (1 : Int)))).snd.fst ∧ True) ∧ ((nth tRange l x_0).fst = (nth tRange l x_0).fst ∧ (nth tRange l x_0).snd.fst = (nth tRange l x_0).snd.fst ∧ True) ∧ True)))))) ∧
                            ((decide (nth (Ty.int IntKind.i64) s x_1 ≥ (0 : Int))) = false →
                              ((I64 (↑x_1 : Int)) →
                              ((I64 (1 : Int)) →
                              (I64 ((↑x_1 : Int) + (1 : Int))) ∧
                              (∃ (x' : Nat), x' ≤ List.length s ∧ List.length s - x' < List.length s - x_1 ∧ ((↑x_1 : Int) + (1 : Int) = (↑x' : Int) ∧ True) ∧ ((nth tRange l (Int.toNat ((↑x_0 : Int) + (1 : Int)))).fst = (nth tRange l (Int.toNat ((↑x_0 : Int) + (1 : Int)))).fst ∧ (nth tRange l (Int.toNat ((↑x_0 : Int) + (1 : Int)))).snd.fst = (nth tRange l (Int.toNat ((↑x_0 : Int) + (1 : Int)))).snd.fst ∧ True) ∧ ((nth tRange l x_0).fst = (nth tRange l x_0).fst ∧ (nth tRange l x_0).snd.fst = (nth tRange l x_0).snd.fst ∧ True) ∧ True)))))) ∧
                          ((decide ((↑x_1 : Int) < (↑(List.length s) : Int))) = false →
                            (True) ∧
                            (True) ∧
                            (True) ∧
                            (((sameE (basesF (s, l)).snd (numE (basesF (s, l)).snd)) = true →
                              (True) ∧
                              (sameI (basesF (s, l)).fst (basesF (s, l)).fst = true)) ∧
                            ((sameE (basesF (s, l)).snd (numE (basesF (s, l)).snd)) = false →
                              (false = true))))))))) ∧
                        ((decide ((nth tRange l (Int.toNat ((↑x_0 : Int) + (1 : Int)))).fst > (300 : Int))) = false →
                          (((decide ((nth tRange l (Int.toNat ((↑x_0 : Int) + (1 : Int)))).snd.fst < (-300 : Int))) = true →
                            (∃ (x : Nat), x ≤ List.length s ∧ ((0 : Int) = (↑x : Int) ∧ True) ∧ True) ∧
                            (∀ x_1 : Nat,
                            ((x_1 ≤ List.length s) →
                            ((List.length s ≤ big) →
                            (((decide ((↑x_1 : Int) < (↑(List.length s) : Int))) = true →
                              ((0 : Int) ≤ (↑x_1 : Int) ∧ (↑x_1 : Int) < (↑(List.length s) : Int)) ∧
                              (((decide (nth (Ty.int IntKind.i64) s x_1 ≥ (0 : Int))) = true →
                                ((0 : Int) ≤ (↑x_1 : Int) ∧ (↑x_1 : Int) < (↑(List.length s) : Int)) ∧
                                (((decide (nth (Ty.int IntKind.i64) s x_1 ≤ (1000 : Int))) = true →
                                  ((0 : Int) ≤ (↑x_1 : Int) ∧ (↑x_1 : Int) < (↑(List.length s) : Int)) ∧
                                  ((0 : Int) ≤ (↑x_1 : Int) ∧ (↑x_1 : Int) < (↑(List.length s) : Int)) ∧
                                  ((0 : Int) ≤ nth (Ty.int IntKind.i64) s x_1 ∧ nth (Ty.int IntKind.i64) s x_1 ≤ (1000000 : Int)) ∧
                                  ((0 : Int) ≤ nth (Ty.int IntKind.i64) s x_1 ∧ nth (Ty.int IntKind.i64) s x_1 ≤ (1000000 : Int)) ∧
                                  (((roundF (nth (Ty.int IntKind.i64) s x_1) != roundF (nth (Ty.int IntKind.i64) s x_1)) = true →
                                    (false = true)) ∧
                                  ((roundF (nth (Ty.int IntKind.i64) s x_1) != roundF (nth (Ty.int IntKind.i64) s x_1)) = false →
                                    ((I64 (↑x_1 : Int)) →
                                    ((I64 (1 : Int)) →
                                    (I64 ((↑x_1 : Int) + (1 : Int))) ∧
                                    (∃ (x' : Nat), x' ≤ List.length s ∧ List.length s - x' < List.length s - x_1 ∧ ((↑x_1 : Int) + (1 : Int) = (↑x' : Int) ∧ True) ∧ ((nth tRange l (Int.toNat ((↑x_0 : Int) + (1 : Int)))).fst = (nth tRange l (Int.toNat ((↑x_0 : Int) + (1 : Int)))).fst ∧ (nth tRange l (Int.toNat ((↑x_0 : Int) + (1 : Int)))).snd.fst = (nth tRange l (Int.toNat ((↑x_0 : Int) + (1 : Int)))).snd.fst ∧ True) ∧ ((nth tRange l x_0).fst = (nth tRange l x_0).fst ∧ (nth tRange l x_0).snd.fst = (nth tRange l x_0).snd.fst ∧ True) ∧ True)))))) ∧
                                ((decide (nth (Ty.int IntKind.i64) s x_1 ≤ (1000 : Int))) = false →
                                  ((I64 (↑x_1 : Int)) →
                                  ((I64 (1 : Int)) →
                                  (I64 ((↑x_1 : Int) + (1 : Int))) ∧
                                  (∃ (x' : Nat), x' ≤ List.length s ∧ List.length s - x' < List.length s - x_1 ∧ ((↑x_1 : Int) + (1 : Int) = (↑x' : Int) ∧ True) ∧ ((nth tRange l (Int.toNat ((↑x_0 : Int) + (1 : Int)))).fst = (nth tRange l (Int.toNat ((↑x_0 : Int) + (1 : Int)))).fst ∧ (nth tRange l (Int.toNat ((↑x_0 : Int) + (1 : Int)))).snd.fst = (nth tRange l (Int.toNat ((↑x_0 : Int) + (1 : Int)))).snd.fst ∧ True) ∧ ((nth tRange l x_0).fst = (nth tRange l x_0).fst ∧ (nth tRange l x_0).snd.fst = (nth tRange l x_0).snd.fst ∧ True) ∧ True)))))) ∧
                              ((decide (nth (Ty.int IntKind.i64) s x_1 ≥ (0 : Int))) = false →
                                ((I64 (↑x_1 : Int)) →
                                ((I64 (1 : Int)) →
                                (I64 ((↑x_1 : Int) + (1 : Int))) ∧
                                (∃ (x' : Nat), x' ≤ List.length s ∧ List.length s - x' < List.length s - x_1 ∧ ((↑x_1 : Int) + (1 : Int) = (↑x' : Int) ∧ True) ∧ ((nth tRange l (Int.toNat ((↑x_0 : Int) + (1 : Int)))).fst = (nth tRange l (Int.toNat ((↑x_0 : Int) + (1 : Int)))).fst ∧ (nth tRange l (Int.toNat ((↑x_0 : Int) + (1 : Int)))).snd.fst = (nth tRange l (Int.toNat ((↑x_0 : Int) + (1 : Int)))).snd.fst ∧ True) ∧ ((nth tRange l x_0).fst = (nth tRange l x_0).fst ∧ (nth tRange l x_0).snd.fst = (nth tRange l x_0).snd.fst ∧ True) ∧ True)))))) ∧
                            ((decide ((↑x_1 : Int) < (↑(List.length s) : Int))) = false →
                              (True) ∧
                              (True) ∧
                              (True) ∧
                              (((sameE (basesF (s, l)).snd (numE (basesF (s, l)).snd)) = true →
                                (True) ∧
                                (sameI (basesF (s, l)).fst (basesF (s, l)).fst = true)) ∧
                              ((sameE (basesF (s, l)).snd (numE (basesF (s, l)).snd)) = false →
                                (false = true))))))))) ∧
                          ((decide ((nth tRange l (Int.toNat ((↑x_0 : Int) + (1 : Int)))).snd.fst < (-300 : Int))) = false →
                            (((decide ((nth tRange l (Int.toNat ((↑x_0 : Int) + (1 : Int)))).snd.fst > (300 : Int))) = true →
                              (∃ (x : Nat), x ≤ List.length s ∧ ((0 : Int) = (↑x : Int) ∧ True) ∧ True) ∧
                              (∀ x_1 : Nat,
                              ((x_1 ≤ List.length s) →
                              ((List.length s ≤ big) →
                              (((decide ((↑x_1 : Int) < (↑(List.length s) : Int))) = true →
                                ((0 : Int) ≤ (↑x_1 : Int) ∧ (↑x_1 : Int) < (↑(List.length s) : Int)) ∧
                                (((decide (nth (Ty.int IntKind.i64) s x_1 ≥ (0 : Int))) = true →
                                  ((0 : Int) ≤ (↑x_1 : Int) ∧ (↑x_1 : Int) < (↑(List.length s) : Int)) ∧
                                  (((decide (nth (Ty.int IntKind.i64) s x_1 ≤ (1000 : Int))) = true →
                                    ((0 : Int) ≤ (↑x_1 : Int) ∧ (↑x_1 : Int) < (↑(List.length s) : Int)) ∧
                                    ((0 : Int) ≤ (↑x_1 : Int) ∧ (↑x_1 : Int) < (↑(List.length s) : Int)) ∧
                                    ((0 : Int) ≤ nth (Ty.int IntKind.i64) s x_1 ∧ nth (Ty.int IntKind.i64) s x_1 ≤ (1000000 : Int)) ∧
                                    ((0 : Int) ≤ nth (Ty.int IntKind.i64) s x_1 ∧ nth (Ty.int IntKind.i64) s x_1 ≤ (1000000 : Int)) ∧
                                    (((roundF (nth (Ty.int IntKind.i64) s x_1) != roundF (nth (Ty.int IntKind.i64) s x_1)) = true →
                                      (false = true)) ∧
                                    ((roundF (nth (Ty.int IntKind.i64) s x_1) != roundF (nth (Ty.int IntKind.i64) s x_1)) = false →
                                      ((I64 (↑x_1 : Int)) →
                                      ((I64 (1 : Int)) →
                                      (I64 ((↑x_1 : Int) + (1 : Int))) ∧
                                      (∃ (x' : Nat), x' ≤ List.length s ∧ List.length s - x' < List.length s - x_1 ∧ ((↑x_1 : Int) + (1 : Int) = (↑x' : Int) ∧ True) ∧ ((nth tRange l (Int.toNat ((↑x_0 : Int) + (1 : Int)))).fst = (nth tRange l (Int.toNat ((↑x_0 : Int) + (1 : Int)))).fst ∧ (nth tRange l (Int.toNat ((↑x_0 : Int) + (1 : Int)))).snd.fst = (nth tRange l (Int.toNat ((↑x_0 : Int) + (1 : Int)))).snd.fst ∧ True) ∧ ((nth tRange l x_0).fst = (nth tRange l x_0).fst ∧ (nth tRange l x_0).snd.fst = (nth tRange l x_0).snd.fst ∧ True) ∧ True)))))) ∧
                                  ((decide (nth (Ty.int IntKind.i64) s x_1 ≤ (1000 : Int))) = false →
                                    ((I64 (↑x_1 : Int)) →
                                    ((I64 (1 : Int)) →
                                    (I64 ((↑x_1 : Int) + (1 : Int))) ∧
                                    (∃ (x' : Nat), x' ≤ List.length s ∧ List.length s - x' < List.length s - x_1 ∧ ((↑x_1 : Int) + (1 : Int) = (↑x' : Int) ∧ True) ∧ ((nth tRange l (Int.toNat ((↑x_0 : Int) + (1 : Int)))).fst = (nth tRange l (Int.toNat ((↑x_0 : Int) + (1 : Int)))).fst ∧ (nth tRange l (Int.toNat ((↑x_0 : Int) + (1 : Int)))).snd.fst = (nth tRange l (Int.toNat ((↑x_0 : Int) + (1 : Int)))).snd.fst ∧ True) ∧ ((nth tRange l x_0).fst = (nth tRange l x_0).fst ∧ (nth tRange l x_0).snd.fst = (nth tRange l x_0).snd.fst ∧ True) ∧ True)))))) ∧
                                ((decide (nth (Ty.int IntKind.i64) s x_1 ≥ (0 : Int))) = false →
                                  ((I64 (↑x_1 : Int)) →
                                  ((I64 (1 : Int)) →
                                  (I64 ((↑x_1 : Int) + (1 : Int))) ∧
                                  (∃ (x' : Nat), x' ≤ List.length s ∧ List.length s - x' < List.length s - x_1 ∧ ((↑x_1 : Int) + (1 : Int) = (↑x' : Int) ∧ True) ∧ ((nth tRange l (Int.toNat ((↑x_0 : Int) + (1 : Int)))).fst = (nth tRange l (Int.toNat ((↑x_0 : Int) + (1 : Int)))).fst ∧ (nth tRange l (Int.toNat ((↑x_0 : Int) + (1 : Int)))).snd.fst = (nth tRange l (Int.toNat ((↑x_0 : Int) + (1 : Int)))).snd.fst ∧ True) ∧ ((nth tRange l x_0).fst = (nth tRange l x_0).fst ∧ (nth tRange l x_0).snd.fst = (nth tRange l x_0).snd.fst ∧ True) ∧ True)))))) ∧
                              ((decide ((↑x_1 : Int) < (↑(List.length s) : Int))) = false →
                                (True) ∧
                                (True) ∧
                                (True) ∧
                                (((sameE (basesF (s, l)).snd (numE (basesF (s, l)).snd)) = true →
                                  (True) ∧
                                  (sameI (basesF (s, l)).fst (basesF (s, l)).fst = true)) ∧
                                ((sameE (basesF (s, l)).snd (numE (basesF (s, l)).snd)) = false →
                                  (false = true))))))))) ∧
                            ((decide ((nth tRange l (Int.toNat ((↑x_0 : Int) + (1 : Int)))).snd.fst > (300 : Int))) = false →
                              (bnd ((nth tRange l x_0).fst, (nth tRange l x_0).snd.fst, ()) ∧ bnd ((nth tRange l (Int.toNat ((↑x_0 : Int) + (1 : Int)))).fst, (nth tRange l (Int.toNat ((↑x_0 : Int) + (1 : Int)))).snd.fst, ())) ∧
                              (bnd ((nth tRange l x_0).fst, (nth tRange l x_0).snd.fst, ()) ∧ bnd ((nth tRange l (Int.toNat ((↑x_0 : Int) + (1 : Int)))).fst, (nth tRange l (Int.toNat ((↑x_0 : Int) + (1 : Int)))).snd.fst, ())) ∧
                              (((!apartF ((nth tRange l x_0).fst, (nth tRange l x_0).snd.fst, ()) ((nth tRange l (Int.toNat ((↑x_0 : Int) + (1 : Int)))).fst, (nth tRange l (Int.toNat ((↑x_0 : Int) + (1 : Int)))).snd.fst, ()) == apartF ((nth tRange l x_0).fst, (nth tRange l x_0).snd.fst, ()) ((nth tRange l (Int.toNat ((↑x_0 : Int) + (1 : Int)))).fst, (nth tRange l (Int.toNat ((↑x_0 : Int) + (1 : Int)))).snd.fst, ())) = true →
                                (false = true)) ∧
                              ((!apartF ((nth tRange l x_0).fst, (nth tRange l x_0).snd.fst, ()) ((nth tRange l (Int.toNat ((↑x_0 : Int) + (1 : Int)))).fst, (nth tRange l (Int.toNat ((↑x_0 : Int) + (1 : Int)))).snd.fst, ()) == apartF ((nth tRange l x_0).fst, (nth tRange l x_0).snd.fst, ()) ((nth tRange l (Int.toNat ((↑x_0 : Int) + (1 : Int)))).fst, (nth tRange l (Int.toNat ((↑x_0 : Int) + (1 : Int)))).snd.fst, ())) = false →
                                ((I64 (↑x_0 : Int)) →
                                ((I64 (1 : Int)) →
                                (I64 ((↑x_0 : Int) + (1 : Int))) ∧
                                (∃ (x' : Nat), x' ≤ List.length l ∧ List.length l - x' < List.length l - x_0 ∧ ((↑x_0 : Int) + (1 : Int) = (↑x' : Int) ∧ True) ∧ True)))))))))))))))))))))))) ∧
            ((decide ((↑x_0 : Int) + (1 : Int) < (↑(List.length l) : Int))) = false →
              (∃ (x : Nat), x ≤ List.length s ∧ ((0 : Int) = (↑x : Int) ∧ True) ∧ True) ∧
              (∀ x_1 : Nat,
              ((x_1 ≤ List.length s) →
              ((List.length s ≤ big) →
              (((decide ((↑x_1 : Int) < (↑(List.length s) : Int))) = true →
                ((0 : Int) ≤ (↑x_1 : Int) ∧ (↑x_1 : Int) < (↑(List.length s) : Int)) ∧
                (((decide (nth (Ty.int IntKind.i64) s x_1 ≥ (0 : Int))) = true →
                  ((0 : Int) ≤ (↑x_1 : Int) ∧ (↑x_1 : Int) < (↑(List.length s) : Int)) ∧
                  (((decide (nth (Ty.int IntKind.i64) s x_1 ≤ (1000 : Int))) = true →
                    ((0 : Int) ≤ (↑x_1 : Int) ∧ (↑x_1 : Int) < (↑(List.length s) : Int)) ∧
                    ((0 : Int) ≤ (↑x_1 : Int) ∧ (↑x_1 : Int) < (↑(List.length s) : Int)) ∧
                    ((0 : Int) ≤ nth (Ty.int IntKind.i64) s x_1 ∧ nth (Ty.int IntKind.i64) s x_1 ≤ (1000000 : Int)) ∧
                    ((0 : Int) ≤ nth (Ty.int IntKind.i64) s x_1 ∧ nth (Ty.int IntKind.i64) s x_1 ≤ (1000000 : Int)) ∧
                    (((roundF (nth (Ty.int IntKind.i64) s x_1) != roundF (nth (Ty.int IntKind.i64) s x_1)) = true →
                      (false = true)) ∧
                    ((roundF (nth (Ty.int IntKind.i64) s x_1) != roundF (nth (Ty.int IntKind.i64) s x_1)) = false →
                      ((I64 (↑x_1 : Int)) →
                      ((I64 (1 : Int)) →
                      (I64 ((↑x_1 : Int) + (1 : Int))) ∧
                      (∃ (x' : Nat), x' ≤ List.length s ∧ List.length s - x' < List.length s - x_1 ∧ ((↑x_1 : Int) + (1 : Int) = (↑x' : Int) ∧ True) ∧ True)))))) ∧
                  ((decide (nth (Ty.int IntKind.i64) s x_1 ≤ (1000 : Int))) = false →
                    ((I64 (↑x_1 : Int)) →
                    ((I64 (1 : Int)) →
                    (I64 ((↑x_1 : Int) + (1 : Int))) ∧
                    (∃ (x' : Nat), x' ≤ List.length s ∧ List.length s - x' < List.length s - x_1 ∧ ((↑x_1 : Int) + (1 : Int) = (↑x' : Int) ∧ True) ∧ True)))))) ∧
                ((decide (nth (Ty.int IntKind.i64) s x_1 ≥ (0 : Int))) = false →
                  ((I64 (↑x_1 : Int)) →
                  ((I64 (1 : Int)) →
                  (I64 ((↑x_1 : Int) + (1 : Int))) ∧
                  (∃ (x' : Nat), x' ≤ List.length s ∧ List.length s - x' < List.length s - x_1 ∧ ((↑x_1 : Int) + (1 : Int) = (↑x' : Int) ∧ True) ∧ True)))))) ∧
              ((decide ((↑x_1 : Int) < (↑(List.length s) : Int))) = false →
                (True) ∧
                (True) ∧
                (True) ∧
                (((sameE (basesF (s, l)).snd (numE (basesF (s, l)).snd)) = true →
                  (True) ∧
                  (sameI (basesF (s, l)).fst (basesF (s, l)).fst = true)) ∧
                ((sameE (basesF (s, l)).snd (numE (basesF (s, l)).snd)) = false →
                  (false = true)))))))))))))))))))))))) (by kernel_rfl) ?_
  refine ⟨?_, ?_⟩
  · first | exact True.intro | rfl | omega | assumption | (dsimp only [D] at *; omega) | (simp only [I64, big] at *; omega) | (simp_all; done)
  refine ⟨fun h0 => ?_, fun h0 => ?_⟩
  · exact absurd (show false = true from h0) (by decide)
  ·
    intro h1
    refine ⟨fun h2 => ?_, fun h2 => ?_⟩
    · try simp only [decide_eq_true_eq, decide_eq_false_iff_not, beq_iff_eq, beq_eq_false_iff_ne, bne_iff_ne, bne_eq_false_iff_eq, Bool.not_eq_true', Bool.not_eq_false', Bool.not_eq_true, Bool.not_eq_false, ne_eq, Bool.and_eq_true, Bool.or_eq_true, Bool.and_eq_false_iff, Bool.or_eq_false_iff, reduceCtorEq, Int.not_lt, Int.not_le] at h2
      first | exact True.intro | rfl | omega | assumption | (dsimp only [D] at *; omega) | (simp only [I64, big] at *; omega) | (simp_all; done)
    · try simp only [decide_eq_true_eq, decide_eq_false_iff_not, beq_iff_eq, beq_eq_false_iff_ne, bne_iff_ne, bne_eq_false_iff_eq, Bool.not_eq_true', Bool.not_eq_false', Bool.not_eq_true, Bool.not_eq_false, ne_eq, Bool.and_eq_true, Bool.or_eq_true, Bool.and_eq_false_iff, Bool.or_eq_false_iff, reduceCtorEq, Int.not_lt, Int.not_le] at h2
      intro h3
      refine ⟨fun h4 => ?_, fun h4 => ?_⟩
      · try simp only [decide_eq_true_eq, decide_eq_false_iff_not, beq_iff_eq, beq_eq_false_iff_ne, bne_iff_ne, bne_eq_false_iff_eq, Bool.not_eq_true', Bool.not_eq_false', Bool.not_eq_true, Bool.not_eq_false, ne_eq, Bool.and_eq_true, Bool.or_eq_true, Bool.and_eq_false_iff, Bool.or_eq_false_iff, reduceCtorEq, Int.not_lt, Int.not_le] at h4
        first | exact True.intro | rfl | omega | assumption | (dsimp only [D] at *; omega) | (simp only [I64, big] at *; omega) | (simp_all; done)
      · try simp only [decide_eq_true_eq, decide_eq_false_iff_not, beq_iff_eq, beq_eq_false_iff_ne, bne_iff_ne, bne_eq_false_iff_eq, Bool.not_eq_true', Bool.not_eq_false', Bool.not_eq_true, Bool.not_eq_false, ne_eq, Bool.and_eq_true, Bool.or_eq_true, Bool.and_eq_false_iff, Bool.or_eq_false_iff, reduceCtorEq, Int.not_lt, Int.not_le] at h4
        refine ⟨?_, ?_⟩
        · refine ⟨0, ?_⟩; (repeat' (first | exact trivial | rfl | omega | assumption | apply And.intro))
        intro x_0 q_0
        intro h5
        intro h6
        refine ⟨?_, ?_⟩
        · first | exact True.intro | rfl | omega | assumption | (dsimp only [D] at *; omega) | (simp only [I64, big] at *; omega) | (simp_all; done)
        intro h7
        refine ⟨fun h8 => ?_, fun h8 => ?_⟩
        · try simp only [decide_eq_true_eq, decide_eq_false_iff_not, beq_iff_eq, beq_eq_false_iff_ne, bne_iff_ne, bne_eq_false_iff_eq, Bool.not_eq_true', Bool.not_eq_false', Bool.not_eq_true, Bool.not_eq_false, ne_eq, Bool.and_eq_true, Bool.or_eq_true, Bool.and_eq_false_iff, Bool.or_eq_false_iff, reduceCtorEq, Int.not_lt, Int.not_le] at h8
          refine ⟨?_, ?_⟩
          · first | exact True.intro | rfl | omega | assumption | (dsimp only [D] at *; omega) | (simp only [I64, big] at *; omega) | (simp_all; done)
          intro h9
          intro h10
          refine ⟨?_, ?_⟩
          · first | exact True.intro | rfl | omega | assumption | (dsimp only [D] at *; omega) | (simp only [I64, big] at *; omega) | (simp_all; done)
          refine ⟨?_, ?_⟩
          · first | exact True.intro | rfl | omega | assumption | (dsimp only [D] at *; omega) | (simp only [I64, big] at *; omega) | (simp_all; done)
          refine ⟨fun h11 => ?_, fun h11 => ?_⟩
          · try simp only [decide_eq_true_eq, decide_eq_false_iff_not, beq_iff_eq, beq_eq_false_iff_ne, bne_iff_ne, bne_eq_false_iff_eq, Bool.not_eq_true', Bool.not_eq_false', Bool.not_eq_true, Bool.not_eq_false, ne_eq, Bool.and_eq_true, Bool.or_eq_true, Bool.and_eq_false_iff, Bool.or_eq_false_iff, reduceCtorEq, Int.not_lt, Int.not_le] at h11
            refine ⟨?_, ?_⟩
            · refine ⟨0, ?_⟩; (repeat' (first | exact trivial | rfl | omega | assumption | apply And.intro))
            intro x_1 q_1
            intro h12
            refine ⟨fun h13 => ?_, fun h13 => ?_⟩
            · try simp only [decide_eq_true_eq, decide_eq_false_iff_not, beq_iff_eq, beq_eq_false_iff_ne, bne_iff_ne, bne_eq_false_iff_eq, Bool.not_eq_true', Bool.not_eq_false', Bool.not_eq_true, Bool.not_eq_false, ne_eq, Bool.and_eq_true, Bool.or_eq_true, Bool.and_eq_false_iff, Bool.or_eq_false_iff, reduceCtorEq, Int.not_lt, Int.not_le] at h13
              refine ⟨?_, ?_⟩
              · first | exact True.intro | rfl | omega | assumption | (dsimp only [D] at *; omega) | (simp only [I64, big] at *; omega) | (simp_all; done)
              refine ⟨fun h14 => ?_, fun h14 => ?_⟩
              · try simp only [decide_eq_true_eq, decide_eq_false_iff_not, beq_iff_eq, beq_eq_false_iff_ne, bne_iff_ne, bne_eq_false_iff_eq, Bool.not_eq_true', Bool.not_eq_false', Bool.not_eq_true, Bool.not_eq_false, ne_eq, Bool.and_eq_true, Bool.or_eq_true, Bool.and_eq_false_iff, Bool.or_eq_false_iff, reduceCtorEq, Int.not_lt, Int.not_le] at h14
                refine ⟨?_, ?_⟩
                · first | exact True.intro | rfl | omega | assumption | (dsimp only [D] at *; omega) | (simp only [I64, big] at *; omega) | (simp_all; done)
                refine ⟨fun h15 => ?_, fun h15 => ?_⟩
                · try simp only [decide_eq_true_eq, decide_eq_false_iff_not, beq_iff_eq, beq_eq_false_iff_ne, bne_iff_ne, bne_eq_false_iff_eq, Bool.not_eq_true', Bool.not_eq_false', Bool.not_eq_true, Bool.not_eq_false, ne_eq, Bool.and_eq_true, Bool.or_eq_true, Bool.and_eq_false_iff, Bool.or_eq_false_iff, reduceCtorEq, Int.not_lt, Int.not_le] at h15
                  refine ⟨?_, ?_⟩
                  · first | exact True.intro | rfl | omega | assumption | (dsimp only [D] at *; omega) | (simp only [I64, big] at *; omega) | (simp_all; done)
                  refine ⟨?_, ?_⟩
                  · first | exact True.intro | rfl | omega | assumption | (dsimp only [D] at *; omega) | (simp only [I64, big] at *; omega) | (simp_all; done)
                  refine ⟨?_, ?_⟩
                  · first | exact True.intro | rfl | omega | assumption | (dsimp only [D] at *; omega) | (simp only [I64, big] at *; omega) | (simp_all; done)
                  refine ⟨?_, ?_⟩
                  · first | exact True.intro | rfl | omega | assumption | (dsimp only [D] at *; omega) | (simp only [I64, big] at *; omega) | (simp_all; done)
                  refine ⟨fun h16 => ?_, fun h16 => ?_⟩
                  · try simp only [decide_eq_true_eq, decide_eq_false_iff_not, beq_iff_eq, beq_eq_false_iff_ne, bne_iff_ne, bne_eq_false_iff_eq, Bool.not_eq_true', Bool.not_eq_false', Bool.not_eq_true, Bool.not_eq_false, ne_eq, Bool.and_eq_true, Bool.or_eq_true, Bool.and_eq_false_iff, Bool.or_eq_false_iff, reduceCtorEq, Int.not_lt, Int.not_le] at h16
                    first | (exact absurd ((sameE_bases (s, l)).symm.trans (show sameE (basesF (s, l)).2 (numE (basesF (s, l)).2) = false by assumption)) (by decide)) | first | exact True.intro | rfl | omega | assumption | (dsimp only [D] at *; omega) | (simp only [I64, big] at *; omega) | (simp_all; done)
                  · try simp only [decide_eq_true_eq, decide_eq_false_iff_not, beq_iff_eq, beq_eq_false_iff_ne, bne_iff_ne, bne_eq_false_iff_eq, Bool.not_eq_true', Bool.not_eq_false', Bool.not_eq_true, Bool.not_eq_false, ne_eq, Bool.and_eq_true, Bool.or_eq_true, Bool.and_eq_false_iff, Bool.or_eq_false_iff, reduceCtorEq, Int.not_lt, Int.not_le] at h16
                    intro h17
                    intro h18
                    refine ⟨?_, ?_⟩
                    · first | exact True.intro | rfl | omega | assumption | (dsimp only [D] at *; omega) | (simp only [I64, big] at *; omega) | (simp_all; done)
                    refine ⟨x_1 + 1, ?_⟩; (repeat' (first | exact trivial | rfl | omega | assumption | apply And.intro))
                · try simp only [decide_eq_true_eq, decide_eq_false_iff_not, beq_iff_eq, beq_eq_false_iff_ne, bne_iff_ne, bne_eq_false_iff_eq, Bool.not_eq_true', Bool.not_eq_false', Bool.not_eq_true, Bool.not_eq_false, ne_eq, Bool.and_eq_true, Bool.or_eq_true, Bool.and_eq_false_iff, Bool.or_eq_false_iff, reduceCtorEq, Int.not_lt, Int.not_le] at h15
                  intro h16
                  intro h17
                  refine ⟨?_, ?_⟩
                  · first | exact True.intro | rfl | omega | assumption | (dsimp only [D] at *; omega) | (simp only [I64, big] at *; omega) | (simp_all; done)
                  refine ⟨x_1 + 1, ?_⟩; (repeat' (first | exact trivial | rfl | omega | assumption | apply And.intro))
              · try simp only [decide_eq_true_eq, decide_eq_false_iff_not, beq_iff_eq, beq_eq_false_iff_ne, bne_iff_ne, bne_eq_false_iff_eq, Bool.not_eq_true', Bool.not_eq_false', Bool.not_eq_true, Bool.not_eq_false, ne_eq, Bool.and_eq_true, Bool.or_eq_true, Bool.and_eq_false_iff, Bool.or_eq_false_iff, reduceCtorEq, Int.not_lt, Int.not_le] at h14
                intro h15
                intro h16
                refine ⟨?_, ?_⟩
                · first | exact True.intro | rfl | omega | assumption | (dsimp only [D] at *; omega) | (simp only [I64, big] at *; omega) | (simp_all; done)
                refine ⟨x_1 + 1, ?_⟩; (repeat' (first | exact trivial | rfl | omega | assumption | apply And.intro))
            · try simp only [decide_eq_true_eq, decide_eq_false_iff_not, beq_iff_eq, beq_eq_false_iff_ne, bne_iff_ne, bne_eq_false_iff_eq, Bool.not_eq_true', Bool.not_eq_false', Bool.not_eq_true, Bool.not_eq_false, ne_eq, Bool.and_eq_true, Bool.or_eq_true, Bool.and_eq_false_iff, Bool.or_eq_false_iff, reduceCtorEq, Int.not_lt, Int.not_le] at h13
              refine ⟨?_, ?_⟩
              · first | exact True.intro | rfl | omega | assumption | (dsimp only [D] at *; omega) | (simp only [I64, big] at *; omega) | (simp_all; done)
              refine ⟨?_, ?_⟩
              · first | exact True.intro | rfl | omega | assumption | (dsimp only [D] at *; omega) | (simp only [I64, big] at *; omega) | (simp_all; done)
              refine ⟨?_, ?_⟩
              · first | exact True.intro | rfl | omega | assumption | (dsimp only [D] at *; omega) | (simp only [I64, big] at *; omega) | (simp_all; done)
              refine ⟨fun h14 => ?_, fun h14 => ?_⟩
              · try simp only [decide_eq_true_eq, decide_eq_false_iff_not, beq_iff_eq, beq_eq_false_iff_ne, bne_iff_ne, bne_eq_false_iff_eq, Bool.not_eq_true', Bool.not_eq_false', Bool.not_eq_true, Bool.not_eq_false, ne_eq, Bool.and_eq_true, Bool.or_eq_true, Bool.and_eq_false_iff, Bool.or_eq_false_iff, reduceCtorEq, Int.not_lt, Int.not_le] at h14
                refine ⟨?_, ?_⟩
                · first | exact True.intro | rfl | omega | assumption | (dsimp only [D] at *; omega) | (simp only [I64, big] at *; omega) | (simp_all; done)
                simp [sameI]
              · try simp only [decide_eq_true_eq, decide_eq_false_iff_not, beq_iff_eq, beq_eq_false_iff_ne, bne_iff_ne, bne_eq_false_iff_eq, Bool.not_eq_true', Bool.not_eq_false', Bool.not_eq_true, Bool.not_eq_false, ne_eq, Bool.and_eq_true, Bool.or_eq_true, Bool.and_eq_false_iff, Bool.or_eq_false_iff, reduceCtorEq, Int.not_lt, Int.not_le] at h14
                first | (exact absurd ((sameE_bases (s, l)).symm.trans (show sameE (basesF (s, l)).2 (numE (basesF (s, l)).2) = false by assumption)) (by decide)) | first | exact True.intro | rfl | omega | assumption | (dsimp only [D] at *; omega) | (simp only [I64, big] at *; omega) | (simp_all; done)
          · try simp only [decide_eq_true_eq, decide_eq_false_iff_not, beq_iff_eq, beq_eq_false_iff_ne, bne_iff_ne, bne_eq_false_iff_eq, Bool.not_eq_true', Bool.not_eq_false', Bool.not_eq_true, Bool.not_eq_false, ne_eq, Bool.and_eq_true, Bool.or_eq_true, Bool.and_eq_false_iff, Bool.or_eq_false_iff, reduceCtorEq, Int.not_lt, Int.not_le] at h11
            refine ⟨fun h12 => ?_, fun h12 => ?_⟩
            · try simp only [decide_eq_true_eq, decide_eq_false_iff_not, beq_iff_eq, beq_eq_false_iff_ne, bne_iff_ne, bne_eq_false_iff_eq, Bool.not_eq_true', Bool.not_eq_false', Bool.not_eq_true, Bool.not_eq_false, ne_eq, Bool.and_eq_true, Bool.or_eq_true, Bool.and_eq_false_iff, Bool.or_eq_false_iff, reduceCtorEq, Int.not_lt, Int.not_le] at h12
              refine ⟨?_, ?_⟩
              · refine ⟨0, ?_⟩; (repeat' (first | exact trivial | rfl | omega | assumption | apply And.intro))
              intro x_1 q_1
              intro h13
              refine ⟨fun h14 => ?_, fun h14 => ?_⟩
              · try simp only [decide_eq_true_eq, decide_eq_false_iff_not, beq_iff_eq, beq_eq_false_iff_ne, bne_iff_ne, bne_eq_false_iff_eq, Bool.not_eq_true', Bool.not_eq_false', Bool.not_eq_true, Bool.not_eq_false, ne_eq, Bool.and_eq_true, Bool.or_eq_true, Bool.and_eq_false_iff, Bool.or_eq_false_iff, reduceCtorEq, Int.not_lt, Int.not_le] at h14
                refine ⟨?_, ?_⟩
                · first | exact True.intro | rfl | omega | assumption | (dsimp only [D] at *; omega) | (simp only [I64, big] at *; omega) | (simp_all; done)
                refine ⟨fun h15 => ?_, fun h15 => ?_⟩
                · try simp only [decide_eq_true_eq, decide_eq_false_iff_not, beq_iff_eq, beq_eq_false_iff_ne, bne_iff_ne, bne_eq_false_iff_eq, Bool.not_eq_true', Bool.not_eq_false', Bool.not_eq_true, Bool.not_eq_false, ne_eq, Bool.and_eq_true, Bool.or_eq_true, Bool.and_eq_false_iff, Bool.or_eq_false_iff, reduceCtorEq, Int.not_lt, Int.not_le] at h15
                  refine ⟨?_, ?_⟩
                  · first | exact True.intro | rfl | omega | assumption | (dsimp only [D] at *; omega) | (simp only [I64, big] at *; omega) | (simp_all; done)
                  refine ⟨fun h16 => ?_, fun h16 => ?_⟩
                  · try simp only [decide_eq_true_eq, decide_eq_false_iff_not, beq_iff_eq, beq_eq_false_iff_ne, bne_iff_ne, bne_eq_false_iff_eq, Bool.not_eq_true', Bool.not_eq_false', Bool.not_eq_true, Bool.not_eq_false, ne_eq, Bool.and_eq_true, Bool.or_eq_true, Bool.and_eq_false_iff, Bool.or_eq_false_iff, reduceCtorEq, Int.not_lt, Int.not_le] at h16
                    refine ⟨?_, ?_⟩
                    · first | exact True.intro | rfl | omega | assumption | (dsimp only [D] at *; omega) | (simp only [I64, big] at *; omega) | (simp_all; done)
                    refine ⟨?_, ?_⟩
                    · first | exact True.intro | rfl | omega | assumption | (dsimp only [D] at *; omega) | (simp only [I64, big] at *; omega) | (simp_all; done)
                    refine ⟨?_, ?_⟩
                    · first | exact True.intro | rfl | omega | assumption | (dsimp only [D] at *; omega) | (simp only [I64, big] at *; omega) | (simp_all; done)
                    refine ⟨?_, ?_⟩
                    · first | exact True.intro | rfl | omega | assumption | (dsimp only [D] at *; omega) | (simp only [I64, big] at *; omega) | (simp_all; done)
                    refine ⟨fun h17 => ?_, fun h17 => ?_⟩
                    · try simp only [decide_eq_true_eq, decide_eq_false_iff_not, beq_iff_eq, beq_eq_false_iff_ne, bne_iff_ne, bne_eq_false_iff_eq, Bool.not_eq_true', Bool.not_eq_false', Bool.not_eq_true, Bool.not_eq_false, ne_eq, Bool.and_eq_true, Bool.or_eq_true, Bool.and_eq_false_iff, Bool.or_eq_false_iff, reduceCtorEq, Int.not_lt, Int.not_le] at h17
                      first | (exact absurd ((sameE_bases (s, l)).symm.trans (show sameE (basesF (s, l)).2 (numE (basesF (s, l)).2) = false by assumption)) (by decide)) | first | exact True.intro | rfl | omega | assumption | (dsimp only [D] at *; omega) | (simp only [I64, big] at *; omega) | (simp_all; done)
                    · try simp only [decide_eq_true_eq, decide_eq_false_iff_not, beq_iff_eq, beq_eq_false_iff_ne, bne_iff_ne, bne_eq_false_iff_eq, Bool.not_eq_true', Bool.not_eq_false', Bool.not_eq_true, Bool.not_eq_false, ne_eq, Bool.and_eq_true, Bool.or_eq_true, Bool.and_eq_false_iff, Bool.or_eq_false_iff, reduceCtorEq, Int.not_lt, Int.not_le] at h17
                      intro h18
                      intro h19
                      refine ⟨?_, ?_⟩
                      · first | exact True.intro | rfl | omega | assumption | (dsimp only [D] at *; omega) | (simp only [I64, big] at *; omega) | (simp_all; done)
                      refine ⟨x_1 + 1, ?_⟩; (repeat' (first | exact trivial | rfl | omega | assumption | apply And.intro))
                  · try simp only [decide_eq_true_eq, decide_eq_false_iff_not, beq_iff_eq, beq_eq_false_iff_ne, bne_iff_ne, bne_eq_false_iff_eq, Bool.not_eq_true', Bool.not_eq_false', Bool.not_eq_true, Bool.not_eq_false, ne_eq, Bool.and_eq_true, Bool.or_eq_true, Bool.and_eq_false_iff, Bool.or_eq_false_iff, reduceCtorEq, Int.not_lt, Int.not_le] at h16
                    intro h17
                    intro h18
                    refine ⟨?_, ?_⟩
                    · first | exact True.intro | rfl | omega | assumption | (dsimp only [D] at *; omega) | (simp only [I64, big] at *; omega) | (simp_all; done)
                    refine ⟨x_1 + 1, ?_⟩; (repeat' (first | exact trivial | rfl | omega | assumption | apply And.intro))
                · try simp only [decide_eq_true_eq, decide_eq_false_iff_not, beq_iff_eq, beq_eq_false_iff_ne, bne_iff_ne, bne_eq_false_iff_eq, Bool.not_eq_true', Bool.not_eq_false', Bool.not_eq_true, Bool.not_eq_false, ne_eq, Bool.and_eq_true, Bool.or_eq_true, Bool.and_eq_false_iff, Bool.or_eq_false_iff, reduceCtorEq, Int.not_lt, Int.not_le] at h15
                  intro h16
                  intro h17
                  refine ⟨?_, ?_⟩
                  · first | exact True.intro | rfl | omega | assumption | (dsimp only [D] at *; omega) | (simp only [I64, big] at *; omega) | (simp_all; done)
                  refine ⟨x_1 + 1, ?_⟩; (repeat' (first | exact trivial | rfl | omega | assumption | apply And.intro))
              · try simp only [decide_eq_true_eq, decide_eq_false_iff_not, beq_iff_eq, beq_eq_false_iff_ne, bne_iff_ne, bne_eq_false_iff_eq, Bool.not_eq_true', Bool.not_eq_false', Bool.not_eq_true, Bool.not_eq_false, ne_eq, Bool.and_eq_true, Bool.or_eq_true, Bool.and_eq_false_iff, Bool.or_eq_false_iff, reduceCtorEq, Int.not_lt, Int.not_le] at h14
                refine ⟨?_, ?_⟩
                · first | exact True.intro | rfl | omega | assumption | (dsimp only [D] at *; omega) | (simp only [I64, big] at *; omega) | (simp_all; done)
                refine ⟨?_, ?_⟩
                · first | exact True.intro | rfl | omega | assumption | (dsimp only [D] at *; omega) | (simp only [I64, big] at *; omega) | (simp_all; done)
                refine ⟨?_, ?_⟩
                · first | exact True.intro | rfl | omega | assumption | (dsimp only [D] at *; omega) | (simp only [I64, big] at *; omega) | (simp_all; done)
                refine ⟨fun h15 => ?_, fun h15 => ?_⟩
                · try simp only [decide_eq_true_eq, decide_eq_false_iff_not, beq_iff_eq, beq_eq_false_iff_ne, bne_iff_ne, bne_eq_false_iff_eq, Bool.not_eq_true', Bool.not_eq_false', Bool.not_eq_true, Bool.not_eq_false, ne_eq, Bool.and_eq_true, Bool.or_eq_true, Bool.and_eq_false_iff, Bool.or_eq_false_iff, reduceCtorEq, Int.not_lt, Int.not_le] at h15
                  refine ⟨?_, ?_⟩
                  · first | exact True.intro | rfl | omega | assumption | (dsimp only [D] at *; omega) | (simp only [I64, big] at *; omega) | (simp_all; done)
                  simp [sameI]
                · try simp only [decide_eq_true_eq, decide_eq_false_iff_not, beq_iff_eq, beq_eq_false_iff_ne, bne_iff_ne, bne_eq_false_iff_eq, Bool.not_eq_true', Bool.not_eq_false', Bool.not_eq_true, Bool.not_eq_false, ne_eq, Bool.and_eq_true, Bool.or_eq_true, Bool.and_eq_false_iff, Bool.or_eq_false_iff, reduceCtorEq, Int.not_lt, Int.not_le] at h15
                  first | (exact absurd ((sameE_bases (s, l)).symm.trans (show sameE (basesF (s, l)).2 (numE (basesF (s, l)).2) = false by assumption)) (by decide)) | first | exact True.intro | rfl | omega | assumption | (dsimp only [D] at *; omega) | (simp only [I64, big] at *; omega) | (simp_all; done)
            · try simp only [decide_eq_true_eq, decide_eq_false_iff_not, beq_iff_eq, beq_eq_false_iff_ne, bne_iff_ne, bne_eq_false_iff_eq, Bool.not_eq_true', Bool.not_eq_false', Bool.not_eq_true, Bool.not_eq_false, ne_eq, Bool.and_eq_true, Bool.or_eq_true, Bool.and_eq_false_iff, Bool.or_eq_false_iff, reduceCtorEq, Int.not_lt, Int.not_le] at h12
              refine ⟨fun h13 => ?_, fun h13 => ?_⟩
              · try simp only [decide_eq_true_eq, decide_eq_false_iff_not, beq_iff_eq, beq_eq_false_iff_ne, bne_iff_ne, bne_eq_false_iff_eq, Bool.not_eq_true', Bool.not_eq_false', Bool.not_eq_true, Bool.not_eq_false, ne_eq, Bool.and_eq_true, Bool.or_eq_true, Bool.and_eq_false_iff, Bool.or_eq_false_iff, reduceCtorEq, Int.not_lt, Int.not_le] at h13
                refine ⟨?_, ?_⟩
                · refine ⟨0, ?_⟩; (repeat' (first | exact trivial | rfl | omega | assumption | apply And.intro))
                intro x_1 q_1
                intro h14
                refine ⟨fun h15 => ?_, fun h15 => ?_⟩
                · try simp only [decide_eq_true_eq, decide_eq_false_iff_not, beq_iff_eq, beq_eq_false_iff_ne, bne_iff_ne, bne_eq_false_iff_eq, Bool.not_eq_true', Bool.not_eq_false', Bool.not_eq_true, Bool.not_eq_false, ne_eq, Bool.and_eq_true, Bool.or_eq_true, Bool.and_eq_false_iff, Bool.or_eq_false_iff, reduceCtorEq, Int.not_lt, Int.not_le] at h15
                  refine ⟨?_, ?_⟩
                  · first | exact True.intro | rfl | omega | assumption | (dsimp only [D] at *; omega) | (simp only [I64, big] at *; omega) | (simp_all; done)
                  refine ⟨fun h16 => ?_, fun h16 => ?_⟩
                  · try simp only [decide_eq_true_eq, decide_eq_false_iff_not, beq_iff_eq, beq_eq_false_iff_ne, bne_iff_ne, bne_eq_false_iff_eq, Bool.not_eq_true', Bool.not_eq_false', Bool.not_eq_true, Bool.not_eq_false, ne_eq, Bool.and_eq_true, Bool.or_eq_true, Bool.and_eq_false_iff, Bool.or_eq_false_iff, reduceCtorEq, Int.not_lt, Int.not_le] at h16
                    refine ⟨?_, ?_⟩
                    · first | exact True.intro | rfl | omega | assumption | (dsimp only [D] at *; omega) | (simp only [I64, big] at *; omega) | (simp_all; done)
                    refine ⟨fun h17 => ?_, fun h17 => ?_⟩
                    · try simp only [decide_eq_true_eq, decide_eq_false_iff_not, beq_iff_eq, beq_eq_false_iff_ne, bne_iff_ne, bne_eq_false_iff_eq, Bool.not_eq_true', Bool.not_eq_false', Bool.not_eq_true, Bool.not_eq_false, ne_eq, Bool.and_eq_true, Bool.or_eq_true, Bool.and_eq_false_iff, Bool.or_eq_false_iff, reduceCtorEq, Int.not_lt, Int.not_le] at h17
                      refine ⟨?_, ?_⟩
                      · first | exact True.intro | rfl | omega | assumption | (dsimp only [D] at *; omega) | (simp only [I64, big] at *; omega) | (simp_all; done)
                      refine ⟨?_, ?_⟩
                      · first | exact True.intro | rfl | omega | assumption | (dsimp only [D] at *; omega) | (simp only [I64, big] at *; omega) | (simp_all; done)
                      refine ⟨?_, ?_⟩
                      · first | exact True.intro | rfl | omega | assumption | (dsimp only [D] at *; omega) | (simp only [I64, big] at *; omega) | (simp_all; done)
                      refine ⟨?_, ?_⟩
                      · first | exact True.intro | rfl | omega | assumption | (dsimp only [D] at *; omega) | (simp only [I64, big] at *; omega) | (simp_all; done)
                      refine ⟨fun h18 => ?_, fun h18 => ?_⟩
                      · try simp only [decide_eq_true_eq, decide_eq_false_iff_not, beq_iff_eq, beq_eq_false_iff_ne, bne_iff_ne, bne_eq_false_iff_eq, Bool.not_eq_true', Bool.not_eq_false', Bool.not_eq_true, Bool.not_eq_false, ne_eq, Bool.and_eq_true, Bool.or_eq_true, Bool.and_eq_false_iff, Bool.or_eq_false_iff, reduceCtorEq, Int.not_lt, Int.not_le] at h18
                        first | (exact absurd ((sameE_bases (s, l)).symm.trans (show sameE (basesF (s, l)).2 (numE (basesF (s, l)).2) = false by assumption)) (by decide)) | first | exact True.intro | rfl | omega | assumption | (dsimp only [D] at *; omega) | (simp only [I64, big] at *; omega) | (simp_all; done)
                      · try simp only [decide_eq_true_eq, decide_eq_false_iff_not, beq_iff_eq, beq_eq_false_iff_ne, bne_iff_ne, bne_eq_false_iff_eq, Bool.not_eq_true', Bool.not_eq_false', Bool.not_eq_true, Bool.not_eq_false, ne_eq, Bool.and_eq_true, Bool.or_eq_true, Bool.and_eq_false_iff, Bool.or_eq_false_iff, reduceCtorEq, Int.not_lt, Int.not_le] at h18
                        intro h19
                        intro h20
                        refine ⟨?_, ?_⟩
                        · first | exact True.intro | rfl | omega | assumption | (dsimp only [D] at *; omega) | (simp only [I64, big] at *; omega) | (simp_all; done)
                        refine ⟨x_1 + 1, ?_⟩; (repeat' (first | exact trivial | rfl | omega | assumption | apply And.intro))
                    · try simp only [decide_eq_true_eq, decide_eq_false_iff_not, beq_iff_eq, beq_eq_false_iff_ne, bne_iff_ne, bne_eq_false_iff_eq, Bool.not_eq_true', Bool.not_eq_false', Bool.not_eq_true, Bool.not_eq_false, ne_eq, Bool.and_eq_true, Bool.or_eq_true, Bool.and_eq_false_iff, Bool.or_eq_false_iff, reduceCtorEq, Int.not_lt, Int.not_le] at h17
                      intro h18
                      intro h19
                      refine ⟨?_, ?_⟩
                      · first | exact True.intro | rfl | omega | assumption | (dsimp only [D] at *; omega) | (simp only [I64, big] at *; omega) | (simp_all; done)
                      refine ⟨x_1 + 1, ?_⟩; (repeat' (first | exact trivial | rfl | omega | assumption | apply And.intro))
                  · try simp only [decide_eq_true_eq, decide_eq_false_iff_not, beq_iff_eq, beq_eq_false_iff_ne, bne_iff_ne, bne_eq_false_iff_eq, Bool.not_eq_true', Bool.not_eq_false', Bool.not_eq_true, Bool.not_eq_false, ne_eq, Bool.and_eq_true, Bool.or_eq_true, Bool.and_eq_false_iff, Bool.or_eq_false_iff, reduceCtorEq, Int.not_lt, Int.not_le] at h16
                    intro h17
                    intro h18
                    refine ⟨?_, ?_⟩
                    · first | exact True.intro | rfl | omega | assumption | (dsimp only [D] at *; omega) | (simp only [I64, big] at *; omega) | (simp_all; done)
                    refine ⟨x_1 + 1, ?_⟩; (repeat' (first | exact trivial | rfl | omega | assumption | apply And.intro))
                · try simp only [decide_eq_true_eq, decide_eq_false_iff_not, beq_iff_eq, beq_eq_false_iff_ne, bne_iff_ne, bne_eq_false_iff_eq, Bool.not_eq_true', Bool.not_eq_false', Bool.not_eq_true, Bool.not_eq_false, ne_eq, Bool.and_eq_true, Bool.or_eq_true, Bool.and_eq_false_iff, Bool.or_eq_false_iff, reduceCtorEq, Int.not_lt, Int.not_le] at h15
                  refine ⟨?_, ?_⟩
                  · first | exact True.intro | rfl | omega | assumption | (dsimp only [D] at *; omega) | (simp only [I64, big] at *; omega) | (simp_all; done)
                  refine ⟨?_, ?_⟩
                  · first | exact True.intro | rfl | omega | assumption | (dsimp only [D] at *; omega) | (simp only [I64, big] at *; omega) | (simp_all; done)
                  refine ⟨?_, ?_⟩
                  · first | exact True.intro | rfl | omega | assumption | (dsimp only [D] at *; omega) | (simp only [I64, big] at *; omega) | (simp_all; done)
                  refine ⟨fun h16 => ?_, fun h16 => ?_⟩
                  · try simp only [decide_eq_true_eq, decide_eq_false_iff_not, beq_iff_eq, beq_eq_false_iff_ne, bne_iff_ne, bne_eq_false_iff_eq, Bool.not_eq_true', Bool.not_eq_false', Bool.not_eq_true, Bool.not_eq_false, ne_eq, Bool.and_eq_true, Bool.or_eq_true, Bool.and_eq_false_iff, Bool.or_eq_false_iff, reduceCtorEq, Int.not_lt, Int.not_le] at h16
                    refine ⟨?_, ?_⟩
                    · first | exact True.intro | rfl | omega | assumption | (dsimp only [D] at *; omega) | (simp only [I64, big] at *; omega) | (simp_all; done)
                    simp [sameI]
                  · try simp only [decide_eq_true_eq, decide_eq_false_iff_not, beq_iff_eq, beq_eq_false_iff_ne, bne_iff_ne, bne_eq_false_iff_eq, Bool.not_eq_true', Bool.not_eq_false', Bool.not_eq_true, Bool.not_eq_false, ne_eq, Bool.and_eq_true, Bool.or_eq_true, Bool.and_eq_false_iff, Bool.or_eq_false_iff, reduceCtorEq, Int.not_lt, Int.not_le] at h16
                    first | (exact absurd ((sameE_bases (s, l)).symm.trans (show sameE (basesF (s, l)).2 (numE (basesF (s, l)).2) = false by assumption)) (by decide)) | first | exact True.intro | rfl | omega | assumption | (dsimp only [D] at *; omega) | (simp only [I64, big] at *; omega) | (simp_all; done)
              · try simp only [decide_eq_true_eq, decide_eq_false_iff_not, beq_iff_eq, beq_eq_false_iff_ne, bne_iff_ne, bne_eq_false_iff_eq, Bool.not_eq_true', Bool.not_eq_false', Bool.not_eq_true, Bool.not_eq_false, ne_eq, Bool.and_eq_true, Bool.or_eq_true, Bool.and_eq_false_iff, Bool.or_eq_false_iff, reduceCtorEq, Int.not_lt, Int.not_le] at h13
                refine ⟨fun h14 => ?_, fun h14 => ?_⟩
                · try simp only [decide_eq_true_eq, decide_eq_false_iff_not, beq_iff_eq, beq_eq_false_iff_ne, bne_iff_ne, bne_eq_false_iff_eq, Bool.not_eq_true', Bool.not_eq_false', Bool.not_eq_true, Bool.not_eq_false, ne_eq, Bool.and_eq_true, Bool.or_eq_true, Bool.and_eq_false_iff, Bool.or_eq_false_iff, reduceCtorEq, Int.not_lt, Int.not_le] at h14
                  refine ⟨?_, ?_⟩
                  · refine ⟨0, ?_⟩; (repeat' (first | exact trivial | rfl | omega | assumption | apply And.intro))
                  intro x_1 q_1
                  intro h15
                  refine ⟨fun h16 => ?_, fun h16 => ?_⟩
                  · try simp only [decide_eq_true_eq, decide_eq_false_iff_not, beq_iff_eq, beq_eq_false_iff_ne, bne_iff_ne, bne_eq_false_iff_eq, Bool.not_eq_true', Bool.not_eq_false', Bool.not_eq_true, Bool.not_eq_false, ne_eq, Bool.and_eq_true, Bool.or_eq_true, Bool.and_eq_false_iff, Bool.or_eq_false_iff, reduceCtorEq, Int.not_lt, Int.not_le] at h16
                    refine ⟨?_, ?_⟩
                    · first | exact True.intro | rfl | omega | assumption | (dsimp only [D] at *; omega) | (simp only [I64, big] at *; omega) | (simp_all; done)
                    refine ⟨fun h17 => ?_, fun h17 => ?_⟩
                    · try simp only [decide_eq_true_eq, decide_eq_false_iff_not, beq_iff_eq, beq_eq_false_iff_ne, bne_iff_ne, bne_eq_false_iff_eq, Bool.not_eq_true', Bool.not_eq_false', Bool.not_eq_true, Bool.not_eq_false, ne_eq, Bool.and_eq_true, Bool.or_eq_true, Bool.and_eq_false_iff, Bool.or_eq_false_iff, reduceCtorEq, Int.not_lt, Int.not_le] at h17
                      refine ⟨?_, ?_⟩
                      · first | exact True.intro | rfl | omega | assumption | (dsimp only [D] at *; omega) | (simp only [I64, big] at *; omega) | (simp_all; done)
                      refine ⟨fun h18 => ?_, fun h18 => ?_⟩
                      · try simp only [decide_eq_true_eq, decide_eq_false_iff_not, beq_iff_eq, beq_eq_false_iff_ne, bne_iff_ne, bne_eq_false_iff_eq, Bool.not_eq_true', Bool.not_eq_false', Bool.not_eq_true, Bool.not_eq_false, ne_eq, Bool.and_eq_true, Bool.or_eq_true, Bool.and_eq_false_iff, Bool.or_eq_false_iff, reduceCtorEq, Int.not_lt, Int.not_le] at h18
                        refine ⟨?_, ?_⟩
                        · first | exact True.intro | rfl | omega | assumption | (dsimp only [D] at *; omega) | (simp only [I64, big] at *; omega) | (simp_all; done)
                        refine ⟨?_, ?_⟩
                        · first | exact True.intro | rfl | omega | assumption | (dsimp only [D] at *; omega) | (simp only [I64, big] at *; omega) | (simp_all; done)
                        refine ⟨?_, ?_⟩
                        · first | exact True.intro | rfl | omega | assumption | (dsimp only [D] at *; omega) | (simp only [I64, big] at *; omega) | (simp_all; done)
                        refine ⟨?_, ?_⟩
                        · first | exact True.intro | rfl | omega | assumption | (dsimp only [D] at *; omega) | (simp only [I64, big] at *; omega) | (simp_all; done)
                        refine ⟨fun h19 => ?_, fun h19 => ?_⟩
                        · try simp only [decide_eq_true_eq, decide_eq_false_iff_not, beq_iff_eq, beq_eq_false_iff_ne, bne_iff_ne, bne_eq_false_iff_eq, Bool.not_eq_true', Bool.not_eq_false', Bool.not_eq_true, Bool.not_eq_false, ne_eq, Bool.and_eq_true, Bool.or_eq_true, Bool.and_eq_false_iff, Bool.or_eq_false_iff, reduceCtorEq, Int.not_lt, Int.not_le] at h19
                          first | (exact absurd ((sameE_bases (s, l)).symm.trans (show sameE (basesF (s, l)).2 (numE (basesF (s, l)).2) = false by assumption)) (by decide)) | first | exact True.intro | rfl | omega | assumption | (dsimp only [D] at *; omega) | (simp only [I64, big] at *; omega) | (simp_all; done)
                        · try simp only [decide_eq_true_eq, decide_eq_false_iff_not, beq_iff_eq, beq_eq_false_iff_ne, bne_iff_ne, bne_eq_false_iff_eq, Bool.not_eq_true', Bool.not_eq_false', Bool.not_eq_true, Bool.not_eq_false, ne_eq, Bool.and_eq_true, Bool.or_eq_true, Bool.and_eq_false_iff, Bool.or_eq_false_iff, reduceCtorEq, Int.not_lt, Int.not_le] at h19
                          intro h20
                          intro h21
                          refine ⟨?_, ?_⟩
                          · first | exact True.intro | rfl | omega | assumption | (dsimp only [D] at *; omega) | (simp only [I64, big] at *; omega) | (simp_all; done)
                          refine ⟨x_1 + 1, ?_⟩; (repeat' (first | exact trivial | rfl | omega | assumption | apply And.intro))
                      · try simp only [decide_eq_true_eq, decide_eq_false_iff_not, beq_iff_eq, beq_eq_false_iff_ne, bne_iff_ne, bne_eq_false_iff_eq, Bool.not_eq_true', Bool.not_eq_false', Bool.not_eq_true, Bool.not_eq_false, ne_eq, Bool.and_eq_true, Bool.or_eq_true, Bool.and_eq_false_iff, Bool.or_eq_false_iff, reduceCtorEq, Int.not_lt, Int.not_le] at h18
                        intro h19
                        intro h20
                        refine ⟨?_, ?_⟩
                        · first | exact True.intro | rfl | omega | assumption | (dsimp only [D] at *; omega) | (simp only [I64, big] at *; omega) | (simp_all; done)
                        refine ⟨x_1 + 1, ?_⟩; (repeat' (first | exact trivial | rfl | omega | assumption | apply And.intro))
                    · try simp only [decide_eq_true_eq, decide_eq_false_iff_not, beq_iff_eq, beq_eq_false_iff_ne, bne_iff_ne, bne_eq_false_iff_eq, Bool.not_eq_true', Bool.not_eq_false', Bool.not_eq_true, Bool.not_eq_false, ne_eq, Bool.and_eq_true, Bool.or_eq_true, Bool.and_eq_false_iff, Bool.or_eq_false_iff, reduceCtorEq, Int.not_lt, Int.not_le] at h17
                      intro h18
                      intro h19
                      refine ⟨?_, ?_⟩
                      · first | exact True.intro | rfl | omega | assumption | (dsimp only [D] at *; omega) | (simp only [I64, big] at *; omega) | (simp_all; done)
                      refine ⟨x_1 + 1, ?_⟩; (repeat' (first | exact trivial | rfl | omega | assumption | apply And.intro))
                  · try simp only [decide_eq_true_eq, decide_eq_false_iff_not, beq_iff_eq, beq_eq_false_iff_ne, bne_iff_ne, bne_eq_false_iff_eq, Bool.not_eq_true', Bool.not_eq_false', Bool.not_eq_true, Bool.not_eq_false, ne_eq, Bool.and_eq_true, Bool.or_eq_true, Bool.and_eq_false_iff, Bool.or_eq_false_iff, reduceCtorEq, Int.not_lt, Int.not_le] at h16
                    refine ⟨?_, ?_⟩
                    · first | exact True.intro | rfl | omega | assumption | (dsimp only [D] at *; omega) | (simp only [I64, big] at *; omega) | (simp_all; done)
                    refine ⟨?_, ?_⟩
                    · first | exact True.intro | rfl | omega | assumption | (dsimp only [D] at *; omega) | (simp only [I64, big] at *; omega) | (simp_all; done)
                    refine ⟨?_, ?_⟩
                    · first | exact True.intro | rfl | omega | assumption | (dsimp only [D] at *; omega) | (simp only [I64, big] at *; omega) | (simp_all; done)
                    refine ⟨fun h17 => ?_, fun h17 => ?_⟩
                    · try simp only [decide_eq_true_eq, decide_eq_false_iff_not, beq_iff_eq, beq_eq_false_iff_ne, bne_iff_ne, bne_eq_false_iff_eq, Bool.not_eq_true', Bool.not_eq_false', Bool.not_eq_true, Bool.not_eq_false, ne_eq, Bool.and_eq_true, Bool.or_eq_true, Bool.and_eq_false_iff, Bool.or_eq_false_iff, reduceCtorEq, Int.not_lt, Int.not_le] at h17
                      refine ⟨?_, ?_⟩
                      · first | exact True.intro | rfl | omega | assumption | (dsimp only [D] at *; omega) | (simp only [I64, big] at *; omega) | (simp_all; done)
                      simp [sameI]
                    · try simp only [decide_eq_true_eq, decide_eq_false_iff_not, beq_iff_eq, beq_eq_false_iff_ne, bne_iff_ne, bne_eq_false_iff_eq, Bool.not_eq_true', Bool.not_eq_false', Bool.not_eq_true, Bool.not_eq_false, ne_eq, Bool.and_eq_true, Bool.or_eq_true, Bool.and_eq_false_iff, Bool.or_eq_false_iff, reduceCtorEq, Int.not_lt, Int.not_le] at h17
                      first | (exact absurd ((sameE_bases (s, l)).symm.trans (show sameE (basesF (s, l)).2 (numE (basesF (s, l)).2) = false by assumption)) (by decide)) | first | exact True.intro | rfl | omega | assumption | (dsimp only [D] at *; omega) | (simp only [I64, big] at *; omega) | (simp_all; done)
                · try simp only [decide_eq_true_eq, decide_eq_false_iff_not, beq_iff_eq, beq_eq_false_iff_ne, bne_iff_ne, bne_eq_false_iff_eq, Bool.not_eq_true', Bool.not_eq_false', Bool.not_eq_true, Bool.not_eq_false, ne_eq, Bool.and_eq_true, Bool.or_eq_true, Bool.and_eq_false_iff, Bool.or_eq_false_iff, reduceCtorEq, Int.not_lt, Int.not_le] at h14
                  refine ⟨fun h15 => ?_, fun h15 => ?_⟩
                  · try simp only [decide_eq_true_eq, decide_eq_false_iff_not, beq_iff_eq, beq_eq_false_iff_ne, bne_iff_ne, bne_eq_false_iff_eq, Bool.not_eq_true', Bool.not_eq_false', Bool.not_eq_true, Bool.not_eq_false, ne_eq, Bool.and_eq_true, Bool.or_eq_true, Bool.and_eq_false_iff, Bool.or_eq_false_iff, reduceCtorEq, Int.not_lt, Int.not_le] at h15
                    refine ⟨?_, ?_⟩
                    · refine ⟨0, ?_⟩; (repeat' (first | exact trivial | rfl | omega | assumption | apply And.intro))
                    intro x_1 q_1
                    intro h16
                    refine ⟨fun h17 => ?_, fun h17 => ?_⟩
                    · try simp only [decide_eq_true_eq, decide_eq_false_iff_not, beq_iff_eq, beq_eq_false_iff_ne, bne_iff_ne, bne_eq_false_iff_eq, Bool.not_eq_true', Bool.not_eq_false', Bool.not_eq_true, Bool.not_eq_false, ne_eq, Bool.and_eq_true, Bool.or_eq_true, Bool.and_eq_false_iff, Bool.or_eq_false_iff, reduceCtorEq, Int.not_lt, Int.not_le] at h17
                      refine ⟨?_, ?_⟩
                      · first | exact True.intro | rfl | omega | assumption | (dsimp only [D] at *; omega) | (simp only [I64, big] at *; omega) | (simp_all; done)
                      refine ⟨fun h18 => ?_, fun h18 => ?_⟩
                      · try simp only [decide_eq_true_eq, decide_eq_false_iff_not, beq_iff_eq, beq_eq_false_iff_ne, bne_iff_ne, bne_eq_false_iff_eq, Bool.not_eq_true', Bool.not_eq_false', Bool.not_eq_true, Bool.not_eq_false, ne_eq, Bool.and_eq_true, Bool.or_eq_true, Bool.and_eq_false_iff, Bool.or_eq_false_iff, reduceCtorEq, Int.not_lt, Int.not_le] at h18
                        refine ⟨?_, ?_⟩
                        · first | exact True.intro | rfl | omega | assumption | (dsimp only [D] at *; omega) | (simp only [I64, big] at *; omega) | (simp_all; done)
                        refine ⟨fun h19 => ?_, fun h19 => ?_⟩
                        · try simp only [decide_eq_true_eq, decide_eq_false_iff_not, beq_iff_eq, beq_eq_false_iff_ne, bne_iff_ne, bne_eq_false_iff_eq, Bool.not_eq_true', Bool.not_eq_false', Bool.not_eq_true, Bool.not_eq_false, ne_eq, Bool.and_eq_true, Bool.or_eq_true, Bool.and_eq_false_iff, Bool.or_eq_false_iff, reduceCtorEq, Int.not_lt, Int.not_le] at h19
                          refine ⟨?_, ?_⟩
                          · first | exact True.intro | rfl | omega | assumption | (dsimp only [D] at *; omega) | (simp only [I64, big] at *; omega) | (simp_all; done)
                          refine ⟨?_, ?_⟩
                          · first | exact True.intro | rfl | omega | assumption | (dsimp only [D] at *; omega) | (simp only [I64, big] at *; omega) | (simp_all; done)
                          refine ⟨?_, ?_⟩
                          · first | exact True.intro | rfl | omega | assumption | (dsimp only [D] at *; omega) | (simp only [I64, big] at *; omega) | (simp_all; done)
                          refine ⟨?_, ?_⟩
                          · first | exact True.intro | rfl | omega | assumption | (dsimp only [D] at *; omega) | (simp only [I64, big] at *; omega) | (simp_all; done)
                          refine ⟨fun h20 => ?_, fun h20 => ?_⟩
                          · try simp only [decide_eq_true_eq, decide_eq_false_iff_not, beq_iff_eq, beq_eq_false_iff_ne, bne_iff_ne, bne_eq_false_iff_eq, Bool.not_eq_true', Bool.not_eq_false', Bool.not_eq_true, Bool.not_eq_false, ne_eq, Bool.and_eq_true, Bool.or_eq_true, Bool.and_eq_false_iff, Bool.or_eq_false_iff, reduceCtorEq, Int.not_lt, Int.not_le] at h20
                            first | (exact absurd ((sameE_bases (s, l)).symm.trans (show sameE (basesF (s, l)).2 (numE (basesF (s, l)).2) = false by assumption)) (by decide)) | first | exact True.intro | rfl | omega | assumption | (dsimp only [D] at *; omega) | (simp only [I64, big] at *; omega) | (simp_all; done)
                          · try simp only [decide_eq_true_eq, decide_eq_false_iff_not, beq_iff_eq, beq_eq_false_iff_ne, bne_iff_ne, bne_eq_false_iff_eq, Bool.not_eq_true', Bool.not_eq_false', Bool.not_eq_true, Bool.not_eq_false, ne_eq, Bool.and_eq_true, Bool.or_eq_true, Bool.and_eq_false_iff, Bool.or_eq_false_iff, reduceCtorEq, Int.not_lt, Int.not_le] at h20
                            intro h21
                            intro h22
                            refine ⟨?_, ?_⟩
                            · first | exact True.intro | rfl | omega | assumption | (dsimp only [D] at *; omega) | (simp only [I64, big] at *; omega) | (simp_all; done)
                            refine ⟨x_1 + 1, ?_⟩; (repeat' (first | exact trivial | rfl | omega | assumption | apply And.intro))
                        · try simp only [decide_eq_true_eq, decide_eq_false_iff_not, beq_iff_eq, beq_eq_false_iff_ne, bne_iff_ne, bne_eq_false_iff_eq, Bool.not_eq_true', Bool.not_eq_false', Bool.not_eq_true, Bool.not_eq_false, ne_eq, Bool.and_eq_true, Bool.or_eq_true, Bool.and_eq_false_iff, Bool.or_eq_false_iff, reduceCtorEq, Int.not_lt, Int.not_le] at h19
                          intro h20
                          intro h21
                          refine ⟨?_, ?_⟩
                          · first | exact True.intro | rfl | omega | assumption | (dsimp only [D] at *; omega) | (simp only [I64, big] at *; omega) | (simp_all; done)
                          refine ⟨x_1 + 1, ?_⟩; (repeat' (first | exact trivial | rfl | omega | assumption | apply And.intro))
                      · try simp only [decide_eq_true_eq, decide_eq_false_iff_not, beq_iff_eq, beq_eq_false_iff_ne, bne_iff_ne, bne_eq_false_iff_eq, Bool.not_eq_true', Bool.not_eq_false', Bool.not_eq_true, Bool.not_eq_false, ne_eq, Bool.and_eq_true, Bool.or_eq_true, Bool.and_eq_false_iff, Bool.or_eq_false_iff, reduceCtorEq, Int.not_lt, Int.not_le] at h18
                        intro h19
                        intro h20
                        refine ⟨?_, ?_⟩
                        · first | exact True.intro | rfl | omega | assumption | (dsimp only [D] at *; omega) | (simp only [I64, big] at *; omega) | (simp_all; done)
                        refine ⟨x_1 + 1, ?_⟩; (repeat' (first | exact trivial | rfl | omega | assumption | apply And.intro))
                    · try simp only [decide_eq_true_eq, decide_eq_false_iff_not, beq_iff_eq, beq_eq_false_iff_ne, bne_iff_ne, bne_eq_false_iff_eq, Bool.not_eq_true', Bool.not_eq_false', Bool.not_eq_true, Bool.not_eq_false, ne_eq, Bool.and_eq_true, Bool.or_eq_true, Bool.and_eq_false_iff, Bool.or_eq_false_iff, reduceCtorEq, Int.not_lt, Int.not_le] at h17
                      refine ⟨?_, ?_⟩
                      · first | exact True.intro | rfl | omega | assumption | (dsimp only [D] at *; omega) | (simp only [I64, big] at *; omega) | (simp_all; done)
                      refine ⟨?_, ?_⟩
                      · first | exact True.intro | rfl | omega | assumption | (dsimp only [D] at *; omega) | (simp only [I64, big] at *; omega) | (simp_all; done)
                      refine ⟨?_, ?_⟩
                      · first | exact True.intro | rfl | omega | assumption | (dsimp only [D] at *; omega) | (simp only [I64, big] at *; omega) | (simp_all; done)
                      refine ⟨fun h18 => ?_, fun h18 => ?_⟩
                      · try simp only [decide_eq_true_eq, decide_eq_false_iff_not, beq_iff_eq, beq_eq_false_iff_ne, bne_iff_ne, bne_eq_false_iff_eq, Bool.not_eq_true', Bool.not_eq_false', Bool.not_eq_true, Bool.not_eq_false, ne_eq, Bool.and_eq_true, Bool.or_eq_true, Bool.and_eq_false_iff, Bool.or_eq_false_iff, reduceCtorEq, Int.not_lt, Int.not_le] at h18
                        refine ⟨?_, ?_⟩
                        · first | exact True.intro | rfl | omega | assumption | (dsimp only [D] at *; omega) | (simp only [I64, big] at *; omega) | (simp_all; done)
                        simp [sameI]
                      · try simp only [decide_eq_true_eq, decide_eq_false_iff_not, beq_iff_eq, beq_eq_false_iff_ne, bne_iff_ne, bne_eq_false_iff_eq, Bool.not_eq_true', Bool.not_eq_false', Bool.not_eq_true, Bool.not_eq_false, ne_eq, Bool.and_eq_true, Bool.or_eq_true, Bool.and_eq_false_iff, Bool.or_eq_false_iff, reduceCtorEq, Int.not_lt, Int.not_le] at h18
                        first | (exact absurd ((sameE_bases (s, l)).symm.trans (show sameE (basesF (s, l)).2 (numE (basesF (s, l)).2) = false by assumption)) (by decide)) | first | exact True.intro | rfl | omega | assumption | (dsimp only [D] at *; omega) | (simp only [I64, big] at *; omega) | (simp_all; done)
                  · try simp only [decide_eq_true_eq, decide_eq_false_iff_not, beq_iff_eq, beq_eq_false_iff_ne, bne_iff_ne, bne_eq_false_iff_eq, Bool.not_eq_true', Bool.not_eq_false', Bool.not_eq_true, Bool.not_eq_false, ne_eq, Bool.and_eq_true, Bool.or_eq_true, Bool.and_eq_false_iff, Bool.or_eq_false_iff, reduceCtorEq, Int.not_lt, Int.not_le] at h15
                    refine ⟨fun h16 => ?_, fun h16 => ?_⟩
                    · try simp only [decide_eq_true_eq, decide_eq_false_iff_not, beq_iff_eq, beq_eq_false_iff_ne, bne_iff_ne, bne_eq_false_iff_eq, Bool.not_eq_true', Bool.not_eq_false', Bool.not_eq_true, Bool.not_eq_false, ne_eq, Bool.and_eq_true, Bool.or_eq_true, Bool.and_eq_false_iff, Bool.or_eq_false_iff, reduceCtorEq, Int.not_lt, Int.not_le] at h16
                      refine ⟨?_, ?_⟩
                      · refine ⟨0, ?_⟩; (repeat' (first | exact trivial | rfl | omega | assumption | apply And.intro))
                      intro x_1 q_1
                      intro h17
                      refine ⟨fun h18 => ?_, fun h18 => ?_⟩
                      · try simp only [decide_eq_true_eq, decide_eq_false_iff_not, beq_iff_eq, beq_eq_false_iff_ne, bne_iff_ne, bne_eq_false_iff_eq, Bool.not_eq_true', Bool.not_eq_false', Bool.not_eq_true, Bool.not_eq_false, ne_eq, Bool.and_eq_true, Bool.or_eq_true, Bool.and_eq_false_iff, Bool.or_eq_false_iff, reduceCtorEq, Int.not_lt, Int.not_le] at h18
                        refine ⟨?_, ?_⟩
                        · first | exact True.intro | rfl | omega | assumption | (dsimp only [D] at *; omega) | (simp only [I64, big] at *; omega) | (simp_all; done)
                        refine ⟨fun h19 => ?_, fun h19 => ?_⟩
                        · try simp only [decide_eq_true_eq, decide_eq_false_iff_not, beq_iff_eq, beq_eq_false_iff_ne, bne_iff_ne, bne_eq_false_iff_eq, Bool.not_eq_true', Bool.not_eq_false', Bool.not_eq_true, Bool.not_eq_false, ne_eq, Bool.and_eq_true, Bool.or_eq_true, Bool.and_eq_false_iff, Bool.or_eq_false_iff, reduceCtorEq, Int.not_lt, Int.not_le] at h19
                          refine ⟨?_, ?_⟩
                          · first | exact True.intro | rfl | omega | assumption | (dsimp only [D] at *; omega) | (simp only [I64, big] at *; omega) | (simp_all; done)
                          refine ⟨fun h20 => ?_, fun h20 => ?_⟩
                          · try simp only [decide_eq_true_eq, decide_eq_false_iff_not, beq_iff_eq, beq_eq_false_iff_ne, bne_iff_ne, bne_eq_false_iff_eq, Bool.not_eq_true', Bool.not_eq_false', Bool.not_eq_true, Bool.not_eq_false, ne_eq, Bool.and_eq_true, Bool.or_eq_true, Bool.and_eq_false_iff, Bool.or_eq_false_iff, reduceCtorEq, Int.not_lt, Int.not_le] at h20
                            refine ⟨?_, ?_⟩
                            · first | exact True.intro | rfl | omega | assumption | (dsimp only [D] at *; omega) | (simp only [I64, big] at *; omega) | (simp_all; done)
                            refine ⟨?_, ?_⟩
                            · first | exact True.intro | rfl | omega | assumption | (dsimp only [D] at *; omega) | (simp only [I64, big] at *; omega) | (simp_all; done)
                            refine ⟨?_, ?_⟩
                            · first | exact True.intro | rfl | omega | assumption | (dsimp only [D] at *; omega) | (simp only [I64, big] at *; omega) | (simp_all; done)
                            refine ⟨?_, ?_⟩
                            · first | exact True.intro | rfl | omega | assumption | (dsimp only [D] at *; omega) | (simp only [I64, big] at *; omega) | (simp_all; done)
                            refine ⟨fun h21 => ?_, fun h21 => ?_⟩
                            · try simp only [decide_eq_true_eq, decide_eq_false_iff_not, beq_iff_eq, beq_eq_false_iff_ne, bne_iff_ne, bne_eq_false_iff_eq, Bool.not_eq_true', Bool.not_eq_false', Bool.not_eq_true, Bool.not_eq_false, ne_eq, Bool.and_eq_true, Bool.or_eq_true, Bool.and_eq_false_iff, Bool.or_eq_false_iff, reduceCtorEq, Int.not_lt, Int.not_le] at h21
                              first | (exact absurd ((sameE_bases (s, l)).symm.trans (show sameE (basesF (s, l)).2 (numE (basesF (s, l)).2) = false by assumption)) (by decide)) | first | exact True.intro | rfl | omega | assumption | (dsimp only [D] at *; omega) | (simp only [I64, big] at *; omega) | (simp_all; done)
                            · try simp only [decide_eq_true_eq, decide_eq_false_iff_not, beq_iff_eq, beq_eq_false_iff_ne, bne_iff_ne, bne_eq_false_iff_eq, Bool.not_eq_true', Bool.not_eq_false', Bool.not_eq_true, Bool.not_eq_false, ne_eq, Bool.and_eq_true, Bool.or_eq_true, Bool.and_eq_false_iff, Bool.or_eq_false_iff, reduceCtorEq, Int.not_lt, Int.not_le] at h21
                              intro h22
                              intro h23
                              refine ⟨?_, ?_⟩
                              · first | exact True.intro | rfl | omega | assumption | (dsimp only [D] at *; omega) | (simp only [I64, big] at *; omega) | (simp_all; done)
                              refine ⟨x_1 + 1, ?_⟩; (repeat' (first | exact trivial | rfl | omega | assumption | apply And.intro))
                          · try simp only [decide_eq_true_eq, decide_eq_false_iff_not, beq_iff_eq, beq_eq_false_iff_ne, bne_iff_ne, bne_eq_false_iff_eq, Bool.not_eq_true', Bool.not_eq_false', Bool.not_eq_true, Bool.not_eq_false, ne_eq, Bool.and_eq_true, Bool.or_eq_true, Bool.and_eq_false_iff, Bool.or_eq_false_iff, reduceCtorEq, Int.not_lt, Int.not_le] at h20
                            intro h21
                            intro h22
                            refine ⟨?_, ?_⟩
                            · first | exact True.intro | rfl | omega | assumption | (dsimp only [D] at *; omega) | (simp only [I64, big] at *; omega) | (simp_all; done)
                            refine ⟨x_1 + 1, ?_⟩; (repeat' (first | exact trivial | rfl | omega | assumption | apply And.intro))
                        · try simp only [decide_eq_true_eq, decide_eq_false_iff_not, beq_iff_eq, beq_eq_false_iff_ne, bne_iff_ne, bne_eq_false_iff_eq, Bool.not_eq_true', Bool.not_eq_false', Bool.not_eq_true, Bool.not_eq_false, ne_eq, Bool.and_eq_true, Bool.or_eq_true, Bool.and_eq_false_iff, Bool.or_eq_false_iff, reduceCtorEq, Int.not_lt, Int.not_le] at h19
                          intro h20
                          intro h21
                          refine ⟨?_, ?_⟩
                          · first | exact True.intro | rfl | omega | assumption | (dsimp only [D] at *; omega) | (simp only [I64, big] at *; omega) | (simp_all; done)
                          refine ⟨x_1 + 1, ?_⟩; (repeat' (first | exact trivial | rfl | omega | assumption | apply And.intro))
                      · try simp only [decide_eq_true_eq, decide_eq_false_iff_not, beq_iff_eq, beq_eq_false_iff_ne, bne_iff_ne, bne_eq_false_iff_eq, Bool.not_eq_true', Bool.not_eq_false', Bool.not_eq_true, Bool.not_eq_false, ne_eq, Bool.and_eq_true, Bool.or_eq_true, Bool.and_eq_false_iff, Bool.or_eq_false_iff, reduceCtorEq, Int.not_lt, Int.not_le] at h18
                        refine ⟨?_, ?_⟩
                        · first | exact True.intro | rfl | omega | assumption | (dsimp only [D] at *; omega) | (simp only [I64, big] at *; omega) | (simp_all; done)
                        refine ⟨?_, ?_⟩
                        · first | exact True.intro | rfl | omega | assumption | (dsimp only [D] at *; omega) | (simp only [I64, big] at *; omega) | (simp_all; done)
                        refine ⟨?_, ?_⟩
                        · first | exact True.intro | rfl | omega | assumption | (dsimp only [D] at *; omega) | (simp only [I64, big] at *; omega) | (simp_all; done)
                        refine ⟨fun h19 => ?_, fun h19 => ?_⟩
                        · try simp only [decide_eq_true_eq, decide_eq_false_iff_not, beq_iff_eq, beq_eq_false_iff_ne, bne_iff_ne, bne_eq_false_iff_eq, Bool.not_eq_true', Bool.not_eq_false', Bool.not_eq_true, Bool.not_eq_false, ne_eq, Bool.and_eq_true, Bool.or_eq_true, Bool.and_eq_false_iff, Bool.or_eq_false_iff, reduceCtorEq, Int.not_lt, Int.not_le] at h19
                          refine ⟨?_, ?_⟩
                          · first | exact True.intro | rfl | omega | assumption | (dsimp only [D] at *; omega) | (simp only [I64, big] at *; omega) | (simp_all; done)
                          simp [sameI]
                        · try simp only [decide_eq_true_eq, decide_eq_false_iff_not, beq_iff_eq, beq_eq_false_iff_ne, bne_iff_ne, bne_eq_false_iff_eq, Bool.not_eq_true', Bool.not_eq_false', Bool.not_eq_true, Bool.not_eq_false, ne_eq, Bool.and_eq_true, Bool.or_eq_true, Bool.and_eq_false_iff, Bool.or_eq_false_iff, reduceCtorEq, Int.not_lt, Int.not_le] at h19
                          first | (exact absurd ((sameE_bases (s, l)).symm.trans (show sameE (basesF (s, l)).2 (numE (basesF (s, l)).2) = false by assumption)) (by decide)) | first | exact True.intro | rfl | omega | assumption | (dsimp only [D] at *; omega) | (simp only [I64, big] at *; omega) | (simp_all; done)
                    · try simp only [decide_eq_true_eq, decide_eq_false_iff_not, beq_iff_eq, beq_eq_false_iff_ne, bne_iff_ne, bne_eq_false_iff_eq, Bool.not_eq_true', Bool.not_eq_false', Bool.not_eq_true, Bool.not_eq_false, ne_eq, Bool.and_eq_true, Bool.or_eq_true, Bool.and_eq_false_iff, Bool.or_eq_false_iff, reduceCtorEq, Int.not_lt, Int.not_le] at h16
                      refine ⟨fun h17 => ?_, fun h17 => ?_⟩
                      · try simp only [decide_eq_true_eq, decide_eq_false_iff_not, beq_iff_eq, beq_eq_false_iff_ne, bne_iff_ne, bne_eq_false_iff_eq, Bool.not_eq_true', Bool.not_eq_false', Bool.not_eq_true, Bool.not_eq_false, ne_eq, Bool.and_eq_true, Bool.or_eq_true, Bool.and_eq_false_iff, Bool.or_eq_false_iff, reduceCtorEq, Int.not_lt, Int.not_le] at h17
                        refine ⟨?_, ?_⟩
                        · refine ⟨0, ?_⟩; (repeat' (first | exact trivial | rfl | omega | assumption | apply And.intro))
                        intro x_1 q_1
                        intro h18
                        refine ⟨fun h19 => ?_, fun h19 => ?_⟩
                        · try simp only [decide_eq_true_eq, decide_eq_false_iff_not, beq_iff_eq, beq_eq_false_iff_ne, bne_iff_ne, bne_eq_false_iff_eq, Bool.not_eq_true', Bool.not_eq_false', Bool.not_eq_true, Bool.not_eq_false, ne_eq, Bool.and_eq_true, Bool.or_eq_true, Bool.and_eq_false_iff, Bool.or_eq_false_iff, reduceCtorEq, Int.not_lt, Int.not_le] at h19
                          refine ⟨?_, ?_⟩
                          · first | exact True.intro | rfl | omega | assumption | (dsimp only [D] at *; omega) | (simp only [I64, big] at *; omega) | (simp_all; done)
                          refine ⟨fun h20 => ?_, fun h20 => ?_⟩
                          · try simp only [decide_eq_true_eq, decide_eq_false_iff_not, beq_iff_eq, beq_eq_false_iff_ne, bne_iff_ne, bne_eq_false_iff_eq, Bool.not_eq_true', Bool.not_eq_false', Bool.not_eq_true, Bool.not_eq_false, ne_eq, Bool.and_eq_true, Bool.or_eq_true, Bool.and_eq_false_iff, Bool.or_eq_false_iff, reduceCtorEq, Int.not_lt, Int.not_le] at h20
                            refine ⟨?_, ?_⟩
                            · first | exact True.intro | rfl | omega | assumption | (dsimp only [D] at *; omega) | (simp only [I64, big] at *; omega) | (simp_all; done)
                            refine ⟨fun h21 => ?_, fun h21 => ?_⟩
                            · try simp only [decide_eq_true_eq, decide_eq_false_iff_not, beq_iff_eq, beq_eq_false_iff_ne, bne_iff_ne, bne_eq_false_iff_eq, Bool.not_eq_true', Bool.not_eq_false', Bool.not_eq_true, Bool.not_eq_false, ne_eq, Bool.and_eq_true, Bool.or_eq_true, Bool.and_eq_false_iff, Bool.or_eq_false_iff, reduceCtorEq, Int.not_lt, Int.not_le] at h21
                              refine ⟨?_, ?_⟩
                              · first | exact True.intro | rfl | omega | assumption | (dsimp only [D] at *; omega) | (simp only [I64, big] at *; omega) | (simp_all; done)
                              refine ⟨?_, ?_⟩
                              · first | exact True.intro | rfl | omega | assumption | (dsimp only [D] at *; omega) | (simp only [I64, big] at *; omega) | (simp_all; done)
                              refine ⟨?_, ?_⟩
                              · first | exact True.intro | rfl | omega | assumption | (dsimp only [D] at *; omega) | (simp only [I64, big] at *; omega) | (simp_all; done)
                              refine ⟨?_, ?_⟩
                              · first | exact True.intro | rfl | omega | assumption | (dsimp only [D] at *; omega) | (simp only [I64, big] at *; omega) | (simp_all; done)
                              refine ⟨fun h22 => ?_, fun h22 => ?_⟩
                              · try simp only [decide_eq_true_eq, decide_eq_false_iff_not, beq_iff_eq, beq_eq_false_iff_ne, bne_iff_ne, bne_eq_false_iff_eq, Bool.not_eq_true', Bool.not_eq_false', Bool.not_eq_true, Bool.not_eq_false, ne_eq, Bool.and_eq_true, Bool.or_eq_true, Bool.and_eq_false_iff, Bool.or_eq_false_iff, reduceCtorEq, Int.not_lt, Int.not_le] at h22
                                first | (exact absurd ((sameE_bases (s, l)).symm.trans (show sameE (basesF (s, l)).2 (numE (basesF (s, l)).2) = false by assumption)) (by decide)) | first | exact True.intro | rfl | omega | assumption | (dsimp only [D] at *; omega) | (simp only [I64, big] at *; omega) | (simp_all; done)
                              · try simp only [decide_eq_true_eq, decide_eq_false_iff_not, beq_iff_eq, beq_eq_false_iff_ne, bne_iff_ne, bne_eq_false_iff_eq, Bool.not_eq_true', Bool.not_eq_false', Bool.not_eq_true, Bool.not_eq_false, ne_eq, Bool.and_eq_true, Bool.or_eq_true, Bool.and_eq_false_iff, Bool.or_eq_false_iff, reduceCtorEq, Int.not_lt, Int.not_le] at h22
                                intro h23
                                intro h24
                                refine ⟨?_, ?_⟩
                                · first | exact True.intro | rfl | omega | assumption | (dsimp only [D] at *; omega) | (simp only [I64, big] at *; omega) | (simp_all; done)
                                refine ⟨x_1 + 1, ?_⟩; (repeat' (first | exact trivial | rfl | omega | assumption | apply And.intro))
                            · try simp only [decide_eq_true_eq, decide_eq_false_iff_not, beq_iff_eq, beq_eq_false_iff_ne, bne_iff_ne, bne_eq_false_iff_eq, Bool.not_eq_true', Bool.not_eq_false', Bool.not_eq_true, Bool.not_eq_false, ne_eq, Bool.and_eq_true, Bool.or_eq_true, Bool.and_eq_false_iff, Bool.or_eq_false_iff, reduceCtorEq, Int.not_lt, Int.not_le] at h21
                              intro h22
                              intro h23
                              refine ⟨?_, ?_⟩
                              · first | exact True.intro | rfl | omega | assumption | (dsimp only [D] at *; omega) | (simp only [I64, big] at *; omega) | (simp_all; done)
                              refine ⟨x_1 + 1, ?_⟩; (repeat' (first | exact trivial | rfl | omega | assumption | apply And.intro))
                          · try simp only [decide_eq_true_eq, decide_eq_false_iff_not, beq_iff_eq, beq_eq_false_iff_ne, bne_iff_ne, bne_eq_false_iff_eq, Bool.not_eq_true', Bool.not_eq_false', Bool.not_eq_true, Bool.not_eq_false, ne_eq, Bool.and_eq_true, Bool.or_eq_true, Bool.and_eq_false_iff, Bool.or_eq_false_iff, reduceCtorEq, Int.not_lt, Int.not_le] at h20
                            intro h21
                            intro h22
                            refine ⟨?_, ?_⟩
                            · first | exact True.intro | rfl | omega | assumption | (dsimp only [D] at *; omega) | (simp only [I64, big] at *; omega) | (simp_all; done)
                            refine ⟨x_1 + 1, ?_⟩; (repeat' (first | exact trivial | rfl | omega | assumption | apply And.intro))
                        · try simp only [decide_eq_true_eq, decide_eq_false_iff_not, beq_iff_eq, beq_eq_false_iff_ne, bne_iff_ne, bne_eq_false_iff_eq, Bool.not_eq_true', Bool.not_eq_false', Bool.not_eq_true, Bool.not_eq_false, ne_eq, Bool.and_eq_true, Bool.or_eq_true, Bool.and_eq_false_iff, Bool.or_eq_false_iff, reduceCtorEq, Int.not_lt, Int.not_le] at h19
                          refine ⟨?_, ?_⟩
                          · first | exact True.intro | rfl | omega | assumption | (dsimp only [D] at *; omega) | (simp only [I64, big] at *; omega) | (simp_all; done)
                          refine ⟨?_, ?_⟩
                          · first | exact True.intro | rfl | omega | assumption | (dsimp only [D] at *; omega) | (simp only [I64, big] at *; omega) | (simp_all; done)
                          refine ⟨?_, ?_⟩
                          · first | exact True.intro | rfl | omega | assumption | (dsimp only [D] at *; omega) | (simp only [I64, big] at *; omega) | (simp_all; done)
                          refine ⟨fun h20 => ?_, fun h20 => ?_⟩
                          · try simp only [decide_eq_true_eq, decide_eq_false_iff_not, beq_iff_eq, beq_eq_false_iff_ne, bne_iff_ne, bne_eq_false_iff_eq, Bool.not_eq_true', Bool.not_eq_false', Bool.not_eq_true, Bool.not_eq_false, ne_eq, Bool.and_eq_true, Bool.or_eq_true, Bool.and_eq_false_iff, Bool.or_eq_false_iff, reduceCtorEq, Int.not_lt, Int.not_le] at h20
                            refine ⟨?_, ?_⟩
                            · first | exact True.intro | rfl | omega | assumption | (dsimp only [D] at *; omega) | (simp only [I64, big] at *; omega) | (simp_all; done)
                            simp [sameI]
                          · try simp only [decide_eq_true_eq, decide_eq_false_iff_not, beq_iff_eq, beq_eq_false_iff_ne, bne_iff_ne, bne_eq_false_iff_eq, Bool.not_eq_true', Bool.not_eq_false', Bool.not_eq_true, Bool.not_eq_false, ne_eq, Bool.and_eq_true, Bool.or_eq_true, Bool.and_eq_false_iff, Bool.or_eq_false_iff, reduceCtorEq, Int.not_lt, Int.not_le] at h20
                            first | (exact absurd ((sameE_bases (s, l)).symm.trans (show sameE (basesF (s, l)).2 (numE (basesF (s, l)).2) = false by assumption)) (by decide)) | first | exact True.intro | rfl | omega | assumption | (dsimp only [D] at *; omega) | (simp only [I64, big] at *; omega) | (simp_all; done)
                      · try simp only [decide_eq_true_eq, decide_eq_false_iff_not, beq_iff_eq, beq_eq_false_iff_ne, bne_iff_ne, bne_eq_false_iff_eq, Bool.not_eq_true', Bool.not_eq_false', Bool.not_eq_true, Bool.not_eq_false, ne_eq, Bool.and_eq_true, Bool.or_eq_true, Bool.and_eq_false_iff, Bool.or_eq_false_iff, reduceCtorEq, Int.not_lt, Int.not_le] at h17
                        refine ⟨fun h18 => ?_, fun h18 => ?_⟩
                        · try simp only [decide_eq_true_eq, decide_eq_false_iff_not, beq_iff_eq, beq_eq_false_iff_ne, bne_iff_ne, bne_eq_false_iff_eq, Bool.not_eq_true', Bool.not_eq_false', Bool.not_eq_true, Bool.not_eq_false, ne_eq, Bool.and_eq_true, Bool.or_eq_true, Bool.and_eq_false_iff, Bool.or_eq_false_iff, reduceCtorEq, Int.not_lt, Int.not_le] at h18
                          refine ⟨?_, ?_⟩
                          · refine ⟨0, ?_⟩; (repeat' (first | exact trivial | rfl | omega | assumption | apply And.intro))
                          intro x_1 q_1
                          intro h19
                          refine ⟨fun h20 => ?_, fun h20 => ?_⟩
                          · try simp only [decide_eq_true_eq, decide_eq_false_iff_not, beq_iff_eq, beq_eq_false_iff_ne, bne_iff_ne, bne_eq_false_iff_eq, Bool.not_eq_true', Bool.not_eq_false', Bool.not_eq_true, Bool.not_eq_false, ne_eq, Bool.and_eq_true, Bool.or_eq_true, Bool.and_eq_false_iff, Bool.or_eq_false_iff, reduceCtorEq, Int.not_lt, Int.not_le] at h20
                            refine ⟨?_, ?_⟩
                            · first | exact True.intro | rfl | omega | assumption | (dsimp only [D] at *; omega) | (simp only [I64, big] at *; omega) | (simp_all; done)
                            refine ⟨fun h21 => ?_, fun h21 => ?_⟩
                            · try simp only [decide_eq_true_eq, decide_eq_false_iff_not, beq_iff_eq, beq_eq_false_iff_ne, bne_iff_ne, bne_eq_false_iff_eq, Bool.not_eq_true', Bool.not_eq_false', Bool.not_eq_true, Bool.not_eq_false, ne_eq, Bool.and_eq_true, Bool.or_eq_true, Bool.and_eq_false_iff, Bool.or_eq_false_iff, reduceCtorEq, Int.not_lt, Int.not_le] at h21
                              refine ⟨?_, ?_⟩
                              · first | exact True.intro | rfl | omega | assumption | (dsimp only [D] at *; omega) | (simp only [I64, big] at *; omega) | (simp_all; done)
                              refine ⟨fun h22 => ?_, fun h22 => ?_⟩
                              · try simp only [decide_eq_true_eq, decide_eq_false_iff_not, beq_iff_eq, beq_eq_false_iff_ne, bne_iff_ne, bne_eq_false_iff_eq, Bool.not_eq_true', Bool.not_eq_false', Bool.not_eq_true, Bool.not_eq_false, ne_eq, Bool.and_eq_true, Bool.or_eq_true, Bool.and_eq_false_iff, Bool.or_eq_false_iff, reduceCtorEq, Int.not_lt, Int.not_le] at h22
                                refine ⟨?_, ?_⟩
                                · first | exact True.intro | rfl | omega | assumption | (dsimp only [D] at *; omega) | (simp only [I64, big] at *; omega) | (simp_all; done)
                                refine ⟨?_, ?_⟩
                                · first | exact True.intro | rfl | omega | assumption | (dsimp only [D] at *; omega) | (simp only [I64, big] at *; omega) | (simp_all; done)
                                refine ⟨?_, ?_⟩
                                · first | exact True.intro | rfl | omega | assumption | (dsimp only [D] at *; omega) | (simp only [I64, big] at *; omega) | (simp_all; done)
                                refine ⟨?_, ?_⟩
                                · first | exact True.intro | rfl | omega | assumption | (dsimp only [D] at *; omega) | (simp only [I64, big] at *; omega) | (simp_all; done)
                                refine ⟨fun h23 => ?_, fun h23 => ?_⟩
                                · try simp only [decide_eq_true_eq, decide_eq_false_iff_not, beq_iff_eq, beq_eq_false_iff_ne, bne_iff_ne, bne_eq_false_iff_eq, Bool.not_eq_true', Bool.not_eq_false', Bool.not_eq_true, Bool.not_eq_false, ne_eq, Bool.and_eq_true, Bool.or_eq_true, Bool.and_eq_false_iff, Bool.or_eq_false_iff, reduceCtorEq, Int.not_lt, Int.not_le] at h23
                                  first | (exact absurd ((sameE_bases (s, l)).symm.trans (show sameE (basesF (s, l)).2 (numE (basesF (s, l)).2) = false by assumption)) (by decide)) | first | exact True.intro | rfl | omega | assumption | (dsimp only [D] at *; omega) | (simp only [I64, big] at *; omega) | (simp_all; done)
                                · try simp only [decide_eq_true_eq, decide_eq_false_iff_not, beq_iff_eq, beq_eq_false_iff_ne, bne_iff_ne, bne_eq_false_iff_eq, Bool.not_eq_true', Bool.not_eq_false', Bool.not_eq_true, Bool.not_eq_false, ne_eq, Bool.and_eq_true, Bool.or_eq_true, Bool.and_eq_false_iff, Bool.or_eq_false_iff, reduceCtorEq, Int.not_lt, Int.not_le] at h23
                                  intro h24
                                  intro h25
                                  refine ⟨?_, ?_⟩
                                  · first | exact True.intro | rfl | omega | assumption | (dsimp only [D] at *; omega) | (simp only [I64, big] at *; omega) | (simp_all; done)
                                  refine ⟨x_1 + 1, ?_⟩; (repeat' (first | exact trivial | rfl | omega | assumption | apply And.intro))
                              · try simp only [decide_eq_true_eq, decide_eq_false_iff_not, beq_iff_eq, beq_eq_false_iff_ne, bne_iff_ne, bne_eq_false_iff_eq, Bool.not_eq_true', Bool.not_eq_false', Bool.not_eq_true, Bool.not_eq_false, ne_eq, Bool.and_eq_true, Bool.or_eq_true, Bool.and_eq_false_iff, Bool.or_eq_false_iff, reduceCtorEq, Int.not_lt, Int.not_le] at h22
                                intro h23
                                intro h24
                                refine ⟨?_, ?_⟩
                                · first | exact True.intro | rfl | omega | assumption | (dsimp only [D] at *; omega) | (simp only [I64, big] at *; omega) | (simp_all; done)
                                refine ⟨x_1 + 1, ?_⟩; (repeat' (first | exact trivial | rfl | omega | assumption | apply And.intro))
                            · try simp only [decide_eq_true_eq, decide_eq_false_iff_not, beq_iff_eq, beq_eq_false_iff_ne, bne_iff_ne, bne_eq_false_iff_eq, Bool.not_eq_true', Bool.not_eq_false', Bool.not_eq_true, Bool.not_eq_false, ne_eq, Bool.and_eq_true, Bool.or_eq_true, Bool.and_eq_false_iff, Bool.or_eq_false_iff, reduceCtorEq, Int.not_lt, Int.not_le] at h21
                              intro h22
                              intro h23
                              refine ⟨?_, ?_⟩
                              · first | exact True.intro | rfl | omega | assumption | (dsimp only [D] at *; omega) | (simp only [I64, big] at *; omega) | (simp_all; done)
                              refine ⟨x_1 + 1, ?_⟩; (repeat' (first | exact trivial | rfl | omega | assumption | apply And.intro))
                          · try simp only [decide_eq_true_eq, decide_eq_false_iff_not, beq_iff_eq, beq_eq_false_iff_ne, bne_iff_ne, bne_eq_false_iff_eq, Bool.not_eq_true', Bool.not_eq_false', Bool.not_eq_true, Bool.not_eq_false, ne_eq, Bool.and_eq_true, Bool.or_eq_true, Bool.and_eq_false_iff, Bool.or_eq_false_iff, reduceCtorEq, Int.not_lt, Int.not_le] at h20
                            refine ⟨?_, ?_⟩
                            · first | exact True.intro | rfl | omega | assumption | (dsimp only [D] at *; omega) | (simp only [I64, big] at *; omega) | (simp_all; done)
                            refine ⟨?_, ?_⟩
                            · first | exact True.intro | rfl | omega | assumption | (dsimp only [D] at *; omega) | (simp only [I64, big] at *; omega) | (simp_all; done)
                            refine ⟨?_, ?_⟩
                            · first | exact True.intro | rfl | omega | assumption | (dsimp only [D] at *; omega) | (simp only [I64, big] at *; omega) | (simp_all; done)
                            refine ⟨fun h21 => ?_, fun h21 => ?_⟩
                            · try simp only [decide_eq_true_eq, decide_eq_false_iff_not, beq_iff_eq, beq_eq_false_iff_ne, bne_iff_ne, bne_eq_false_iff_eq, Bool.not_eq_true', Bool.not_eq_false', Bool.not_eq_true, Bool.not_eq_false, ne_eq, Bool.and_eq_true, Bool.or_eq_true, Bool.and_eq_false_iff, Bool.or_eq_false_iff, reduceCtorEq, Int.not_lt, Int.not_le] at h21
                              refine ⟨?_, ?_⟩
                              · first | exact True.intro | rfl | omega | assumption | (dsimp only [D] at *; omega) | (simp only [I64, big] at *; omega) | (simp_all; done)
                              simp [sameI]
                            · try simp only [decide_eq_true_eq, decide_eq_false_iff_not, beq_iff_eq, beq_eq_false_iff_ne, bne_iff_ne, bne_eq_false_iff_eq, Bool.not_eq_true', Bool.not_eq_false', Bool.not_eq_true, Bool.not_eq_false, ne_eq, Bool.and_eq_true, Bool.or_eq_true, Bool.and_eq_false_iff, Bool.or_eq_false_iff, reduceCtorEq, Int.not_lt, Int.not_le] at h21
                              first | (exact absurd ((sameE_bases (s, l)).symm.trans (show sameE (basesF (s, l)).2 (numE (basesF (s, l)).2) = false by assumption)) (by decide)) | first | exact True.intro | rfl | omega | assumption | (dsimp only [D] at *; omega) | (simp only [I64, big] at *; omega) | (simp_all; done)
                        · try simp only [decide_eq_true_eq, decide_eq_false_iff_not, beq_iff_eq, beq_eq_false_iff_ne, bne_iff_ne, bne_eq_false_iff_eq, Bool.not_eq_true', Bool.not_eq_false', Bool.not_eq_true, Bool.not_eq_false, ne_eq, Bool.and_eq_true, Bool.or_eq_true, Bool.and_eq_false_iff, Bool.or_eq_false_iff, reduceCtorEq, Int.not_lt, Int.not_le] at h18
                          refine ⟨?_, ?_⟩
                          · simp only [bnd]; (try dsimp only [D] at *); omega
                          refine ⟨?_, ?_⟩
                          · simp only [bnd]; (try dsimp only [D] at *); omega
                          refine ⟨fun h19 => ?_, fun h19 => ?_⟩
                          · try simp only [decide_eq_true_eq, decide_eq_false_iff_not, beq_iff_eq, beq_eq_false_iff_ne, bne_iff_ne, bne_eq_false_iff_eq, Bool.not_eq_true', Bool.not_eq_false', Bool.not_eq_true, Bool.not_eq_false, ne_eq, Bool.and_eq_true, Bool.or_eq_true, Bool.and_eq_false_iff, Bool.or_eq_false_iff, reduceCtorEq, Int.not_lt, Int.not_le] at h19
                            first | (exact absurd ((sameE_bases (s, l)).symm.trans (show sameE (basesF (s, l)).2 (numE (basesF (s, l)).2) = false by assumption)) (by decide)) | first | exact True.intro | rfl | omega | assumption | (dsimp only [D] at *; omega) | (simp only [I64, big] at *; omega) | (simp_all; done)
                          · try simp only [decide_eq_true_eq, decide_eq_false_iff_not, beq_iff_eq, beq_eq_false_iff_ne, bne_iff_ne, bne_eq_false_iff_eq, Bool.not_eq_true', Bool.not_eq_false', Bool.not_eq_true, Bool.not_eq_false, ne_eq, Bool.and_eq_true, Bool.or_eq_true, Bool.and_eq_false_iff, Bool.or_eq_false_iff, reduceCtorEq, Int.not_lt, Int.not_le] at h19
                            intro h20
                            intro h21
                            refine ⟨?_, ?_⟩
                            · first | exact True.intro | rfl | omega | assumption | (dsimp only [D] at *; omega) | (simp only [I64, big] at *; omega) | (simp_all; done)
                            refine ⟨x_0 + 1, ?_⟩; (repeat' (first | exact trivial | rfl | omega | assumption | apply And.intro))
        · try simp only [decide_eq_true_eq, decide_eq_false_iff_not, beq_iff_eq, beq_eq_false_iff_ne, bne_iff_ne, bne_eq_false_iff_eq, Bool.not_eq_true', Bool.not_eq_false', Bool.not_eq_true, Bool.not_eq_false, ne_eq, Bool.and_eq_true, Bool.or_eq_true, Bool.and_eq_false_iff, Bool.or_eq_false_iff, reduceCtorEq, Int.not_lt, Int.not_le] at h8
          refine ⟨?_, ?_⟩
          · refine ⟨0, ?_⟩; (repeat' (first | exact trivial | rfl | omega | assumption | apply And.intro))
          intro x_1 q_1
          intro h9
          refine ⟨fun h10 => ?_, fun h10 => ?_⟩
          · try simp only [decide_eq_true_eq, decide_eq_false_iff_not, beq_iff_eq, beq_eq_false_iff_ne, bne_iff_ne, bne_eq_false_iff_eq, Bool.not_eq_true', Bool.not_eq_false', Bool.not_eq_true, Bool.not_eq_false, ne_eq, Bool.and_eq_true, Bool.or_eq_true, Bool.and_eq_false_iff, Bool.or_eq_false_iff, reduceCtorEq, Int.not_lt, Int.not_le] at h10
            refine ⟨?_, ?_⟩
            · first | exact True.intro | rfl | omega | assumption | (dsimp only [D] at *; omega) | (simp only [I64, big] at *; omega) | (simp_all; done)
            refine ⟨fun h11 => ?_, fun h11 => ?_⟩
            · try simp only [decide_eq_true_eq, decide_eq_false_iff_not, beq_iff_eq, beq_eq_false_iff_ne, bne_iff_ne, bne_eq_false_iff_eq, Bool.not_eq_true', Bool.not_eq_false', Bool.not_eq_true, Bool.not_eq_false, ne_eq, Bool.and_eq_true, Bool.or_eq_true, Bool.and_eq_false_iff, Bool.or_eq_false_iff, reduceCtorEq, Int.not_lt, Int.not_le] at h11
              refine ⟨?_, ?_⟩
              · first | exact True.intro | rfl | omega | assumption | (dsimp only [D] at *; omega) | (simp only [I64, big] at *; omega) | (simp_all; done)
              refine ⟨fun h12 => ?_, fun h12 => ?_⟩
              · try simp only [decide_eq_true_eq, decide_eq_false_iff_not, beq_iff_eq, beq_eq_false_iff_ne, bne_iff_ne, bne_eq_false_iff_eq, Bool.not_eq_true', Bool.not_eq_false', Bool.not_eq_true, Bool.not_eq_false, ne_eq, Bool.and_eq_true, Bool.or_eq_true, Bool.and_eq_false_iff, Bool.or_eq_false_iff, reduceCtorEq, Int.not_lt, Int.not_le] at h12
                refine ⟨?_, ?_⟩
                · first | exact True.intro | rfl | omega | assumption | (dsimp only [D] at *; omega) | (simp only [I64, big] at *; omega) | (simp_all; done)
                refine ⟨?_, ?_⟩
                · first | exact True.intro | rfl | omega | assumption | (dsimp only [D] at *; omega) | (simp only [I64, big] at *; omega) | (simp_all; done)
                refine ⟨?_, ?_⟩
                · first | exact True.intro | rfl | omega | assumption | (dsimp only [D] at *; omega) | (simp only [I64, big] at *; omega) | (simp_all; done)
                refine ⟨?_, ?_⟩
                · first | exact True.intro | rfl | omega | assumption | (dsimp only [D] at *; omega) | (simp only [I64, big] at *; omega) | (simp_all; done)
                refine ⟨fun h13 => ?_, fun h13 => ?_⟩
                · try simp only [decide_eq_true_eq, decide_eq_false_iff_not, beq_iff_eq, beq_eq_false_iff_ne, bne_iff_ne, bne_eq_false_iff_eq, Bool.not_eq_true', Bool.not_eq_false', Bool.not_eq_true, Bool.not_eq_false, ne_eq, Bool.and_eq_true, Bool.or_eq_true, Bool.and_eq_false_iff, Bool.or_eq_false_iff, reduceCtorEq, Int.not_lt, Int.not_le] at h13
                  first | (exact absurd ((sameE_bases (s, l)).symm.trans (show sameE (basesF (s, l)).2 (numE (basesF (s, l)).2) = false by assumption)) (by decide)) | first | exact True.intro | rfl | omega | assumption | (dsimp only [D] at *; omega) | (simp only [I64, big] at *; omega) | (simp_all; done)
                · try simp only [decide_eq_true_eq, decide_eq_false_iff_not, beq_iff_eq, beq_eq_false_iff_ne, bne_iff_ne, bne_eq_false_iff_eq, Bool.not_eq_true', Bool.not_eq_false', Bool.not_eq_true, Bool.not_eq_false, ne_eq, Bool.and_eq_true, Bool.or_eq_true, Bool.and_eq_false_iff, Bool.or_eq_false_iff, reduceCtorEq, Int.not_lt, Int.not_le] at h13
                  intro h14
                  intro h15
                  refine ⟨?_, ?_⟩
                  · first | exact True.intro | rfl | omega | assumption | (dsimp only [D] at *; omega) | (simp only [I64, big] at *; omega) | (simp_all; done)
                  refine ⟨x_1 + 1, ?_⟩; (repeat' (first | exact trivial | rfl | omega | assumption | apply And.intro))
              · try simp only [decide_eq_true_eq, decide_eq_false_iff_not, beq_iff_eq, beq_eq_false_iff_ne, bne_iff_ne, bne_eq_false_iff_eq, Bool.not_eq_true', Bool.not_eq_false', Bool.not_eq_true, Bool.not_eq_false, ne_eq, Bool.and_eq_true, Bool.or_eq_true, Bool.and_eq_false_iff, Bool.or_eq_false_iff, reduceCtorEq, Int.not_lt, Int.not_le] at h12
                intro h13
                intro h14
                refine ⟨?_, ?_⟩
                · first | exact True.intro | rfl | omega | assumption | (dsimp only [D] at *; omega) | (simp only [I64, big] at *; omega) | (simp_all; done)
                refine ⟨x_1 + 1, ?_⟩; (repeat' (first | exact trivial | rfl | omega | assumption | apply And.intro))
            · try simp only [decide_eq_true_eq, decide_eq_false_iff_not, beq_iff_eq, beq_eq_false_iff_ne, bne_iff_ne, bne_eq_false_iff_eq, Bool.not_eq_true', Bool.not_eq_false', Bool.not_eq_true, Bool.not_eq_false, ne_eq, Bool.and_eq_true, Bool.or_eq_true, Bool.and_eq_false_iff, Bool.or_eq_false_iff, reduceCtorEq, Int.not_lt, Int.not_le] at h11
              intro h12
              intro h13
              refine ⟨?_, ?_⟩
              · first | exact True.intro | rfl | omega | assumption | (dsimp only [D] at *; omega) | (simp only [I64, big] at *; omega) | (simp_all; done)
              refine ⟨x_1 + 1, ?_⟩; (repeat' (first | exact trivial | rfl | omega | assumption | apply And.intro))
          · try simp only [decide_eq_true_eq, decide_eq_false_iff_not, beq_iff_eq, beq_eq_false_iff_ne, bne_iff_ne, bne_eq_false_iff_eq, Bool.not_eq_true', Bool.not_eq_false', Bool.not_eq_true, Bool.not_eq_false, ne_eq, Bool.and_eq_true, Bool.or_eq_true, Bool.and_eq_false_iff, Bool.or_eq_false_iff, reduceCtorEq, Int.not_lt, Int.not_le] at h10
            refine ⟨?_, ?_⟩
            · first | exact True.intro | rfl | omega | assumption | (dsimp only [D] at *; omega) | (simp only [I64, big] at *; omega) | (simp_all; done)
            refine ⟨?_, ?_⟩
            · first | exact True.intro | rfl | omega | assumption | (dsimp only [D] at *; omega) | (simp only [I64, big] at *; omega) | (simp_all; done)
            refine ⟨?_, ?_⟩
            · first | exact True.intro | rfl | omega | assumption | (dsimp only [D] at *; omega) | (simp only [I64, big] at *; omega) | (simp_all; done)
            refine ⟨fun h11 => ?_, fun h11 => ?_⟩
            · try simp only [decide_eq_true_eq, decide_eq_false_iff_not, beq_iff_eq, beq_eq_false_iff_ne, bne_iff_ne, bne_eq_false_iff_eq, Bool.not_eq_true', Bool.not_eq_false', Bool.not_eq_true, Bool.not_eq_false, ne_eq, Bool.and_eq_true, Bool.or_eq_true, Bool.and_eq_false_iff, Bool.or_eq_false_iff, reduceCtorEq, Int.not_lt, Int.not_le] at h11
              refine ⟨?_, ?_⟩
              · first | exact True.intro | rfl | omega | assumption | (dsimp only [D] at *; omega) | (simp only [I64, big] at *; omega) | (simp_all; done)
              simp [sameI]
            · try simp only [decide_eq_true_eq, decide_eq_false_iff_not, beq_iff_eq, beq_eq_false_iff_ne, bne_iff_ne, bne_eq_false_iff_eq, Bool.not_eq_true', Bool.not_eq_false', Bool.not_eq_true, Bool.not_eq_false, ne_eq, Bool.and_eq_true, Bool.or_eq_true, Bool.and_eq_false_iff, Bool.or_eq_false_iff, reduceCtorEq, Int.not_lt, Int.not_le] at h11
              first | (exact absurd ((sameE_bases (s, l)).symm.trans (show sameE (basesF (s, l)).2 (numE (basesF (s, l)).2) = false by assumption)) (by decide)) | first | exact True.intro | rfl | omega | assumption | (dsimp only [D] at *; omega) | (simp only [I64, big] at *; omega) | (simp_all; done)
theorem Try.ok_PlaceSays : PureOK Try.prog Try.B.eT 5 [.slice (.int .i64), .slice tRange] [.bool] (fun _ => True) (fun _ y => y = true) :=
  pure_fn (X := noExt) Try.lplace2CtxOK Try.func5 (by kernel_rfl) (fun x => psAnn x.1 x.2) (fun x hw hp => vc_PlaceSays x.1 x.2 hw)
open Go.ChangeShapes Go.WideShapes Go.ChangeAt Go.RowKit in
set_option maxRecDepth 100000 in
theorem placeSays_lifted (os : Os) (started : os.Started) (H : Type) (enc : TypeId × Value → H) :
    ReturnsInHanded {} Try.checked os 5 .any (Rows.placeSaysSpec.pre6 enc Try.prog Try.f5 Rows.placeSaysRow.domain false) (Rows.placeSaysSpec.post enc Try.prog Try.f5 false true false false) := by
  refine returnsInHanded_of_change (C := Try.checked) (by kernel_rfl) started (by kernel_rfl) Try.func5
    (ChangeSpec.witness6 (enc := enc) (C := Try.checked) false ⟨#[], #[.slice none 0 0, .slice none 0 0], []⟩ 8 (by kernel_rfl) (by kernel_rfl) (by kernel_rfl) (by kernel_rfl)) ?_
  intro W base args ds gs before hval hW hcnd _
  exact law_calls (C := Try.checked) (n := 16) rfl (by kernel_rfl) (fun ds h => by match ds, h with | [_, _], _ => rfl) (by kernel_rfl) (by kernel_rfl) (by kernel_rfl) (tb := 4) (by kernel_rfl) Try.ok_PlaceSays hval hW (fun _ _ => trivial)
open Go.ChangeShapes Go.WideShapes Go.ChangeAt Go.RowKit in
theorem placeSays_holds : Rows.PlaceSaysSaid :=
  OpenClaim.holds_of_wide 5 Try.f5 rfl rfl rfl rfl rfl rfl rfl ⟨rfl, rfl, rfl, rfl, rfl⟩ rfl rfl rfl rfl rfl (by kernel_rfl) Try.func5 (by kernel_rfl)
    (of_decide_eq_true (by kernel_rfl)) (by unfold Func.isWrapper; first | (rw [if_pos (by decide +kernel)]; kernel_rfl) | (rw [if_neg (by decide +kernel)]; exact ⟨rfl, rfl⟩))
    (fun os started H enc _ => placeSays_lifted os started H enc)
#print axioms placeSays_holds
end Go.Proofs.Ytgokjhhcfemnhaa

