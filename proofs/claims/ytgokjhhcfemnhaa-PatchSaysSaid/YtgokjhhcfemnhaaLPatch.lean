/- A part of the proof that the law PatchSays holds of the given program: facts that are used there. -/
import Derived.Test.YtgokjhhcfemnhaaPatch
import Derived.Test.YtgokjhhcfemnhaaPut
import Derived.Test.YtgokjhhcfemnhaaRows
set_option linter.unusedSimpArgs false
set_option linter.unusedVariables false
namespace Go.Proofs.Ytgokjhhcfemnhaa
open Go.Vg Go.Mrl
/-! The law of patches. -/
noncomputable def Try.ofaultCtx : List (FuncId × (Bool × CSpec)) := [(12, (true, funSpec [.str] [.err] (fun _ => True) (fun s => errNo (nameFault s)))),
  (13, (true, funSpec [.str] [.int .i64] (fun _ => True) (fun s => nameFault s))),
  (14, (true, funSpec [.str] [.int .u32] (fun _ => True) (fun s => (hashF s : Int)))),
  (15, (true, funSpec [.str] [.int .i64] (fun _ => True) (fun s => (hashF s : Int)))),
  (11, (true, funSpec [.err, .int .i64] [.bool] (fun _ => True) (fun x => sameE x.1 x.2))),
  (53, (true, funSpec [.int .i64] [.bool] (fun _ => True) (fun n => decide (-2147483648 ≤ n) && decide (n ≤ 2147483647))))]
theorem Try.ofaultCtxOK {X : Ext} : CtxOK Try.prog Try.B X Try.ofaultCtx :=
  ctx1 (callOK_of_fun Try.ok_Check) (ctx1 (callOK_of_fun Try.ok_NameFault) (ctx1 (callOK_of_fun Try.ok_Hash) (ctx1 (callOK_of_fun Try.ok_RHash) (ctx1 (callOK_of_fun Try.ok_same) (ctx1 (callOK_of_fun Try.ok_WordMay) (ctx0 Try.tyOK))))))
def ofaultAnn (o : D tObject) : Anns := [
  (0, fun st => { X := Nat, inv := fun i => i ≤ o.1.length, meas := fun i => o.1.length - i, slots := fun i => [(3, sI i)], keep := [1] }),
  (2, fun st => { X := Nat, inv := fun i => i ≤ (tmpD (.int .i64) st 3).toNat, meas := fun i => (tmpD (.int .i64) st 3).toNat - i, slots := fun i => [(5, sI i)], keep := [1, 3, 4, 44, 45, 46, 47, 48, 51, 52, 53, 54, 55, 56, 57, 58, 59] }),
  (4, fun st => { X := Nat, inv := fun i => i ≤ o.2.1.length, meas := fun i => o.2.1.length - i, slots := fun i => [(6, sI i)], keep := [1] }),
  (6, fun st => { X := Nat, inv := fun i => i ≤ o.2.2.1.length ∧ ∀ j, j < i → Small (nth tSymbol o.2.2.1 j).2.1, meas := fun i => o.2.2.1.length - i, slots := fun i => [(8, sI i)], keep := [1] }),
  (8, fun st => { X := Nat, inv := fun i => i ≤ (tmpD (.int .i64) st 8).toNat, meas := fun i => (tmpD (.int .i64) st 8).toNat - i, slots := fun i => [(11, sI i)], keep := [1, 8, 9, 10, 91, 92, 93, 94, 95, 98, 99, 100, 101, 102, 103, 104, 105, 106, 107, 108, 109, 110, 111, 112, 113, 114, 115, 116, 117, 118, 119] }),
  (10, fun st => { X := Nat, inv := fun i => i ≤ o.2.2.2.1.length ∧ ∀ j, j < i → Small (nth tTie o.2.2.2.1 j).1 ∧ Word (nth tTie o.2.2.2.1 j).2.2.1, meas := fun i => o.2.2.2.1.length - i, slots := fun i => [(12, sI i)], keep := [1] })]
set_option maxRecDepth 100000 in
set_option maxHeartbeats 4000000 in
theorem vc_ObjectFault (o : D tObject) (hw : wfL [tObject] o) : (fnVCs Try.B Try.ofaultCtx Try.f29 (ofaultAnn o) [tObject] [.int .i64] (fun o y => y ≤ 0 → MildO o) o).holds := by
  refine holds_of (p :=
    ((List.length o.1 ≤ big) → (((decide ((↑(List.length o.1) : Int) > (4 : Int))) = true → ((2 : Int) ≤ (0 : Int) → MildO o)) ∧ ((decide ((↑(List.length o.1) : Int) > (4 : Int))) = false → ((List.length o.2.1 ≤ big) → (((decide ((↑(List.length o.2.1) : Int) < (1 : Int))) = true → ((2 : Int) ≤ (0 : Int) → MildO o)) ∧ ((decide ((↑(List.length o.2.1) : Int) < (1 : Int))) = false → ((List.length o.2.1 ≤ big) → (((decide ((↑(List.length o.2.1) : Int) > (40 : Int))) = true → ((2 : Int) ≤ (0 : Int) → MildO o)) ∧ ((decide ((↑(List.length o.2.1) : Int) > (40 : Int))) = false → ((List.length o.2.2.1 ≤ big) → (((decide ((↑(List.length o.2.2.1) : Int) > (8 : Int))) = true → ((2 : Int) ≤ (0 : Int) → MildO o)) ∧ ((decide ((↑(List.length o.2.2.1) : Int) > (8 : Int))) = false → ((List.length o.2.2.2.1 ≤ big) → (((decide ((↑(List.length o.2.2.2.1) : Int) > (6 : Int))) = true → ((2 : Int) ≤ (0 : Int) → MildO o)) ∧ ((decide ((↑(List.length o.2.2.2.1) : Int) > (6 : Int))) = false → (∃ (x : Nat), x ≤ List.length o.1 ∧ ((0 : Int) = (↑x : Int) ∧ True) ∧ True) ∧ (∀ x_0 : Nat, ((x_0 ≤ List.length o.1) → ((List.length o.1 ≤ big) → (((decide ((↑x_0 : Int) < (↑(List.length o.1) : Int))) = true → ((0 : Int) ≤ (↑x_0 : Int) ∧ (↑x_0 : Int) < (↑(List.length o.1) : Int)) ∧ (True) ∧ (((decide (nameFault (nth Ty.str o.1 x_0) > (0 : Int))) = true → (nameFault (nth Ty.str o.1 x_0) ≤ (0 : Int) → MildO o)) ∧ ((decide (nameFault (nth Ty.str o.1 x_0) > (0 : Int))) = false → (∃ (x : Nat), x ≤ x_0 ∧ ((0 : Int) = (↑x : Int) ∧ True) ∧ True) ∧ (∀ x_1 : Nat, ((x_1 ≤ x_0) → (((decide ((↑x_1 : Int) < (↑x_0 : Int))) = true → ((0 : Int) ≤ (↑x_1 : Int) ∧ (↑x_1 : Int) < (↑(List.length o.1) : Int)) ∧ ((0 : Int) ≤ (↑x_0 : Int) ∧ (↑x_0 : Int) < (↑(List.length o.1) : Int)) ∧ (((nth Ty.str o.1 x_1 == nth Ty.str o.1 x_0) = true → ((3 : Int) ≤ (0 : Int) → MildO o)) ∧ ((nth Ty.str o.1 x_1 == nth Ty.str o.1 x_0) = false → ((I64 (↑x_1 : Int)) → ((I64 (1 : Int)) → (I64 ((↑x_1 : Int) + (1 : Int))) ∧
    (∃ (x' : Nat), x' ≤ x_0 ∧ x_0 - x' < x_0 - x_1 ∧ ((↑x_1 : Int) + (1 : Int) = (↑x' : Int) ∧ True) ∧ (o.1 = o.1 ∧ o.2.1 = o.2.1 ∧ o.2.2.1 = o.2.2.1 ∧ o.2.2.2.1 = o.2.2.2.1 ∧ True) ∧ True)))))) ∧ ((decide ((↑x_1 : Int) < (↑x_0 : Int))) = false → ((I64 (↑x_0 : Int)) → ((I64 (1 : Int)) → (I64 ((↑x_0 : Int) + (1 : Int))) ∧
    (∃ (x' : Nat), x' ≤ List.length o.1 ∧ List.length o.1 - x' < List.length o.1 - x_0 ∧ ((↑x_0 : Int) + (1 : Int) = (↑x' : Int) ∧ True) ∧ (o.1 = o.1 ∧ o.2.1 = o.2.1 ∧ o.2.2.1 = o.2.2.1 ∧ o.2.2.2.1 = o.2.2.2.1 ∧ True) ∧ True)))))))))) ∧ ((decide ((↑x_0 : Int) < (↑(List.length o.1) : Int))) = false → (∃ (x : Nat), x ≤ List.length o.2.1 ∧ ((0 : Int) = (↑x : Int) ∧ True) ∧ True) ∧ (∀ x_1 : Nat, ((x_1 ≤ List.length o.2.1) → ((List.length o.2.1 ≤ big) → (((decide ((↑x_1 : Int) < (↑(List.length o.2.1) : Int))) = true → ((0 : Int) ≤ (↑x_1 : Int) ∧ (↑x_1 : Int) < (↑(List.length o.2.1) : Int)) ∧ (True) ∧
    (((!(decide ((-2147483648 : Int) ≤ nth (Ty.int IntKind.i64) o.2.1 x_1) && decide (nth (Ty.int IntKind.i64) o.2.1 x_1 ≤ (2147483647 : Int)))) = true → ((1 : Int) ≤ (0 : Int) → MildO o)) ∧
    ((!(decide ((-2147483648 : Int) ≤ nth (Ty.int IntKind.i64) o.2.1 x_1) && decide (nth (Ty.int IntKind.i64) o.2.1 x_1 ≤ (2147483647 : Int)))) = false → ((I64 (↑x_1 : Int)) → ((I64 (1 : Int)) → (I64 ((↑x_1 : Int) + (1 : Int))) ∧
    (∃ (x' : Nat), x' ≤ List.length o.2.1 ∧ List.length o.2.1 - x' < List.length o.2.1 - x_1 ∧ ((↑x_1 : Int) + (1 : Int) = (↑x' : Int) ∧ True) ∧ (o.1 = o.1 ∧ o.2.1 = o.2.1 ∧ o.2.2.1 = o.2.2.1 ∧ o.2.2.2.1 = o.2.2.2.1 ∧ True) ∧ True)))))) ∧ ((decide ((↑x_1 : Int) < (↑(List.length o.2.1) : Int))) = false →
    (∃ (x : Nat), (x ≤ List.length o.2.2.1 ∧ ∀ (j : Nat), j < x → Small (nth tSymbol o.2.2.1 j).2.1) ∧ ((0 : Int) = (↑x : Int) ∧ True) ∧ True) ∧ (∀ x_2 : Nat, ((x_2 ≤ List.length o.2.2.1 ∧ ∀ (j : Nat), j < x_2 → Small (nth tSymbol o.2.2.1 j).2.1) → ((List.length o.2.2.1 ≤ big) → (((decide ((↑x_2 : Int) < (↑(List.length o.2.2.1) : Int))) = true → ((0 : Int) ≤ (↑x_2 : Int) ∧ (↑x_2 : Int) < (↑(List.length o.2.2.1) : Int)) ∧ (True) ∧ (((decide (nameFault (nth tSymbol o.2.2.1 x_2).1 > (0 : Int))) = true → (nameFault (nth tSymbol o.2.2.1 x_2).1 ≤ (0 : Int) → MildO o)) ∧ ((decide (nameFault (nth tSymbol o.2.2.1 x_2).1 > (0 : Int))) = false → (((decide ((nth tSymbol o.2.2.1 x_2).2.1 < (0 : Int))) = true → ((1 : Int) ≤ (0 : Int) → MildO o)) ∧ ((decide ((nth tSymbol o.2.2.1 x_2).2.1 < (0 : Int))) = false → ((List.length o.2.1 ≤ big) → (((decide ((nth tSymbol o.2.2.1 x_2).2.1 ≥ (↑(List.length o.2.1) : Int))) = true → ((1 : Int) ≤ (0 : Int) → MildO o)) ∧ ((decide ((nth tSymbol o.2.2.1 x_2).2.1 ≥ (↑(List.length o.2.1) : Int))) = false → (∃ (x : Nat), x ≤ x_2 ∧ ((0 : Int) = (↑x : Int) ∧ True) ∧ True) ∧ (∀ x_3 : Nat, ((x_3 ≤ x_2) → (((decide ((↑x_3 : Int) < (↑x_2 : Int))) = true → ((0 : Int) ≤ (↑x_3 : Int) ∧ (↑x_3 : Int) < (↑(List.length o.2.2.1) : Int)) ∧ ((((nth tSymbol o.2.2.1 x_3).1 == (nth tSymbol o.2.2.1 x_2).1) = true → ((3 : Int) ≤ (0 : Int) → MildO o)) ∧ (((nth tSymbol o.2.2.1 x_3).1 == (nth tSymbol o.2.2.1 x_2).1) = false → ((I64 (↑x_3 : Int)) → ((I64 (1 : Int)) → (I64 ((↑x_3 : Int) + (1 : Int))) ∧
    (∃ (x' : Nat), x' ≤ x_2 ∧ x_2 - x' < x_2 - x_3 ∧ ((↑x_3 : Int) + (1 : Int) = (↑x' : Int) ∧ True) ∧ ((nth tSymbol o.2.2.1 x_2).1 = (nth tSymbol o.2.2.1 x_2).1 ∧ (nth tSymbol o.2.2.1 x_2).2.1 = (nth tSymbol o.2.2.1 x_2).2.1 ∧ (nth tSymbol o.2.2.1 x_2).2.2.1 = (nth tSymbol o.2.2.1 x_2).2.2.1 ∧ True) ∧ (o.1 = o.1 ∧ o.2.1 = o.2.1 ∧ o.2.2.1 = o.2.2.1 ∧ o.2.2.2.1 = o.2.2.2.1 ∧ True) ∧ True)))))) ∧ ((decide ((↑x_3 : Int) < (↑x_2 : Int))) = false → ((I64 (↑x_2 : Int)) → ((I64 (1 : Int)) → (I64 ((↑x_2 : Int) + (1 : Int))) ∧
    (∃ (x' : Nat), (x' ≤ List.length o.2.2.1 ∧ ∀ (j : Nat), j < x' → Small (nth tSymbol o.2.2.1 j).2.1) ∧ List.length o.2.2.1 - x' < List.length o.2.2.1 - x_2 ∧ ((↑x_2 : Int) + (1 : Int) = (↑x' : Int) ∧ True) ∧ (o.1 = o.1 ∧ o.2.1 = o.2.1 ∧ o.2.2.1 = o.2.2.1 ∧ o.2.2.2.1 = o.2.2.2.1 ∧ True) ∧ True))))))))))))))) ∧ ((decide ((↑x_2 : Int) < (↑(List.length o.2.2.1) : Int))) = false →
    (∃ (x : Nat), (x ≤ List.length o.2.2.2.1 ∧ ∀ (j : Nat), j < x → Small (nth tTie o.2.2.2.1 j).1 ∧ Word (nth tTie o.2.2.2.1 j).2.2.1) ∧ ((0 : Int) = (↑x : Int) ∧ True) ∧ True) ∧ (∀ x_3 : Nat,
    ((x_3 ≤ List.length o.2.2.2.1 ∧ ∀ (j : Nat), j < x_3 → Small (nth tTie o.2.2.2.1 j).1 ∧ Word (nth tTie o.2.2.2.1 j).2.2.1) → ((List.length o.2.2.2.1 ≤ big) → (((decide ((↑x_3 : Int) < (↑(List.length o.2.2.2.1) : Int))) = true → ((0 : Int) ≤ (↑x_3 : Int) ∧ (↑x_3 : Int) < (↑(List.length o.2.2.2.1) : Int)) ∧ (True) ∧ (((decide ((nth tTie o.2.2.2.1 x_3).1 < (0 : Int))) = true → ((1 : Int) ≤ (0 : Int) → MildO o)) ∧ ((decide ((nth tTie o.2.2.2.1 x_3).1 < (0 : Int))) = false → ((List.length o.2.1 ≤ big) → (((decide ((nth tTie o.2.2.2.1 x_3).1 ≥ (↑(List.length o.2.1) : Int))) = true → ((1 : Int) ≤ (0 : Int) → MildO o)) ∧ ((decide ((nth tTie o.2.2.2.1 x_3).1 ≥ (↑(List.length o.2.1) : Int))) = false →
    (((!(decide ((-2147483648 : Int) ≤ (nth tTie o.2.2.2.1 x_3).2.2.1) && decide ((nth tTie o.2.2.2.1 x_3).2.2.1 ≤ (2147483647 : Int)))) = true → ((1 : Int) ≤ (0 : Int) → MildO o)) ∧
    ((!(decide ((-2147483648 : Int) ≤ (nth tTie o.2.2.2.1 x_3).2.2.1) && decide ((nth tTie o.2.2.2.1 x_3).2.2.1 ≤ (2147483647 : Int)))) = false → (((decide ((nth tTie o.2.2.2.1 x_3).2.1 < (1 : Int))) = true → ((3 : Int) ≤ (0 : Int) → MildO o)) ∧ ((decide ((nth tTie o.2.2.2.1 x_3).2.1 < (1 : Int))) = false → (((decide ((nth tTie o.2.2.2.1 x_3).2.1 > (3 : Int))) = true → ((3 : Int) ≤ (0 : Int) → MildO o)) ∧ ((decide ((nth tTie o.2.2.2.1 x_3).2.1 > (3 : Int))) = false → (((decide ((↑x_3 : Int) > (0 : Int))) = true → ((I64 (↑x_3 : Int)) → ((I64 (1 : Int)) → (I64 ((↑x_3 : Int) - (1 : Int))) ∧ ((0 : Int) ≤ (↑x_3 : Int) - (1 : Int) ∧ (↑x_3 : Int) - (1 : Int) < (↑(List.length o.2.2.2.1) : Int)) ∧ (((decide ((nth tTie o.2.2.2.1 x_3).1 ≤ (nth tTie o.2.2.2.1 (Int.toNat ((↑x_3 : Int) - (1 : Int)))).1)) = true → ((3 : Int) ≤ (0 : Int) → MildO o)) ∧ ((decide ((nth tTie o.2.2.2.1 x_3).1 ≤ (nth tTie o.2.2.2.1 (Int.toNat ((↑x_3 : Int) - (1 : Int)))).1)) = false → ((((nth tTie o.2.2.2.1 x_3).2.1 == (1 : Int)) = true → (((!(nth tTie o.2.2.2.1 x_3).2.2.2.1 == @List.nil UInt8) = true → ((3 : Int) ≤ (0 : Int) → MildO o)) ∧ ((!(nth tTie o.2.2.2.1 x_3).2.2.2.1 == @List.nil UInt8) = false → ((((nth tTie o.2.2.2.1 x_3).2.2.2.2.1) = true → ((3 : Int) ≤ (0 : Int) → MildO o)) ∧ (((nth tTie o.2.2.2.1 x_3).2.2.2.2.1) = false → (((decide ((nth tTie o.2.2.2.1 x_3).2.1 > (1 : Int))) = true → (True) ∧ (((decide (nameFault (nth tTie o.2.2.2.1 x_3).2.2.2.1 > (0 : Int))) = true → (nameFault (nth tTie o.2.2.2.1 x_3).2.2.2.1 ≤ (0 : Int) → MildO o)) ∧ ((decide (nameFault (nth tTie o.2.2.2.1 x_3).2.2.2.1 > (0 : Int))) = false → ((I64 (↑x_3 : Int)) → ((I64 (1 : Int)) → (I64 ((↑x_3 : Int) + (1 : Int))) ∧
    (∃ (x' : Nat), (x' ≤ List.length o.2.2.2.1 ∧ ∀ (j : Nat), j < x' → Small (nth tTie o.2.2.2.1 j).1 ∧ Word (nth tTie o.2.2.2.1 j).2.2.1) ∧ List.length o.2.2.2.1 - x' < List.length o.2.2.2.1 - x_3 ∧ ((↑x_3 : Int) + (1 : Int) = (↑x' : Int) ∧ True) ∧ (o.1 = o.1 ∧ o.2.1 = o.2.1 ∧ o.2.2.1 = o.2.2.1 ∧ o.2.2.2.1 = o.2.2.2.1 ∧ True) ∧ True)))))) ∧ ((decide ((nth tTie o.2.2.2.1 x_3).2.1 > (1 : Int))) = false → ((I64 (↑x_3 : Int)) → ((I64 (1 : Int)) → (I64 ((↑x_3 : Int) + (1 : Int))) ∧
    (∃ (x' : Nat), (x' ≤ List.length o.2.2.2.1 ∧ ∀ (j : Nat), j < x' → Small (nth tTie o.2.2.2.1 j).1 ∧ Word (nth tTie o.2.2.2.1 j).2.2.1) ∧ List.length o.2.2.2.1 - x' < List.length o.2.2.2.1 - x_3 ∧ ((↑x_3 : Int) + (1 : Int) = (↑x' : Int) ∧ True) ∧ (o.1 = o.1 ∧ o.2.1 = o.2.1 ∧ o.2.2.1 = o.2.2.1 ∧ o.2.2.2.1 = o.2.2.2.1 ∧ True) ∧ True)))))))))) ∧ (((nth tTie o.2.2.2.1 x_3).2.1 == (1 : Int)) = false → (((decide ((nth tTie o.2.2.2.1 x_3).2.1 > (1 : Int))) = true → (True) ∧ (((decide (nameFault (nth tTie o.2.2.2.1 x_3).2.2.2.1 > (0 : Int))) = true → (nameFault (nth tTie o.2.2.2.1 x_3).2.2.2.1 ≤ (0 : Int) → MildO o)) ∧ ((decide (nameFault (nth tTie o.2.2.2.1 x_3).2.2.2.1 > (0 : Int))) = false → ((I64 (↑x_3 : Int)) → ((I64 (1 : Int)) → (I64 ((↑x_3 : Int) + (1 : Int))) ∧
    (∃ (x' : Nat), (x' ≤ List.length o.2.2.2.1 ∧ ∀ (j : Nat), j < x' → Small (nth tTie o.2.2.2.1 j).1 ∧ Word (nth tTie o.2.2.2.1 j).2.2.1) ∧ List.length o.2.2.2.1 - x' < List.length o.2.2.2.1 - x_3 ∧ ((↑x_3 : Int) + (1 : Int) = (↑x' : Int) ∧ True) ∧ (o.1 = o.1 ∧ o.2.1 = o.2.1 ∧ o.2.2.1 = o.2.2.1 ∧ o.2.2.2.1 = o.2.2.2.1 ∧ True) ∧ True)))))) ∧ ((decide ((nth tTie o.2.2.2.1 x_3).2.1 > (1 : Int))) = false → ((I64 (↑x_3 : Int)) → ((I64 (1 : Int)) → (I64 ((↑x_3 : Int) + (1 : Int))) ∧
    (∃ (x' : Nat), (x' ≤ List.length o.2.2.2.1 ∧ ∀ (j : Nat), j < x' → Small (nth tTie o.2.2.2.1 j).1 ∧ Word (nth tTie o.2.2.2.1 j).2.2.1) ∧ List.length o.2.2.2.1 - x' < List.length o.2.2.2.1 - x_3 ∧ ((↑x_3 : Int) + (1 : Int) = (↑x' : Int) ∧ True) ∧ (o.1 = o.1 ∧ o.2.1 = o.2.1 ∧ o.2.2.1 = o.2.2.1 ∧ o.2.2.2.1 = o.2.2.2.1 ∧ True) ∧ True)))))))))))) ∧ ((decide ((↑x_3 : Int) > (0 : Int))) = false → ((((nth tTie o.2.2.2.1 x_3).2.1 == (1 : Int)) = true → (((!(nth tTie o.2.2.2.1 x_3).2.2.2.1 == @List.nil UInt8) = true → ((3 : Int) ≤ (0 : Int) → MildO o)) ∧ ((!(nth tTie o.2.2.2.1 x_3).2.2.2.1 == @List.nil UInt8) = false → ((((nth tTie o.2.2.2.1 x_3).2.2.2.2.1) = true → ((3 : Int) ≤ (0 : Int) → MildO o)) ∧ (((nth tTie o.2.2.2.1 x_3).2.2.2.2.1) = false → (((decide ((nth tTie o.2.2.2.1 x_3).2.1 > (1 : Int))) = true → (True) ∧ (((decide (nameFault (nth tTie o.2.2.2.1 x_3).2.2.2.1 > (0 : Int))) = true → (nameFault (nth tTie o.2.2.2.1 x_3).2.2.2.1 ≤ (0 : Int) → MildO o)) ∧ ((decide (nameFault (nth tTie o.2.2.2.1 x_3).2.2.2.1 > (0 : Int))) = false → ((I64 (↑x_3 : Int)) → ((I64 (1 : Int)) → (I64 ((↑x_3 : Int) + (1 : Int))) ∧
    (∃ (x' : Nat), (x' ≤ List.length o.2.2.2.1 ∧ ∀ (j : Nat), j < x' → Small (nth tTie o.2.2.2.1 j).1 ∧ Word (nth tTie o.2.2.2.1 j).2.2.1) ∧ List.length o.2.2.2.1 - x' < List.length o.2.2.2.1 - x_3 ∧ ((↑x_3 : Int) + (1 : Int) = (↑x' : Int) ∧ True) ∧ (o.1 = o.1 ∧ o.2.1 = o.2.1 ∧ o.2.2.1 = o.2.2.1 ∧ o.2.2.2.1 = o.2.2.2.1 ∧ True) ∧ True)))))) ∧ ((decide ((nth tTie o.2.2.2.1 x_3).2.1 > (1 : Int))) = false → ((I64 (↑x_3 : Int)) → ((I64 (1 : Int)) → (I64 ((↑x_3 : Int) + (1 : Int))) ∧
    (∃ (x' : Nat), (x' ≤ List.length o.2.2.2.1 ∧ ∀ (j : Nat), j < x' → Small (nth tTie o.2.2.2.1 j).1 ∧ Word (nth tTie o.2.2.2.1 j).2.2.1) ∧ List.length o.2.2.2.1 - x' < List.length o.2.2.2.1 - x_3 ∧ ((↑x_3 : Int) + (1 : Int) = (↑x' : Int) ∧ True) ∧ (o.1 = o.1 ∧ o.2.1 = o.2.1 ∧ o.2.2.1 = o.2.2.1 ∧ o.2.2.2.1 = o.2.2.2.1 ∧ True) ∧ True)))))))))) ∧ (((nth tTie o.2.2.2.1 x_3).2.1 == (1 : Int)) = false → (((decide ((nth tTie o.2.2.2.1 x_3).2.1 > (1 : Int))) = true → (True) ∧ (((decide (nameFault (nth tTie o.2.2.2.1 x_3).2.2.2.1 > (0 : Int))) = true → (nameFault (nth tTie o.2.2.2.1 x_3).2.2.2.1 ≤ (0 : Int) → MildO o)) ∧ ((decide (nameFault (nth tTie o.2.2.2.1 x_3).2.2.2.1 > (0 : Int))) = false → ((I64 (↑x_3 : Int)) → ((I64 (1 : Int)) → (I64 ((↑x_3 : Int) + (1 : Int))) ∧
    (∃ (x' : Nat), (x' ≤ List.length o.2.2.2.1 ∧ ∀ (j : Nat), j < x' → Small (nth tTie o.2.2.2.1 j).1 ∧ Word (nth tTie o.2.2.2.1 j).2.2.1) ∧ List.length o.2.2.2.1 - x' < List.length o.2.2.2.1 - x_3 ∧ ((↑x_3 : Int) + (1 : Int) = (↑x' : Int) ∧ True) ∧ (o.1 = o.1 ∧ o.2.1 = o.2.1 ∧ o.2.2.1 = o.2.2.1 ∧ o.2.2.2.1 = o.2.2.2.1 ∧ True) ∧ True)))))) ∧ ((decide ((nth tTie o.2.2.2.1 x_3).2.1 > (1 : Int))) = false → ((I64 (↑x_3 : Int)) → ((I64 (1 : Int)) → (I64 ((↑x_3 : Int) + (1 : Int))) ∧
    (∃ (x' : Nat), (x' ≤ List.length o.2.2.2.1 ∧ ∀ (j : Nat), j < x' → Small (nth tTie o.2.2.2.1 j).1 ∧ Word (nth tTie o.2.2.2.1 j).2.2.1) ∧ List.length o.2.2.2.1 - x' < List.length o.2.2.2.1 - x_3 ∧ ((↑x_3 : Int) + (1 : Int) = (↑x' : Int) ∧ True) ∧ (o.1 = o.1 ∧ o.2.1 = o.2.1 ∧ o.2.2.1 = o.2.2.1 ∧ o.2.2.2.1 = o.2.2.2.1 ∧ True) ∧ True))))))))))))))))))))) ∧ ((decide ((↑x_3 : Int) < (↑(List.length o.2.2.2.1) : Int))) = false → ((0 : Int) ≤ (0 : Int) → MildO o))))))))))))))))))))))))))))))))))))) (by kernel_rfl) ?_
  intro h0
  refine ⟨fun h1 => ?_, fun h1 => ?_⟩
  · try simp only [bl, reduceCtorEq] at h1
    first | trivial | omega | (dsimp only [D] at *; omega) | (simp only [I64, big] at *; omega) | (simp_all; done)
  · try simp only [bl, reduceCtorEq] at h1
    intro h2
    refine ⟨fun h3 => ?_, fun h3 => ?_⟩
    · try simp only [bl, reduceCtorEq] at h3
      first | trivial | omega | (dsimp only [D] at *; omega) | (simp only [I64, big] at *; omega) | (simp_all; done)
    · try simp only [bl, reduceCtorEq] at h3
      intro h4
      refine ⟨fun h5 => ?_, fun h5 => ?_⟩
      · try simp only [bl, reduceCtorEq] at h5
        first | trivial | omega | (dsimp only [D] at *; omega) | (simp only [I64, big] at *; omega) | (simp_all; done)
      · try simp only [bl, reduceCtorEq] at h5
        intro h6
        refine ⟨fun h7 => ?_, fun h7 => ?_⟩
        · try simp only [bl, reduceCtorEq] at h7
          first | trivial | omega | (dsimp only [D] at *; omega) | (simp only [I64, big] at *; omega) | (simp_all; done)
        · try simp only [bl, reduceCtorEq] at h7
          intro h8
          refine ⟨fun h9 => ?_, fun h9 => ?_⟩
          · try simp only [bl, reduceCtorEq] at h9
            first | trivial | omega | (dsimp only [D] at *; omega) | (simp only [I64, big] at *; omega) | (simp_all; done)
          · try simp only [bl, reduceCtorEq] at h9
            refine ⟨?_, ?_⟩
            · exact ⟨0, by omega, ⟨rfl, trivial⟩, trivial⟩
            intro x_0 q_0
            intro h10
            refine ⟨fun h11 => ?_, fun h11 => ?_⟩
            · try simp only [bl, reduceCtorEq] at h11
              refine ⟨?_, ?_⟩
              · first | trivial | omega | (dsimp only [D] at *; omega) | (simp only [I64, big] at *; omega) | (simp_all; done)
              refine ⟨trivial, ?_⟩
              refine ⟨fun h12 => ?_, fun h12 => ?_⟩
              · try simp only [bl, reduceCtorEq] at h12
                first | trivial | omega | (dsimp only [D] at *; omega) | (simp only [I64, big] at *; omega) | (simp_all; done)
              · try simp only [bl, reduceCtorEq] at h12
                refine ⟨?_, ?_⟩
                · exact ⟨0, by omega, ⟨rfl, trivial⟩, trivial⟩
                intro x_1 q_1
                refine ⟨fun h13 => ?_, fun h13 => ?_⟩
                · try simp only [bl, reduceCtorEq] at h13
                  refine ⟨?_, ?_⟩
                  · first | trivial | omega | (dsimp only [D] at *; omega) | (simp only [I64, big] at *; omega) | (simp_all; done)
                  refine ⟨?_, ?_⟩
                  · first | trivial | omega | (dsimp only [D] at *; omega) | (simp only [I64, big] at *; omega) | (simp_all; done)
                  refine ⟨fun h14 => ?_, fun h14 => ?_⟩
                  · try simp only [bl, reduceCtorEq] at h14
                    first | trivial | omega | (dsimp only [D] at *; omega) | (simp only [I64, big] at *; omega) | (simp_all; done)
                  · try simp only [bl, reduceCtorEq] at h14
                    intro h15
                    intro h16
                    refine ⟨?_, ?_⟩
                    · first | trivial | omega | (dsimp only [D] at *; omega) | (simp only [I64, big] at *; omega) | (simp_all; done)
                    exact ⟨x_1 + 1, by omega, by omega, ⟨by omega, trivial⟩, (by repeat' (first | exact trivial | rfl | apply And.intro))⟩
                · try simp only [bl, reduceCtorEq] at h13
                  intro h14
                  intro h15
                  refine ⟨?_, ?_⟩
                  · first | trivial | omega | (dsimp only [D] at *; omega) | (simp only [I64, big] at *; omega) | (simp_all; done)
                  exact ⟨x_0 + 1, by omega, by omega, ⟨by omega, trivial⟩, (by repeat' (first | exact trivial | rfl | apply And.intro))⟩
            · try simp only [bl, reduceCtorEq] at h11
              refine ⟨?_, ?_⟩
              · exact ⟨0, by omega, ⟨rfl, trivial⟩, trivial⟩
              intro x_1 q_1
              intro h12
              refine ⟨fun h13 => ?_, fun h13 => ?_⟩
              · try simp only [bl, reduceCtorEq] at h13
                refine ⟨?_, ?_⟩
                · first | trivial | omega | (dsimp only [D] at *; omega) | (simp only [I64, big] at *; omega) | (simp_all; done)
                refine ⟨trivial, ?_⟩
                refine ⟨fun h14 => ?_, fun h14 => ?_⟩
                · try simp only [bl, reduceCtorEq] at h14
                  first | trivial | omega | (dsimp only [D] at *; omega) | (simp only [I64, big] at *; omega) | (simp_all; done)
                · try simp only [bl, reduceCtorEq] at h14
                  intro h15
                  intro h16
                  refine ⟨?_, ?_⟩
                  · first | trivial | omega | (dsimp only [D] at *; omega) | (simp only [I64, big] at *; omega) | (simp_all; done)
                  exact ⟨x_1 + 1, by omega, by omega, ⟨by omega, trivial⟩, (by repeat' (first | exact trivial | rfl | apply And.intro))⟩
              · try simp only [bl, reduceCtorEq] at h13
                refine ⟨?_, ?_⟩
                · exact ⟨0, ⟨by omega, fun j hj => by omega⟩, ⟨rfl, trivial⟩, trivial⟩
                intro x_2 q_2
                intro h14
                refine ⟨fun h15 => ?_, fun h15 => ?_⟩
                · try simp only [bl, reduceCtorEq] at h15
                  refine ⟨?_, ?_⟩
                  · first | trivial | omega | (dsimp only [D] at *; omega) | (simp only [I64, big] at *; omega) | (simp_all; done)
                  refine ⟨trivial, ?_⟩
                  refine ⟨fun h16 => ?_, fun h16 => ?_⟩
                  · try simp only [bl, reduceCtorEq] at h16
                    first | trivial | omega | (dsimp only [D] at *; omega) | (simp only [I64, big] at *; omega) | (simp_all; done)
                  · try simp only [bl, reduceCtorEq] at h16
                    refine ⟨fun h17 => ?_, fun h17 => ?_⟩
                    · try simp only [bl, reduceCtorEq] at h17
                      first | trivial | omega | (dsimp only [D] at *; omega) | (simp only [I64, big] at *; omega) | (simp_all; done)
                    · try simp only [bl, reduceCtorEq] at h17
                      intro h18
                      refine ⟨fun h19 => ?_, fun h19 => ?_⟩
                      · try simp only [bl, reduceCtorEq] at h19
                        first | trivial | omega | (dsimp only [D] at *; omega) | (simp only [I64, big] at *; omega) | (simp_all; done)
                      · try simp only [bl, reduceCtorEq] at h19
                        refine ⟨?_, ?_⟩
                        · exact ⟨0, by omega, ⟨rfl, trivial⟩, trivial⟩
                        intro x_3 q_3
                        refine ⟨fun h20 => ?_, fun h20 => ?_⟩
                        · try simp only [bl, reduceCtorEq] at h20
                          refine ⟨?_, ?_⟩
                          · first | trivial | omega | (dsimp only [D] at *; omega) | (simp only [I64, big] at *; omega) | (simp_all; done)
                          refine ⟨fun h21 => ?_, fun h21 => ?_⟩
                          · try simp only [bl, reduceCtorEq] at h21
                            first | trivial | omega | (dsimp only [D] at *; omega) | (simp only [I64, big] at *; omega) | (simp_all; done)
                          · try simp only [bl, reduceCtorEq] at h21
                            intro h22
                            intro h23
                            refine ⟨?_, ?_⟩
                            · first | trivial | omega | (dsimp only [D] at *; omega) | (simp only [I64, big] at *; omega) | (simp_all; done)
                            exact ⟨x_3 + 1, by omega, by omega, ⟨by omega, trivial⟩, (by repeat' (first | exact trivial | rfl | apply And.intro))⟩
                        · try simp only [bl, reduceCtorEq] at h20
                          intro h21
                          intro h22
                          refine ⟨?_, ?_⟩
                          · first | trivial | omega | (dsimp only [D] at *; omega) | (simp only [I64, big] at *; omega) | (simp_all; done)
                          exact ⟨x_2 + 1, ⟨by omega, upto1 q_2.2 (by unfold Small; dsimp only [D] at *; omega)⟩, by omega, ⟨by omega, trivial⟩, (by repeat' (first | exact trivial | rfl | apply And.intro))⟩
                · try simp only [bl, reduceCtorEq] at h15
                  refine ⟨?_, ?_⟩
                  · exact ⟨0, ⟨by omega, fun j hj => by omega⟩, ⟨rfl, trivial⟩, trivial⟩
                  intro x_3 q_3
                  intro h16
                  refine ⟨fun h17 => ?_, fun h17 => ?_⟩
                  · try simp only [bl, reduceCtorEq] at h17
                    refine ⟨?_, ?_⟩
                    · first | trivial | omega | (dsimp only [D] at *; omega) | (simp only [I64, big] at *; omega) | (simp_all; done)
                    refine ⟨trivial, ?_⟩
                    refine ⟨fun h18 => ?_, fun h18 => ?_⟩
                    · try simp only [bl, reduceCtorEq] at h18
                      first | trivial | omega | (dsimp only [D] at *; omega) | (simp only [I64, big] at *; omega) | (simp_all; done)
                    · try simp only [bl, reduceCtorEq] at h18
                      intro h19
                      refine ⟨fun h20 => ?_, fun h20 => ?_⟩
                      · try simp only [bl, reduceCtorEq] at h20
                        first | trivial | omega | (dsimp only [D] at *; omega) | (simp only [I64, big] at *; omega) | (simp_all; done)
                      · try simp only [bl, reduceCtorEq] at h20
                        refine ⟨fun h21 => ?_, fun h21 => ?_⟩
                        · try simp only [bl, reduceCtorEq] at h21
                          first | trivial | omega | (dsimp only [D] at *; omega) | (simp only [I64, big] at *; omega) | (simp_all; done)
                        · try simp only [bl, reduceCtorEq] at h21
                          refine ⟨fun h22 => ?_, fun h22 => ?_⟩
                          · try simp only [bl, reduceCtorEq] at h22
                            first | trivial | omega | (dsimp only [D] at *; omega) | (simp only [I64, big] at *; omega) | (simp_all; done)
                          · try simp only [bl, reduceCtorEq] at h22
                            refine ⟨fun h23 => ?_, fun h23 => ?_⟩
                            · try simp only [bl, reduceCtorEq] at h23
                              first | trivial | omega | (dsimp only [D] at *; omega) | (simp only [I64, big] at *; omega) | (simp_all; done)
                            · try simp only [bl, reduceCtorEq] at h23
                              refine ⟨fun h24 => ?_, fun h24 => ?_⟩
                              · try simp only [bl, reduceCtorEq] at h24
                                intro h25
                                intro h26
                                refine ⟨?_, ?_⟩
                                · first | trivial | omega | (dsimp only [D] at *; omega) | (simp only [I64, big] at *; omega) | (simp_all; done)
                                refine ⟨?_, ?_⟩
                                · first | trivial | omega | (dsimp only [D] at *; omega) | (simp only [I64, big] at *; omega) | (simp_all; done)
                                refine ⟨fun h27 => ?_, fun h27 => ?_⟩
                                · try simp only [bl, reduceCtorEq] at h27
                                  first | trivial | omega | (dsimp only [D] at *; omega) | (simp only [I64, big] at *; omega) | (simp_all; done)
                                · try simp only [bl, reduceCtorEq] at h27
                                  refine ⟨fun h28 => ?_, fun h28 => ?_⟩
                                  · try simp only [bl, reduceCtorEq] at h28
                                    refine ⟨fun h29 => ?_, fun h29 => ?_⟩
                                    · try simp only [bl, reduceCtorEq] at h29
                                      first | trivial | omega | (dsimp only [D] at *; omega) | (simp only [I64, big] at *; omega) | (simp_all; done)
                                    · try simp only [bl, reduceCtorEq] at h29
                                      refine ⟨fun h30 => ?_, fun h30 => ?_⟩
                                      · try simp only [bl, reduceCtorEq] at h30
                                        first | trivial | omega | (dsimp only [D] at *; omega) | (simp only [I64, big] at *; omega) | (simp_all; done)
                                      · try simp only [bl, reduceCtorEq] at h30
                                        refine ⟨fun h31 => ?_, fun h31 => ?_⟩
                                        · try simp only [bl, reduceCtorEq] at h31
                                          refine ⟨trivial, ?_⟩
                                          refine ⟨fun h32 => ?_, fun h32 => ?_⟩
                                          · try simp only [bl, reduceCtorEq] at h32
                                            first | trivial | omega | (dsimp only [D] at *; omega) | (simp only [I64, big] at *; omega) | (simp_all; done)
                                          · try simp only [bl, reduceCtorEq] at h32
                                            intro h33
                                            intro h34
                                            refine ⟨?_, ?_⟩
                                            · first | trivial | omega | (dsimp only [D] at *; omega) | (simp only [I64, big] at *; omega) | (simp_all; done)
                                            first | trivial | omega | (dsimp only [D] at *; omega) | (simp only [I64, big] at *; omega) | (simp_all; done)
                                        · try simp only [bl, reduceCtorEq] at h31
                                          intro h32
                                          intro h33
                                          refine ⟨?_, ?_⟩
                                          · first | trivial | omega | (dsimp only [D] at *; omega) | (simp only [I64, big] at *; omega) | (simp_all; done)
                                          simp only [bl] at *
                                          exact ⟨x_3 + 1, ⟨by omega, upto1 q_3.2 (by unfold Small Word; dsimp only [D] at *; omega)⟩, by omega, ⟨by omega, trivial⟩, (by repeat' (first | exact trivial | rfl | apply And.intro))⟩
                                  · try simp only [bl, reduceCtorEq] at h28
                                    refine ⟨fun h29 => ?_, fun h29 => ?_⟩
                                    · try simp only [bl, reduceCtorEq] at h29
                                      refine ⟨trivial, ?_⟩
                                      refine ⟨fun h30 => ?_, fun h30 => ?_⟩
                                      · try simp only [bl, reduceCtorEq] at h30
                                        first | trivial | omega | (dsimp only [D] at *; omega) | (simp only [I64, big] at *; omega) | (simp_all; done)
                                      · try simp only [bl, reduceCtorEq] at h30
                                        intro h31
                                        intro h32
                                        refine ⟨?_, ?_⟩
                                        · first | trivial | omega | (dsimp only [D] at *; omega) | (simp only [I64, big] at *; omega) | (simp_all; done)
                                        simp only [bl] at *
                                        exact ⟨x_3 + 1, ⟨by omega, upto1 q_3.2 (by unfold Small Word; dsimp only [D] at *; omega)⟩, by omega, ⟨by omega, trivial⟩, (by repeat' (first | exact trivial | rfl | apply And.intro))⟩
                                    · try simp only [bl, reduceCtorEq] at h29
                                      intro h30
                                      intro h31
                                      refine ⟨?_, ?_⟩
                                      · first | trivial | omega | (dsimp only [D] at *; omega) | (simp only [I64, big] at *; omega) | (simp_all; done)
                                      first | trivial | omega | (dsimp only [D] at *; omega) | (simp only [I64, big] at *; omega) | (simp_all; done)
                              · try simp only [bl, reduceCtorEq] at h24
                                refine ⟨fun h25 => ?_, fun h25 => ?_⟩
                                · try simp only [bl, reduceCtorEq] at h25
                                  refine ⟨fun h26 => ?_, fun h26 => ?_⟩
                                  · try simp only [bl, reduceCtorEq] at h26
                                    first | trivial | omega | (dsimp only [D] at *; omega) | (simp only [I64, big] at *; omega) | (simp_all; done)
                                  · try simp only [bl, reduceCtorEq] at h26
                                    refine ⟨fun h27 => ?_, fun h27 => ?_⟩
                                    · try simp only [bl, reduceCtorEq] at h27
                                      first | trivial | omega | (dsimp only [D] at *; omega) | (simp only [I64, big] at *; omega) | (simp_all; done)
                                    · try simp only [bl, reduceCtorEq] at h27
                                      refine ⟨fun h28 => ?_, fun h28 => ?_⟩
                                      · try simp only [bl, reduceCtorEq] at h28
                                        refine ⟨trivial, ?_⟩
                                        refine ⟨fun h29 => ?_, fun h29 => ?_⟩
                                        · try simp only [bl, reduceCtorEq] at h29
                                          first | trivial | omega | (dsimp only [D] at *; omega) | (simp only [I64, big] at *; omega) | (simp_all; done)
                                        · try simp only [bl, reduceCtorEq] at h29
                                          intro h30
                                          intro h31
                                          refine ⟨?_, ?_⟩
                                          · first | trivial | omega | (dsimp only [D] at *; omega) | (simp only [I64, big] at *; omega) | (simp_all; done)
                                          first | trivial | omega | (dsimp only [D] at *; omega) | (simp only [I64, big] at *; omega) | (simp_all; done)
                                      · try simp only [bl, reduceCtorEq] at h28
                                        intro h29
                                        intro h30
                                        refine ⟨?_, ?_⟩
                                        · first | trivial | omega | (dsimp only [D] at *; omega) | (simp only [I64, big] at *; omega) | (simp_all; done)
                                        simp only [bl] at *
                                        exact ⟨x_3 + 1, ⟨by omega, upto1 q_3.2 (by unfold Small Word; dsimp only [D] at *; omega)⟩, by omega, ⟨by omega, trivial⟩, (by repeat' (first | exact trivial | rfl | apply And.intro))⟩
                                · try simp only [bl, reduceCtorEq] at h25
                                  refine ⟨fun h26 => ?_, fun h26 => ?_⟩
                                  · try simp only [bl, reduceCtorEq] at h26
                                    refine ⟨trivial, ?_⟩
                                    refine ⟨fun h27 => ?_, fun h27 => ?_⟩
                                    · try simp only [bl, reduceCtorEq] at h27
                                      first | trivial | omega | (dsimp only [D] at *; omega) | (simp only [I64, big] at *; omega) | (simp_all; done)
                                    · try simp only [bl, reduceCtorEq] at h27
                                      intro h28
                                      intro h29
                                      refine ⟨?_, ?_⟩
                                      · first | trivial | omega | (dsimp only [D] at *; omega) | (simp only [I64, big] at *; omega) | (simp_all; done)
                                      simp only [bl] at *
                                      exact ⟨x_3 + 1, ⟨by omega, upto1 q_3.2 (by unfold Small Word; dsimp only [D] at *; omega)⟩, by omega, ⟨by omega, trivial⟩, (by repeat' (first | exact trivial | rfl | apply And.intro))⟩
                                  · try simp only [bl, reduceCtorEq] at h26
                                    intro h27
                                    intro h28
                                    refine ⟨?_, ?_⟩
                                    · first | trivial | omega | (dsimp only [D] at *; omega) | (simp only [I64, big] at *; omega) | (simp_all; done)
                                    first | trivial | omega | (dsimp only [D] at *; omega) | (simp only [I64, big] at *; omega) | (simp_all; done)
                  · try simp only [bl, reduceCtorEq] at h17
                    exact fun _ => ⟨by omega, fun i hi => q_2.2 i (by omega), fun i hi => q_3.2 i (by omega)⟩
theorem Try.ok_ObjectFault : PureOK Try.prog Try.B.eT 29 [tObject] [.int .i64] (fun _ => True) (fun o y => y ≤ 0 → MildO o) :=
  pure_fn (X := noExt) Try.ofaultCtxOK Try.func29 (by kernel_rfl) (fun x => ofaultAnn x) (fun x hw hp => vc_ObjectFault x hw)
noncomputable def Try.lpatch0Ctx : List (FuncId × (Bool × CSpec)) := [(12, (true, funSpec [.str] [.err] (fun _ => True) (fun s => errNo (nameFault s)))),
  (13, (true, funSpec [.str] [.int .i64] (fun _ => True) (fun s => nameFault s))),
  (14, (true, funSpec [.str] [.int .u32] (fun _ => True) (fun s => (hashF s : Int)))),
  (15, (true, funSpec [.str] [.int .i64] (fun _ => True) (fun s => (hashF s : Int)))),
  (11, (true, funSpec [.err, .int .i64] [.bool] (fun _ => True) (fun x => sameE x.1 x.2))),
  (52, (true, pureSpec [tObject] [.bool] (fun _ => True) (fun o y => y = true → LightO o))),
  (28, (true, pureSpec [.slice tObject] [.bool] (fun _ => True) (fun l y => y = true → LightOs l))),
  (79, (true, funSpec [.slice tObject, .str] [.int .i64, .int .i64] (fun _ => True) (fun x => findS x))),
  (26, (true, funSpec [.slice (.int .i64), .slice (.int .i64)] [.bool] (fun _ => True) (fun x => sameI x.1 x.2))),
  (71, (true, funSpec [.slice .str, .slice .str] [.bool] (fun _ => True) (fun x => sameS x.1 x.2))),
  (30, (true, funSpec [.slice tObject, .slice (.int .i64)] [.slice tPatch, .err] (fun x => MildOs x.1) (fun x => allF x))),
  (55, (true, funSpec [.slice tObject, .str] [.int .i64, .int .i64] (fun _ => True) (fun x => findS x))),
  (31, (true, funSpec [.slice tObject, .slice (.int .i64)] [.slice tPatch, .int .i64] (fun x => MildOs x.1) (fun x => ((allF x).1, numE (allF x).2)))),
  (32, (true, funSpec [.slice tPatch, .slice tPatch] [.bool] (fun _ => True) (fun x => sameP x.1 x.2))),
  (53, (true, funSpec [.int .i64] [.bool] (fun _ => True) (fun n => decide (-2147483648 ≤ n) && decide (n ≤ 2147483647)))),
  (33, (true, funSpec [tWords, .slice tPatch] [tWords, .err] (fun x => x.1.length ≤ 100000 ∧ ∀ i, i < x.1.length → (nth tRow x.1 i).length ≤ 100000000) (fun x => putF x)))]
theorem Try.lpatch0CtxOK {X : Ext} : CtxOK Try.prog Try.B X Try.lpatch0Ctx :=
  ctx1 (callOK_of_fun Try.ok_Check) (ctx1 (callOK_of_fun Try.ok_NameFault) (ctx1 (callOK_of_fun Try.ok_Hash) (ctx1 (callOK_of_fun Try.ok_RHash) (ctx1 (callOK_of_fun Try.ok_same) (ctx1 (callOK_of_pure Try.ok_LightObject) (ctx1 (callOK_of_pure Try.ok_LightObjects) (ctx1 (callOK_of_fun Try.ok_FindS) (ctx1 (callOK_of_fun Try.ok_SameNumbers) (ctx1 (callOK_of_fun Try.ok_SameTexts) (ctx1 (callOK_of_fun Try.ok_All) (ctx1 (callOK_of_fun Try.ok_Found) (ctx1 (callOK_of_fun Try.ok_RPatches) (ctx1 (callOK_of_fun Try.ok_SamePatches) (ctx1 (callOK_of_fun Try.ok_WordMay) (ctx1 (callOK_of_fun Try.ok_Put) (ctx0 Try.tyOK))))))))))))))))
set_option maxRecDepth 100000 in
set_option maxHeartbeats 4000000 in
theorem vc_patches  (hw : wfL [] ()) : (fnVCs Try.B Try.lpatch0Ctx Try.f27 [] [] [.bool] (fun x y => y = (fun _ => true) x) ()).holds := by
  refine holds_of (p :=
    (MildOs [([], [(0 : Int)], [], [((0 : Int), (2 : Int), (2 : Int), [(120 : UInt8)], false, ())], ()), ([], [(7 : Int), (8 : Int)], [([(120 : UInt8)], (1 : Int), false, ())], [], ())]) ∧ (True) ∧
    (((sameE (allF ([([], [(0 : Int)], [], [((0 : Int), (2 : Int), (2 : Int), [(120 : UInt8)], false, ())], ()), ([], [(7 : Int), (8 : Int)], [([(120 : UInt8)], (1 : Int), false, ())], [], ())], [(0 : Int), (16 : Int)])).2 (0 : Int)) = true → (True) ∧
    (sameP (allF ([([], [(0 : Int)], [], [((0 : Int), (2 : Int), (2 : Int), [(120 : UInt8)], false, ())], ()), ([], [(7 : Int), (8 : Int)], [([(120 : UInt8)], (1 : Int), false, ())], [], ())], [(0 : Int), (16 : Int)])).1 [((0 : Int), (0 : Int), (19 : Int), ())] = true)) ∧
    ((sameE (allF ([([], [(0 : Int)], [], [((0 : Int), (2 : Int), (2 : Int), [(120 : UInt8)], false, ())], ()), ([], [(7 : Int), (8 : Int)], [([(120 : UInt8)], (1 : Int), false, ())], [], ())], [(0 : Int), (16 : Int)])).2 (0 : Int)) = false → (false = true)))) (by kernel_rfl) ?_
  refine ⟨?_, ?_⟩
  · exact mild_x
  refine ⟨trivial, ?_⟩
  refine ⟨fun h0 => ?_, fun h0 => ?_⟩
  · try simp only [bl, reduceCtorEq] at h0
    refine ⟨trivial, ?_⟩
    rw [patch_x]; rfl
  · try simp only [bl, reduceCtorEq] at h0
    rw [patch_x] at h0; cases h0
theorem Try.ok_patches : PureOK Try.prog Try.B.eT 27 [] [.bool] (fun _ => True) (fun x y => y = (fun _ => true) x) :=
  pure_fn (X := noExt) Try.lpatch0CtxOK Try.func27 (by kernel_rfl) (fun _ => []) (fun x hw hp => vc_patches  hw)
noncomputable def Try.lpatchCtx : List (FuncId × (Bool × CSpec)) := [(12, (true, funSpec [.str] [.err] (fun _ => True) (fun s => errNo (nameFault s)))),
  (13, (true, funSpec [.str] [.int .i64] (fun _ => True) (fun s => nameFault s))),
  (14, (true, funSpec [.str] [.int .u32] (fun _ => True) (fun s => (hashF s : Int)))),
  (15, (true, funSpec [.str] [.int .i64] (fun _ => True) (fun s => (hashF s : Int)))),
  (11, (true, funSpec [.err, .int .i64] [.bool] (fun _ => True) (fun x => sameE x.1 x.2))),
  (52, (true, pureSpec [tObject] [.bool] (fun _ => True) (fun o y => y = true → LightO o))),
  (28, (true, pureSpec [.slice tObject] [.bool] (fun _ => True) (fun l y => y = true → LightOs l))),
  (79, (true, funSpec [.slice tObject, .str] [.int .i64, .int .i64] (fun _ => True) (fun x => findS x))),
  (26, (true, funSpec [.slice (.int .i64), .slice (.int .i64)] [.bool] (fun _ => True) (fun x => sameI x.1 x.2))),
  (71, (true, funSpec [.slice .str, .slice .str] [.bool] (fun _ => True) (fun x => sameS x.1 x.2))),
  (30, (true, funSpec [.slice tObject, .slice (.int .i64)] [.slice tPatch, .err] (fun x => MildOs x.1) (fun x => allF x))),
  (55, (true, funSpec [.slice tObject, .str] [.int .i64, .int .i64] (fun _ => True) (fun x => findS x))),
  (31, (true, funSpec [.slice tObject, .slice (.int .i64)] [.slice tPatch, .int .i64] (fun x => MildOs x.1) (fun x => ((allF x).1, numE (allF x).2)))),
  (32, (true, funSpec [.slice tPatch, .slice tPatch] [.bool] (fun _ => True) (fun x => sameP x.1 x.2))),
  (53, (true, funSpec [.int .i64] [.bool] (fun _ => True) (fun n => decide (-2147483648 ≤ n) && decide (n ≤ 2147483647)))),
  (33, (true, funSpec [tWords, .slice tPatch] [tWords, .err] (fun x => x.1.length ≤ 100000 ∧ ∀ i, i < x.1.length → (nth tRow x.1 i).length ≤ 100000000) (fun x => putF x))),
  (27, (true, funSpec [] [.bool] (fun _ => True) (fun _ => true))),
  (29, (true, pureSpec [tObject] [.int .i64] (fun _ => True) (fun o y => y ≤ 0 → MildO o)))]
theorem Try.lpatchCtxOK {X : Ext} : CtxOK Try.prog Try.B X Try.lpatchCtx :=
  ctx1 (callOK_of_fun Try.ok_Check) (ctx1 (callOK_of_fun Try.ok_NameFault) (ctx1 (callOK_of_fun Try.ok_Hash) (ctx1 (callOK_of_fun Try.ok_RHash) (ctx1 (callOK_of_fun Try.ok_same) (ctx1 (callOK_of_pure Try.ok_LightObject) (ctx1 (callOK_of_pure Try.ok_LightObjects) (ctx1 (callOK_of_fun Try.ok_FindS) (ctx1 (callOK_of_fun Try.ok_SameNumbers) (ctx1 (callOK_of_fun Try.ok_SameTexts) (ctx1 (callOK_of_fun Try.ok_All) (ctx1 (callOK_of_fun Try.ok_Found) (ctx1 (callOK_of_fun Try.ok_RPatches) (ctx1 (callOK_of_fun Try.ok_SamePatches) (ctx1 (callOK_of_fun Try.ok_WordMay) (ctx1 (callOK_of_fun Try.ok_Put) (ctx1 (callOK_of_fun Try.ok_patches) (ctx1 (callOK_of_pure Try.ok_ObjectFault) (ctx0 Try.tyOK))))))))))))))))))
def lpatchAnn (l : List (D tObject)) (b : List Int) (w : List (List Int)) (p : List (D tPatch)) : Anns := [
  (0, fun st => { X := Nat, inv := fun i => i ≤ l.length ∧ ∀ j, j < i → MildO (nth tObject l j), meas := fun i => l.length - i, slots := fun i => [(10, sI i)], keep := [0, 1, 2, 3] }),
  (2, fun st => { X := Nat, inv := fun i => i ≤ w.length ∧ ∀ j, j < i → (nth tRow w j).length ≤ 50, meas := fun i => w.length - i, slots := fun i => [(15, sI i)], keep := [2, 3, 12] }),
  (4, fun st => { X := Nat, inv := fun i => i ≤ p.length ∧ ∀ j, j < i → okP w (nth tPatch p j), meas := fun i => p.length - i, slots := fun i => [(17, sI i)], keep := [2, 3, 12, 16] }),
  (6, fun st => { X := Nat, inv := fun i => i ≤ w.length, meas := fun i => w.length - i, slots := fun i => [(18, sI i)], keep := [2, 3, 16] }),
  (8, fun st => { X := Nat, inv := fun k => k ≤ p.length, meas := fun k => p.length - k, slots := fun k => [(20, sI k)], objs := fun k => [(objOf st 19, .mrow (.int .i64) (rowL (nth tRow w (tmpD (.int .i64) st 18).toNat) (tmpD (.int .i64) st 18).toNat (p.take k)))], keep := [2, 3, 8, 16, 18, 19, 160, 161, 162, 163, 166, 167, 168, 169, 170], mods := [objOf st 19] })]
set_option maxRecDepth 100000 in
set_option maxHeartbeats 4000000 in
theorem vc_PatchSays (l : List (D tObject)) (b : List Int) (w : List (List Int)) (p : List (D tPatch)) (hw : wfL [.slice tObject, .slice (.int .i64), tWords, .slice tPatch] (l, b, w, p)) : (fnVCs Try.B Try.lpatchCtx Try.f6 (lpatchAnn l b w p) [.slice tObject, .slice (.int .i64), tWords, .slice tPatch] [.bool] (fun _ y => y = true) (l, b, w, p)).holds := by
  refine holds_of (p :=
    (True) ∧ (((!true) = true → (true = true)) ∧ ((!true) = false → (True) ∧ (∀ x_0 : Bool, ((x_0 = true → LightOs l) → (((!x_0) = true → (true = true)) ∧ ((!x_0) = false → ((List.length b ≤ big) → (((decide ((↑(List.length b) : Int) > (10 : Int))) = true → (true = true)) ∧ ((decide ((↑(List.length b) : Int) > (10 : Int))) = false → ((List.length w ≤ big) → (((decide ((↑(List.length w) : Int) > (8 : Int))) = true → (true = true)) ∧ ((decide ((↑(List.length w) : Int) > (8 : Int))) = false → ((List.length p ≤ big) → (((decide ((↑(List.length p) : Int) > (40 : Int))) = true → (true = true)) ∧ ((decide ((↑(List.length p) : Int) > (40 : Int))) = false →
    (∃ (x : Nat), (x ≤ List.length l ∧ ∀ (j : Nat), j < x → MildO (nth tObject l j)) ∧ ((0 : Int) = (↑x : Int) ∧ True) ∧ True) ∧ (∀ x_1 : Nat, ((x_1 ≤ List.length l ∧ ∀ (j : Nat), j < x_1 → MildO (nth tObject l j)) → ((List.length l ≤ big) → (((decide ((↑x_1 : Int) < (↑(List.length l) : Int))) = true → ((0 : Int) ≤ (↑x_1 : Int) ∧ (↑x_1 : Int) < (↑(List.length l) : Int)) ∧ (True) ∧ (∀ x_2 : Int, ((x_2 ≤ (0 : Int) → MildO (nth tObject l x_1)) → (((decide (x_2 > (0 : Int))) = true → (true = true)) ∧ ((decide (x_2 > (0 : Int))) = false → ((I64 (↑x_1 : Int)) → ((I64 (1 : Int)) → (I64 ((↑x_1 : Int) + (1 : Int))) ∧
    (∃ (x' : Nat), (x' ≤ List.length l ∧ ∀ (j : Nat), j < x' → MildO (nth tObject l j)) ∧ List.length l - x' < List.length l - x_1 ∧ ((↑x_1 : Int) + (1 : Int) = (↑x' : Int) ∧ True) ∧ True)))))))) ∧ ((decide ((↑x_1 : Int) < (↑(List.length l) : Int))) = false → (MildOs l) ∧ (MildOs l) ∧ (True) ∧ (((!sameE (allF (l, b)).2 (numE (allF (l, b)).2)) = true → (false = true)) ∧ ((!sameE (allF (l, b)).2 (numE (allF (l, b)).2)) = false → (True) ∧ (((!sameP (allF (l, b)).1 (allF (l, b)).1) = true → (false = true)) ∧ ((!sameP (allF (l, b)).1 (allF (l, b)).1) = false →
    (∃ (x : Nat), (x ≤ List.length w ∧ ∀ (j : Nat), j < x → List.length (nth tRow w j) ≤ (50 : Nat)) ∧ ((0 : Int) = (↑x : Int) ∧ True) ∧ True) ∧ (∀ x_2 : Nat, ((x_2 ≤ List.length w ∧ ∀ (j : Nat), j < x_2 → List.length (nth tRow w j) ≤ (50 : Nat)) → ((List.length w ≤ big) → (((decide ((↑x_2 : Int) < (↑(List.length w) : Int))) = true → ((0 : Int) ≤ (↑x_2 : Int) ∧ (↑x_2 : Int) < (↑(List.length w) : Int)) ∧ ((List.length (nth (Ty.slice (Ty.int IntKind.i64)) w x_2) ≤ big) → (((decide ((↑(List.length (nth (Ty.slice (Ty.int IntKind.i64)) w x_2)) : Int) > (50 : Int))) = true → (true = true)) ∧ ((decide ((↑(List.length (nth (Ty.slice (Ty.int IntKind.i64)) w x_2)) : Int) > (50 : Int))) = false → ((I64 (↑x_2 : Int)) → ((I64 (1 : Int)) → (I64 ((↑x_2 : Int) + (1 : Int))) ∧
    (∃ (x' : Nat), (x' ≤ List.length w ∧ ∀ (j : Nat), j < x' → List.length (nth tRow w j) ≤ (50 : Nat)) ∧ List.length w - x' < List.length w - x_2 ∧ ((↑x_2 : Int) + (1 : Int) = (↑x' : Int) ∧ True) ∧ True))))))) ∧ ((decide ((↑x_2 : Int) < (↑(List.length w) : Int))) = false → (List.length w ≤ (100000 : Nat) ∧ ∀ (i : Nat), i < List.length w → List.length (nth tRow w i) ≤ (100000000 : Nat)) ∧
    (∃ (x : Nat), (x ≤ List.length p ∧ ∀ (j : Nat), j < x → okP w (nth tPatch p j)) ∧ ((0 : Int) = (↑x : Int) ∧ True) ∧ True) ∧ (∀ x_3 : Nat, ((x_3 ≤ List.length p ∧ ∀ (j : Nat), j < x_3 → okP w (nth tPatch p j)) → ((List.length p ≤ big) → (((decide ((↑x_3 : Int) < (↑(List.length p) : Int))) = true → ((0 : Int) ≤ (↑x_3 : Int) ∧ (↑x_3 : Int) < (↑(List.length p) : Int)) ∧ (((decide ((nth tPatch p x_3).1 < (0 : Int))) = true → (True) ∧ (((sameE (putF (w, p)).2 (1 : Int)) = true → ((List.length (putF (w, p)).1 ≤ big) → (((↑(List.length (putF (w, p)).1) : Int) == (0 : Int)) = true))) ∧ ((sameE (putF (w, p)).2 (1 : Int)) = false → (false = true)))) ∧ ((decide ((nth tPatch p x_3).1 < (0 : Int))) = false → ((0 : Int) ≤ (↑x_3 : Int) ∧ (↑x_3 : Int) < (↑(List.length p) : Int)) ∧ ((List.length w ≤ big) → (((decide ((nth tPatch p x_3).1 ≥ (↑(List.length w) : Int))) = true → (True) ∧ (((sameE (putF (w, p)).2 (1 : Int)) = true → ((List.length (putF (w, p)).1 ≤ big) → (((↑(List.length (putF (w, p)).1) : Int) == (0 : Int)) = true))) ∧ ((sameE (putF (w, p)).2 (1 : Int)) = false → (false = true)))) ∧ ((decide ((nth tPatch p x_3).1 ≥ (↑(List.length w) : Int))) = false → ((0 : Int) ≤ (↑x_3 : Int) ∧ (↑x_3 : Int) < (↑(List.length p) : Int)) ∧ (((decide ((nth tPatch p x_3).2.1 < (0 : Int))) = true → (True) ∧ (((sameE (putF (w, p)).2 (1 : Int)) = true → ((List.length (putF (w, p)).1 ≤ big) → (((↑(List.length (putF (w, p)).1) : Int) == (0 : Int)) = true))) ∧ ((sameE (putF (w, p)).2 (1 : Int)) = false → (false = true)))) ∧ ((decide ((nth tPatch p x_3).2.1 < (0 : Int))) = false → ((0 : Int) ≤ (↑x_3 : Int) ∧ (↑x_3 : Int) < (↑(List.length p) : Int)) ∧ ((0 : Int) ≤ (↑x_3 : Int) ∧ (↑x_3 : Int) < (↑(List.length p) : Int)) ∧ ((0 : Int) ≤ (nth tPatch p x_3).1 ∧ (nth tPatch p x_3).1 < (↑(List.length w) : Int)) ∧ ((List.length (nth (Ty.slice (Ty.int IntKind.i64)) w (Int.toNat (nth tPatch p x_3).1)) ≤ big) →
    (((decide ((nth tPatch p x_3).2.1 ≥ (↑(List.length (nth (Ty.slice (Ty.int IntKind.i64)) w (Int.toNat (nth tPatch p x_3).1))) : Int))) = true → (True) ∧ (((sameE (putF (w, p)).2 (1 : Int)) = true → ((List.length (putF (w, p)).1 ≤ big) → (((↑(List.length (putF (w, p)).1) : Int) == (0 : Int)) = true))) ∧ ((sameE (putF (w, p)).2 (1 : Int)) = false → (false = true)))) ∧
    ((decide ((nth tPatch p x_3).2.1 ≥ (↑(List.length (nth (Ty.slice (Ty.int IntKind.i64)) w (Int.toNat (nth tPatch p x_3).1))) : Int))) = false → ((I64 (↑x_3 : Int)) → ((I64 (1 : Int)) → (I64 ((↑x_3 : Int) + (1 : Int))) ∧
    (∃ (x' : Nat), (x' ≤ List.length p ∧ ∀ (j : Nat), j < x' → okP w (nth tPatch p j)) ∧ List.length p - x' < List.length p - x_3 ∧ ((↑x_3 : Int) + (1 : Int) = (↑x' : Int) ∧ True) ∧ True)))))))))))))) ∧ ((decide ((↑x_3 : Int) < (↑(List.length p) : Int))) = false → (((!Err.isNil (putF (w, p)).2) = true → (false = true)) ∧ ((!Err.isNil (putF (w, p)).2) = false → ((List.length (putF (w, p)).1 ≤ big) → ((List.length w ≤ big) → ((((↑(List.length (putF (w, p)).1) : Int) != (↑(List.length w) : Int)) = true → (false = true)) ∧ (((↑(List.length (putF (w, p)).1) : Int) != (↑(List.length w) : Int)) = false → (∃ (x : Nat), x ≤ List.length w ∧ ((0 : Int) = (↑x : Int) ∧ True) ∧ True) ∧ (∀ x_4 : Nat, ((x_4 ≤ List.length w) → ((List.length w ≤ big) → (((decide ((↑x_4 : Int) < (↑(List.length w) : Int))) = true → ((0 : Int) ≤ (↑x_4 : Int) ∧ (↑x_4 : Int) < (↑(List.length w) : Int)) ∧ (List.length (nth (Ty.slice (Ty.int IntKind.i64)) w x_4) ≤ (1000000000 : Nat)) ∧
    (∃ (x : Nat), x ≤ List.length p ∧ ((0 : Int) = (↑x : Int) ∧ True) ∧ nth (Ty.slice (Ty.int IntKind.i64)) w x_4 = rowL (nth tRow w x_4) x_4 (List.take x p) ∧ True) ∧ (∀ x_5 : Nat, ((x_5 ≤ List.length p) → ((List.length p ≤ big) → (((decide ((↑x_5 : Int) < (↑(List.length p) : Int))) = true → ((0 : Int) ≤ (↑x_5 : Int) ∧ (↑x_5 : Int) < (↑(List.length p) : Int)) ∧ ((((nth tPatch p x_5).1 == (↑x_4 : Int)) = true → ((0 : Int) ≤ (↑x_5 : Int) ∧ (↑x_5 : Int) < (↑(List.length p) : Int)) ∧ ((0 : Int) ≤ (↑x_5 : Int) ∧ (↑x_5 : Int) < (↑(List.length p) : Int)) ∧
    ((0 : Int) ≤ (nth tPatch p x_5).2.1 ∧ (nth tPatch p x_5).2.1 < (↑(List.length (rowL (nth tRow w x_4) x_4 (List.take x_5 p))) : Int)) ∧ (Int.toNat (nth tPatch p x_5).2.1 < List.length (rowL (nth tRow w x_4) x_4 (List.take x_5 p))) ∧ ((I64 (↑x_5 : Int)) → ((I64 (1 : Int)) → (I64 ((↑x_5 : Int) + (1 : Int))) ∧
    (∃ (x' : Nat), x' ≤ List.length p ∧ List.length p - x' < List.length p - x_5 ∧ ((↑x_5 : Int) + (1 : Int) = (↑x' : Int) ∧ True) ∧ List.set (rowL (nth tRow w x_4) x_4 (List.take x_5 p)) (Int.toNat (nth tPatch p x_5).2.1) (nth tPatch p x_5).2.2.1 = rowL (nth tRow w x_4) x_4 (List.take x' p) ∧ True)))) ∧ (((nth tPatch p x_5).1 == (↑x_4 : Int)) = false → ((I64 (↑x_5 : Int)) → ((I64 (1 : Int)) → (I64 ((↑x_5 : Int) + (1 : Int))) ∧
    (∃ (x' : Nat), x' ≤ List.length p ∧ List.length p - x' < List.length p - x_5 ∧ ((↑x_5 : Int) + (1 : Int) = (↑x' : Int) ∧ True) ∧ rowL (nth tRow w x_4) x_4 (List.take x_5 p) = rowL (nth tRow w x_4) x_4 (List.take x' p) ∧ True)))))) ∧ ((decide ((↑x_5 : Int) < (↑(List.length p) : Int))) = false → ((0 : Int) ≤ (↑x_4 : Int) ∧ (↑x_4 : Int) < (↑(List.length (putF (w, p)).1) : Int)) ∧ (True) ∧
    (((!sameI (nth (Ty.slice (Ty.int IntKind.i64)) (putF (w, p)).1 x_4) (rowL (nth tRow w x_4) x_4 (List.take x_5 p))) = true → (false = true)) ∧
    ((!sameI (nth (Ty.slice (Ty.int IntKind.i64)) (putF (w, p)).1 x_4) (rowL (nth tRow w x_4) x_4 (List.take x_5 p))) = false → ((I64 (↑x_4 : Int)) → ((I64 (1 : Int)) → (I64 ((↑x_4 : Int) + (1 : Int))) ∧
    (∃ (x' : Nat), x' ≤ List.length w ∧ List.length w - x' < List.length w - x_4 ∧ ((↑x_4 : Int) + (1 : Int) = (↑x' : Int) ∧ True) ∧ True))))))))))) ∧ ((decide ((↑x_4 : Int) < (↑(List.length w) : Int))) = false → (true = true))))))))))))))))))))))))))))))))))))))))))))))) (by kernel_rfl) ?_
  refine ⟨trivial, ?_⟩
  refine ⟨fun h0 => ?_, fun h0 => ?_⟩
  · exact absurd (show false = true from h0) (by decide)
  ·
    refine ⟨trivial, ?_⟩
    intro x_0 q_0
    refine ⟨fun h1 => ?_, fun h1 => ?_⟩
    · try simp only [bl, reduceCtorEq] at h1
      first | trivial | omega | (dsimp only [D] at *; omega) | (simp only [I64, big] at *; omega) | (simp_all; done)
    · try simp only [bl, reduceCtorEq] at h1
      intro h2
      refine ⟨fun h3 => ?_, fun h3 => ?_⟩
      · try simp only [bl, reduceCtorEq] at h3
        first | trivial | omega | (dsimp only [D] at *; omega) | (simp only [I64, big] at *; omega) | (simp_all; done)
      · try simp only [bl, reduceCtorEq] at h3
        intro h4
        refine ⟨fun h5 => ?_, fun h5 => ?_⟩
        · try simp only [bl, reduceCtorEq] at h5
          first | trivial | omega | (dsimp only [D] at *; omega) | (simp only [I64, big] at *; omega) | (simp_all; done)
        · try simp only [bl, reduceCtorEq] at h5
          intro h6
          refine ⟨fun h7 => ?_, fun h7 => ?_⟩
          · try simp only [bl, reduceCtorEq] at h7
            first | trivial | omega | (dsimp only [D] at *; omega) | (simp only [I64, big] at *; omega) | (simp_all; done)
          · try simp only [bl, reduceCtorEq] at h7
            refine ⟨?_, ?_⟩
            · exact ⟨0, ⟨by omega, fun j hj => by omega⟩, ⟨rfl, trivial⟩, trivial⟩
            intro x_1 q_1
            intro h8
            refine ⟨fun h9 => ?_, fun h9 => ?_⟩
            · try simp only [bl, reduceCtorEq] at h9
              refine ⟨?_, ?_⟩
              · first | trivial | omega | (dsimp only [D] at *; omega) | (simp only [I64, big] at *; omega) | (simp_all; done)
              refine ⟨trivial, ?_⟩
              intro x_2 q_2
              refine ⟨fun h10 => ?_, fun h10 => ?_⟩
              · try simp only [bl, reduceCtorEq] at h10
                first | trivial | omega | (dsimp only [D] at *; omega) | (simp only [I64, big] at *; omega) | (simp_all; done)
              · try simp only [bl, reduceCtorEq] at h10
                intro h11
                intro h12
                refine ⟨?_, ?_⟩
                · first | trivial | omega | (dsimp only [D] at *; omega) | (simp only [I64, big] at *; omega) | (simp_all; done)
                exact ⟨x_1 + 1, ⟨by omega, upto1 q_1.2 (by simp_all)⟩, by omega, ⟨by omega, trivial⟩, (by repeat' (first | exact trivial | rfl | apply And.intro))⟩
            · try simp only [bl, reduceCtorEq] at h9
              refine ⟨?_, ?_⟩
              · exact ⟨(q_0 (by simp_all)).1, fun j hj => q_1.2 j (by omega)⟩
              refine ⟨?_, ?_⟩
              · exact ⟨(q_0 (by simp_all)).1, fun j hj => q_1.2 j (by omega)⟩
              refine ⟨trivial, ?_⟩
              refine ⟨fun h10 => ?_, fun h10 => ?_⟩
              · try simp only [bl, reduceCtorEq] at h10
                exact absurd (told_all (l, b)) (by simp [h10])
              · try simp only [bl, reduceCtorEq] at h10
                refine ⟨trivial, ?_⟩
                refine ⟨fun h11 => ?_, fun h11 => ?_⟩
                · try simp only [bl, reduceCtorEq] at h11
                  simp [sameP] at h11
                · try simp only [bl, reduceCtorEq] at h11
                  refine ⟨?_, ?_⟩
                  · exact ⟨0, ⟨by omega, fun j hj => by omega⟩, ⟨rfl, trivial⟩, trivial⟩
                  intro x_2 q_2
                  intro h12
                  refine ⟨fun h13 => ?_, fun h13 => ?_⟩
                  · try simp only [bl, reduceCtorEq] at h13
                    refine ⟨?_, ?_⟩
                    · first | trivial | omega | (dsimp only [D] at *; omega) | (simp only [I64, big] at *; omega) | (simp_all; done)
                    intro h14
                    refine ⟨fun h15 => ?_, fun h15 => ?_⟩
                    · try simp only [bl, reduceCtorEq] at h15
                      first | trivial | omega | (dsimp only [D] at *; omega) | (simp only [I64, big] at *; omega) | (simp_all; done)
                    · try simp only [bl, reduceCtorEq] at h15
                      intro h16
                      intro h17
                      refine ⟨?_, ?_⟩
                      · first | trivial | omega | (dsimp only [D] at *; omega) | (simp only [I64, big] at *; omega) | (simp_all; done)
                      exact ⟨x_2 + 1, ⟨by omega, upto1 q_2.2 (by show List.length (nth (.slice (.int .i64)) w x_2) ≤ 50; omega)⟩, by omega, ⟨by omega, trivial⟩, (by repeat' (first | exact trivial | rfl | apply And.intro))⟩
                  · try simp only [bl, reduceCtorEq] at h13
                    refine ⟨?_, ?_⟩
                    · exact ⟨by omega, fun i hi => by have := q_2.2 i (by omega); omega⟩
                    refine ⟨?_, ?_⟩
                    · exact ⟨0, ⟨by omega, fun j hj => by omega⟩, ⟨rfl, trivial⟩, trivial⟩
                    intro x_3 q_3
                    intro h14
                    refine ⟨fun h15 => ?_, fun h15 => ?_⟩
                    · try simp only [bl, reduceCtorEq] at h15
                      refine ⟨?_, ?_⟩
                      · first | trivial | omega | (dsimp only [D] at *; omega) | (simp only [I64, big] at *; omega) | (simp_all; done)
                      refine ⟨fun h16 => ?_, fun h16 => ?_⟩
                      · try simp only [bl, reduceCtorEq] at h16
                        refine ⟨trivial, ?_⟩
                        refine ⟨fun h17 => ?_, fun h17 => ?_⟩
                        · try simp only [bl, reduceCtorEq] at h17
                          intro h18
                          rw [putF_bad (i := x_3) (by omega) (by unfold okP; dsimp only [D, tRow] at *; omega)]; rfl
                        · try simp only [bl, reduceCtorEq] at h17
                          rw [putF_bad (i := x_3) (by omega) (by unfold okP; dsimp only [D, tRow] at *; omega)] at h17; cases h17
                      · try simp only [bl, reduceCtorEq] at h16
                        refine ⟨?_, ?_⟩
                        · first | trivial | omega | (dsimp only [D] at *; omega) | (simp only [I64, big] at *; omega) | (simp_all; done)
                        intro h17
                        refine ⟨fun h18 => ?_, fun h18 => ?_⟩
                        · try simp only [bl, reduceCtorEq] at h18
                          refine ⟨trivial, ?_⟩
                          refine ⟨fun h19 => ?_, fun h19 => ?_⟩
                          · try simp only [bl, reduceCtorEq] at h19
                            intro h20
                            rw [putF_bad (i := x_3) (by omega) (by unfold okP; dsimp only [D, tRow] at *; omega)]; rfl
                          · try simp only [bl, reduceCtorEq] at h19
                            rw [putF_bad (i := x_3) (by omega) (by unfold okP; dsimp only [D, tRow] at *; omega)] at h19; cases h19
                        · try simp only [bl, reduceCtorEq] at h18
                          refine ⟨?_, ?_⟩
                          · first | trivial | omega | (dsimp only [D] at *; omega) | (simp only [I64, big] at *; omega) | (simp_all; done)
                          refine ⟨fun h19 => ?_, fun h19 => ?_⟩
                          · try simp only [bl, reduceCtorEq] at h19
                            refine ⟨trivial, ?_⟩
                            refine ⟨fun h20 => ?_, fun h20 => ?_⟩
                            · try simp only [bl, reduceCtorEq] at h20
                              intro h21
                              rw [putF_bad (i := x_3) (by omega) (by unfold okP; dsimp only [D, tRow] at *; omega)]; rfl
                            · try simp only [bl, reduceCtorEq] at h20
                              rw [putF_bad (i := x_3) (by omega) (by unfold okP; dsimp only [D, tRow] at *; omega)] at h20; cases h20
                          · try simp only [bl, reduceCtorEq] at h19
                            refine ⟨?_, ?_⟩
                            · first | trivial | omega | (dsimp only [D] at *; omega) | (simp only [I64, big] at *; omega) | (simp_all; done)
                            refine ⟨?_, ?_⟩
                            · first | trivial | omega | (dsimp only [D] at *; omega) | (simp only [I64, big] at *; omega) | (simp_all; done)
                            refine ⟨?_, ?_⟩
                            · first | trivial | omega | (dsimp only [D] at *; omega) | (simp only [I64, big] at *; omega) | (simp_all; done)
                            intro h20
                            refine ⟨fun h21 => ?_, fun h21 => ?_⟩
                            · try simp only [bl, reduceCtorEq] at h21
                              refine ⟨trivial, ?_⟩
                              refine ⟨fun h22 => ?_, fun h22 => ?_⟩
                              · try simp only [bl, reduceCtorEq] at h22
                                intro h23
                                rw [putF_bad (i := x_3) (by omega) (by unfold okP; dsimp only [D, tRow] at *; omega)]; rfl
                              · try simp only [bl, reduceCtorEq] at h22
                                rw [putF_bad (i := x_3) (by omega) (by unfold okP; dsimp only [D, tRow] at *; omega)] at h22; cases h22
                            · try simp only [bl, reduceCtorEq] at h21
                              intro h22
                              intro h23
                              refine ⟨?_, ?_⟩
                              · first | trivial | omega | (dsimp only [D] at *; omega) | (simp only [I64, big] at *; omega) | (simp_all; done)
                              exact ⟨x_3 + 1, ⟨by omega, upto1 q_3.2 (by unfold okP; dsimp only [D, tRow] at *; omega)⟩, by omega, ⟨by omega, trivial⟩, (by repeat' (first | exact trivial | rfl | apply And.intro))⟩
                    · try simp only [bl, reduceCtorEq] at h15
                      refine ⟨fun h16 => ?_, fun h16 => ?_⟩
                      · try simp only [bl, reduceCtorEq] at h16
                        rw [putF_ok fun i hi => q_3.2 i (by omega)] at h16; cases h16
                      · try simp only [bl, reduceCtorEq] at h16
                        intro h17
                        intro h18
                        refine ⟨fun h19 => ?_, fun h19 => ?_⟩
                        · try simp only [bl, reduceCtorEq] at h19
                          rw [putF_ok fun i hi => q_3.2 i (by omega), putL_length] at h19; exact absurd rfl h19
                        · try simp only [bl, reduceCtorEq] at h19
                          refine ⟨?_, ?_⟩
                          · exact ⟨0, by omega, ⟨rfl, trivial⟩, trivial⟩
                          intro x_4 q_4
                          intro h20
                          refine ⟨fun h21 => ?_, fun h21 => ?_⟩
                          · try simp only [bl, reduceCtorEq] at h21
                            refine ⟨?_, ?_⟩
                            · first | trivial | omega | (dsimp only [D] at *; omega) | (simp only [I64, big] at *; omega) | (simp_all; done)
                            refine ⟨?_, ?_⟩
                            · have := q_2.2 x_4 (by omega); show List.length (nth tRow w x_4) ≤ 1000000000; omega
                            refine ⟨?_, ?_⟩
                            · exact ⟨0, by omega, ⟨rfl, trivial⟩, rfl, trivial⟩
                            intro x_5 q_5
                            intro h22
                            refine ⟨fun h23 => ?_, fun h23 => ?_⟩
                            · try simp only [bl, reduceCtorEq] at h23
                              refine ⟨?_, ?_⟩
                              · first | trivial | omega | (dsimp only [D] at *; omega) | (simp only [I64, big] at *; omega) | (simp_all; done)
                              refine ⟨fun h24 => ?_, fun h24 => ?_⟩
                              · try simp only [bl, reduceCtorEq] at h24
                                refine ⟨?_, ?_⟩
                                · first | trivial | omega | (dsimp only [D] at *; omega) | (simp only [I64, big] at *; omega) | (simp_all; done)
                                refine ⟨?_, ?_⟩
                                · first | trivial | omega | (dsimp only [D] at *; omega) | (simp only [I64, big] at *; omega) | (simp_all; done)
                                refine ⟨?_, ?_⟩
                                · obtain ⟨_, _, o1, o2⟩ := q_3.2 x_5 (by omega); rw [rowL_length]; have e : (nth tPatch p x_5).1.toNat = x_4 := (by rw [show (nth tPatch p x_5).1 = (x_4 : Int) from h24]; rfl); rw [e] at o2; exact ⟨o1, o2⟩
                                refine ⟨?_, ?_⟩
                                · obtain ⟨_, _, o1, o2⟩ := q_3.2 x_5 (by omega); rw [rowL_length]; have e : (nth tPatch p x_5).1.toNat = x_4 := (by rw [show (nth tPatch p x_5).1 = (x_4 : Int) from h24]; rfl); rw [e] at o2; exact (Int.toNat_lt o1).2 o2
                                intro h25
                                intro h26
                                refine ⟨?_, ?_⟩
                                · first | trivial | omega | (dsimp only [D] at *; omega) | (simp only [I64, big] at *; omega) | (simp_all; done)
                                exact ⟨x_5 + 1, by omega, by omega, ⟨by omega, trivial⟩, rowL_hit (by omega) (by omega), (by repeat' (first | exact trivial | rfl | apply And.intro))⟩
                              · try simp only [bl, reduceCtorEq] at h24
                                intro h25
                                intro h26
                                refine ⟨?_, ?_⟩
                                · first | trivial | omega | (dsimp only [D] at *; omega) | (simp only [I64, big] at *; omega) | (simp_all; done)
                                exact ⟨x_5 + 1, by omega, by omega, ⟨by omega, trivial⟩, rowL_miss (by omega) (by omega), (by repeat' (first | exact trivial | rfl | apply And.intro))⟩
                            · try simp only [bl, reduceCtorEq] at h23
                              refine ⟨?_, ?_⟩
                              · first | trivial | omega | (dsimp only [D] at *; omega) | (simp only [I64, big] at *; omega) | (simp_all; done)
                              refine ⟨trivial, ?_⟩
                              refine ⟨fun h24 => ?_, fun h24 => ?_⟩
                              · try simp only [bl, reduceCtorEq] at h24
                                have hr := putF_row (w := w) (l := p) (i := x_4) (by omega) (fun j hj => q_3.2 j (by omega)); rw [List.take_of_length_le (by omega)] at h24; simp [sameI] at h24; exact absurd hr h24
                              · try simp only [bl, reduceCtorEq] at h24
                                intro h25
                                intro h26
                                refine ⟨?_, ?_⟩
                                · first | trivial | omega | (dsimp only [D] at *; omega) | (simp only [I64, big] at *; omega) | (simp_all; done)
                                exact ⟨x_4 + 1, by omega, by omega, ⟨by omega, trivial⟩, (by repeat' (first | exact trivial | rfl | apply And.intro))⟩
                          · try simp only [bl, reduceCtorEq] at h21
                            first | trivial | omega | (dsimp only [D] at *; omega) | (simp only [I64, big] at *; omega) | (simp_all; done)
theorem Try.ok_PatchSays : PureOK Try.prog Try.B.eT 6 [.slice tObject, .slice (.int .i64), tWords, .slice tPatch] [.bool] (fun _ => True) (fun _ y => y = true) :=
  pure_fn (X := noExt) Try.lpatchCtxOK Try.func6 (by kernel_rfl) (fun x => lpatchAnn x.1 x.2.1 x.2.2.1 x.2.2.2) (fun x hw hp => vc_PatchSays x.1 x.2.1 x.2.2.1 x.2.2.2 hw)
open Go.ChangeShapes Go.WideShapes Go.ChangeAt Go.RowKit in
set_option maxRecDepth 100000 in
theorem patchSays_lifted (os : Os) (started : os.Started) (H : Type) (enc : TypeId × Value → H) :
    ReturnsInHanded {} Try.checked os 6 .any (Rows.patchSaysSpec.pre6 enc Try.prog Try.f6 Rows.patchSaysRow.domain false) (Rows.patchSaysSpec.post enc Try.prog Try.f6 false true false false) := by
  refine returnsInHanded_of_change (C := Try.checked) (by kernel_rfl) started (by kernel_rfl) Try.func6
    (ChangeSpec.witness6 (enc := enc) (C := Try.checked) false ⟨#[], #[.slice none 0 0, .slice none 0 0, .slice none 0 0, .slice none 0 0], []⟩ 8 (by kernel_rfl) (by kernel_rfl) (by kernel_rfl) (by kernel_rfl)) ?_
  intro W base args ds gs before hval hW hcnd _
  exact law_calls (C := Try.checked) (n := 16) rfl (by kernel_rfl) (fun ds h => by match ds, h with | [_, _, _, _], _ => rfl) (by kernel_rfl) (by kernel_rfl) (by kernel_rfl) (tb := 4) (by kernel_rfl) Try.ok_PatchSays hval hW (fun _ _ => trivial)
open Go.ChangeShapes Go.WideShapes Go.ChangeAt Go.RowKit in
theorem patchSays_holds : Rows.PatchSaysSaid :=
  OpenClaim.holds_of_wide 6 Try.f6 rfl rfl rfl rfl rfl rfl rfl ⟨rfl, rfl, rfl, rfl, rfl⟩ rfl rfl rfl rfl rfl (by kernel_rfl) Try.func6 (by kernel_rfl)
    (of_decide_eq_true (by kernel_rfl)) (by unfold Func.isWrapper; first | (rw [if_pos (by decide +kernel)]; kernel_rfl) | (rw [if_neg (by decide +kernel)]; exact ⟨rfl, rfl⟩))
    (fun os started H enc _ => patchSays_lifted os started H enc)
#print axioms patchSays_holds
end Go.Proofs.Ytgokjhhcfemnhaa

