/- A part of the proof that the law ObjectSaysCard holds of the given program: facts that are used there. -/
import Derived.Test.YtgokjhhcfemnhaaDoorPart5
set_option linter.unusedSimpArgs false
set_option linter.unusedVariables false
namespace Go.Proofs.YtgokjhhcfemnhaaDoor
open Go.Vg Go.Mrl
noncomputable def Tryd.textOCtx : List (FuncId × (Bool × CSpec)) := [(24, (true, funSpec [.str] [.err] (fun _ => True) (fun s => errNo (nameFault s)))),
  (18, (true, funSpec [.str] [.int .i64] (fun _ => True) (fun s => nameFault s))),
  (5, (true, funSpec [.err, .int .i64] [.bool] (fun _ => True) (fun x => sameE x.1 x.2))),
  (20, (false, bldWrite 60 5)),
  (23, (false, bldString 60 5)),
  (22, (true, bldLen 60 5)),
  (17, (true, funSpec [.int .i64] [.str] (fun _ => True) (fun n => Lib.itoa n))),
  (12, (true, funSpec [tObject] [.err] (fun _ => True) (fun o => errNo (faultO o)))),
  (21, (true, funSpec [.bool] [.str] (fun _ => True) (fun b => weakT b)))]
theorem Tryd.textOCtxOK : CtxOK Tryd.prog Tryd.B Tryd.X Tryd.textOCtx :=
  ctx1 (callOK_of_fun Tryd.ok_Check) (ctx1 (callOK_of_fun Tryd.ok_NameFault) (ctx1 (callOK_of_fun Tryd.ok_same) (ctx1 (Tryd.ok_BldWrite) (ctx1 (Tryd.ok_BldString) (ctx1 (Tryd.ok_BldLen) (ctx1 (callOK_of_fun Tryd.ok_ItoaS) (ctx1 (callOK_of_fun Tryd.ok_CheckO) (ctx1 (callOK_of_fun Tryd.ok_WeaklyO) (ctx0 Tryd.tyOK)))))))))
def textOAnn (o : D tObject) : Anns := [
  (0, fun st => { X := Nat, inv := fun i => i ≤ o.1.length, meas := fun i => o.1.length - i, slots := fun i => [(23, sI i)], keep := [1, 2, 3, 5, 6, 21, 22], objs := fun i => [(objOf st 5, .ext 2 bldT (bytesIn (pre0 o i), (60 : Int), (5 : Int), ()))], mods := [objOf st 5] }),
  (2, fun st => { X := Nat, inv := fun i => i ≤ o.2.1.length, meas := fun i => o.2.1.length - i, slots := fun i => [(35, sI i)], keep := [1, 2, 3, 5, 6, 33, 34], objs := fun i => [(objOf st 5, .ext 2 bldT (bytesIn (pre1 o i), (60 : Int), (5 : Int), ()))], mods := [objOf st 5] }),
  (4, fun st => { X := Nat, inv := fun i => i ≤ o.2.2.1.length, meas := fun i => o.2.2.1.length - i, slots := fun i => [(49, sI i)], keep := [1, 2, 3, 5, 6, 47, 48], objs := fun i => [(objOf st 5, .ext 2 bldT (bytesIn (pre2 o i), (60 : Int), (5 : Int), ()))], mods := [objOf st 5] }),
  (6, fun st => { X := Nat, inv := fun i => i ≤ o.2.2.2.1.length, meas := fun i => o.2.2.2.1.length - i, slots := fun i => [(72, sI i)], keep := [2, 3, 5, 6, 70, 71], objs := fun i => [(objOf st 5, .ext 2 bldT (bytesIn (pre3 o i), (60 : Int), (5 : Int), ()))], mods := [objOf st 5] })]
set_option maxRecDepth 100000 in
set_option maxHeartbeats 4000000 in
theorem vc_TextO (o : D tObject) (hw : wfL [tObject] o) : (fnVCs (hintB Tryd.B [41, 64, 91, 85, 104, 110, 123, 129]) Tryd.textOCtx Tryd.f11 (textOAnn o) [tObject] [.str, .err] (fun x y => y = (fun o => textR o) x) o).holds := by
  refine holds_of (p :=
    (True) ∧ (((!Err.isNil (errNo (faultO o))) = true → (([], errNo (faultO o)) = textR o)) ∧ ((!Err.isNil (errNo (faultO o))) = false → ((List.length o.1 ≤ big) →
    (∃ (x : Nat), x ≤ List.length o.1 ∧ ((0 : Int) = (↑x : Int) ∧ True) ∧ ([], (↑(60 : Nat) : Int), (↑(5 : TypeId) : Int), ()) = (List.map (fun (b : UInt8) => (↑(UInt8.toNat b) : Int)) (pre0 o x), (60 : Int), (5 : Int), ()) ∧ True) ∧ (∀ x_0 : Nat, ((x_0 ≤ List.length o.1) → (((decide ((↑x_0 : Int) < (↑(List.length o.1) : Int))) = true → ((0 : Int) ≤ (↑x_0 : Int) ∧ (↑x_0 : Int) < (↑(List.length o.1) : Int)) ∧ (List.length [(110 : UInt8), 101, 101, 100, 32] + List.length (nth Ty.str o.1 x_0) ≤ big) ∧ (List.length ([(110 : UInt8), 101, 101, 100, 32] ++ nth Ty.str o.1 x_0) + List.length [(10 : UInt8)] ≤ big) ∧
    ((60 : Int) = (↑(60 : Nat) : Int) ∧ (5 : Int) = (↑(5 : Nat) : Int) ∧ List.length (List.map (fun (b : UInt8) => (↑(UInt8.toNat b) : Int)) (pre0 o x_0)) + List.length ([(110 : UInt8), 101, 101, 100, 32] ++ nth Ty.str o.1 x_0 ++ [(10 : UInt8)]) ≤ (140737488355328 : Nat)) ∧ ((I64 (↑x_0 : Int)) → ((I64 (1 : Int)) → (I64 ((↑x_0 : Int) + (1 : Int))) ∧
    (∃ (x' : Nat), x' ≤ List.length o.1 ∧ List.length o.1 - x' < List.length o.1 - x_0 ∧ ((↑x_0 : Int) + (1 : Int) = (↑x' : Int) ∧ True) ∧ (List.map (fun (b : UInt8) => (↑(UInt8.toNat b) : Int)) (pre0 o x_0) ++ List.map (fun (b : UInt8) => (↑(UInt8.toNat b) : Int)) ([(110 : UInt8), 101, 101, 100, 32] ++ nth Ty.str o.1 x_0 ++ [(10 : UInt8)]), (↑(60 : Nat) : Int), (↑(5 : Nat) : Int), ()) = (List.map (fun (b : UInt8) => (↑(UInt8.toNat b) : Int)) (pre0 o x'), (60 : Int), (5 : Int), ()) ∧ (o.1 = o.1 ∧ o.2.1 = o.2.1 ∧ o.2.2.1 = o.2.2.1 ∧ o.2.2.2.1 = o.2.2.2.1 ∧ True) ∧ True)))) ∧ ((decide ((↑x_0 : Int) < (↑(List.length o.1) : Int))) = false → ((List.length o.2.1 ≤ big) →
    (∃ (x : Nat), x ≤ List.length o.2.1 ∧ ((0 : Int) = (↑x : Int) ∧ True) ∧ (List.map (fun (b : UInt8) => (↑(UInt8.toNat b) : Int)) (pre0 o x_0), (60 : Int), (5 : Int), ()) = (List.map (fun (b : UInt8) => (↑(UInt8.toNat b) : Int)) (pre1 o x), (60 : Int), (5 : Int), ()) ∧ True) ∧ (∀ x_1 : Nat, ((x_1 ≤ List.length o.2.1) → (((decide ((↑x_1 : Int) < (↑(List.length o.2.1) : Int))) = true → ((0 : Int) ≤ (↑x_1 : Int) ∧ (↑x_1 : Int) < (↑(List.length o.2.1) : Int)) ∧ (True) ∧ (List.length [(119 : UInt8), 111, 114, 100, 32] + List.length (Lib.itoa (nth (Ty.int IntKind.i64) o.2.1 x_1)) ≤ big) ∧
    (List.length ([(119 : UInt8), 111, 114, 100, 32] ++ Lib.itoa (nth (Ty.int IntKind.i64) o.2.1 x_1)) + List.length [(10 : UInt8)] ≤ big) ∧
    ((60 : Int) = (↑(60 : Nat) : Int) ∧ (5 : Int) = (↑(5 : Nat) : Int) ∧ List.length (List.map (fun (b : UInt8) => (↑(UInt8.toNat b) : Int)) (pre1 o x_1)) + List.length ([(119 : UInt8), 111, 114, 100, 32] ++ Lib.itoa (nth (Ty.int IntKind.i64) o.2.1 x_1) ++ [(10 : UInt8)]) ≤ (140737488355328 : Nat)) ∧ ((I64 (↑x_1 : Int)) → ((I64 (1 : Int)) → (I64 ((↑x_1 : Int) + (1 : Int))) ∧
    (∃ (x' : Nat), x' ≤ List.length o.2.1 ∧ List.length o.2.1 - x' < List.length o.2.1 - x_1 ∧ ((↑x_1 : Int) + (1 : Int) = (↑x' : Int) ∧ True) ∧ (List.map (fun (b : UInt8) => (↑(UInt8.toNat b) : Int)) (pre1 o x_1) ++ List.map (fun (b : UInt8) => (↑(UInt8.toNat b) : Int)) ([(119 : UInt8), 111, 114, 100, 32] ++ Lib.itoa (nth (Ty.int IntKind.i64) o.2.1 x_1) ++ [(10 : UInt8)]), (↑(60 : Nat) : Int), (↑(5 : Nat) : Int), ()) = (List.map (fun (b : UInt8) => (↑(UInt8.toNat b) : Int)) (pre1 o x'), (60 : Int), (5 : Int), ()) ∧ (o.1 = o.1 ∧ o.2.1 = o.2.1 ∧ o.2.2.1 = o.2.2.1 ∧ o.2.2.2.1 = o.2.2.2.1 ∧ True) ∧ True)))) ∧ ((decide ((↑x_1 : Int) < (↑(List.length o.2.1) : Int))) = false → ((List.length o.2.2.1 ≤ big) →
    (∃ (x : Nat), x ≤ List.length o.2.2.1 ∧ ((0 : Int) = (↑x : Int) ∧ True) ∧ (List.map (fun (b : UInt8) => (↑(UInt8.toNat b) : Int)) (pre1 o x_1), (60 : Int), (5 : Int), ()) = (List.map (fun (b : UInt8) => (↑(UInt8.toNat b) : Int)) (pre2 o x), (60 : Int), (5 : Int), ()) ∧ True) ∧ (∀ x_2 : Nat, ((x_2 ≤ List.length o.2.2.1) → (((decide ((↑x_2 : Int) < (↑(List.length o.2.2.1) : Int))) = true → ((0 : Int) ≤ (↑x_2 : Int) ∧ (↑x_2 : Int) < (↑(List.length o.2.2.1) : Int)) ∧ (True) ∧ (List.length (weakT (nth tSymbol o.2.2.1 x_2).2.2.1) + List.length [(115 : UInt8), 121, 109, 98, 111, 108, 32] ≤ big) ∧
    (List.length (weakT (nth tSymbol o.2.2.1 x_2).2.2.1 ++ [(115 : UInt8), 121, 109, 98, 111, 108, 32]) + List.length (nth tSymbol o.2.2.1 x_2).1 ≤ big) ∧
    (List.length (weakT (nth tSymbol o.2.2.1 x_2).2.2.1 ++ [(115 : UInt8), 121, 109, 98, 111, 108, 32] ++ (nth tSymbol o.2.2.1 x_2).1) + List.length [(32 : UInt8)] ≤ big) ∧ (True) ∧
    (List.length (weakT (nth tSymbol o.2.2.1 x_2).2.2.1 ++ [(115 : UInt8), 121, 109, 98, 111, 108, 32] ++ (nth tSymbol o.2.2.1 x_2).1 ++ [(32 : UInt8)]) + List.length (Lib.itoa (nth tSymbol o.2.2.1 x_2).2.1) ≤ big) ∧
    (List.length (weakT (nth tSymbol o.2.2.1 x_2).2.2.1 ++ [(115 : UInt8), 121, 109, 98, 111, 108, 32] ++ (nth tSymbol o.2.2.1 x_2).1 ++ [(32 : UInt8)] ++ Lib.itoa (nth tSymbol o.2.2.1 x_2).2.1) + List.length [(10 : UInt8)] ≤ big) ∧
    ((60 : Int) = (↑(60 : Nat) : Int) ∧ (5 : Int) = (↑(5 : Nat) : Int) ∧ List.length (List.map (fun (b : UInt8) => (↑(UInt8.toNat b) : Int)) (pre2 o x_2)) + List.length (weakT (nth tSymbol o.2.2.1 x_2).2.2.1 ++ [(115 : UInt8), 121, 109, 98, 111, 108, 32] ++ (nth tSymbol o.2.2.1 x_2).1 ++ [(32 : UInt8)] ++ Lib.itoa (nth tSymbol o.2.2.1 x_2).2.1 ++ [(10 : UInt8)]) ≤ (140737488355328 : Nat)) ∧ ((I64 (↑x_2 : Int)) → ((I64 (1 : Int)) → (I64 ((↑x_2 : Int) + (1 : Int))) ∧
    (∃ (x' : Nat), x' ≤ List.length o.2.2.1 ∧ List.length o.2.2.1 - x' < List.length o.2.2.1 - x_2 ∧ ((↑x_2 : Int) + (1 : Int) = (↑x' : Int) ∧ True) ∧ (List.map (fun (b : UInt8) => (↑(UInt8.toNat b) : Int)) (pre2 o x_2) ++ List.map (fun (b : UInt8) => (↑(UInt8.toNat b) : Int)) (weakT (nth tSymbol o.2.2.1 x_2).2.2.1 ++ [(115 : UInt8), 121, 109, 98, 111, 108, 32] ++ (nth tSymbol o.2.2.1 x_2).1 ++ [(32 : UInt8)] ++ Lib.itoa (nth tSymbol o.2.2.1 x_2).2.1 ++ [(10 : UInt8)]), (↑(60 : Nat) : Int), (↑(5 : Nat) : Int), ()) = (List.map (fun (b : UInt8) => (↑(UInt8.toNat b) : Int)) (pre2 o x'), (60 : Int), (5 : Int), ()) ∧ (o.1 = o.1 ∧ o.2.1 = o.2.1 ∧ o.2.2.1 = o.2.2.1 ∧ o.2.2.2.1 = o.2.2.2.1 ∧ True) ∧ True)))) ∧ ((decide ((↑x_2 : Int) < (↑(List.length o.2.2.1) : Int))) = false → ((List.length o.2.2.2.1 ≤ big) →
    (∃ (x : Nat), x ≤ List.length o.2.2.2.1 ∧ ((0 : Int) = (↑x : Int) ∧ True) ∧ (List.map (fun (b : UInt8) => (↑(UInt8.toNat b) : Int)) (pre2 o x_2), (60 : Int), (5 : Int), ()) = (List.map (fun (b : UInt8) => (↑(UInt8.toNat b) : Int)) (pre3 o x), (60 : Int), (5 : Int), ()) ∧ True) ∧ (∀ x_3 : Nat, ((x_3 ≤ List.length o.2.2.2.1) → (((decide ((↑x_3 : Int) < (↑(List.length o.2.2.2.1) : Int))) = true → ((0 : Int) ≤ (↑x_3 : Int) ∧ (↑x_3 : Int) < (↑(List.length o.2.2.2.1) : Int)) ∧ ((((nth tTie o.2.2.2.1 x_3).2.1 == (1 : Int)) = true → (True) ∧ (List.length [(98 : UInt8), 97, 115, 101, 32] + List.length (Lib.itoa (nth tTie o.2.2.2.1 x_3).1) ≤ big) ∧
    (List.length ([(98 : UInt8), 97, 115, 101, 32] ++ Lib.itoa (nth tTie o.2.2.2.1 x_3).1) + List.length [(32 : UInt8)] ≤ big) ∧ (True) ∧
    (List.length ([(98 : UInt8), 97, 115, 101, 32] ++ Lib.itoa (nth tTie o.2.2.2.1 x_3).1 ++ [(32 : UInt8)]) + List.length (Lib.itoa (nth tTie o.2.2.2.1 x_3).2.2.1) ≤ big) ∧
    (List.length ([(98 : UInt8), 97, 115, 101, 32] ++ Lib.itoa (nth tTie o.2.2.2.1 x_3).1 ++ [(32 : UInt8)] ++ Lib.itoa (nth tTie o.2.2.2.1 x_3).2.2.1) + List.length [(10 : UInt8)] ≤ big) ∧
    ((60 : Int) = (↑(60 : Nat) : Int) ∧ (5 : Int) = (↑(5 : Nat) : Int) ∧ List.length (List.map (fun (b : UInt8) => (↑(UInt8.toNat b) : Int)) (pre3 o x_3)) + List.length ([(98 : UInt8), 97, 115, 101, 32] ++ Lib.itoa (nth tTie o.2.2.2.1 x_3).1 ++ [(32 : UInt8)] ++ Lib.itoa (nth tTie o.2.2.2.1 x_3).2.2.1 ++ [(10 : UInt8)]) ≤ (140737488355328 : Nat)) ∧ ((I64 (↑x_3 : Int)) → ((I64 (1 : Int)) → (I64 ((↑x_3 : Int) + (1 : Int))) ∧
    (∃ (x' : Nat), x' ≤ List.length o.2.2.2.1 ∧ List.length o.2.2.2.1 - x' < List.length o.2.2.2.1 - x_3 ∧ ((↑x_3 : Int) + (1 : Int) = (↑x' : Int) ∧ True) ∧ (List.map (fun (b : UInt8) => (↑(UInt8.toNat b) : Int)) (pre3 o x_3) ++ List.map (fun (b : UInt8) => (↑(UInt8.toNat b) : Int)) ([(98 : UInt8), 97, 115, 101, 32] ++ Lib.itoa (nth tTie o.2.2.2.1 x_3).1 ++ [(32 : UInt8)] ++ Lib.itoa (nth tTie o.2.2.2.1 x_3).2.2.1 ++ [(10 : UInt8)]), (↑(60 : Nat) : Int), (↑(5 : Nat) : Int), ()) = (List.map (fun (b : UInt8) => (↑(UInt8.toNat b) : Int)) (pre3 o x'), (60 : Int), (5 : Int), ()) ∧ (o.1 = o.1 ∧ o.2.1 = o.2.1 ∧ o.2.2.1 = o.2.2.1 ∧ o.2.2.2.1 = o.2.2.2.1 ∧ True) ∧ True)))) ∧ (((nth tTie o.2.2.2.1 x_3).2.1 == (1 : Int)) = false → ((((nth tTie o.2.2.2.1 x_3).2.1 == (2 : Int)) = true → (True) ∧ (List.length (weakT (nth tTie o.2.2.2.1 x_3).2.2.2.2.1) + List.length [(119 : UInt8), 104, 111, 108, 101, 32] ≤ big) ∧ (True) ∧
    (List.length (weakT (nth tTie o.2.2.2.1 x_3).2.2.2.2.1 ++ [(119 : UInt8), 104, 111, 108, 101, 32]) + List.length (Lib.itoa (nth tTie o.2.2.2.1 x_3).1) ≤ big) ∧
    (List.length (weakT (nth tTie o.2.2.2.1 x_3).2.2.2.2.1 ++ [(119 : UInt8), 104, 111, 108, 101, 32] ++ Lib.itoa (nth tTie o.2.2.2.1 x_3).1) + List.length [(32 : UInt8)] ≤ big) ∧ (True) ∧
    (List.length (weakT (nth tTie o.2.2.2.1 x_3).2.2.2.2.1 ++ [(119 : UInt8), 104, 111, 108, 101, 32] ++ Lib.itoa (nth tTie o.2.2.2.1 x_3).1 ++ [(32 : UInt8)]) + List.length (Lib.itoa (nth tTie o.2.2.2.1 x_3).2.2.1) ≤ big) ∧
    (List.length (weakT (nth tTie o.2.2.2.1 x_3).2.2.2.2.1 ++ [(119 : UInt8), 104, 111, 108, 101, 32] ++ Lib.itoa (nth tTie o.2.2.2.1 x_3).1 ++ [(32 : UInt8)] ++ Lib.itoa (nth tTie o.2.2.2.1 x_3).2.2.1) + List.length [(32 : UInt8)] ≤ big) ∧
    (List.length (weakT (nth tTie o.2.2.2.1 x_3).2.2.2.2.1 ++ [(119 : UInt8), 104, 111, 108, 101, 32] ++ Lib.itoa (nth tTie o.2.2.2.1 x_3).1 ++ [(32 : UInt8)] ++ Lib.itoa (nth tTie o.2.2.2.1 x_3).2.2.1 ++ [(32 : UInt8)]) + List.length (nth tTie o.2.2.2.1 x_3).2.2.2.1 ≤ big) ∧
    (List.length (weakT (nth tTie o.2.2.2.1 x_3).2.2.2.2.1 ++ [(119 : UInt8), 104, 111, 108, 101, 32] ++ Lib.itoa (nth tTie o.2.2.2.1 x_3).1 ++ [(32 : UInt8)] ++ Lib.itoa (nth tTie o.2.2.2.1 x_3).2.2.1 ++ [(32 : UInt8)] ++ (nth tTie o.2.2.2.1 x_3).2.2.2.1) + List.length [(10 : UInt8)] ≤ big) ∧
    ((60 : Int) = (↑(60 : Nat) : Int) ∧ (5 : Int) = (↑(5 : Nat) : Int) ∧ List.length (List.map (fun (b : UInt8) => (↑(UInt8.toNat b) : Int)) (pre3 o x_3)) + List.length (weakT (nth tTie o.2.2.2.1 x_3).2.2.2.2.1 ++ [(119 : UInt8), 104, 111, 108, 101, 32] ++ Lib.itoa (nth tTie o.2.2.2.1 x_3).1 ++ [(32 : UInt8)] ++ Lib.itoa (nth tTie o.2.2.2.1 x_3).2.2.1 ++ [(32 : UInt8)] ++ (nth tTie o.2.2.2.1 x_3).2.2.2.1 ++ [(10 : UInt8)]) ≤ (140737488355328 : Nat)) ∧ ((I64 (↑x_3 : Int)) → ((I64 (1 : Int)) → (I64 ((↑x_3 : Int) + (1 : Int))) ∧
    (∃ (x' : Nat), x' ≤ List.length o.2.2.2.1 ∧ List.length o.2.2.2.1 - x' < List.length o.2.2.2.1 - x_3 ∧ ((↑x_3 : Int) + (1 : Int) = (↑x' : Int) ∧ True) ∧ (List.map (fun (b : UInt8) => (↑(UInt8.toNat b) : Int)) (pre3 o x_3) ++ List.map (fun (b : UInt8) => (↑(UInt8.toNat b) : Int)) (weakT (nth tTie o.2.2.2.1 x_3).2.2.2.2.1 ++ [(119 : UInt8), 104, 111, 108, 101, 32] ++ Lib.itoa (nth tTie o.2.2.2.1 x_3).1 ++ [(32 : UInt8)] ++ Lib.itoa (nth tTie o.2.2.2.1 x_3).2.2.1 ++ [(32 : UInt8)] ++ (nth tTie o.2.2.2.1 x_3).2.2.2.1 ++ [(10 : UInt8)]), (↑(60 : Nat) : Int), (↑(5 : Nat) : Int), ()) = (List.map (fun (b : UInt8) => (↑(UInt8.toNat b) : Int)) (pre3 o x'), (60 : Int), (5 : Int), ()) ∧ (o.1 = o.1 ∧ o.2.1 = o.2.1 ∧ o.2.2.1 = o.2.2.1 ∧ o.2.2.2.1 = o.2.2.2.1 ∧ True) ∧ True)))) ∧ (((nth tTie o.2.2.2.1 x_3).2.1 == (2 : Int)) = false → (True) ∧ (List.length (weakT (nth tTie o.2.2.2.1 x_3).2.2.2.2.1) + List.length [(110 : UInt8), 101, 97, 114, 32] ≤ big) ∧ (True) ∧
    (List.length (weakT (nth tTie o.2.2.2.1 x_3).2.2.2.2.1 ++ [(110 : UInt8), 101, 97, 114, 32]) + List.length (Lib.itoa (nth tTie o.2.2.2.1 x_3).1) ≤ big) ∧
    (List.length (weakT (nth tTie o.2.2.2.1 x_3).2.2.2.2.1 ++ [(110 : UInt8), 101, 97, 114, 32] ++ Lib.itoa (nth tTie o.2.2.2.1 x_3).1) + List.length [(32 : UInt8)] ≤ big) ∧ (True) ∧
    (List.length (weakT (nth tTie o.2.2.2.1 x_3).2.2.2.2.1 ++ [(110 : UInt8), 101, 97, 114, 32] ++ Lib.itoa (nth tTie o.2.2.2.1 x_3).1 ++ [(32 : UInt8)]) + List.length (Lib.itoa (nth tTie o.2.2.2.1 x_3).2.2.1) ≤ big) ∧
    (List.length (weakT (nth tTie o.2.2.2.1 x_3).2.2.2.2.1 ++ [(110 : UInt8), 101, 97, 114, 32] ++ Lib.itoa (nth tTie o.2.2.2.1 x_3).1 ++ [(32 : UInt8)] ++ Lib.itoa (nth tTie o.2.2.2.1 x_3).2.2.1) + List.length [(32 : UInt8)] ≤ big) ∧
    (List.length (weakT (nth tTie o.2.2.2.1 x_3).2.2.2.2.1 ++ [(110 : UInt8), 101, 97, 114, 32] ++ Lib.itoa (nth tTie o.2.2.2.1 x_3).1 ++ [(32 : UInt8)] ++ Lib.itoa (nth tTie o.2.2.2.1 x_3).2.2.1 ++ [(32 : UInt8)]) + List.length (nth tTie o.2.2.2.1 x_3).2.2.2.1 ≤ big) ∧
    (List.length (weakT (nth tTie o.2.2.2.1 x_3).2.2.2.2.1 ++ [(110 : UInt8), 101, 97, 114, 32] ++ Lib.itoa (nth tTie o.2.2.2.1 x_3).1 ++ [(32 : UInt8)] ++ Lib.itoa (nth tTie o.2.2.2.1 x_3).2.2.1 ++ [(32 : UInt8)] ++ (nth tTie o.2.2.2.1 x_3).2.2.2.1) + List.length [(10 : UInt8)] ≤ big) ∧
    ((60 : Int) = (↑(60 : Nat) : Int) ∧ (5 : Int) = (↑(5 : Nat) : Int) ∧ List.length (List.map (fun (b : UInt8) => (↑(UInt8.toNat b) : Int)) (pre3 o x_3)) + List.length (weakT (nth tTie o.2.2.2.1 x_3).2.2.2.2.1 ++ [(110 : UInt8), 101, 97, 114, 32] ++ Lib.itoa (nth tTie o.2.2.2.1 x_3).1 ++ [(32 : UInt8)] ++ Lib.itoa (nth tTie o.2.2.2.1 x_3).2.2.1 ++ [(32 : UInt8)] ++ (nth tTie o.2.2.2.1 x_3).2.2.2.1 ++ [(10 : UInt8)]) ≤ (140737488355328 : Nat)) ∧ ((I64 (↑x_3 : Int)) → ((I64 (1 : Int)) → (I64 ((↑x_3 : Int) + (1 : Int))) ∧
    (∃ (x' : Nat), x' ≤ List.length o.2.2.2.1 ∧ List.length o.2.2.2.1 - x' < List.length o.2.2.2.1 - x_3 ∧ ((↑x_3 : Int) + (1 : Int) = (↑x' : Int) ∧ True) ∧ (List.map (fun (b : UInt8) => (↑(UInt8.toNat b) : Int)) (pre3 o x_3) ++ List.map (fun (b : UInt8) => (↑(UInt8.toNat b) : Int)) (weakT (nth tTie o.2.2.2.1 x_3).2.2.2.2.1 ++ [(110 : UInt8), 101, 97, 114, 32] ++ Lib.itoa (nth tTie o.2.2.2.1 x_3).1 ++ [(32 : UInt8)] ++ Lib.itoa (nth tTie o.2.2.2.1 x_3).2.2.1 ++ [(32 : UInt8)] ++ (nth tTie o.2.2.2.1 x_3).2.2.2.1 ++ [(10 : UInt8)]), (↑(60 : Nat) : Int), (↑(5 : Nat) : Int), ()) = (List.map (fun (b : UInt8) => (↑(UInt8.toNat b) : Int)) (pre3 o x'), (60 : Int), (5 : Int), ()) ∧ (o.1 = o.1 ∧ o.2.1 = o.2.1 ∧ o.2.2.1 = o.2.2.1 ∧ o.2.2.2.1 = o.2.2.2.1 ∧ True) ∧ True)))))))) ∧ ((decide ((↑x_3 : Int) < (↑(List.length o.2.2.2.1) : Int))) = false → ((60 : Int) = (↑(60 : Nat) : Int) ∧ (5 : Int) = (↑(5 : Nat) : Int)) ∧
    (((decide ((↑(List.length (List.map (fun (b : UInt8) => (↑(UInt8.toNat b) : Int)) (pre3 o x_3))) : Int) > (1200 : Int))) = true → (([], Err.no (2 : Int)) = textR o)) ∧
    ((decide ((↑(List.length (List.map (fun (b : UInt8) => (↑(UInt8.toNat b) : Int)) (pre3 o x_3))) : Int) > (1200 : Int))) = false → ((60 : Int) = (↑(60 : Nat) : Int) ∧ (5 : Int) = (↑(5 : Nat) : Int)) ∧
    ((bytesOf (List.map (fun (b : UInt8) => (↑(UInt8.toNat b) : Int)) (pre3 o x_3)), Err.nil) = textR o)))))))))))))))))))))))))) (by kernel_rfl) ?_
  refine ⟨trivial, ?_⟩
  refine ⟨fun h0 => ?_, fun h0 => ?_⟩
  · simp only [bl, reduceCtorEq] at h0
    rw [textR_bad (fun e => by rw [errNo_nil.2 e] at h0; cases h0)]
  · simp only [bl, reduceCtorEq] at h0
    intro h1
    refine ⟨?_, ?_⟩
    · exact ⟨0, by omega, ⟨rfl, trivial⟩, rfl, trivial⟩
    intro x_0 q_0
    refine ⟨fun h2 => ?_, fun h2 => ?_⟩
    · simp only [bl, reduceCtorEq] at h2
      refine ⟨?_, ?_⟩
      · omega
      refine ⟨?_, ?_⟩
      · have a := need_lens (okO_of (errNo_nil.1 h0)) (i := x_0) (by omega); simp only [List.length_append, List.length_cons, List.length_nil, List.length_map, big]; omega
      refine ⟨?_, ?_⟩
      · have a := need_lens (okO_of (errNo_nil.1 h0)) (i := x_0) (by omega); simp only [List.length_append, List.length_cons, List.length_nil, List.length_map, big]; omega
      refine ⟨?_, ?_⟩
      · exact ⟨rfl, rfl, by first | (have a := tie_lens (okO_of (errNo_nil.1 h0)) (i := x_3) (by omega); simp only [List.length_append, List.length_cons, List.length_nil, List.length_map, big]; omega) | (have a := sym_lens (okO_of (errNo_nil.1 h0)) (i := x_2) (by omega); simp only [List.length_append, List.length_cons, List.length_nil, List.length_map, big]; omega) | (have a := word_lens (okO_of (errNo_nil.1 h0)) (i := x_1) (by omega); simp only [List.length_append, List.length_cons, List.length_nil, List.length_map, big]; omega) | (have a := need_lens (okO_of (errNo_nil.1 h0)) (i := x_0) (by omega); simp only [List.length_append, List.length_cons, List.length_nil, List.length_map, big]; omega)⟩
      intro h3
      intro h4
      refine ⟨?_, ?_⟩
      · simp only [I64, big] at *; omega
      exact ⟨x_0 + 1, by omega, by omega, ⟨by omega, trivial⟩, bld_step (pre0_next (by omega)), (by trivial)⟩
    · simp only [bl, reduceCtorEq] at h2
      intro h3
      refine ⟨?_, ?_⟩
      · exact ⟨0, by omega, ⟨rfl, trivial⟩, bld_same (by rw [pre1_zero, show x_0 = o.1.length by omega]), trivial⟩
      intro x_1 q_1
      refine ⟨fun h4 => ?_, fun h4 => ?_⟩
      · simp only [bl, reduceCtorEq] at h4
        refine ⟨?_, ?_⟩
        · omega
        refine ⟨trivial, ?_⟩
        refine ⟨?_, ?_⟩
        · have a := word_lens (okO_of (errNo_nil.1 h0)) (i := x_1) (by omega); simp only [List.length_append, List.length_cons, List.length_nil, List.length_map, big]; omega
        refine ⟨?_, ?_⟩
        · have a := word_lens (okO_of (errNo_nil.1 h0)) (i := x_1) (by omega); simp only [List.length_append, List.length_cons, List.length_nil, List.length_map, big]; omega
        refine ⟨?_, ?_⟩
        · exact ⟨rfl, rfl, by first | (have a := tie_lens (okO_of (errNo_nil.1 h0)) (i := x_3) (by omega); simp only [List.length_append, List.length_cons, List.length_nil, List.length_map, big]; omega) | (have a := sym_lens (okO_of (errNo_nil.1 h0)) (i := x_2) (by omega); simp only [List.length_append, List.length_cons, List.length_nil, List.length_map, big]; omega) | (have a := word_lens (okO_of (errNo_nil.1 h0)) (i := x_1) (by omega); simp only [List.length_append, List.length_cons, List.length_nil, List.length_map, big]; omega) | (have a := need_lens (okO_of (errNo_nil.1 h0)) (i := x_0) (by omega); simp only [List.length_append, List.length_cons, List.length_nil, List.length_map, big]; omega)⟩
        intro h5
        intro h6
        refine ⟨?_, ?_⟩
        · simp only [I64, big] at *; omega
        exact ⟨x_1 + 1, by omega, by omega, ⟨by omega, trivial⟩, bld_step (pre1_next (by omega)), (by trivial)⟩
      · simp only [bl, reduceCtorEq] at h4
        intro h5
        refine ⟨?_, ?_⟩
        · exact ⟨0, by omega, ⟨rfl, trivial⟩, bld_same (by rw [pre2_zero, show x_1 = o.2.1.length by omega]), trivial⟩
        intro x_2 q_2
        refine ⟨fun h6 => ?_, fun h6 => ?_⟩
        · simp only [bl, reduceCtorEq] at h6
          refine ⟨?_, ?_⟩
          · omega
          refine ⟨trivial, ?_⟩
          refine ⟨?_, ?_⟩
          · have a := sym_lens (okO_of (errNo_nil.1 h0)) (i := x_2) (by omega); simp only [List.length_append, List.length_cons, List.length_nil, List.length_map, big]; omega
          refine ⟨?_, ?_⟩
          · have a := sym_lens (okO_of (errNo_nil.1 h0)) (i := x_2) (by omega); simp only [List.length_append, List.length_cons, List.length_nil, List.length_map, big]; omega
          refine ⟨?_, ?_⟩
          · have a := sym_lens (okO_of (errNo_nil.1 h0)) (i := x_2) (by omega); simp only [List.length_append, List.length_cons, List.length_nil, List.length_map, big]; omega
          refine ⟨trivial, ?_⟩
          refine ⟨?_, ?_⟩
          · have a := sym_lens (okO_of (errNo_nil.1 h0)) (i := x_2) (by omega); simp only [List.length_append, List.length_cons, List.length_nil, List.length_map, big]; omega
          refine ⟨?_, ?_⟩
          · have a := sym_lens (okO_of (errNo_nil.1 h0)) (i := x_2) (by omega); simp only [List.length_append, List.length_cons, List.length_nil, List.length_map, big]; omega
          refine ⟨?_, ?_⟩
          · exact ⟨rfl, rfl, by first | (have a := tie_lens (okO_of (errNo_nil.1 h0)) (i := x_3) (by omega); simp only [List.length_append, List.length_cons, List.length_nil, List.length_map, big]; omega) | (have a := sym_lens (okO_of (errNo_nil.1 h0)) (i := x_2) (by omega); simp only [List.length_append, List.length_cons, List.length_nil, List.length_map, big]; omega) | (have a := word_lens (okO_of (errNo_nil.1 h0)) (i := x_1) (by omega); simp only [List.length_append, List.length_cons, List.length_nil, List.length_map, big]; omega) | (have a := need_lens (okO_of (errNo_nil.1 h0)) (i := x_0) (by omega); simp only [List.length_append, List.length_cons, List.length_nil, List.length_map, big]; omega)⟩
          intro h7
          intro h8
          refine ⟨?_, ?_⟩
          · simp only [I64, big] at *; omega
          exact ⟨x_2 + 1, by omega, by omega, ⟨by omega, trivial⟩, bld_step (pre2_next (by omega)), (by trivial)⟩
        · simp only [bl, reduceCtorEq] at h6
          intro h7
          refine ⟨?_, ?_⟩
          · exact ⟨0, by omega, ⟨rfl, trivial⟩, bld_same (by rw [pre3_zero, show x_2 = o.2.2.1.length by omega]), trivial⟩
          intro x_3 q_3
          refine ⟨fun h8 => ?_, fun h8 => ?_⟩
          · simp only [bl, reduceCtorEq] at h8
            refine ⟨?_, ?_⟩
            · omega
            refine ⟨fun h9 => ?_, fun h9 => ?_⟩
            · simp only [bl, reduceCtorEq] at h9
              refine ⟨trivial, ?_⟩
              refine ⟨?_, ?_⟩
              · have a := tie_lens (okO_of (errNo_nil.1 h0)) (i := x_3) (by omega); simp only [List.length_append, List.length_cons, List.length_nil, List.length_map, big]; omega
              refine ⟨?_, ?_⟩
              · have a := tie_lens (okO_of (errNo_nil.1 h0)) (i := x_3) (by omega); simp only [List.length_append, List.length_cons, List.length_nil, List.length_map, big]; omega
              refine ⟨trivial, ?_⟩
              refine ⟨?_, ?_⟩
              · have a := tie_lens (okO_of (errNo_nil.1 h0)) (i := x_3) (by omega); simp only [List.length_append, List.length_cons, List.length_nil, List.length_map, big]; omega
              refine ⟨?_, ?_⟩
              · have a := tie_lens (okO_of (errNo_nil.1 h0)) (i := x_3) (by omega); simp only [List.length_append, List.length_cons, List.length_nil, List.length_map, big]; omega
              refine ⟨?_, ?_⟩
              · exact ⟨rfl, rfl, by first | (have a := tie_lens (okO_of (errNo_nil.1 h0)) (i := x_3) (by omega); simp only [List.length_append, List.length_cons, List.length_nil, List.length_map, big]; omega) | (have a := sym_lens (okO_of (errNo_nil.1 h0)) (i := x_2) (by omega); simp only [List.length_append, List.length_cons, List.length_nil, List.length_map, big]; omega) | (have a := word_lens (okO_of (errNo_nil.1 h0)) (i := x_1) (by omega); simp only [List.length_append, List.length_cons, List.length_nil, List.length_map, big]; omega) | (have a := need_lens (okO_of (errNo_nil.1 h0)) (i := x_0) (by omega); simp only [List.length_append, List.length_cons, List.length_nil, List.length_map, big]; omega)⟩
              intro h10
              intro h11
              refine ⟨?_, ?_⟩
              · simp only [I64, big] at *; omega
              exact ⟨x_3 + 1, by omega, by omega, ⟨by omega, trivial⟩, bld_step (pre3_step1 (by omega) h9), (by trivial)⟩
            · simp only [bl, reduceCtorEq] at h9
              refine ⟨fun h10 => ?_, fun h10 => ?_⟩
              · simp only [bl, reduceCtorEq] at h10
                refine ⟨trivial, ?_⟩
                refine ⟨?_, ?_⟩
                · have a := tie_lens (okO_of (errNo_nil.1 h0)) (i := x_3) (by omega); simp only [List.length_append, List.length_cons, List.length_nil, List.length_map, big]; omega
                refine ⟨trivial, ?_⟩
                refine ⟨?_, ?_⟩
                · have a := tie_lens (okO_of (errNo_nil.1 h0)) (i := x_3) (by omega); simp only [List.length_append, List.length_cons, List.length_nil, List.length_map, big]; omega
                refine ⟨?_, ?_⟩
                · have a := tie_lens (okO_of (errNo_nil.1 h0)) (i := x_3) (by omega); simp only [List.length_append, List.length_cons, List.length_nil, List.length_map, big]; omega
                refine ⟨trivial, ?_⟩
                refine ⟨?_, ?_⟩
                · have a := tie_lens (okO_of (errNo_nil.1 h0)) (i := x_3) (by omega); simp only [List.length_append, List.length_cons, List.length_nil, List.length_map, big]; omega
                refine ⟨?_, ?_⟩
                · have a := tie_lens (okO_of (errNo_nil.1 h0)) (i := x_3) (by omega); simp only [List.length_append, List.length_cons, List.length_nil, List.length_map, big]; omega
                refine ⟨?_, ?_⟩
                · have a := tie_lens (okO_of (errNo_nil.1 h0)) (i := x_3) (by omega); simp only [List.length_append, List.length_cons, List.length_nil, List.length_map, big]; omega
                refine ⟨?_, ?_⟩
                · have a := tie_lens (okO_of (errNo_nil.1 h0)) (i := x_3) (by omega); simp only [List.length_append, List.length_cons, List.length_nil, List.length_map, big]; omega
                refine ⟨?_, ?_⟩
                · exact ⟨rfl, rfl, by first | (have a := tie_lens (okO_of (errNo_nil.1 h0)) (i := x_3) (by omega); simp only [List.length_append, List.length_cons, List.length_nil, List.length_map, big]; omega) | (have a := sym_lens (okO_of (errNo_nil.1 h0)) (i := x_2) (by omega); simp only [List.length_append, List.length_cons, List.length_nil, List.length_map, big]; omega) | (have a := word_lens (okO_of (errNo_nil.1 h0)) (i := x_1) (by omega); simp only [List.length_append, List.length_cons, List.length_nil, List.length_map, big]; omega) | (have a := need_lens (okO_of (errNo_nil.1 h0)) (i := x_0) (by omega); simp only [List.length_append, List.length_cons, List.length_nil, List.length_map, big]; omega)⟩
                intro h11
                intro h12
                refine ⟨?_, ?_⟩
                · simp only [I64, big] at *; omega
                exact ⟨x_3 + 1, by omega, by omega, ⟨by omega, trivial⟩, bld_step (pre3_step2 (by omega) h9 h10), (by trivial)⟩
              · simp only [bl, reduceCtorEq] at h10
                refine ⟨trivial, ?_⟩
                refine ⟨?_, ?_⟩
                · have a := tie_lens (okO_of (errNo_nil.1 h0)) (i := x_3) (by omega); simp only [List.length_append, List.length_cons, List.length_nil, List.length_map, big]; omega
                refine ⟨trivial, ?_⟩
                refine ⟨?_, ?_⟩
                · have a := tie_lens (okO_of (errNo_nil.1 h0)) (i := x_3) (by omega); simp only [List.length_append, List.length_cons, List.length_nil, List.length_map, big]; omega
                refine ⟨?_, ?_⟩
                · have a := tie_lens (okO_of (errNo_nil.1 h0)) (i := x_3) (by omega); simp only [List.length_append, List.length_cons, List.length_nil, List.length_map, big]; omega
                refine ⟨trivial, ?_⟩
                refine ⟨?_, ?_⟩
                · have a := tie_lens (okO_of (errNo_nil.1 h0)) (i := x_3) (by omega); simp only [List.length_append, List.length_cons, List.length_nil, List.length_map, big]; omega
                refine ⟨?_, ?_⟩
                · have a := tie_lens (okO_of (errNo_nil.1 h0)) (i := x_3) (by omega); simp only [List.length_append, List.length_cons, List.length_nil, List.length_map, big]; omega
                refine ⟨?_, ?_⟩
                · have a := tie_lens (okO_of (errNo_nil.1 h0)) (i := x_3) (by omega); simp only [List.length_append, List.length_cons, List.length_nil, List.length_map, big]; omega
                refine ⟨?_, ?_⟩
                · have a := tie_lens (okO_of (errNo_nil.1 h0)) (i := x_3) (by omega); simp only [List.length_append, List.length_cons, List.length_nil, List.length_map, big]; omega
                refine ⟨?_, ?_⟩
                · exact ⟨rfl, rfl, by first | (have a := tie_lens (okO_of (errNo_nil.1 h0)) (i := x_3) (by omega); simp only [List.length_append, List.length_cons, List.length_nil, List.length_map, big]; omega) | (have a := sym_lens (okO_of (errNo_nil.1 h0)) (i := x_2) (by omega); simp only [List.length_append, List.length_cons, List.length_nil, List.length_map, big]; omega) | (have a := word_lens (okO_of (errNo_nil.1 h0)) (i := x_1) (by omega); simp only [List.length_append, List.length_cons, List.length_nil, List.length_map, big]; omega) | (have a := need_lens (okO_of (errNo_nil.1 h0)) (i := x_0) (by omega); simp only [List.length_append, List.length_cons, List.length_nil, List.length_map, big]; omega)⟩
                intro h11
                intro h12
                refine ⟨?_, ?_⟩
                · simp only [I64, big] at *; omega
                exact ⟨x_3 + 1, by omega, by omega, ⟨by omega, trivial⟩, bld_step (pre3_step3 (by omega) h9 h10), (by trivial)⟩
          · simp only [bl, reduceCtorEq] at h8
            refine ⟨?_, ?_⟩
            · trivial
            refine ⟨fun h9 => ?_, fun h9 => ?_⟩
            · simp only [bl, reduceCtorEq] at h9
              rw [textR_many (errNo_nil.1 h0) (show x_3 = _ by omega) (by simp only [List.length_map] at h9; omega)]
            · simp only [bl, reduceCtorEq] at h9
              refine ⟨?_, ?_⟩
              · trivial
              rw [textR_ok (errNo_nil.1 h0) (show x_3 = _ by omega) (by simp only [List.length_map] at h9; omega)]; exact congrArg (·, Err.nil) (bytesOf_in _)
theorem Tryd.ok_TextO : PureOK Tryd.prog Tryd.B.eT Tryd.X 11 [tObject] [.str, .err] (fun _ => True) (fun x y => y = (fun o => textR o) x) :=
  pure_fn (B := (hintB Tryd.B [41, 64, 91, 85, 104, 110, 123, 129])) (X := Tryd.X) (CtxOK.hint (l := [41, 64, 91, 85, 104, 110, 123, 129]) Tryd.textOCtxOK) Tryd.func11 (by kernel_rfl) (fun x => textOAnn x) (fun x hw hp => vc_TextO x hw)
end Go.Proofs.YtgokjhhcfemnhaaDoor

namespace Go.Proofs.YtgokjhhcfemnhaaDoor
open Go.Vg Go.Mrl
noncomputable def Tryd.parseCtx : List (FuncId × (Bool × CSpec)) := [(17, (true, funSpec [.int .i64] [.str] (fun _ => True) (fun n => Lib.itoa n))),
  (54, (true, funSpec [.str] [.int .i64, .err] (fun s => s.length ≤ 281474976710656) (fun s => atoiF s))),
  (44, (true, funSpec [.str, .str] [.str, .bool] (fun _ => True) (fun x => (Lib.trimPrefix x.1 x.2, Lib.hasPrefix x.1 x.2)))),
  (31, (true, funSpec [.str, .str] [.str] (fun _ => True) (fun x => Lib.trimSuffix x.1 x.2))),
  (30, (true, funSpec [.str, .str] [.slice .str] (fun x => x.1.length < 4294967281 ∧ x.2.length = 1) (fun x => parts (hd0 x.2) x.1))),
  (11, (true, funSpec [tObject] [.str, .err] (fun _ => True) (fun o => textR o))),
  (32, (false, objSpec Tryd.lineObs [.obj 0, .d .str, .obj 5] (fun a x => a.1.length ≤ 1000000 ∧ x.2.1.length ≤ 1000000 ∧ x.2.2.1.length ≤ 1000000 ∧ x.2.2.2.1.length ≤ 1000000 ∧ x.2.2.2.2.1.length ≤ 1000000) Tryd.lineAlts))]
theorem Tryd.parseCtxOK : CtxOK Tryd.prog Tryd.B Tryd.X Tryd.parseCtx :=
  ctx1 (callOK_of_fun Tryd.ok_ItoaS) (ctx1 (callOK_of_fun Tryd.ok_AtoiS) (ctx1 (callOK_of_fun Tryd.ok_CutPrefix) (ctx1 (callOK_of_fun Tryd.ok_TrimSuffix) (ctx1 (callOK_of_fun Tryd.ok_Split) (ctx1 (callOK_of_fun Tryd.ok_TextO) (ctx1 (Tryd.ok_LineO) (ctx0 Tryd.tyOK)))))))
def parseAnn (s : List UInt8) : Anns := [(200000, fun st => { X := Nat × D tObject × Bool, inv := fun x => ParseI (parts 10 (Lib.trimSuffix s [10])) x.1 x.2.1 x.2.2, meas := fun x => List.length (parts 10 (Lib.trimSuffix s [10])) - x.1, slots := fun x => [(19, sI x.1)], keep := [0, 2, 3, 4, 5, 17, 18], obs := Tryd.lineObs, refs := [(4, 0), (5, 5)], pd := fun x => pdL x.2 })]
set_option maxRecDepth 100000 in
set_option maxHeartbeats 4000000 in
theorem vc_ParseO (s : List UInt8) (hw : wfL [.str] s) : (fnVCs Tryd.B Tryd.parseCtx Tryd.f14 (parseAnn s) [.str] [tObject, .err] (fun x y => y = (fun s => parseF s) x) s).holds := by
  refine holds_of (p :=
    ((List.length s ≤ big) → (((decide ((↑(List.length s) : Int) > (1200 : Int))) = true → ((([], [], [], [], ()), Err.no (2 : Int)) = parseF s)) ∧ ((decide ((↑(List.length s) : Int) > (1200 : Int))) = false → (True) ∧ (List.length (Lib.trimSuffix s [(10 : UInt8)]) < (4294967281 : Nat) ∧ List.length [(10 : UInt8)] = (1 : Nat)) ∧ ((List.length (parts (10 : UInt8) (Lib.trimSuffix s [(10 : UInt8)])) ≤ big) →
    (((@List.nil (List UInt8) = @List.nil (List UInt8) ∧ @List.nil Int = @List.nil Int ∧ @List.nil (List UInt8 × Int × Bool × Unit) = @List.nil (List UInt8 × Int × Bool × Unit) ∧ @List.nil (Int × Int × Int × List UInt8 × Bool × Unit) = @List.nil (Int × Int × Int × List UInt8 × Bool × Unit) ∧ ∃ (x' : Nat × (List (List UInt8) × List Int × List (List UInt8 × Int × Bool × Unit) × List (Int × Int × Int × List UInt8 × Bool × Unit) × Unit) × Bool), ParseI (parts (10 : UInt8) (Lib.trimSuffix s [(10 : UInt8)])) x'.1 x'.2.1 x'.2.2 ∧ True ∧ ((0 : Int) = (↑x'.1 : Int) ∧ True) ∧ ((@List.nil (List UInt8) = @List.nil (List UInt8) ∧ @List.nil Int = @List.nil Int ∧ @List.nil (List UInt8 × Int × Bool × Unit) = @List.nil (List UInt8 × Int × Bool × Unit) ∧ @List.nil (Int × Int × Int × List UInt8 × Bool × Unit) = @List.nil (Int × Int × Int × List UInt8 × Bool × Unit) ∧ True) ∧ @List.nil (Int × Int × Int × List UInt8 × Bool × Unit) = @List.nil (Int × Int × Int × List UInt8 × Bool × Unit) ∧ @List.nil (List UInt8 × Int × Bool × Unit) = @List.nil (List UInt8 × Int × Bool × Unit) ∧ @List.nil Int = @List.nil Int ∧ @List.nil (List UInt8) = @List.nil (List UInt8) ∧ True) ∧ (!false && (!false && (!false && (!false && (!false && true))))) = true ∧ ((), [], [], [], [], (false, ()), ()) = pdL x'.2)) ∧
    ((∀ x_0 : Nat × (List (List UInt8) × List Int × List (List UInt8 × Int × Bool × Unit) × List (Int × Int × Int × List UInt8 × Bool × Unit) × Unit) × Bool, ((ParseI (parts (10 : UInt8) (Lib.trimSuffix s [(10 : UInt8)])) x_0.1 x_0.2.1 x_0.2.2) → (((decide ((↑x_0.1 : Int) < (↑(List.length (parts (10 : UInt8) (Lib.trimSuffix s [(10 : UInt8)]))) : Int))) = true →
    ((0 : Int) ≤ (↑x_0.1 : Int) ∧ (↑x_0.1 : Int) < (↑(List.length (parts (10 : UInt8) (Lib.trimSuffix s [(10 : UInt8)]))) : Int)) ∧ (x_0.2.1.1 = x_0.2.1.1) ∧ (x_0.2.1.2.1 = x_0.2.1.2.1) ∧ (x_0.2.1.2.2.1 = x_0.2.1.2.2.1) ∧ (x_0.2.1.2.2.2.1 = x_0.2.1.2.2.2.1) ∧
    (List.length (nth Ty.str (parts (10 : UInt8) (Lib.trimSuffix s [(10 : UInt8)])) x_0.1) ≤ (1000000 : Nat) ∧ List.length x_0.2.1.1 ≤ (1000000 : Nat) ∧ List.length x_0.2.1.2.1 ≤ (1000000 : Nat) ∧ List.length x_0.2.1.2.2.1 ≤ (1000000 : Nat) ∧ List.length x_0.2.1.2.2.2.1 ≤ (1000000 : Nat)) ∧ ((True) → ((I64 (↑x_0.1 : Int)) → ((I64 (1 : Int)) → (I64 ((↑x_0.1 : Int) + (1 : Int))) ∧
    ((lineF (objP ((), x_0.2.1.1, x_0.2.1.2.1, x_0.2.1.2.2.1, x_0.2.1.2.2.2.1, (x_0.2.2, ()), ())) x_0.2.2 (nth Ty.str (parts (10 : UInt8) (Lib.trimSuffix s [(10 : UInt8)])) x_0.1)).1.1 = (lineF (objP ((), x_0.2.1.1, x_0.2.1.2.1, x_0.2.1.2.2.1, x_0.2.1.2.2.2.1, (x_0.2.2, ()), ())) x_0.2.2 (nth Ty.str (parts (10 : UInt8) (Lib.trimSuffix s [(10 : UInt8)])) x_0.1)).1.1 ∧ (lineF (objP ((), x_0.2.1.1, x_0.2.1.2.1, x_0.2.1.2.2.1, x_0.2.1.2.2.2.1, (x_0.2.2, ()), ())) x_0.2.2 (nth Ty.str (parts (10 : UInt8) (Lib.trimSuffix s [(10 : UInt8)])) x_0.1)).1.2.1 = (lineF (objP ((), x_0.2.1.1, x_0.2.1.2.1, x_0.2.1.2.2.1, x_0.2.1.2.2.2.1, (x_0.2.2, ()), ())) x_0.2.2 (nth Ty.str (parts (10 : UInt8) (Lib.trimSuffix s [(10 : UInt8)])) x_0.1)).1.2.1 ∧ (lineF (objP ((), x_0.2.1.1, x_0.2.1.2.1, x_0.2.1.2.2.1, x_0.2.1.2.2.2.1, (x_0.2.2, ()), ())) x_0.2.2 (nth Ty.str (parts (10 : UInt8) (Lib.trimSuffix s [(10 : UInt8)])) x_0.1)).1.2.2.1 = (lineF (objP ((), x_0.2.1.1, x_0.2.1.2.1, x_0.2.1.2.2.1, x_0.2.1.2.2.2.1, (x_0.2.2, ()), ())) x_0.2.2 (nth Ty.str (parts (10 : UInt8) (Lib.trimSuffix s [(10 : UInt8)])) x_0.1)).1.2.2.1 ∧ (lineF (objP ((), x_0.2.1.1, x_0.2.1.2.1, x_0.2.1.2.2.1, x_0.2.1.2.2.2.1, (x_0.2.2, ()), ())) x_0.2.2 (nth Ty.str (parts (10 : UInt8) (Lib.trimSuffix s [(10 : UInt8)])) x_0.1)).1.2.2.2.1 = (lineF (objP ((), x_0.2.1.1, x_0.2.1.2.1, x_0.2.1.2.2.1, x_0.2.1.2.2.2.1, (x_0.2.2, ()), ())) x_0.2.2 (nth Ty.str (parts (10 : UInt8) (Lib.trimSuffix s [(10 : UInt8)])) x_0.1)).1.2.2.2.1 ∧ ∃ (x' : Nat × (List (List UInt8) × List Int × List (List UInt8 × Int × Bool × Unit) × List (Int × Int × Int × List UInt8 × Bool × Unit) × Unit) × Bool), ParseI (parts (10 : UInt8) (Lib.trimSuffix s [(10 : UInt8)])) x'.1 x'.2.1 x'.2.2 ∧ List.length (parts (10 : UInt8) (Lib.trimSuffix s [(10 : UInt8)])) - x'.1 < List.length (parts (10 : UInt8) (Lib.trimSuffix s [(10 : UInt8)])) - x_0.1 ∧ ((↑x_0.1 : Int) + (1 : Int) = (↑x'.1 : Int) ∧ True) ∧ ((@List.nil (List UInt8) = @List.nil (List UInt8) ∧ @List.nil Int = @List.nil Int ∧ @List.nil (List UInt8 × Int × Bool × Unit) = @List.nil (List UInt8 × Int × Bool × Unit) ∧ @List.nil (Int × Int × Int × List UInt8 × Bool × Unit) = @List.nil (Int × Int × Int × List UInt8 × Bool × Unit) ∧ True) ∧ @List.nil (Int × Int × Int × List UInt8 × Bool × Unit) = @List.nil (Int × Int × Int × List UInt8 × Bool × Unit) ∧ @List.nil (List UInt8 × Int × Bool × Unit) = @List.nil (List UInt8 × Int × Bool × Unit) ∧ @List.nil Int = @List.nil Int ∧ @List.nil (List UInt8) = @List.nil (List UInt8) ∧ True) ∧ (!false && (!false && (!false && (!false && (!false && true))))) = true ∧ ((), (lineF (objP ((), x_0.2.1.1, x_0.2.1.2.1, x_0.2.1.2.2.1, x_0.2.1.2.2.2.1, (x_0.2.2, ()), ())) x_0.2.2 (nth Ty.str (parts (10 : UInt8) (Lib.trimSuffix s [(10 : UInt8)])) x_0.1)).1.1, (lineF (objP ((), x_0.2.1.1, x_0.2.1.2.1, x_0.2.1.2.2.1, x_0.2.1.2.2.2.1, (x_0.2.2, ()), ())) x_0.2.2 (nth Ty.str (parts (10 : UInt8) (Lib.trimSuffix s [(10 : UInt8)])) x_0.1)).1.2.1, (lineF (objP ((), x_0.2.1.1, x_0.2.1.2.1, x_0.2.1.2.2.1, x_0.2.1.2.2.2.1, (x_0.2.2, ()), ())) x_0.2.2 (nth Ty.str (parts (10 : UInt8) (Lib.trimSuffix s [(10 : UInt8)])) x_0.1)).1.2.2.1, (lineF (objP ((), x_0.2.1.1, x_0.2.1.2.1, x_0.2.1.2.2.1, x_0.2.1.2.2.2.1, (x_0.2.2, ()), ())) x_0.2.2 (nth Ty.str (parts (10 : UInt8) (Lib.trimSuffix s [(10 : UInt8)])) x_0.1)).1.2.2.2.1, ((lineF (objP ((), x_0.2.1.1, x_0.2.1.2.1, x_0.2.1.2.2.1, x_0.2.1.2.2.2.1, (x_0.2.2, ()), ())) x_0.2.2 (nth Ty.str (parts (10 : UInt8) (Lib.trimSuffix s [(10 : UInt8)])) x_0.1)).2, ()), ()) = pdL x'.2))))) ∧ ((decide ((↑x_0.1 : Int) < (↑(List.length (parts (10 : UInt8) (Lib.trimSuffix s [(10 : UInt8)]))) : Int))) = false → (True) ∧ (((x_0.2.2) = true → ((([], [], [], [], ()), Err.no (4 : Int)) = parseF s)) ∧ ((x_0.2.2) = false → (((!Err.isNil (textR (x_0.2.1.1, x_0.2.1.2.1, x_0.2.1.2.2.1, x_0.2.1.2.2.2.1, ())).2) = true → ((([], [], [], [], ()), Err.no (4 : Int)) = parseF s)) ∧ ((!Err.isNil (textR (x_0.2.1.1, x_0.2.1.2.1, x_0.2.1.2.2.1, x_0.2.1.2.2.2.1, ())).2) = false → (((!(textR (x_0.2.1.1, x_0.2.1.2.1, x_0.2.1.2.2.1, x_0.2.1.2.2.2.1, ())).1 == s) = true → ((([], [], [], [], ()), Err.no (4 : Int)) = parseF s)) ∧ ((!(textR (x_0.2.1.1, x_0.2.1.2.1, x_0.2.1.2.2.1, x_0.2.1.2.2.2.1, ())).1 == s) = false → (((x_0.2.1.1, x_0.2.1.2.1, x_0.2.1.2.2.1, x_0.2.1.2.2.2.1, ()), Err.nil) = parseF s)))))))))))))))))) (by kernel_rfl) ?_
  intro h0
  refine ⟨fun h1 => ?_, fun h1 => ?_⟩
  · simp only [bl, reduceCtorEq] at h1
    exact parse_many (by omega)
  · simp only [bl, reduceCtorEq] at h1
    refine ⟨trivial, ?_⟩
    refine ⟨?_, ?_⟩
    · have := suf_len s [10]; exact ⟨by omega, rfl⟩
    intro h2
    refine ⟨?_, ?_⟩
    ·
      exact ⟨rfl, rfl, rfl, rfl, (0, zeroD tObject, false), ParseI.zero _, trivial, ⟨rfl, trivial⟩, ⟨⟨rfl, rfl, rfl, rfl, trivial⟩, rfl, rfl, rfl, rfl, trivial⟩, rfl, rfl⟩
    ·
      intro x_0 q_0
      refine ⟨fun h3 => ?_, fun h3 => ?_⟩
      · simp only [bl, reduceCtorEq] at h3
        refine ⟨?_, ?_⟩
        · omega
        refine ⟨rfl, ?_⟩
        refine ⟨rfl, ?_⟩
        refine ⟨rfl, ?_⟩
        refine ⟨rfl, ?_⟩
        refine ⟨?_, ?_⟩
        · have hf := parts_few s (by omega); have a0 := q_0.le; have a1 := q_0.l1; have a2 := q_0.l2; have a3 := q_0.l3; have a4 := q_0.l4
          exact ⟨Nat.le_trans (line_short (by omega) _) (by decide), by omega, by omega, by omega, by omega⟩
        intro h4
        intro h5
        intro h6
        refine ⟨?_, ?_⟩
        · simp only [I64, big] at *; omega
        exact ⟨rfl, rfl, rfl, rfl, (x_0.1 + 1, lineF x_0.2.1 x_0.2.2 (nth .str (parts 10 (Lib.trimSuffix s [10])) x_0.1)), q_0.next (by omega), by simp only; omega, ⟨by simp only; omega, trivial⟩, (by trivial), rfl, rfl⟩
      · simp only [bl, reduceCtorEq] at h3
        refine ⟨trivial, ?_⟩
        refine ⟨fun h4 => ?_, fun h4 => ?_⟩
        · exact parse_bad q_0 (by omega) (by omega) (.inl h4)
        · refine ⟨fun h5 => ?_, fun h5 => ?_⟩
          · simp only [bl, reduceCtorEq] at h5
            exact parse_bad q_0 (by omega) (by omega) (.inr (.inl h5))
          · simp only [bl, reduceCtorEq] at h5
            refine ⟨fun h6 => ?_, fun h6 => ?_⟩
            · simp only [bl, reduceCtorEq] at h6
              exact parse_bad q_0 (by omega) (by omega) (.inr (.inr h6))
            · simp only [bl, reduceCtorEq] at h6
              exact parse_ok (by omega) ‹Err.isNil _ = true› h6
theorem Tryd.ok_ParseO : PureOK Tryd.prog Tryd.B.eT Tryd.X 14 [.str] [tObject, .err] (fun _ => True) (fun x y => y = (fun s => parseF s) x) :=
  pure_fn (X := Tryd.X) Tryd.parseCtxOK Tryd.func14 (by kernel_rfl) (fun x => parseAnn x) (fun x hw hp => vc_ParseO x hw)
end Go.Proofs.YtgokjhhcfemnhaaDoor

namespace Go.Proofs.YtgokjhhcfemnhaaDoor
open Go.Vg Go.Mrl
noncomputable def Tryd.DecimalCtx (k : Nat) : List (FuncId × (Bool × CSpec)) := (29, (true, funSpec [.int .i64] [.str] (fun x => (fun _ => True) x ∧ (fun n => mD n) x < k) (fun n => Lib.itoa n))) :: []
set_option maxRecDepth 100000 in
set_option maxHeartbeats 4000000 in
theorem vc_Decimal (k : Nat) (n : Int) (hw : wfL [.int .i64] n) (hp : (fun _ => True) n ∧ (fun n => mD n) n < k + 1) : (fnVCs Tryd.B (Tryd.DecimalCtx k) Tryd.f29 [] [.int .i64] [.str] (fun x y => y = (fun n => Lib.itoa n) x) n).holds := by
  refine holds_of (p :=
    (((decide (n < (0 : Int))) = true → (((n == (-9223372036854775808 : Int)) = true → ([(45 : UInt8), 57, 50, 50, 51, 51, 55, 50, 48, 51, 54, 56, 53, 52, 55, 55, 53, 56, 48, 56] = Lib.itoa n)) ∧ ((n == (-9223372036854775808 : Int)) = false → ((I64 (0 : Int)) → ((I64 n) → (I64 ((0 : Int) - n)) ∧ (True ∧ mD ((0 : Int) - n) < k) ∧ (List.length [(45 : UInt8)] + List.length (Lib.itoa ((0 : Int) - n)) ≤ big) ∧ ([(45 : UInt8)] ++ Lib.itoa ((0 : Int) - n) = Lib.itoa n)))))) ∧ ((decide (n < (0 : Int))) = false → (((decide (n < (10 : Int))) = true → ((I64 (48 : Int)) → ((I64 n) → (I64 ((48 : Int) + n)) ∧ (List.length [IntKind.wrap IntKind.u8 ((48 : Int) + n)] ≤ big) ∧ (bytesOf [IntKind.wrap IntKind.u8 ((48 : Int) + n)] = Lib.itoa n)))) ∧ ((decide (n < (10 : Int))) = false → ((10 : Int) ≠ (0 : Int)) ∧ (∀ x_0 : Int, ((x_0 = Int.tdiv n (10 : Int)) → ((I64 n) → ((I64 (10 : Int)) → (I64 x_0) ∧ ((10 : Int) ≠ (0 : Int)) ∧ (∀ x_1 : Int, ((x_1 = Int.tmod n (10 : Int)) → ((I64 (48 : Int)) → ((I64 x_1) → (I64 ((48 : Int) + x_1)) ∧ ((fun a0 a1 : Prop => a0 ∧ a0 ∧ a1) ((True ∧ mD x_0 < k) ∧ (List.length [IntKind.wrap IntKind.u8 ((48 : Int) + x_1)] ≤ big) ∧ (List.length (Lib.itoa x_0) + List.length (bytesOf [IntKind.wrap IntKind.u8 ((48 : Int) + x_1)]) ≤ big) ∧ (Lib.itoa x_0 ++ bytesOf [IntKind.wrap IntKind.u8 ((48 : Int) + x_1)] = Lib.itoa n)) ((List.length [IntKind.wrap IntKind.u8 ((48 : Int) + x_1)] ≤ big) ∧ (True ∧ mD x_0 < k) ∧ (List.length (Lib.itoa x_0) + List.length (bytesOf [IntKind.wrap IntKind.u8 ((48 : Int) + x_1)]) ≤ big) ∧ (Lib.itoa x_0 ++ bytesOf [IntKind.wrap IntKind.u8 ((48 : Int) + x_1)] = Lib.itoa n)))))))))))))))) (by kernel_rfl) ?_
  try dsimp only at hp
  refine ⟨fun h0 => ?_, fun h0 => ?_⟩
  · simp only [bl, reduceCtorEq] at h0
    refine ⟨fun h1 => ?_, fun h1 => ?_⟩
    · simp only [bl, reduceCtorEq] at h1
      rw [h1, itoa_min]
    · simp only [bl, reduceCtorEq] at h1
      intro h2
      intro h3
      refine ⟨?_, ?_⟩
      · simp only [I64, big] at *; omega
      refine ⟨?_, ?_⟩
      · have := mD_neg h0; rw [Int.zero_sub]; exact ⟨trivial, by omega⟩
      refine ⟨?_, ?_⟩
      · unfold I64 at h3; have := itoa_le (n := -n) (by omega) (by omega); rw [Int.zero_sub]; simp only [List.length_cons, List.length_nil, big]; omega
      rw [Int.zero_sub, itoa_neg' h0]
  · simp only [bl, reduceCtorEq] at h0
    refine ⟨fun h1 => ?_, fun h1 => ?_⟩
    · simp only [bl, reduceCtorEq] at h1
      intro h2
      intro h3
      refine ⟨?_, ?_⟩
      · simp only [I64, big] at *; omega
      refine ⟨?_, ?_⟩
      · show 1 ≤ big; decide
      rw [byte_of (by omega) (by omega), itoa_one (by omega) (by omega)]
    · simp only [bl, reduceCtorEq] at h1
      refine ⟨?_, ?_⟩
      · trivial
      intro x_0 q_0
      intro h2
      intro h3
      refine ⟨?_, ?_⟩
      · rw [q_0, Int.tdiv_eq_ediv_of_nonneg h0]; unfold I64 at *; omega
      refine ⟨?_, ?_⟩
      · trivial
      intro x_1 q_1
      intro h4
      intro h5
      refine ⟨?_, ?_⟩
      · rw [q_1, Int.tmod_eq_emod_of_nonneg h0]; unfold I64 at *; omega
      refine (show ∀ {a0 a1 : Prop}, a0 → a1 → a0 ∧ a0 ∧ a1 from fun g0 g1 => ⟨g0, g0, g1⟩) ?_ ?_
      ·
        refine ⟨?_, ?_⟩
        · rw [q_0, Int.tdiv_eq_ediv_of_nonneg h0]; have := mD_div h1; exact ⟨trivial, by omega⟩
        refine ⟨?_, ?_⟩
        · show 1 ≤ big; decide
        refine ⟨?_, ?_⟩
        · rw [q_0, q_1, Int.tdiv_eq_ediv_of_nonneg h0, Int.tmod_eq_emod_of_nonneg h0, byte_of (by omega) (by omega)]; have := itoa_le (n := n / 10) (by unfold I64 at *; omega) (by unfold I64 at *; omega); simp only [List.length_cons, List.length_nil, big]; omega
        rw [q_0, q_1, Int.tdiv_eq_ediv_of_nonneg h0, Int.tmod_eq_emod_of_nonneg h0, byte_of (by omega) (by omega), itoa_more h1]
      ·
        refine ⟨?_, ?_⟩
        · show 1 ≤ big; decide
        refine ⟨?_, ?_⟩
        · rw [q_0, Int.tdiv_eq_ediv_of_nonneg h0]; have := mD_div h1; exact ⟨trivial, by omega⟩
        refine ⟨?_, ?_⟩
        · rw [q_0, q_1, Int.tdiv_eq_ediv_of_nonneg h0, Int.tmod_eq_emod_of_nonneg h0, byte_of (by omega) (by omega)]; have := itoa_le (n := n / 10) (by unfold I64 at *; omega) (by unfold I64 at *; omega); simp only [List.length_cons, List.length_nil, big]; omega
        rw [q_0, q_1, Int.tdiv_eq_ediv_of_nonneg h0, Int.tmod_eq_emod_of_nonneg h0, byte_of (by omega) (by omega), itoa_more h1]
theorem Tryd.rec_Decimal : ∀ k : Nat, PureOK Tryd.prog Tryd.B.eT Tryd.X 29 [.int .i64] [.str] (fun x => (fun _ => True) x ∧ (fun n => mD n) x < k) (fun x y => y = (fun n => Lib.itoa n) x)
  | 0 => ⟨⟨Tryd.f29, Tryd.func29, by kernel_rfl, by kernel_rfl⟩, fun _ _ _ _ _ _ _ hp => absurd hp.2 (Nat.not_lt_zero _)⟩
  | k + 1 => pure_fn (X := Tryd.X) (ctx1 (callOK_of_fun (Tryd.rec_Decimal k)) (ctx0 Tryd.tyOK)) Tryd.func29 (by kernel_rfl) (fun _ => []) (fun x hw hp => vc_Decimal k x hw hp)
theorem Tryd.ok_Decimal : PureOK Tryd.prog Tryd.B.eT Tryd.X 29 [.int .i64] [.str] (fun _ => True) (fun x y => y = (fun n => Lib.itoa n) x) :=
  ⟨(Tryd.rec_Decimal 0).1, fun O w x vs hG hO ha hp => (Tryd.rec_Decimal ((fun n => mD n) x + 1)).2 O w x vs hG hO ha ⟨hp, Nat.lt_succ_self _⟩⟩
end Go.Proofs.YtgokjhhcfemnhaaDoor

namespace Go.Proofs.YtgokjhhcfemnhaaDoor
open Go.Vg Go.Mrl
noncomputable def Tryd.rtextOCtx : List (FuncId × (Bool × CSpec)) := [(29, (true, funSpec [.int .i64] [.str] (fun _ => True) (fun n => Lib.itoa n)))]
theorem Tryd.rtextOCtxOK : CtxOK Tryd.prog Tryd.B Tryd.X Tryd.rtextOCtx :=
  ctx1 (callOK_of_fun Tryd.ok_Decimal) (ctx0 Tryd.tyOK)
def rtextOAnn (o : D tObject) : Anns := [
  (0, fun st => { X := Nat, inv := fun i => i ≤ o.1.length, meas := fun i => o.1.length - i, slots := fun i => [(5, sI i), (4, sS (pre0 o i))], keep := [1, 2, 3] }),
  (2, fun st => { X := Nat, inv := fun i => i ≤ o.2.1.length, meas := fun i => o.2.1.length - i, slots := fun i => [(6, sI i), (4, sS (pre1 o i))], keep := [1, 2, 3] }),
  (4, fun st => { X := Nat, inv := fun i => i ≤ o.2.2.1.length, meas := fun i => o.2.2.1.length - i, slots := fun i => [(7, sI i), (4, sS (pre2 o i))], keep := [1, 2, 3] }),
  (6, fun st => { X := Nat, inv := fun i => i ≤ o.2.2.2.1.length, meas := fun i => o.2.2.2.1.length - i, slots := fun i => [(9, sI i), (4, sS (pre3 o i))], keep := [1, 2, 3, 8] })]
set_option maxRecDepth 100000 in
set_option maxHeartbeats 4000000 in
theorem vc_RTextO (o : D tObject) (hw : wfL [tObject] o) (hp : (fun o => faultO o = 0) o) : (fnVCs Tryd.B Tryd.rtextOCtx Tryd.f13 (rtextOAnn o) [tObject] [.str, .int .i64] (fun x y => y = (fun o => textN o) x) o).holds := by
  refine holds_of (p :=
    (∃ (x : Nat), x ≤ List.length o.1 ∧ ((0 : Int) = (↑x : Int) ∧ @List.nil UInt8 = pre0 o x ∧ True) ∧ True) ∧ (∀ x_0 : Nat, ((x_0 ≤ List.length o.1) → ((List.length o.1 ≤ big) → (((decide ((↑x_0 : Int) < (↑(List.length o.1) : Int))) = true → (List.length (pre0 o x_0) + List.length [(110 : UInt8), 101, 101, 100, 32] ≤ big) ∧ ((0 : Int) ≤ (↑x_0 : Int) ∧ (↑x_0 : Int) < (↑(List.length o.1) : Int)) ∧ (List.length (pre0 o x_0 ++ [(110 : UInt8), 101, 101, 100, 32]) + List.length (nth Ty.str o.1 x_0) ≤ big) ∧
    (List.length (pre0 o x_0 ++ [(110 : UInt8), 101, 101, 100, 32] ++ nth Ty.str o.1 x_0) + List.length [(10 : UInt8)] ≤ big) ∧ ((I64 (↑x_0 : Int)) → ((I64 (1 : Int)) → (I64 ((↑x_0 : Int) + (1 : Int))) ∧
    (∃ (x' : Nat), x' ≤ List.length o.1 ∧ List.length o.1 - x' < List.length o.1 - x_0 ∧ ((↑x_0 : Int) + (1 : Int) = (↑x' : Int) ∧ pre0 o x_0 ++ [(110 : UInt8), 101, 101, 100, 32] ++ nth Ty.str o.1 x_0 ++ [(10 : UInt8)] = pre0 o x' ∧ True) ∧ (o.1 = o.1 ∧ o.2.1 = o.2.1 ∧ o.2.2.1 = o.2.2.1 ∧ o.2.2.2.1 = o.2.2.2.1 ∧ True) ∧ True)))) ∧ ((decide ((↑x_0 : Int) < (↑(List.length o.1) : Int))) = false → (∃ (x : Nat), x ≤ List.length o.2.1 ∧ ((0 : Int) = (↑x : Int) ∧ pre0 o x_0 = pre1 o x ∧ True) ∧ True) ∧ (∀ x_1 : Nat, ((x_1 ≤ List.length o.2.1) → ((List.length o.2.1 ≤ big) → (((decide ((↑x_1 : Int) < (↑(List.length o.2.1) : Int))) = true → (List.length (pre1 o x_1) + List.length [(119 : UInt8), 111, 114, 100, 32] ≤ big) ∧ ((0 : Int) ≤ (↑x_1 : Int) ∧ (↑x_1 : Int) < (↑(List.length o.2.1) : Int)) ∧ (True) ∧
    (List.length (pre1 o x_1 ++ [(119 : UInt8), 111, 114, 100, 32]) + List.length (Lib.itoa (nth (Ty.int IntKind.i64) o.2.1 x_1)) ≤ big) ∧
    (List.length (pre1 o x_1 ++ [(119 : UInt8), 111, 114, 100, 32] ++ Lib.itoa (nth (Ty.int IntKind.i64) o.2.1 x_1)) + List.length [(10 : UInt8)] ≤ big) ∧ ((I64 (↑x_1 : Int)) → ((I64 (1 : Int)) → (I64 ((↑x_1 : Int) + (1 : Int))) ∧
    (∃ (x' : Nat), x' ≤ List.length o.2.1 ∧ List.length o.2.1 - x' < List.length o.2.1 - x_1 ∧ ((↑x_1 : Int) + (1 : Int) = (↑x' : Int) ∧ pre1 o x_1 ++ [(119 : UInt8), 111, 114, 100, 32] ++ Lib.itoa (nth (Ty.int IntKind.i64) o.2.1 x_1) ++ [(10 : UInt8)] = pre1 o x' ∧ True) ∧ (o.1 = o.1 ∧ o.2.1 = o.2.1 ∧ o.2.2.1 = o.2.2.1 ∧ o.2.2.2.1 = o.2.2.2.1 ∧ True) ∧ True)))) ∧ ((decide ((↑x_1 : Int) < (↑(List.length o.2.1) : Int))) = false → (∃ (x : Nat), x ≤ List.length o.2.2.1 ∧ ((0 : Int) = (↑x : Int) ∧ pre1 o x_1 = pre2 o x ∧ True) ∧ True) ∧ (∀ x_2 : Nat, ((x_2 ≤ List.length o.2.2.1) → ((List.length o.2.2.1 ≤ big) → (((decide ((↑x_2 : Int) < (↑(List.length o.2.2.1) : Int))) = true → ((0 : Int) ≤ (↑x_2 : Int) ∧ (↑x_2 : Int) < (↑(List.length o.2.2.1) : Int)) ∧ ((((nth tSymbol o.2.2.1 x_2).2.2.1) = true → (List.length (pre2 o x_2) + List.length [(119 : UInt8), 101, 97, 107, 32] ≤ big) ∧
    (List.length (pre2 o x_2 ++ [(119 : UInt8), 101, 97, 107, 32]) + List.length [(115 : UInt8), 121, 109, 98, 111, 108, 32] ≤ big) ∧ ((0 : Int) ≤ (↑x_2 : Int) ∧ (↑x_2 : Int) < (↑(List.length o.2.2.1) : Int)) ∧
    (List.length (pre2 o x_2 ++ [(119 : UInt8), 101, 97, 107, 32] ++ [(115 : UInt8), 121, 109, 98, 111, 108, 32]) + List.length (nth tSymbol o.2.2.1 x_2).1 ≤ big) ∧
    (List.length (pre2 o x_2 ++ [(119 : UInt8), 101, 97, 107, 32] ++ [(115 : UInt8), 121, 109, 98, 111, 108, 32] ++ (nth tSymbol o.2.2.1 x_2).1) + List.length [(32 : UInt8)] ≤ big) ∧ ((0 : Int) ≤ (↑x_2 : Int) ∧ (↑x_2 : Int) < (↑(List.length o.2.2.1) : Int)) ∧ (True) ∧
    (List.length (pre2 o x_2 ++ [(119 : UInt8), 101, 97, 107, 32] ++ [(115 : UInt8), 121, 109, 98, 111, 108, 32] ++ (nth tSymbol o.2.2.1 x_2).1 ++ [(32 : UInt8)]) + List.length (Lib.itoa (nth tSymbol o.2.2.1 x_2).2.1) ≤ big) ∧
    (List.length (pre2 o x_2 ++ [(119 : UInt8), 101, 97, 107, 32] ++ [(115 : UInt8), 121, 109, 98, 111, 108, 32] ++ (nth tSymbol o.2.2.1 x_2).1 ++ [(32 : UInt8)] ++ Lib.itoa (nth tSymbol o.2.2.1 x_2).2.1) + List.length [(10 : UInt8)] ≤ big) ∧ ((I64 (↑x_2 : Int)) → ((I64 (1 : Int)) → (I64 ((↑x_2 : Int) + (1 : Int))) ∧
    (∃ (x' : Nat), x' ≤ List.length o.2.2.1 ∧ List.length o.2.2.1 - x' < List.length o.2.2.1 - x_2 ∧ ((↑x_2 : Int) + (1 : Int) = (↑x' : Int) ∧ pre2 o x_2 ++ [(119 : UInt8), 101, 97, 107, 32] ++ [(115 : UInt8), 121, 109, 98, 111, 108, 32] ++ (nth tSymbol o.2.2.1 x_2).1 ++ [(32 : UInt8)] ++ Lib.itoa (nth tSymbol o.2.2.1 x_2).2.1 ++ [(10 : UInt8)] = pre2 o x' ∧ True) ∧ (o.1 = o.1 ∧ o.2.1 = o.2.1 ∧ o.2.2.1 = o.2.2.1 ∧ o.2.2.2.1 = o.2.2.2.1 ∧ True) ∧ True)))) ∧ (((nth tSymbol o.2.2.1 x_2).2.2.1) = false → (List.length (pre2 o x_2) + List.length [(115 : UInt8), 121, 109, 98, 111, 108, 32] ≤ big) ∧ ((0 : Int) ≤ (↑x_2 : Int) ∧ (↑x_2 : Int) < (↑(List.length o.2.2.1) : Int)) ∧
    (List.length (pre2 o x_2 ++ [(115 : UInt8), 121, 109, 98, 111, 108, 32]) + List.length (nth tSymbol o.2.2.1 x_2).1 ≤ big) ∧
    (List.length (pre2 o x_2 ++ [(115 : UInt8), 121, 109, 98, 111, 108, 32] ++ (nth tSymbol o.2.2.1 x_2).1) + List.length [(32 : UInt8)] ≤ big) ∧ ((0 : Int) ≤ (↑x_2 : Int) ∧ (↑x_2 : Int) < (↑(List.length o.2.2.1) : Int)) ∧ (True) ∧
    (List.length (pre2 o x_2 ++ [(115 : UInt8), 121, 109, 98, 111, 108, 32] ++ (nth tSymbol o.2.2.1 x_2).1 ++ [(32 : UInt8)]) + List.length (Lib.itoa (nth tSymbol o.2.2.1 x_2).2.1) ≤ big) ∧
    (List.length (pre2 o x_2 ++ [(115 : UInt8), 121, 109, 98, 111, 108, 32] ++ (nth tSymbol o.2.2.1 x_2).1 ++ [(32 : UInt8)] ++ Lib.itoa (nth tSymbol o.2.2.1 x_2).2.1) + List.length [(10 : UInt8)] ≤ big) ∧ ((I64 (↑x_2 : Int)) → ((I64 (1 : Int)) → (I64 ((↑x_2 : Int) + (1 : Int))) ∧
    (∃ (x' : Nat), x' ≤ List.length o.2.2.1 ∧ List.length o.2.2.1 - x' < List.length o.2.2.1 - x_2 ∧ ((↑x_2 : Int) + (1 : Int) = (↑x' : Int) ∧ pre2 o x_2 ++ [(115 : UInt8), 121, 109, 98, 111, 108, 32] ++ (nth tSymbol o.2.2.1 x_2).1 ++ [(32 : UInt8)] ++ Lib.itoa (nth tSymbol o.2.2.1 x_2).2.1 ++ [(10 : UInt8)] = pre2 o x' ∧ True) ∧ (o.1 = o.1 ∧ o.2.1 = o.2.1 ∧ o.2.2.1 = o.2.2.1 ∧ o.2.2.2.1 = o.2.2.2.1 ∧ True) ∧ True)))))) ∧ ((decide ((↑x_2 : Int) < (↑(List.length o.2.2.1) : Int))) = false → (∃ (x : Nat), x ≤ List.length o.2.2.2.1 ∧ ((0 : Int) = (↑x : Int) ∧ pre2 o x_2 = pre3 o x ∧ True) ∧ True) ∧ (∀ x_3 : Nat, ((x_3 ≤ List.length o.2.2.2.1) → ((List.length o.2.2.2.1 ≤ big) → (((decide ((↑x_3 : Int) < (↑(List.length o.2.2.2.1) : Int))) = true → ((0 : Int) ≤ (↑x_3 : Int) ∧ (↑x_3 : Int) < (↑(List.length o.2.2.2.1) : Int)) ∧ ((((nth tTie o.2.2.2.1 x_3).2.2.2.2.1) = true → (List.length (pre3 o x_3) + List.length [(119 : UInt8), 101, 97, 107, 32] ≤ big) ∧
    ((0 : Int) ≤ (nth tTie o.2.2.2.1 x_3).2.1 ∧ (nth tTie o.2.2.2.1 x_3).2.1 < (↑(List.length [@List.nil UInt8, [(98 : UInt8), 97, 115, 101], [(119 : UInt8), 104, 111, 108, 101], [(110 : UInt8), 101, 97, 114]]) : Int)) ∧
    (List.length (pre3 o x_3 ++ [(119 : UInt8), 101, 97, 107, 32]) + List.length (nth Ty.str [@List.nil UInt8, [(98 : UInt8), 97, 115, 101], [(119 : UInt8), 104, 111, 108, 101], [(110 : UInt8), 101, 97, 114]] (Int.toNat (nth tTie o.2.2.2.1 x_3).2.1)) ≤ big) ∧
    (List.length (pre3 o x_3 ++ [(119 : UInt8), 101, 97, 107, 32] ++ nth Ty.str [@List.nil UInt8, [(98 : UInt8), 97, 115, 101], [(119 : UInt8), 104, 111, 108, 101], [(110 : UInt8), 101, 97, 114]] (Int.toNat (nth tTie o.2.2.2.1 x_3).2.1)) + List.length [(32 : UInt8)] ≤ big) ∧ (True) ∧
    (List.length (pre3 o x_3 ++ [(119 : UInt8), 101, 97, 107, 32] ++ nth Ty.str [@List.nil UInt8, [(98 : UInt8), 97, 115, 101], [(119 : UInt8), 104, 111, 108, 101], [(110 : UInt8), 101, 97, 114]] (Int.toNat (nth tTie o.2.2.2.1 x_3).2.1) ++ [(32 : UInt8)]) + List.length (Lib.itoa (nth tTie o.2.2.2.1 x_3).1) ≤ big) ∧
    (List.length (pre3 o x_3 ++ [(119 : UInt8), 101, 97, 107, 32] ++ nth Ty.str [@List.nil UInt8, [(98 : UInt8), 97, 115, 101], [(119 : UInt8), 104, 111, 108, 101], [(110 : UInt8), 101, 97, 114]] (Int.toNat (nth tTie o.2.2.2.1 x_3).2.1) ++ [(32 : UInt8)] ++ Lib.itoa (nth tTie o.2.2.2.1 x_3).1) + List.length [(32 : UInt8)] ≤ big) ∧ (True) ∧
    (List.length (pre3 o x_3 ++ [(119 : UInt8), 101, 97, 107, 32] ++ nth Ty.str [@List.nil UInt8, [(98 : UInt8), 97, 115, 101], [(119 : UInt8), 104, 111, 108, 101], [(110 : UInt8), 101, 97, 114]] (Int.toNat (nth tTie o.2.2.2.1 x_3).2.1) ++ [(32 : UInt8)] ++ Lib.itoa (nth tTie o.2.2.2.1 x_3).1 ++ [(32 : UInt8)]) + List.length (Lib.itoa (nth tTie o.2.2.2.1 x_3).2.2.1) ≤ big) ∧ (((decide ((nth tTie o.2.2.2.1 x_3).2.1 > (1 : Int))) = true →
    (List.length (pre3 o x_3 ++ [(119 : UInt8), 101, 97, 107, 32] ++ nth Ty.str [@List.nil UInt8, [(98 : UInt8), 97, 115, 101], [(119 : UInt8), 104, 111, 108, 101], [(110 : UInt8), 101, 97, 114]] (Int.toNat (nth tTie o.2.2.2.1 x_3).2.1) ++ [(32 : UInt8)] ++ Lib.itoa (nth tTie o.2.2.2.1 x_3).1 ++ [(32 : UInt8)] ++ Lib.itoa (nth tTie o.2.2.2.1 x_3).2.2.1) + List.length [(32 : UInt8)] ≤ big) ∧
    (List.length (pre3 o x_3 ++ [(119 : UInt8), 101, 97, 107, 32] ++ nth Ty.str [@List.nil UInt8, [(98 : UInt8), 97, 115, 101], [(119 : UInt8), 104, 111, 108, 101], [(110 : UInt8), 101, 97, 114]] (Int.toNat (nth tTie o.2.2.2.1 x_3).2.1) ++ [(32 : UInt8)] ++ Lib.itoa (nth tTie o.2.2.2.1 x_3).1 ++ [(32 : UInt8)] ++ Lib.itoa (nth tTie o.2.2.2.1 x_3).2.2.1 ++ [(32 : UInt8)]) + List.length (nth tTie o.2.2.2.1 x_3).2.2.2.1 ≤ big) ∧
    (List.length (pre3 o x_3 ++ [(119 : UInt8), 101, 97, 107, 32] ++ nth Ty.str [@List.nil UInt8, [(98 : UInt8), 97, 115, 101], [(119 : UInt8), 104, 111, 108, 101], [(110 : UInt8), 101, 97, 114]] (Int.toNat (nth tTie o.2.2.2.1 x_3).2.1) ++ [(32 : UInt8)] ++ Lib.itoa (nth tTie o.2.2.2.1 x_3).1 ++ [(32 : UInt8)] ++ Lib.itoa (nth tTie o.2.2.2.1 x_3).2.2.1 ++ [(32 : UInt8)] ++ (nth tTie o.2.2.2.1 x_3).2.2.2.1) + List.length [(10 : UInt8)] ≤ big) ∧ ((I64 (↑x_3 : Int)) → ((I64 (1 : Int)) → (I64 ((↑x_3 : Int) + (1 : Int))) ∧
    (∃ (x' : Nat), x' ≤ List.length o.2.2.2.1 ∧ List.length o.2.2.2.1 - x' < List.length o.2.2.2.1 - x_3 ∧ ((↑x_3 : Int) + (1 : Int) = (↑x' : Int) ∧ pre3 o x_3 ++ [(119 : UInt8), 101, 97, 107, 32] ++ nth Ty.str [@List.nil UInt8, [(98 : UInt8), 97, 115, 101], [(119 : UInt8), 104, 111, 108, 101], [(110 : UInt8), 101, 97, 114]] (Int.toNat (nth tTie o.2.2.2.1 x_3).2.1) ++ [(32 : UInt8)] ++ Lib.itoa (nth tTie o.2.2.2.1 x_3).1 ++ [(32 : UInt8)] ++ Lib.itoa (nth tTie o.2.2.2.1 x_3).2.2.1 ++ [(32 : UInt8)] ++ (nth tTie o.2.2.2.1 x_3).2.2.2.1 ++ [(10 : UInt8)] = pre3 o x' ∧ True) ∧ (o.1 = o.1 ∧ o.2.1 = o.2.1 ∧ o.2.2.1 = o.2.2.1 ∧ o.2.2.2.1 = o.2.2.2.1 ∧ True) ∧ True)))) ∧ ((decide ((nth tTie o.2.2.2.1 x_3).2.1 > (1 : Int))) = false →
    (List.length (pre3 o x_3 ++ [(119 : UInt8), 101, 97, 107, 32] ++ nth Ty.str [@List.nil UInt8, [(98 : UInt8), 97, 115, 101], [(119 : UInt8), 104, 111, 108, 101], [(110 : UInt8), 101, 97, 114]] (Int.toNat (nth tTie o.2.2.2.1 x_3).2.1) ++ [(32 : UInt8)] ++ Lib.itoa (nth tTie o.2.2.2.1 x_3).1 ++ [(32 : UInt8)] ++ Lib.itoa (nth tTie o.2.2.2.1 x_3).2.2.1) + List.length [(10 : UInt8)] ≤ big) ∧ ((I64 (↑x_3 : Int)) → ((I64 (1 : Int)) → (I64 ((↑x_3 : Int) + (1 : Int))) ∧
    (∃ (x' : Nat), x' ≤ List.length o.2.2.2.1 ∧ List.length o.2.2.2.1 - x' < List.length o.2.2.2.1 - x_3 ∧ ((↑x_3 : Int) + (1 : Int) = (↑x' : Int) ∧ pre3 o x_3 ++ [(119 : UInt8), 101, 97, 107, 32] ++ nth Ty.str [@List.nil UInt8, [(98 : UInt8), 97, 115, 101], [(119 : UInt8), 104, 111, 108, 101], [(110 : UInt8), 101, 97, 114]] (Int.toNat (nth tTie o.2.2.2.1 x_3).2.1) ++ [(32 : UInt8)] ++ Lib.itoa (nth tTie o.2.2.2.1 x_3).1 ++ [(32 : UInt8)] ++ Lib.itoa (nth tTie o.2.2.2.1 x_3).2.2.1 ++ [(10 : UInt8)] = pre3 o x' ∧ True) ∧ (o.1 = o.1 ∧ o.2.1 = o.2.1 ∧ o.2.2.1 = o.2.2.1 ∧ o.2.2.2.1 = o.2.2.2.1 ∧ True) ∧ True)))))) ∧ (((nth tTie o.2.2.2.1 x_3).2.2.2.2.1) = false →
    ((0 : Int) ≤ (nth tTie o.2.2.2.1 x_3).2.1 ∧ (nth tTie o.2.2.2.1 x_3).2.1 < (↑(List.length [@List.nil UInt8, [(98 : UInt8), 97, 115, 101], [(119 : UInt8), 104, 111, 108, 101], [(110 : UInt8), 101, 97, 114]]) : Int)) ∧
    (List.length (pre3 o x_3) + List.length (nth Ty.str [@List.nil UInt8, [(98 : UInt8), 97, 115, 101], [(119 : UInt8), 104, 111, 108, 101], [(110 : UInt8), 101, 97, 114]] (Int.toNat (nth tTie o.2.2.2.1 x_3).2.1)) ≤ big) ∧
    (List.length (pre3 o x_3 ++ nth Ty.str [@List.nil UInt8, [(98 : UInt8), 97, 115, 101], [(119 : UInt8), 104, 111, 108, 101], [(110 : UInt8), 101, 97, 114]] (Int.toNat (nth tTie o.2.2.2.1 x_3).2.1)) + List.length [(32 : UInt8)] ≤ big) ∧ (True) ∧
    (List.length (pre3 o x_3 ++ nth Ty.str [@List.nil UInt8, [(98 : UInt8), 97, 115, 101], [(119 : UInt8), 104, 111, 108, 101], [(110 : UInt8), 101, 97, 114]] (Int.toNat (nth tTie o.2.2.2.1 x_3).2.1) ++ [(32 : UInt8)]) + List.length (Lib.itoa (nth tTie o.2.2.2.1 x_3).1) ≤ big) ∧
    (List.length (pre3 o x_3 ++ nth Ty.str [@List.nil UInt8, [(98 : UInt8), 97, 115, 101], [(119 : UInt8), 104, 111, 108, 101], [(110 : UInt8), 101, 97, 114]] (Int.toNat (nth tTie o.2.2.2.1 x_3).2.1) ++ [(32 : UInt8)] ++ Lib.itoa (nth tTie o.2.2.2.1 x_3).1) + List.length [(32 : UInt8)] ≤ big) ∧ (True) ∧
    (List.length (pre3 o x_3 ++ nth Ty.str [@List.nil UInt8, [(98 : UInt8), 97, 115, 101], [(119 : UInt8), 104, 111, 108, 101], [(110 : UInt8), 101, 97, 114]] (Int.toNat (nth tTie o.2.2.2.1 x_3).2.1) ++ [(32 : UInt8)] ++ Lib.itoa (nth tTie o.2.2.2.1 x_3).1 ++ [(32 : UInt8)]) + List.length (Lib.itoa (nth tTie o.2.2.2.1 x_3).2.2.1) ≤ big) ∧ (((decide ((nth tTie o.2.2.2.1 x_3).2.1 > (1 : Int))) = true →
    (List.length (pre3 o x_3 ++ nth Ty.str [@List.nil UInt8, [(98 : UInt8), 97, 115, 101], [(119 : UInt8), 104, 111, 108, 101], [(110 : UInt8), 101, 97, 114]] (Int.toNat (nth tTie o.2.2.2.1 x_3).2.1) ++ [(32 : UInt8)] ++ Lib.itoa (nth tTie o.2.2.2.1 x_3).1 ++ [(32 : UInt8)] ++ Lib.itoa (nth tTie o.2.2.2.1 x_3).2.2.1) + List.length [(32 : UInt8)] ≤ big) ∧
    (List.length (pre3 o x_3 ++ nth Ty.str [@List.nil UInt8, [(98 : UInt8), 97, 115, 101], [(119 : UInt8), 104, 111, 108, 101], [(110 : UInt8), 101, 97, 114]] (Int.toNat (nth tTie o.2.2.2.1 x_3).2.1) ++ [(32 : UInt8)] ++ Lib.itoa (nth tTie o.2.2.2.1 x_3).1 ++ [(32 : UInt8)] ++ Lib.itoa (nth tTie o.2.2.2.1 x_3).2.2.1 ++ [(32 : UInt8)]) + List.length (nth tTie o.2.2.2.1 x_3).2.2.2.1 ≤ big) ∧
    (List.length (pre3 o x_3 ++ nth Ty.str [@List.nil UInt8, [(98 : UInt8), 97, 115, 101], [(119 : UInt8), 104, 111, 108, 101], [(110 : UInt8), 101, 97, 114]] (Int.toNat (nth tTie o.2.2.2.1 x_3).2.1) ++ [(32 : UInt8)] ++ Lib.itoa (nth tTie o.2.2.2.1 x_3).1 ++ [(32 : UInt8)] ++ Lib.itoa (nth tTie o.2.2.2.1 x_3).2.2.1 ++ [(32 : UInt8)] ++ (nth tTie o.2.2.2.1 x_3).2.2.2.1) + List.length [(10 : UInt8)] ≤ big) ∧ ((I64 (↑x_3 : Int)) → ((I64 (1 : Int)) → (I64 ((↑x_3 : Int) + (1 : Int))) ∧
    (∃ (x' : Nat), x' ≤ List.length o.2.2.2.1 ∧ List.length o.2.2.2.1 - x' < List.length o.2.2.2.1 - x_3 ∧ ((↑x_3 : Int) + (1 : Int) = (↑x' : Int) ∧ pre3 o x_3 ++ nth Ty.str [@List.nil UInt8, [(98 : UInt8), 97, 115, 101], [(119 : UInt8), 104, 111, 108, 101], [(110 : UInt8), 101, 97, 114]] (Int.toNat (nth tTie o.2.2.2.1 x_3).2.1) ++ [(32 : UInt8)] ++ Lib.itoa (nth tTie o.2.2.2.1 x_3).1 ++ [(32 : UInt8)] ++ Lib.itoa (nth tTie o.2.2.2.1 x_3).2.2.1 ++ [(32 : UInt8)] ++ (nth tTie o.2.2.2.1 x_3).2.2.2.1 ++ [(10 : UInt8)] = pre3 o x' ∧ True) ∧ (o.1 = o.1 ∧ o.2.1 = o.2.1 ∧ o.2.2.1 = o.2.2.1 ∧ o.2.2.2.1 = o.2.2.2.1 ∧ True) ∧ True)))) ∧ ((decide ((nth tTie o.2.2.2.1 x_3).2.1 > (1 : Int))) = false →
    (List.length (pre3 o x_3 ++ nth Ty.str [@List.nil UInt8, [(98 : UInt8), 97, 115, 101], [(119 : UInt8), 104, 111, 108, 101], [(110 : UInt8), 101, 97, 114]] (Int.toNat (nth tTie o.2.2.2.1 x_3).2.1) ++ [(32 : UInt8)] ++ Lib.itoa (nth tTie o.2.2.2.1 x_3).1 ++ [(32 : UInt8)] ++ Lib.itoa (nth tTie o.2.2.2.1 x_3).2.2.1) + List.length [(10 : UInt8)] ≤ big) ∧ ((I64 (↑x_3 : Int)) → ((I64 (1 : Int)) → (I64 ((↑x_3 : Int) + (1 : Int))) ∧
    (∃ (x' : Nat), x' ≤ List.length o.2.2.2.1 ∧ List.length o.2.2.2.1 - x' < List.length o.2.2.2.1 - x_3 ∧ ((↑x_3 : Int) + (1 : Int) = (↑x' : Int) ∧ pre3 o x_3 ++ nth Ty.str [@List.nil UInt8, [(98 : UInt8), 97, 115, 101], [(119 : UInt8), 104, 111, 108, 101], [(110 : UInt8), 101, 97, 114]] (Int.toNat (nth tTie o.2.2.2.1 x_3).2.1) ++ [(32 : UInt8)] ++ Lib.itoa (nth tTie o.2.2.2.1 x_3).1 ++ [(32 : UInt8)] ++ Lib.itoa (nth tTie o.2.2.2.1 x_3).2.2.1 ++ [(10 : UInt8)] = pre3 o x' ∧ True) ∧ (o.1 = o.1 ∧ o.2.1 = o.2.1 ∧ o.2.2.1 = o.2.2.1 ∧ o.2.2.2.1 = o.2.2.2.1 ∧ True) ∧ True)))))))) ∧ ((decide ((↑x_3 : Int) < (↑(List.length o.2.2.2.1) : Int))) = false → ((List.length (pre3 o x_3) ≤ big) → (((decide ((↑(List.length (pre3 o x_3)) : Int) > (1200 : Int))) = true → (([], (2 : Int)) = textN o)) ∧ ((decide ((↑(List.length (pre3 o x_3)) : Int) > (1200 : Int))) = false → ((pre3 o x_3, (0 : Int)) = textN o))))))))))))))))))))))))) (by kernel_rfl) ?_
  try dsimp only at hp
  refine ⟨?_, ?_⟩
  · exact ⟨0, by omega, ⟨rfl, rfl, trivial⟩, trivial⟩
  intro x_0 q_0
  intro h0
  refine ⟨fun h1 => ?_, fun h1 => ?_⟩
  · simp only [bl, reduceCtorEq] at h1
    refine ⟨?_, ?_⟩
    · have a := need_lens (okO_of hp) (i := x_0) (by omega); simp only [List.length_append, List.length_cons, List.length_nil, List.length_map, big]; omega
    refine ⟨?_, ?_⟩
    · omega
    refine ⟨?_, ?_⟩
    · have a := need_lens (okO_of hp) (i := x_0) (by omega); simp only [List.length_append, List.length_cons, List.length_nil, List.length_map, big]; omega
    refine ⟨?_, ?_⟩
    · have a := need_lens (okO_of hp) (i := x_0) (by omega); simp only [List.length_append, List.length_cons, List.length_nil, List.length_map, big]; omega
    intro h2
    intro h3
    refine ⟨?_, ?_⟩
    · simp only [I64, big] at *; omega
    exact ⟨x_0 + 1, by omega, by omega, ⟨by omega, rneed (by omega), trivial⟩, (by trivial)⟩
  · simp only [bl, reduceCtorEq] at h1
    refine ⟨?_, ?_⟩
    · exact ⟨0, by omega, ⟨rfl, by rw [pre1_zero, show x_0 = o.1.length by omega], trivial⟩, trivial⟩
    intro x_1 q_1
    intro h2
    refine ⟨fun h3 => ?_, fun h3 => ?_⟩
    · simp only [bl, reduceCtorEq] at h3
      refine ⟨?_, ?_⟩
      · have a := word_lens (okO_of hp) (i := x_1) (by omega); simp only [List.length_append, List.length_cons, List.length_nil, List.length_map, big]; omega
      refine ⟨?_, ?_⟩
      · omega
      refine ⟨trivial, ?_⟩
      refine ⟨?_, ?_⟩
      · have a := word_lens (okO_of hp) (i := x_1) (by omega); simp only [List.length_append, List.length_cons, List.length_nil, List.length_map, big]; omega
      refine ⟨?_, ?_⟩
      · have a := word_lens (okO_of hp) (i := x_1) (by omega); simp only [List.length_append, List.length_cons, List.length_nil, List.length_map, big]; omega
      intro h4
      intro h5
      refine ⟨?_, ?_⟩
      · simp only [I64, big] at *; omega
      exact ⟨x_1 + 1, by omega, by omega, ⟨by omega, rword (by omega), trivial⟩, (by trivial)⟩
    · simp only [bl, reduceCtorEq] at h3
      refine ⟨?_, ?_⟩
      · exact ⟨0, by omega, ⟨rfl, by rw [pre2_zero, show x_1 = o.2.1.length by omega], trivial⟩, trivial⟩
      intro x_2 q_2
      intro h4
      refine ⟨fun h5 => ?_, fun h5 => ?_⟩
      · simp only [bl, reduceCtorEq] at h5
        refine ⟨?_, ?_⟩
        · omega
        refine ⟨fun h6 => ?_, fun h6 => ?_⟩
        · refine ⟨?_, ?_⟩
          · have a := sym_lens (okO_of hp) (i := x_2) (by omega); simp only [List.length_append, List.length_cons, List.length_nil, List.length_map, big]; omega
          refine ⟨?_, ?_⟩
          · have a := sym_lens (okO_of hp) (i := x_2) (by omega); simp only [List.length_append, List.length_cons, List.length_nil, List.length_map, big]; omega
          refine ⟨?_, ?_⟩
          · omega
          refine ⟨?_, ?_⟩
          · have a := sym_lens (okO_of hp) (i := x_2) (by omega); simp only [List.length_append, List.length_cons, List.length_nil, List.length_map, big]; omega
          refine ⟨?_, ?_⟩
          · have a := sym_lens (okO_of hp) (i := x_2) (by omega); simp only [List.length_append, List.length_cons, List.length_nil, List.length_map, big]; omega
          refine ⟨?_, ?_⟩
          · omega
          refine ⟨trivial, ?_⟩
          refine ⟨?_, ?_⟩
          · have a := sym_lens (okO_of hp) (i := x_2) (by omega); simp only [List.length_append, List.length_cons, List.length_nil, List.length_map, big]; omega
          refine ⟨?_, ?_⟩
          · have a := sym_lens (okO_of hp) (i := x_2) (by omega); simp only [List.length_append, List.length_cons, List.length_nil, List.length_map, big]; omega
          intro h7
          intro h8
          refine ⟨?_, ?_⟩
          · simp only [I64, big] at *; omega
          exact ⟨x_2 + 1, by omega, by omega, ⟨by omega, rsym_a (by omega) h6, trivial⟩, (by trivial)⟩
        · refine ⟨?_, ?_⟩
          · have a := sym_lens (okO_of hp) (i := x_2) (by omega); simp only [List.length_append, List.length_cons, List.length_nil, List.length_map, big]; omega
          refine ⟨?_, ?_⟩
          · omega
          refine ⟨?_, ?_⟩
          · have a := sym_lens (okO_of hp) (i := x_2) (by omega); simp only [List.length_append, List.length_cons, List.length_nil, List.length_map, big]; omega
          refine ⟨?_, ?_⟩
          · have a := sym_lens (okO_of hp) (i := x_2) (by omega); simp only [List.length_append, List.length_cons, List.length_nil, List.length_map, big]; omega
          refine ⟨?_, ?_⟩
          · omega
          refine ⟨trivial, ?_⟩
          refine ⟨?_, ?_⟩
          · have a := sym_lens (okO_of hp) (i := x_2) (by omega); simp only [List.length_append, List.length_cons, List.length_nil, List.length_map, big]; omega
          refine ⟨?_, ?_⟩
          · have a := sym_lens (okO_of hp) (i := x_2) (by omega); simp only [List.length_append, List.length_cons, List.length_nil, List.length_map, big]; omega
          intro h7
          intro h8
          refine ⟨?_, ?_⟩
          · simp only [I64, big] at *; omega
          exact ⟨x_2 + 1, by omega, by omega, ⟨by omega, rsym_b (by omega) h6, trivial⟩, (by trivial)⟩
      · simp only [bl, reduceCtorEq] at h5
        refine ⟨?_, ?_⟩
        · exact ⟨0, by omega, ⟨rfl, by rw [pre3_zero, show x_2 = o.2.2.1.length by omega], trivial⟩, trivial⟩
        intro x_3 q_3
        intro h6
        refine ⟨fun h7 => ?_, fun h7 => ?_⟩
        · simp only [bl, reduceCtorEq] at h7
          refine ⟨?_, ?_⟩
          · omega
          refine ⟨fun h8 => ?_, fun h8 => ?_⟩
          · refine ⟨?_, ?_⟩
            · have a := tie_lens (okO_of hp) (i := x_3) (by omega); have b := kind_len (Int.toNat (nth tTie o.2.2.2.1 x_3).2.1); simp only [List.length_append, List.length_cons, List.length_nil, List.length_map, big]; omega
            refine ⟨?_, ?_⟩
            · obtain ⟨a, b⟩ := (okO_of hp).kind (i := x_3) (by omega); exact ⟨Int.le_trans (by decide) a, Int.lt_of_le_of_lt b (by decide)⟩
            refine ⟨?_, ?_⟩
            · have a := tie_lens (okO_of hp) (i := x_3) (by omega); have b := kind_len (Int.toNat (nth tTie o.2.2.2.1 x_3).2.1); simp only [List.length_append, List.length_cons, List.length_nil, List.length_map, big]; omega
            refine ⟨?_, ?_⟩
            · have a := tie_lens (okO_of hp) (i := x_3) (by omega); have b := kind_len (Int.toNat (nth tTie o.2.2.2.1 x_3).2.1); simp only [List.length_append, List.length_cons, List.length_nil, List.length_map, big]; omega
            refine ⟨trivial, ?_⟩
            refine ⟨?_, ?_⟩
            · have a := tie_lens (okO_of hp) (i := x_3) (by omega); have b := kind_len (Int.toNat (nth tTie o.2.2.2.1 x_3).2.1); simp only [List.length_append, List.length_cons, List.length_nil, List.length_map, big]; omega
            refine ⟨?_, ?_⟩
            · have a := tie_lens (okO_of hp) (i := x_3) (by omega); have b := kind_len (Int.toNat (nth tTie o.2.2.2.1 x_3).2.1); simp only [List.length_append, List.length_cons, List.length_nil, List.length_map, big]; omega
            refine ⟨trivial, ?_⟩
            refine ⟨?_, ?_⟩
            · have a := tie_lens (okO_of hp) (i := x_3) (by omega); have b := kind_len (Int.toNat (nth tTie o.2.2.2.1 x_3).2.1); simp only [List.length_append, List.length_cons, List.length_nil, List.length_map, big]; omega
            refine ⟨fun h9 => ?_, fun h9 => ?_⟩
            · simp only [bl, reduceCtorEq] at h9
              refine ⟨?_, ?_⟩
              · have a := tie_lens (okO_of hp) (i := x_3) (by omega); have b := kind_len (Int.toNat (nth tTie o.2.2.2.1 x_3).2.1); simp only [List.length_append, List.length_cons, List.length_nil, List.length_map, big]; omega
              refine ⟨?_, ?_⟩
              · have a := tie_lens (okO_of hp) (i := x_3) (by omega); have b := kind_len (Int.toNat (nth tTie o.2.2.2.1 x_3).2.1); simp only [List.length_append, List.length_cons, List.length_nil, List.length_map, big]; omega
              refine ⟨?_, ?_⟩
              · have a := tie_lens (okO_of hp) (i := x_3) (by omega); have b := kind_len (Int.toNat (nth tTie o.2.2.2.1 x_3).2.1); simp only [List.length_append, List.length_cons, List.length_nil, List.length_map, big]; omega
              intro h10
              intro h11
              refine ⟨?_, ?_⟩
              · simp only [I64, big] at *; omega
              exact ⟨x_3 + 1, by omega, by omega, ⟨by omega, rtie_a (by omega) (okO_of hp) h8 (not_one h9), trivial⟩, (by trivial)⟩
            · simp only [bl, reduceCtorEq] at h9
              refine ⟨?_, ?_⟩
              · have a := tie_lens (okO_of hp) (i := x_3) (by omega); have b := kind_len (Int.toNat (nth tTie o.2.2.2.1 x_3).2.1); simp only [List.length_append, List.length_cons, List.length_nil, List.length_map, big]; omega
              intro h10
              intro h11
              refine ⟨?_, ?_⟩
              · simp only [I64, big] at *; omega
              exact absurd (h8.symm.trans (((okO_of hp).tie (i := x_3) (by omega)).base (is_one (Int.not_lt.2 h9) ((okO_of hp).kind (by omega)))).2) (by decide)
          · refine ⟨?_, ?_⟩
            · obtain ⟨a, b⟩ := (okO_of hp).kind (i := x_3) (by omega); exact ⟨Int.le_trans (by decide) a, Int.lt_of_le_of_lt b (by decide)⟩
            refine ⟨?_, ?_⟩
            · have a := tie_lens (okO_of hp) (i := x_3) (by omega); have b := kind_len (Int.toNat (nth tTie o.2.2.2.1 x_3).2.1); simp only [List.length_append, List.length_cons, List.length_nil, List.length_map, big]; omega
            refine ⟨?_, ?_⟩
            · have a := tie_lens (okO_of hp) (i := x_3) (by omega); have b := kind_len (Int.toNat (nth tTie o.2.2.2.1 x_3).2.1); simp only [List.length_append, List.length_cons, List.length_nil, List.length_map, big]; omega
            refine ⟨trivial, ?_⟩
            refine ⟨?_, ?_⟩
            · have a := tie_lens (okO_of hp) (i := x_3) (by omega); have b := kind_len (Int.toNat (nth tTie o.2.2.2.1 x_3).2.1); simp only [List.length_append, List.length_cons, List.length_nil, List.length_map, big]; omega
            refine ⟨?_, ?_⟩
            · have a := tie_lens (okO_of hp) (i := x_3) (by omega); have b := kind_len (Int.toNat (nth tTie o.2.2.2.1 x_3).2.1); simp only [List.length_append, List.length_cons, List.length_nil, List.length_map, big]; omega
            refine ⟨trivial, ?_⟩
            refine ⟨?_, ?_⟩
            · have a := tie_lens (okO_of hp) (i := x_3) (by omega); have b := kind_len (Int.toNat (nth tTie o.2.2.2.1 x_3).2.1); simp only [List.length_append, List.length_cons, List.length_nil, List.length_map, big]; omega
            refine ⟨fun h9 => ?_, fun h9 => ?_⟩
            · simp only [bl, reduceCtorEq] at h9
              refine ⟨?_, ?_⟩
              · have a := tie_lens (okO_of hp) (i := x_3) (by omega); have b := kind_len (Int.toNat (nth tTie o.2.2.2.1 x_3).2.1); simp only [List.length_append, List.length_cons, List.length_nil, List.length_map, big]; omega
              refine ⟨?_, ?_⟩
              · have a := tie_lens (okO_of hp) (i := x_3) (by omega); have b := kind_len (Int.toNat (nth tTie o.2.2.2.1 x_3).2.1); simp only [List.length_append, List.length_cons, List.length_nil, List.length_map, big]; omega
              refine ⟨?_, ?_⟩
              · have a := tie_lens (okO_of hp) (i := x_3) (by omega); have b := kind_len (Int.toNat (nth tTie o.2.2.2.1 x_3).2.1); simp only [List.length_append, List.length_cons, List.length_nil, List.length_map, big]; omega
              intro h10
              intro h11
              refine ⟨?_, ?_⟩
              · simp only [I64, big] at *; omega
              exact ⟨x_3 + 1, by omega, by omega, ⟨by omega, rtie_b (by omega) (okO_of hp) h8 (not_one h9), trivial⟩, (by trivial)⟩
            · simp only [bl, reduceCtorEq] at h9
              refine ⟨?_, ?_⟩
              · have a := tie_lens (okO_of hp) (i := x_3) (by omega); have b := kind_len (Int.toNat (nth tTie o.2.2.2.1 x_3).2.1); simp only [List.length_append, List.length_cons, List.length_nil, List.length_map, big]; omega
              intro h10
              intro h11
              refine ⟨?_, ?_⟩
              · simp only [I64, big] at *; omega
              exact ⟨x_3 + 1, by omega, by omega, ⟨by omega, rtie_d (by omega) (is_one (Int.not_lt.2 h9) ((okO_of hp).kind (by omega))), trivial⟩, (by trivial)⟩
        · simp only [bl, reduceCtorEq] at h7
          intro h8
          refine ⟨fun h9 => ?_, fun h9 => ?_⟩
          · simp only [bl, reduceCtorEq] at h9
            rw [textN_many (show x_3 = _ by omega) (by omega)]
          · simp only [bl, reduceCtorEq] at h9
            rw [textN_ok (show x_3 = _ by omega) (by omega)]
theorem Tryd.ok_RTextO : PureOK Tryd.prog Tryd.B.eT Tryd.X 13 [tObject] [.str, .int .i64] (fun o => faultO o = 0) (fun x y => y = (fun o => textN o) x) :=
  pure_fn (X := Tryd.X) Tryd.rtextOCtxOK Tryd.func13 (by kernel_rfl) (fun x => rtextOAnn x) (fun x hw hp => vc_RTextO x hw hp)
end Go.Proofs.YtgokjhhcfemnhaaDoor

namespace Go.Proofs.YtgokjhhcfemnhaaDoor
open Go.Vg Go.Mrl
def rwordsAnn (s : List UInt8) : Anns := [(0, fun st => { X := Nat × List (List UInt8) × List UInt8, inv := fun x => WordsAt 32 s x.1 x.2.1 x.2.2, meas := fun x => s.length - x.1, slots := fun x => [(5, sI x.1), (3, .s (.one (.app .str x.2.1 (objOf st 3)))), (4, sS x.2.2)], objs := fun x => [(objOf st 3, .tok .str x.2.1)], keep := [0, 2], mods := [objOf st 3] })]
set_option maxRecDepth 100000 in
set_option maxHeartbeats 4000000 in
theorem vc_RWords (s : List UInt8) (hw : wfL [.str] s) (hp : (fun s => s.length ≤ 1000000) s) : (fnVCs Tryd.B [] Tryd.f34 (rwordsAnn s) [.str] [.slice .str] (fun x y => y = (fun s => parts 32 s) x) s).holds := by
  refine holds_of (p :=
    (∃ (x : Nat × List (List UInt8) × List UInt8), WordsAt (32 : UInt8) s x.1 x.2.1 x.2.2 ∧ ((0 : Int) = (↑x.1 : Int) ∧ @List.nil (List UInt8) = x.2.1 ∧ @List.nil UInt8 = x.2.2 ∧ True) ∧ @List.nil (List UInt8) = x.2.1 ∧ True) ∧ (∀ x_0 : Nat × List (List UInt8) × List UInt8, ((WordsAt (32 : UInt8) s x_0.1 x_0.2.1 x_0.2.2) → ((List.length s ≤ big) → (((decide ((↑x_0.1 : Int) < (↑(List.length s) : Int))) = true → ((0 : Int) ≤ (↑x_0.1 : Int) ∧ (↑x_0.1 : Int) < (↑(List.length s) : Int)) ∧ ((((↑(UInt8.toNat (nthB s x_0.1)) : Int) == (32 : Int)) = true → (x_0.2.1 = x_0.2.1 ∧ List.length x_0.2.1 + List.length [x_0.2.2] ≤ (1000000000 : Nat)) ∧ ((I64 (↑x_0.1 : Int)) → ((I64 (1 : Int)) → (I64 ((↑x_0.1 : Int) + (1 : Int))) ∧
    (∃ (x' : Nat × List (List UInt8) × List UInt8), WordsAt (32 : UInt8) s x'.1 x'.2.1 x'.2.2 ∧ List.length s - x'.1 < List.length s - x_0.1 ∧ ((↑x_0.1 : Int) + (1 : Int) = (↑x'.1 : Int) ∧ x_0.2.1 ++ [x_0.2.2] = x'.2.1 ∧ @List.nil UInt8 = x'.2.2 ∧ True) ∧ x_0.2.1 ++ [x_0.2.2] = x'.2.1 ∧ @List.nil (List UInt8) = @List.nil (List UInt8) ∧ True)))) ∧ (((↑(UInt8.toNat (nthB s x_0.1)) : Int) == (32 : Int)) = false → ((I64 (↑x_0.1 : Int)) → ((I64 (1 : Int)) → (I64 ((↑x_0.1 : Int) + (1 : Int))) ∧
    ((0 : Int) ≤ (↑x_0.1 : Int) ∧ (↑x_0.1 : Int) ≤ (↑x_0.1 : Int) + (1 : Int) ∧ (↑x_0.1 : Int) + (1 : Int) ≤ (↑(List.length s) : Int)) ∧ (List.length x_0.2.2 + List.length (List.drop x_0.1 (List.take (Int.toNat ((↑x_0.1 : Int) + (1 : Int))) s)) ≤ big) ∧ ((I64 (↑x_0.1 : Int)) → ((I64 (1 : Int)) → (I64 ((↑x_0.1 : Int) + (1 : Int))) ∧
    (∃ (x' : Nat × List (List UInt8) × List UInt8), WordsAt (32 : UInt8) s x'.1 x'.2.1 x'.2.2 ∧ List.length s - x'.1 < List.length s - x_0.1 ∧ ((↑x_0.1 : Int) + (1 : Int) = (↑x'.1 : Int) ∧ x_0.2.1 = x'.2.1 ∧ x_0.2.2 ++ List.drop x_0.1 (List.take (Int.toNat ((↑x_0.1 : Int) + (1 : Int))) s) = x'.2.2 ∧ True) ∧ x_0.2.1 = x'.2.1 ∧ @List.nil (List UInt8) = @List.nil (List UInt8) ∧ True)))))))) ∧ ((decide ((↑x_0.1 : Int) < (↑(List.length s) : Int))) = false → (x_0.2.1 = x_0.2.1 ∧ List.length x_0.2.1 + List.length [x_0.2.2] ≤ (1000000000 : Nat)) ∧ (x_0.2.1 ++ [x_0.2.2] = parts (32 : UInt8) s))))))) (by kernel_rfl) ?_
  try dsimp only at hp
  refine ⟨?_, ?_⟩
  · exact ⟨(0, [], []), WordsAt.zero _ _, ⟨rfl, rfl, rfl, trivial⟩, rfl, trivial⟩
  intro x_0 q_0
  intro h0
  refine ⟨fun h1 => ?_, fun h1 => ?_⟩
  · simp only [bl, reduceCtorEq] at h1
    refine ⟨?_, ?_⟩
    · omega
    refine ⟨fun h2 => ?_, fun h2 => ?_⟩
    · simp only [bl, reduceCtorEq] at h2
      refine ⟨?_, ?_⟩
      · have := q_0.len; have := q_0.le; exact ⟨rfl, by simp only [List.length_singleton]; omega⟩
      intro h3
      intro h4
      refine ⟨?_, ?_⟩
      · simp only [I64, big] at *; omega
      exact ⟨(x_0.1 + 1, _, _), q_0.cut (by omega) (byte_eq (n := 32) h2 rfl), by simp only; omega, ⟨by simp only; omega, rfl, rfl, trivial⟩, rfl, (by trivial)⟩
    · simp only [bl, reduceCtorEq] at h2
      intro h3
      intro h4
      refine ⟨?_, ?_⟩
      · simp only [I64, big] at *; omega
      refine ⟨?_, ?_⟩
      · omega
      refine ⟨?_, ?_⟩
      · have := q_0.lx; have := q_0.le; rw [slice_byte (by omega)]; simp only [List.length_singleton, big]; omega
      intro h5
      intro h6
      refine ⟨?_, ?_⟩
      · simp only [I64, big] at *; omega
      rw [slice_byte (by omega)]; exact ⟨(x_0.1 + 1, x_0.2.1, x_0.2.2 ++ [nthB s x_0.1]), q_0.more (by omega) (byte_ne (n := 32) h2 rfl), by simp only; omega, ⟨by simp only; omega, rfl, rfl, trivial⟩, rfl, (by trivial)⟩
  · simp only [bl, reduceCtorEq] at h1
    refine ⟨?_, ?_⟩
    · have := q_0.len; have := q_0.le; exact ⟨rfl, by simp only [List.length_singleton]; omega⟩
    exact q_0.done (by omega)
theorem Tryd.ok_RWords : PureOK Tryd.prog Tryd.B.eT Tryd.X 34 [.str] [.slice .str] (fun s => s.length ≤ 1000000) (fun x y => y = (fun s => parts 32 s) x) :=
  pure_fn (X := Tryd.X) (ctx0 Tryd.tyOK) Tryd.func34 (by kernel_rfl) (fun x => rwordsAnn x) (fun x hw hp => vc_RWords x hw hp)
def rlinesAnn (s : List UInt8) : Anns := [(0, fun st => { X := Nat × List (List UInt8) × Nat, inv := fun x => LinesAt 10 s x.1 x.2.1 x.2.2, meas := fun x => s.length - x.1, slots := fun x => [(6, sI x.1), (4, .s (.one (.app .str x.2.1 (objOf st 4)))), (5, sI x.2.2)], objs := fun x => [(objOf st 4, .tok .str x.2.1)], keep := [0, 2, 3], mods := [objOf st 4] })]
set_option maxRecDepth 100000 in
set_option maxHeartbeats 4000000 in
theorem vc_RLines (s : List UInt8) (hw : wfL [.str] s) (hp : (fun s => s.length ≤ 1000000) s) : (fnVCs Tryd.B [] Tryd.f33 (rlinesAnn s) [.str] [.slice .str, .bool] (fun x y => y = (fun s => (linL s, linK s)) x) s).holds := by
  refine holds_of (p :=
    (∃ (x : Nat × List (List UInt8) × Nat), LinesAt (10 : UInt8) s x.1 x.2.1 x.2.2 ∧ ((0 : Int) = (↑x.1 : Int) ∧ @List.nil (List UInt8) = x.2.1 ∧ (0 : Int) = (↑x.2.2 : Int) ∧ True) ∧ @List.nil (List UInt8) = x.2.1 ∧ True) ∧ (∀ x_0 : Nat × List (List UInt8) × Nat, ((LinesAt (10 : UInt8) s x_0.1 x_0.2.1 x_0.2.2) → ((List.length s ≤ big) → (((decide ((↑x_0.1 : Int) < (↑(List.length s) : Int))) = true → ((0 : Int) ≤ (↑x_0.1 : Int) ∧ (↑x_0.1 : Int) < (↑(List.length s) : Int)) ∧ ((((↑(UInt8.toNat (nthB s x_0.1)) : Int) == (10 : Int)) = true → ((0 : Int) ≤ (↑x_0.2.2 : Int) ∧ (↑x_0.2.2 : Int) ≤ (↑x_0.1 : Int) ∧ (↑x_0.1 : Int) ≤ (↑(List.length s) : Int)) ∧ (x_0.2.1 = x_0.2.1 ∧ List.length x_0.2.1 + List.length [List.drop x_0.2.2 (List.take x_0.1 s)] ≤ (1000000000 : Nat)) ∧ ((I64 (↑x_0.1 : Int)) → ((I64 (1 : Int)) → (I64 ((↑x_0.1 : Int) + (1 : Int))) ∧ ((I64 (↑x_0.1 : Int)) → ((I64 (1 : Int)) → (I64 ((↑x_0.1 : Int) + (1 : Int))) ∧
    (∃ (x' : Nat × List (List UInt8) × Nat), LinesAt (10 : UInt8) s x'.1 x'.2.1 x'.2.2 ∧ List.length s - x'.1 < List.length s - x_0.1 ∧ ((↑x_0.1 : Int) + (1 : Int) = (↑x'.1 : Int) ∧ x_0.2.1 ++ [List.drop x_0.2.2 (List.take x_0.1 s)] = x'.2.1 ∧ (↑x_0.1 : Int) + (1 : Int) = (↑x'.2.2 : Int) ∧ True) ∧ x_0.2.1 ++ [List.drop x_0.2.2 (List.take x_0.1 s)] = x'.2.1 ∧ @List.nil (List UInt8) = @List.nil (List UInt8) ∧ True)))))) ∧ (((↑(UInt8.toNat (nthB s x_0.1)) : Int) == (10 : Int)) = false → ((I64 (↑x_0.1 : Int)) → ((I64 (1 : Int)) → (I64 ((↑x_0.1 : Int) + (1 : Int))) ∧
    (∃ (x' : Nat × List (List UInt8) × Nat), LinesAt (10 : UInt8) s x'.1 x'.2.1 x'.2.2 ∧ List.length s - x'.1 < List.length s - x_0.1 ∧ ((↑x_0.1 : Int) + (1 : Int) = (↑x'.1 : Int) ∧ x_0.2.1 = x'.2.1 ∧ (↑x_0.2.2 : Int) = (↑x'.2.2 : Int) ∧ True) ∧ x_0.2.1 = x'.2.1 ∧ @List.nil (List UInt8) = @List.nil (List UInt8) ∧ True)))))) ∧ ((decide ((↑x_0.1 : Int) < (↑(List.length s) : Int))) = false → ((List.length s ≤ big) → ((x_0.2.1, (↑x_0.2.2 : Int) == (↑(List.length s) : Int)) = (linL s, linK s))))))))) (by kernel_rfl) ?_
  try dsimp only at hp
  refine ⟨?_, ?_⟩
  · exact ⟨(0, [], 0), LinesAt.zero _ _, ⟨rfl, rfl, rfl, trivial⟩, rfl, trivial⟩
  intro x_0 q_0
  intro h0
  refine ⟨fun h1 => ?_, fun h1 => ?_⟩
  · simp only [bl, reduceCtorEq] at h1
    refine ⟨?_, ?_⟩
    · omega
    refine ⟨fun h2 => ?_, fun h2 => ?_⟩
    · simp only [bl, reduceCtorEq] at h2
      refine ⟨?_, ?_⟩
      · have := q_0.fi; omega
      refine ⟨?_, ?_⟩
      · have := q_0.len; have := q_0.le; exact ⟨rfl, by simp only [List.length_singleton]; omega⟩
      intro h3
      intro h4
      refine ⟨?_, ?_⟩
      · simp only [I64, big] at *; omega
      intro h5
      intro h6
      refine ⟨?_, ?_⟩
      · simp only [I64, big] at *; omega
      exact ⟨(x_0.1 + 1, _, x_0.1 + 1), q_0.cut (by omega) (byte_eq (n := 10) h2 rfl), by simp only; omega, ⟨by simp only; omega, rfl, by simp only; omega, trivial⟩, rfl, (by trivial)⟩
    · simp only [bl, reduceCtorEq] at h2
      intro h3
      intro h4
      refine ⟨?_, ?_⟩
      · simp only [I64, big] at *; omega
      exact ⟨(x_0.1 + 1, x_0.2.1, x_0.2.2), q_0.more (by omega) (byte_ne (n := 10) h2 rfl), by simp only; omega, ⟨by simp only; omega, rfl, rfl, trivial⟩, rfl, (by trivial)⟩
  · simp only [bl, reduceCtorEq] at h1
    intro h2
    rw [show (linL s, linK s) = linR s from rfl, ← q_0.done (by omega)]; congr 1; rw [Bool.eq_iff_iff]; simp; omega
theorem Tryd.ok_RLines : PureOK Tryd.prog Tryd.B.eT Tryd.X 33 [.str] [.slice .str, .bool] (fun s => s.length ≤ 1000000) (fun x y => y = (fun s => (linL s, linK s)) x) :=
  pure_fn (X := Tryd.X) (ctx0 Tryd.tyOK) Tryd.func33 (by kernel_rfl) (fun x => rlinesAnn x) (fun x hw hp => vc_RLines x hw hp)
def rnumAnn (s : List UInt8) : Anns := [(0, fun st => { X := Nat, inv := fun i => i ≤ (magB s).length ∧ ∀ j, j < i → digitB (nthB (magB s) j) = true, meas := fun i => (magB s).length - i, slots := fun i => [(6, sI i), (5, sI (valD ((magB s).take i)))], keep := [0, 4] })]
set_option maxRecDepth 100000 in
set_option maxHeartbeats 4000000 in
theorem vc_RNumber (s : List UInt8) (hw : wfL [.str] s) : (fnVCs Tryd.B [] Tryd.f35 (rnumAnn s) [.str] [.int .i64, .bool] (fun x y => y = (fun s => (numN s, numK s)) x) s).holds := by
  refine holds_of (p :=
    ((List.length s ≤ big) → (((decide ((↑(List.length s) : Int) > (0 : Int))) = true → ((0 : Int) ≤ (0 : Int) ∧ (0 : Int) < (↑(List.length s) : Int)) ∧ ((((↑(UInt8.toNat (nthB s (0 : Nat))) : Int) == (45 : Int)) = true → ((0 : Int) ≤ (1 : Int) ∧ (1 : Int) ≤ (↑(List.length s) : Int) ∧ (↑(List.length s) : Int) ≤ (↑(List.length s) : Int)) ∧ ((List.length (List.drop (1 : Nat) (List.take (List.length s) s)) ≤ big) → (((decide ((↑(List.length (List.drop (1 : Nat) (List.take (List.length s) s))) : Int) < (1 : Int))) = true → (((0 : Int), false) = (numN s, numK s))) ∧ ((decide ((↑(List.length (List.drop (1 : Nat) (List.take (List.length s) s))) : Int) < (1 : Int))) = false → ((List.length (List.drop (1 : Nat) (List.take (List.length s) s)) ≤ big) → (((decide ((↑(List.length (List.drop (1 : Nat) (List.take (List.length s) s))) : Int) > (18 : Int))) = true → (((0 : Int), false) = (numN s, numK s))) ∧ ((decide ((↑(List.length (List.drop (1 : Nat) (List.take (List.length s) s))) : Int) > (18 : Int))) = false → ((0 : Int) ≤ (0 : Int) ∧ (0 : Int) < (↑(List.length (List.drop (1 : Nat) (List.take (List.length s) s))) : Int)) ∧ ((((↑(UInt8.toNat (nthB (List.drop (1 : Nat) (List.take (List.length s) s)) (0 : Nat))) : Int) == (48 : Int)) = true → ((List.length s ≤ big) → (((decide ((↑(List.length s) : Int) > (1 : Int))) = true → (((0 : Int), false) = (numN s, numK s))) ∧ ((decide ((↑(List.length s) : Int) > (1 : Int))) = false →
    (∃ (x : Nat), (x ≤ List.length (magB s) ∧ ∀ (j : Nat), j < x → digitB (nthB (magB s) j) = true) ∧ ((0 : Int) = (↑x : Int) ∧ (0 : Int) = (↑(valD (List.take x (magB s))) : Int) ∧ True) ∧ True) ∧ (∀ x_0 : Nat, ((x_0 ≤ List.length (magB s) ∧ ∀ (j : Nat), j < x_0 → digitB (nthB (magB s) j) = true) → ((List.length (List.drop (1 : Nat) (List.take (List.length s) s)) ≤ big) → (((decide ((↑x_0 : Int) < (↑(List.length (List.drop (1 : Nat) (List.take (List.length s) s))) : Int))) = true → ((0 : Int) ≤ (↑x_0 : Int) ∧ (↑x_0 : Int) < (↑(List.length (List.drop (1 : Nat) (List.take (List.length s) s))) : Int)) ∧ (((decide ((↑(UInt8.toNat (nthB (List.drop (1 : Nat) (List.take (List.length s) s)) x_0)) : Int) < (48 : Int))) = true → (((0 : Int), false) = (numN s, numK s))) ∧ ((decide ((↑(UInt8.toNat (nthB (List.drop (1 : Nat) (List.take (List.length s) s)) x_0)) : Int) < (48 : Int))) = false → ((0 : Int) ≤ (↑x_0 : Int) ∧ (↑x_0 : Int) < (↑(List.length (List.drop (1 : Nat) (List.take (List.length s) s))) : Int)) ∧ (((decide ((↑(UInt8.toNat (nthB (List.drop (1 : Nat) (List.take (List.length s) s)) x_0)) : Int) > (57 : Int))) = true → (((0 : Int), false) = (numN s, numK s))) ∧ ((decide ((↑(UInt8.toNat (nthB (List.drop (1 : Nat) (List.take (List.length s) s)) x_0)) : Int) > (57 : Int))) = false → (∀ x_1 : Int, ((x_1 = (10 : Int) * (↑(valD (List.take x_0 (magB s))) : Int)) → ((I64 (10 : Int)) → ((I64 (↑(valD (List.take x_0 (magB s))) : Int)) → (I64 x_1) ∧ ((0 : Int) ≤ (↑x_0 : Int) ∧ (↑x_0 : Int) < (↑(List.length (List.drop (1 : Nat) (List.take (List.length s) s))) : Int)) ∧ (∀ x_2 : Int,
    ((x_2 = IntKind.wrap IntKind.u8 ((↑(UInt8.toNat (nthB (List.drop (1 : Nat) (List.take (List.length s) s)) x_0)) : Int) - (48 : Int))) → ((I64 x_1) → ((I64 x_2) → (I64 (x_1 + x_2)) ∧ ((I64 (↑x_0 : Int)) → ((I64 (1 : Int)) → (I64 ((↑x_0 : Int) + (1 : Int))) ∧
    (∃ (x' : Nat), (x' ≤ List.length (magB s) ∧ ∀ (j : Nat), j < x' → digitB (nthB (magB s) j) = true) ∧ List.length (magB s) - x' < List.length (magB s) - x_0 ∧ ((↑x_0 : Int) + (1 : Int) = (↑x' : Int) ∧ x_1 + x_2 = (↑(valD (List.take x' (magB s))) : Int) ∧ True) ∧ True)))))))))))))))) ∧ ((decide ((↑x_0 : Int) < (↑(List.length (List.drop (1 : Nat) (List.take (List.length s) s))) : Int))) = false → ((List.length (List.drop (1 : Nat) (List.take (List.length s) s)) ≤ big) → ((List.length s ≤ big) →
    (((decide ((↑(List.length (List.drop (1 : Nat) (List.take (List.length s) s))) : Int) < (↑(List.length s) : Int))) = true → ((I64 (0 : Int)) → ((I64 (↑(valD (List.take x_0 (magB s))) : Int)) → (I64 ((0 : Int) - (↑(valD (List.take x_0 (magB s))) : Int))) ∧ (((0 : Int) - (↑(valD (List.take x_0 (magB s))) : Int), true) = (numN s, numK s))))) ∧
    ((decide ((↑(List.length (List.drop (1 : Nat) (List.take (List.length s) s))) : Int) < (↑(List.length s) : Int))) = false → (((↑(valD (List.take x_0 (magB s))) : Int), true) = (numN s, numK s))))))))))))))) ∧ (((↑(UInt8.toNat (nthB (List.drop (1 : Nat) (List.take (List.length s) s)) (0 : Nat))) : Int) == (48 : Int)) = false →
    (∃ (x : Nat), (x ≤ List.length (magB s) ∧ ∀ (j : Nat), j < x → digitB (nthB (magB s) j) = true) ∧ ((0 : Int) = (↑x : Int) ∧ (0 : Int) = (↑(valD (List.take x (magB s))) : Int) ∧ True) ∧ True) ∧ (∀ x_0 : Nat, ((x_0 ≤ List.length (magB s) ∧ ∀ (j : Nat), j < x_0 → digitB (nthB (magB s) j) = true) → ((List.length (List.drop (1 : Nat) (List.take (List.length s) s)) ≤ big) → (((decide ((↑x_0 : Int) < (↑(List.length (List.drop (1 : Nat) (List.take (List.length s) s))) : Int))) = true → ((0 : Int) ≤ (↑x_0 : Int) ∧ (↑x_0 : Int) < (↑(List.length (List.drop (1 : Nat) (List.take (List.length s) s))) : Int)) ∧ (((decide ((↑(UInt8.toNat (nthB (List.drop (1 : Nat) (List.take (List.length s) s)) x_0)) : Int) < (48 : Int))) = true → (((0 : Int), false) = (numN s, numK s))) ∧ ((decide ((↑(UInt8.toNat (nthB (List.drop (1 : Nat) (List.take (List.length s) s)) x_0)) : Int) < (48 : Int))) = false → ((0 : Int) ≤ (↑x_0 : Int) ∧ (↑x_0 : Int) < (↑(List.length (List.drop (1 : Nat) (List.take (List.length s) s))) : Int)) ∧ (((decide ((↑(UInt8.toNat (nthB (List.drop (1 : Nat) (List.take (List.length s) s)) x_0)) : Int) > (57 : Int))) = true → (((0 : Int), false) = (numN s, numK s))) ∧ ((decide ((↑(UInt8.toNat (nthB (List.drop (1 : Nat) (List.take (List.length s) s)) x_0)) : Int) > (57 : Int))) = false → (∀ x_1 : Int, ((x_1 = (10 : Int) * (↑(valD (List.take x_0 (magB s))) : Int)) → ((I64 (10 : Int)) → ((I64 (↑(valD (List.take x_0 (magB s))) : Int)) → (I64 x_1) ∧ ((0 : Int) ≤ (↑x_0 : Int) ∧ (↑x_0 : Int) < (↑(List.length (List.drop (1 : Nat) (List.take (List.length s) s))) : Int)) ∧ (∀ x_2 : Int,
    ((x_2 = IntKind.wrap IntKind.u8 ((↑(UInt8.toNat (nthB (List.drop (1 : Nat) (List.take (List.length s) s)) x_0)) : Int) - (48 : Int))) → ((I64 x_1) → ((I64 x_2) → (I64 (x_1 + x_2)) ∧ ((I64 (↑x_0 : Int)) → ((I64 (1 : Int)) → (I64 ((↑x_0 : Int) + (1 : Int))) ∧
    (∃ (x' : Nat), (x' ≤ List.length (magB s) ∧ ∀ (j : Nat), j < x' → digitB (nthB (magB s) j) = true) ∧ List.length (magB s) - x' < List.length (magB s) - x_0 ∧ ((↑x_0 : Int) + (1 : Int) = (↑x' : Int) ∧ x_1 + x_2 = (↑(valD (List.take x' (magB s))) : Int) ∧ True) ∧ True)))))))))))))))) ∧ ((decide ((↑x_0 : Int) < (↑(List.length (List.drop (1 : Nat) (List.take (List.length s) s))) : Int))) = false → ((List.length (List.drop (1 : Nat) (List.take (List.length s) s)) ≤ big) → ((List.length s ≤ big) →
    (((decide ((↑(List.length (List.drop (1 : Nat) (List.take (List.length s) s))) : Int) < (↑(List.length s) : Int))) = true → ((I64 (0 : Int)) → ((I64 (↑(valD (List.take x_0 (magB s))) : Int)) → (I64 ((0 : Int) - (↑(valD (List.take x_0 (magB s))) : Int))) ∧ (((0 : Int) - (↑(valD (List.take x_0 (magB s))) : Int), true) = (numN s, numK s))))) ∧
    ((decide ((↑(List.length (List.drop (1 : Nat) (List.take (List.length s) s))) : Int) < (↑(List.length s) : Int))) = false → (((↑(valD (List.take x_0 (magB s))) : Int), true) = (numN s, numK s)))))))))))))))))))) ∧ (((↑(UInt8.toNat (nthB s (0 : Nat))) : Int) == (45 : Int)) = false → ((List.length s ≤ big) → (((decide ((↑(List.length s) : Int) < (1 : Int))) = true → (((0 : Int), false) = (numN s, numK s))) ∧ ((decide ((↑(List.length s) : Int) < (1 : Int))) = false → ((List.length s ≤ big) → (((decide ((↑(List.length s) : Int) > (18 : Int))) = true → (((0 : Int), false) = (numN s, numK s))) ∧ ((decide ((↑(List.length s) : Int) > (18 : Int))) = false → ((0 : Int) ≤ (0 : Int) ∧ (0 : Int) < (↑(List.length s) : Int)) ∧ ((((↑(UInt8.toNat (nthB s (0 : Nat))) : Int) == (48 : Int)) = true → ((List.length s ≤ big) → (((decide ((↑(List.length s) : Int) > (1 : Int))) = true → (((0 : Int), false) = (numN s, numK s))) ∧ ((decide ((↑(List.length s) : Int) > (1 : Int))) = false →
    (∃ (x : Nat), (x ≤ List.length (magB s) ∧ ∀ (j : Nat), j < x → digitB (nthB (magB s) j) = true) ∧ ((0 : Int) = (↑x : Int) ∧ (0 : Int) = (↑(valD (List.take x (magB s))) : Int) ∧ True) ∧ True) ∧ (∀ x_0 : Nat, ((x_0 ≤ List.length (magB s) ∧ ∀ (j : Nat), j < x_0 → digitB (nthB (magB s) j) = true) → ((List.length s ≤ big) → (((decide ((↑x_0 : Int) < (↑(List.length s) : Int))) = true → ((0 : Int) ≤ (↑x_0 : Int) ∧ (↑x_0 : Int) < (↑(List.length s) : Int)) ∧ (((decide ((↑(UInt8.toNat (nthB s x_0)) : Int) < (48 : Int))) = true → (((0 : Int), false) = (numN s, numK s))) ∧ ((decide ((↑(UInt8.toNat (nthB s x_0)) : Int) < (48 : Int))) = false → ((0 : Int) ≤ (↑x_0 : Int) ∧ (↑x_0 : Int) < (↑(List.length s) : Int)) ∧ (((decide ((↑(UInt8.toNat (nthB s x_0)) : Int) > (57 : Int))) = true → (((0 : Int), false) = (numN s, numK s))) ∧ ((decide ((↑(UInt8.toNat (nthB s x_0)) : Int) > (57 : Int))) = false → (∀ x_1 : Int, ((x_1 = (10 : Int) * (↑(valD (List.take x_0 (magB s))) : Int)) → ((I64 (10 : Int)) → ((I64 (↑(valD (List.take x_0 (magB s))) : Int)) → (I64 x_1) ∧ ((0 : Int) ≤ (↑x_0 : Int) ∧ (↑x_0 : Int) < (↑(List.length s) : Int)) ∧ (∀ x_2 : Int, ((x_2 = IntKind.wrap IntKind.u8 ((↑(UInt8.toNat (nthB s x_0)) : Int) - (48 : Int))) → ((I64 x_1) → ((I64 x_2) → (I64 (x_1 + x_2)) ∧ ((I64 (↑x_0 : Int)) → ((I64 (1 : Int)) → (I64 ((↑x_0 : Int) + (1 : Int))) ∧
    (∃ (x' : Nat), (x' ≤ List.length (magB s) ∧ ∀ (j : Nat), j < x' → digitB (nthB (magB s) j) = true) ∧ List.length (magB s) - x' < List.length (magB s) - x_0 ∧ ((↑x_0 : Int) + (1 : Int) = (↑x' : Int) ∧ x_1 + x_2 = (↑(valD (List.take x' (magB s))) : Int) ∧ True) ∧ True)))))))))))))))) ∧ ((decide ((↑x_0 : Int) < (↑(List.length s) : Int))) = false → ((List.length s ≤ big) → ((List.length s ≤ big) → (((decide ((↑(List.length s) : Int) < (↑(List.length s) : Int))) = true → ((I64 (0 : Int)) → ((I64 (↑(valD (List.take x_0 (magB s))) : Int)) → (I64 ((0 : Int) - (↑(valD (List.take x_0 (magB s))) : Int))) ∧ (((0 : Int) - (↑(valD (List.take x_0 (magB s))) : Int), true) = (numN s, numK s))))) ∧ ((decide ((↑(List.length s) : Int) < (↑(List.length s) : Int))) = false → (((↑(valD (List.take x_0 (magB s))) : Int), true) = (numN s, numK s))))))))))))))) ∧ (((↑(UInt8.toNat (nthB s (0 : Nat))) : Int) == (48 : Int)) = false →
    (∃ (x : Nat), (x ≤ List.length (magB s) ∧ ∀ (j : Nat), j < x → digitB (nthB (magB s) j) = true) ∧ ((0 : Int) = (↑x : Int) ∧ (0 : Int) = (↑(valD (List.take x (magB s))) : Int) ∧ True) ∧ True) ∧ (∀ x_0 : Nat, ((x_0 ≤ List.length (magB s) ∧ ∀ (j : Nat), j < x_0 → digitB (nthB (magB s) j) = true) → ((List.length s ≤ big) → (((decide ((↑x_0 : Int) < (↑(List.length s) : Int))) = true → ((0 : Int) ≤ (↑x_0 : Int) ∧ (↑x_0 : Int) < (↑(List.length s) : Int)) ∧ (((decide ((↑(UInt8.toNat (nthB s x_0)) : Int) < (48 : Int))) = true → (((0 : Int), false) = (numN s, numK s))) ∧ ((decide ((↑(UInt8.toNat (nthB s x_0)) : Int) < (48 : Int))) = false → ((0 : Int) ≤ (↑x_0 : Int) ∧ (↑x_0 : Int) < (↑(List.length s) : Int)) ∧ (((decide ((↑(UInt8.toNat (nthB s x_0)) : Int) > (57 : Int))) = true → (((0 : Int), false) = (numN s, numK s))) ∧ ((decide ((↑(UInt8.toNat (nthB s x_0)) : Int) > (57 : Int))) = false → (∀ x_1 : Int, ((x_1 = (10 : Int) * (↑(valD (List.take x_0 (magB s))) : Int)) → ((I64 (10 : Int)) → ((I64 (↑(valD (List.take x_0 (magB s))) : Int)) → (I64 x_1) ∧ ((0 : Int) ≤ (↑x_0 : Int) ∧ (↑x_0 : Int) < (↑(List.length s) : Int)) ∧ (∀ x_2 : Int, ((x_2 = IntKind.wrap IntKind.u8 ((↑(UInt8.toNat (nthB s x_0)) : Int) - (48 : Int))) → ((I64 x_1) → ((I64 x_2) → (I64 (x_1 + x_2)) ∧ ((I64 (↑x_0 : Int)) → ((I64 (1 : Int)) → (I64 ((↑x_0 : Int) + (1 : Int))) ∧
    (∃ (x' : Nat), (x' ≤ List.length (magB s) ∧ ∀ (j : Nat), j < x' → digitB (nthB (magB s) j) = true) ∧ List.length (magB s) - x' < List.length (magB s) - x_0 ∧ ((↑x_0 : Int) + (1 : Int) = (↑x' : Int) ∧ x_1 + x_2 = (↑(valD (List.take x' (magB s))) : Int) ∧ True) ∧ True)))))))))))))))) ∧ ((decide ((↑x_0 : Int) < (↑(List.length s) : Int))) = false → ((List.length s ≤ big) → ((List.length s ≤ big) → (((decide ((↑(List.length s) : Int) < (↑(List.length s) : Int))) = true → ((I64 (0 : Int)) → ((I64 (↑(valD (List.take x_0 (magB s))) : Int)) → (I64 ((0 : Int) - (↑(valD (List.take x_0 (magB s))) : Int))) ∧ (((0 : Int) - (↑(valD (List.take x_0 (magB s))) : Int), true) = (numN s, numK s))))) ∧ ((decide ((↑(List.length s) : Int) < (↑(List.length s) : Int))) = false → (((↑(valD (List.take x_0 (magB s))) : Int), true) = (numN s, numK s)))))))))))))))))))))) ∧ ((decide ((↑(List.length s) : Int) > (0 : Int))) = false → ((List.length s ≤ big) → (((decide ((↑(List.length s) : Int) < (1 : Int))) = true → (((0 : Int), false) = (numN s, numK s))) ∧ ((decide ((↑(List.length s) : Int) < (1 : Int))) = false → ((List.length s ≤ big) → (((decide ((↑(List.length s) : Int) > (18 : Int))) = true → (((0 : Int), false) = (numN s, numK s))) ∧ ((decide ((↑(List.length s) : Int) > (18 : Int))) = false → ((0 : Int) ≤ (0 : Int) ∧ (0 : Int) < (↑(List.length s) : Int)) ∧ ((((↑(UInt8.toNat (nthB s (0 : Nat))) : Int) == (48 : Int)) = true → ((List.length s ≤ big) → (((decide ((↑(List.length s) : Int) > (1 : Int))) = true → (((0 : Int), false) = (numN s, numK s))) ∧ ((decide ((↑(List.length s) : Int) > (1 : Int))) = false →
    (∃ (x : Nat), (x ≤ List.length (magB s) ∧ ∀ (j : Nat), j < x → digitB (nthB (magB s) j) = true) ∧ ((0 : Int) = (↑x : Int) ∧ (0 : Int) = (↑(valD (List.take x (magB s))) : Int) ∧ True) ∧ True) ∧ (∀ x_0 : Nat, ((x_0 ≤ List.length (magB s) ∧ ∀ (j : Nat), j < x_0 → digitB (nthB (magB s) j) = true) → ((List.length s ≤ big) → (((decide ((↑x_0 : Int) < (↑(List.length s) : Int))) = true → ((0 : Int) ≤ (↑x_0 : Int) ∧ (↑x_0 : Int) < (↑(List.length s) : Int)) ∧ (((decide ((↑(UInt8.toNat (nthB s x_0)) : Int) < (48 : Int))) = true → (((0 : Int), false) = (numN s, numK s))) ∧ ((decide ((↑(UInt8.toNat (nthB s x_0)) : Int) < (48 : Int))) = false → ((0 : Int) ≤ (↑x_0 : Int) ∧ (↑x_0 : Int) < (↑(List.length s) : Int)) ∧ (((decide ((↑(UInt8.toNat (nthB s x_0)) : Int) > (57 : Int))) = true → (((0 : Int), false) = (numN s, numK s))) ∧ ((decide ((↑(UInt8.toNat (nthB s x_0)) : Int) > (57 : Int))) = false → (∀ x_1 : Int, ((x_1 = (10 : Int) * (↑(valD (List.take x_0 (magB s))) : Int)) → ((I64 (10 : Int)) → ((I64 (↑(valD (List.take x_0 (magB s))) : Int)) → (I64 x_1) ∧ ((0 : Int) ≤ (↑x_0 : Int) ∧ (↑x_0 : Int) < (↑(List.length s) : Int)) ∧ (∀ x_2 : Int, ((x_2 = IntKind.wrap IntKind.u8 ((↑(UInt8.toNat (nthB s x_0)) : Int) - (48 : Int))) → ((I64 x_1) → ((I64 x_2) → (I64 (x_1 + x_2)) ∧ ((I64 (↑x_0 : Int)) → ((I64 (1 : Int)) → (I64 ((↑x_0 : Int) + (1 : Int))) ∧
    (∃ (x' : Nat), (x' ≤ List.length (magB s) ∧ ∀ (j : Nat), j < x' → digitB (nthB (magB s) j) = true) ∧ List.length (magB s) - x' < List.length (magB s) - x_0 ∧ ((↑x_0 : Int) + (1 : Int) = (↑x' : Int) ∧ x_1 + x_2 = (↑(valD (List.take x' (magB s))) : Int) ∧ True) ∧ True)))))))))))))))) ∧ ((decide ((↑x_0 : Int) < (↑(List.length s) : Int))) = false → ((List.length s ≤ big) → ((List.length s ≤ big) → (((decide ((↑(List.length s) : Int) < (↑(List.length s) : Int))) = true → ((I64 (0 : Int)) → ((I64 (↑(valD (List.take x_0 (magB s))) : Int)) → (I64 ((0 : Int) - (↑(valD (List.take x_0 (magB s))) : Int))) ∧ (((0 : Int) - (↑(valD (List.take x_0 (magB s))) : Int), true) = (numN s, numK s))))) ∧ ((decide ((↑(List.length s) : Int) < (↑(List.length s) : Int))) = false → (((↑(valD (List.take x_0 (magB s))) : Int), true) = (numN s, numK s))))))))))))))) ∧ (((↑(UInt8.toNat (nthB s (0 : Nat))) : Int) == (48 : Int)) = false →
    (∃ (x : Nat), (x ≤ List.length (magB s) ∧ ∀ (j : Nat), j < x → digitB (nthB (magB s) j) = true) ∧ ((0 : Int) = (↑x : Int) ∧ (0 : Int) = (↑(valD (List.take x (magB s))) : Int) ∧ True) ∧ True) ∧ (∀ x_0 : Nat, ((x_0 ≤ List.length (magB s) ∧ ∀ (j : Nat), j < x_0 → digitB (nthB (magB s) j) = true) → ((List.length s ≤ big) → (((decide ((↑x_0 : Int) < (↑(List.length s) : Int))) = true → ((0 : Int) ≤ (↑x_0 : Int) ∧ (↑x_0 : Int) < (↑(List.length s) : Int)) ∧ (((decide ((↑(UInt8.toNat (nthB s x_0)) : Int) < (48 : Int))) = true → (((0 : Int), false) = (numN s, numK s))) ∧ ((decide ((↑(UInt8.toNat (nthB s x_0)) : Int) < (48 : Int))) = false → ((0 : Int) ≤ (↑x_0 : Int) ∧ (↑x_0 : Int) < (↑(List.length s) : Int)) ∧ (((decide ((↑(UInt8.toNat (nthB s x_0)) : Int) > (57 : Int))) = true → (((0 : Int), false) = (numN s, numK s))) ∧ ((decide ((↑(UInt8.toNat (nthB s x_0)) : Int) > (57 : Int))) = false → (∀ x_1 : Int, ((x_1 = (10 : Int) * (↑(valD (List.take x_0 (magB s))) : Int)) → ((I64 (10 : Int)) → ((I64 (↑(valD (List.take x_0 (magB s))) : Int)) → (I64 x_1) ∧ ((0 : Int) ≤ (↑x_0 : Int) ∧ (↑x_0 : Int) < (↑(List.length s) : Int)) ∧ (∀ x_2 : Int, ((x_2 = IntKind.wrap IntKind.u8 ((↑(UInt8.toNat (nthB s x_0)) : Int) - (48 : Int))) → ((I64 x_1) → ((I64 x_2) → (I64 (x_1 + x_2)) ∧ ((I64 (↑x_0 : Int)) → ((I64 (1 : Int)) → (I64 ((↑x_0 : Int) + (1 : Int))) ∧
    (∃ (x' : Nat), (x' ≤ List.length (magB s) ∧ ∀ (j : Nat), j < x' → digitB (nthB (magB s) j) = true) ∧ List.length (magB s) - x' < List.length (magB s) - x_0 ∧ ((↑x_0 : Int) + (1 : Int) = (↑x' : Int) ∧ x_1 + x_2 = (↑(valD (List.take x' (magB s))) : Int) ∧ True) ∧ True)))))))))))))))) ∧ ((decide ((↑x_0 : Int) < (↑(List.length s) : Int))) = false → ((List.length s ≤ big) → ((List.length s ≤ big) → (((decide ((↑(List.length s) : Int) < (↑(List.length s) : Int))) = true → ((I64 (0 : Int)) → ((I64 (↑(valD (List.take x_0 (magB s))) : Int)) → (I64 ((0 : Int) - (↑(valD (List.take x_0 (magB s))) : Int))) ∧ (((0 : Int) - (↑(valD (List.take x_0 (magB s))) : Int), true) = (numN s, numK s))))) ∧ ((decide ((↑(List.length s) : Int) < (↑(List.length s) : Int))) = false → (((↑(valD (List.take x_0 (magB s))) : Int), true) = (numN s, numK s))))))))))))))))))))))) (by kernel_rfl) ?_
  intro h0
  refine ⟨fun h1 => ?_, fun h1 => ?_⟩
  · simp only [bl, reduceCtorEq] at h1
    refine ⟨?_, ?_⟩
    · trivial
    refine ⟨fun h2 => ?_, fun h2 => ?_⟩
    · simp only [bl, reduceCtorEq] at h2
      refine ⟨?_, ?_⟩
      · omega
      intro h3
      refine ⟨fun h4 => ?_, fun h4 => ?_⟩
      · simp only [bl, reduceCtorEq] at h4
        (first | have hm := mag_a h1 h2 | have hm := mag_b h2 | have hm := mag_c h1); first | exact numP_len hm (by omega) | exact numP_zero hm (by omega) (by assumption) (by omega) | exact numP_bad hm (i := x_0) (by omega) (by omega)
      · simp only [bl, reduceCtorEq] at h4
        intro h5
        refine ⟨fun h6 => ?_, fun h6 => ?_⟩
        · simp only [bl, reduceCtorEq] at h6
          (first | have hm := mag_a h1 h2 | have hm := mag_b h2 | have hm := mag_c h1); first | exact numP_len hm (by omega) | exact numP_zero hm (by omega) (by assumption) (by omega) | exact numP_bad hm (i := x_0) (by omega) (by omega)
        · simp only [bl, reduceCtorEq] at h6
          refine ⟨?_, ?_⟩
          · trivial
          refine ⟨fun h7 => ?_, fun h7 => ?_⟩
          · simp only [bl, reduceCtorEq] at h7
            intro h8
            refine ⟨fun h9 => ?_, fun h9 => ?_⟩
            · simp only [bl, reduceCtorEq] at h9
              (first | have hm := mag_a h1 h2 | have hm := mag_b h2 | have hm := mag_c h1); first | exact numP_len hm (by omega) | exact numP_zero hm (by omega) (by assumption) (by omega) | exact numP_bad hm (i := x_0) (by omega) (by omega)
            · simp only [bl, reduceCtorEq] at h9
              refine ⟨?_, ?_⟩
              · exact ⟨0, ⟨by omega, fun j hj => by omega⟩, ⟨rfl, rfl, trivial⟩, trivial⟩
              intro x_0 q_0
              intro h10
              refine ⟨fun h11 => ?_, fun h11 => ?_⟩
              · simp only [bl, reduceCtorEq] at h11
                refine ⟨?_, ?_⟩
                · omega
                refine ⟨fun h12 => ?_, fun h12 => ?_⟩
                · simp only [bl, reduceCtorEq] at h12
                  (first | have hm := mag_a h1 h2 | have hm := mag_b h2 | have hm := mag_c h1); first | exact numP_len hm (by omega) | exact numP_zero hm (by omega) (by assumption) (by omega) | exact numP_bad hm (i := x_0) (by omega) (by omega)
                · simp only [bl, reduceCtorEq] at h12
                  refine ⟨?_, ?_⟩
                  · omega
                  refine ⟨fun h13 => ?_, fun h13 => ?_⟩
                  · simp only [bl, reduceCtorEq] at h13
                    (first | have hm := mag_a h1 h2 | have hm := mag_b h2 | have hm := mag_c h1); first | exact numP_len hm (by omega) | exact numP_zero hm (by omega) (by assumption) (by omega) | exact numP_bad hm (i := x_0) (by omega) (by omega)
                  · simp only [bl, reduceCtorEq] at h13
                    intro x_1 q_1
                    intro h14
                    intro h15
                    refine ⟨?_, ?_⟩
                    · (first | have hm := mag_a h1 h2 | have hm := mag_b h2 | have hm := mag_c h1); have hi : x_0 < (magB s).length := (by rw [hm]; omega); have hs := val_small17 (s := magB s) (i := x_0) hi (by rw [hm]; omega) q_0.2; simp only [I64]; omega
                    refine ⟨?_, ?_⟩
                    · omega
                    intro x_2 q_2
                    intro h16
                    intro h17
                    refine ⟨?_, ?_⟩
                    · (first | have hm := mag_a h1 h2 | have hm := mag_b h2 | have hm := mag_c h1); have hi : x_0 < (magB s).length := (by rw [hm]; omega); have hs := val_small17 (s := magB s) (i := x_0) hi (by rw [hm]; omega) q_0.2; have hn := num_step hm (i := x_0) (by omega) (by assumption) (by assumption) q_1 q_2; simp only [I64]; omega
                    intro h18
                    intro h19
                    refine ⟨?_, ?_⟩
                    · simp only [I64] at *; omega
                    (first | have hm := mag_a h1 h2 | have hm := mag_b h2 | have hm := mag_c h1)
                    have hi : x_0 < (magB s).length := (by rw [hm]; omega)
                    exact ⟨x_0 + 1, ⟨by omega, upto1 q_0.2 (by rw [hm]; exact digit_of (by assumption) (by assumption))⟩, by omega, ⟨by omega, (num_step hm (i := x_0) (by omega) (by assumption) (by assumption) q_1 q_2).1, trivial⟩, (by trivial)⟩
              · simp only [bl, reduceCtorEq] at h11
                intro h12
                intro h13
                refine ⟨fun h14 => ?_, fun h14 => ?_⟩
                · simp only [bl, reduceCtorEq] at h14
                  intro h15
                  intro h16
                  refine ⟨?_, ?_⟩
                  · simp only [I64] at *; omega
                  (first | have hm := mag_a h1 h2 | have hm := mag_b h2 | have hm := mag_c h1); first | exact numP_neg hm (by omega) (by omega) (by first | (intro; omega) | (intro h; exact absurd h (by assumption))) (i := x_0) (by omega) q_0.2 (by omega) | exact numP_pos hm (by omega) (by omega) (by first | (intro; omega) | (intro h; exact absurd h (by assumption))) (i := x_0) (by omega) q_0.2 (by omega)
                · simp only [bl, reduceCtorEq] at h14
                  (first | have hm := mag_a h1 h2 | have hm := mag_b h2 | have hm := mag_c h1); first | exact numP_neg hm (by omega) (by omega) (by first | (intro; omega) | (intro h; exact absurd h (by assumption))) (i := x_0) (by omega) q_0.2 (by omega) | exact numP_pos hm (by omega) (by omega) (by first | (intro; omega) | (intro h; exact absurd h (by assumption))) (i := x_0) (by omega) q_0.2 (by omega)
          · simp only [bl, reduceCtorEq] at h7
            refine ⟨?_, ?_⟩
            · exact ⟨0, ⟨by omega, fun j hj => by omega⟩, ⟨rfl, rfl, trivial⟩, trivial⟩
            intro x_0 q_0
            intro h8
            refine ⟨fun h9 => ?_, fun h9 => ?_⟩
            · simp only [bl, reduceCtorEq] at h9
              refine ⟨?_, ?_⟩
              · omega
              refine ⟨fun h10 => ?_, fun h10 => ?_⟩
              · simp only [bl, reduceCtorEq] at h10
                (first | have hm := mag_a h1 h2 | have hm := mag_b h2 | have hm := mag_c h1); first | exact numP_len hm (by omega) | exact numP_zero hm (by omega) (by assumption) (by omega) | exact numP_bad hm (i := x_0) (by omega) (by omega)
              · simp only [bl, reduceCtorEq] at h10
                refine ⟨?_, ?_⟩
                · omega
                refine ⟨fun h11 => ?_, fun h11 => ?_⟩
                · simp only [bl, reduceCtorEq] at h11
                  (first | have hm := mag_a h1 h2 | have hm := mag_b h2 | have hm := mag_c h1); first | exact numP_len hm (by omega) | exact numP_zero hm (by omega) (by assumption) (by omega) | exact numP_bad hm (i := x_0) (by omega) (by omega)
                · simp only [bl, reduceCtorEq] at h11
                  intro x_1 q_1
                  intro h12
                  intro h13
                  refine ⟨?_, ?_⟩
                  · (first | have hm := mag_a h1 h2 | have hm := mag_b h2 | have hm := mag_c h1); have hi : x_0 < (magB s).length := (by rw [hm]; omega); have hs := val_small17 (s := magB s) (i := x_0) hi (by rw [hm]; omega) q_0.2; simp only [I64]; omega
                  refine ⟨?_, ?_⟩
                  · omega
                  intro x_2 q_2
                  intro h14
                  intro h15
                  refine ⟨?_, ?_⟩
                  · (first | have hm := mag_a h1 h2 | have hm := mag_b h2 | have hm := mag_c h1); have hi : x_0 < (magB s).length := (by rw [hm]; omega); have hs := val_small17 (s := magB s) (i := x_0) hi (by rw [hm]; omega) q_0.2; have hn := num_step hm (i := x_0) (by omega) (by assumption) (by assumption) q_1 q_2; simp only [I64]; omega
                  intro h16
                  intro h17
                  refine ⟨?_, ?_⟩
                  · simp only [I64] at *; omega
                  (first | have hm := mag_a h1 h2 | have hm := mag_b h2 | have hm := mag_c h1)
                  have hi : x_0 < (magB s).length := (by rw [hm]; omega)
                  exact ⟨x_0 + 1, ⟨by omega, upto1 q_0.2 (by rw [hm]; exact digit_of (by assumption) (by assumption))⟩, by omega, ⟨by omega, (num_step hm (i := x_0) (by omega) (by assumption) (by assumption) q_1 q_2).1, trivial⟩, (by trivial)⟩
            · simp only [bl, reduceCtorEq] at h9
              intro h10
              intro h11
              refine ⟨fun h12 => ?_, fun h12 => ?_⟩
              · simp only [bl, reduceCtorEq] at h12
                intro h13
                intro h14
                refine ⟨?_, ?_⟩
                · simp only [I64] at *; omega
                (first | have hm := mag_a h1 h2 | have hm := mag_b h2 | have hm := mag_c h1); first | exact numP_neg hm (by omega) (by omega) (by first | (intro; omega) | (intro h; exact absurd h (by assumption))) (i := x_0) (by omega) q_0.2 (by omega) | exact numP_pos hm (by omega) (by omega) (by first | (intro; omega) | (intro h; exact absurd h (by assumption))) (i := x_0) (by omega) q_0.2 (by omega)
              · simp only [bl, reduceCtorEq] at h12
                (first | have hm := mag_a h1 h2 | have hm := mag_b h2 | have hm := mag_c h1); first | exact numP_neg hm (by omega) (by omega) (by first | (intro; omega) | (intro h; exact absurd h (by assumption))) (i := x_0) (by omega) q_0.2 (by omega) | exact numP_pos hm (by omega) (by omega) (by first | (intro; omega) | (intro h; exact absurd h (by assumption))) (i := x_0) (by omega) q_0.2 (by omega)
    · simp only [bl, reduceCtorEq] at h2
      intro h3
      refine ⟨fun h4 => ?_, fun h4 => ?_⟩
      · simp only [bl, reduceCtorEq] at h4
        (first | have hm := mag_a h1 h2 | have hm := mag_b h2 | have hm := mag_c h1); first | exact numP_len hm (by omega) | exact numP_zero hm (by omega) (by assumption) (by omega) | exact numP_bad hm (i := x_0) (by omega) (by omega)
      · simp only [bl, reduceCtorEq] at h4
        intro h5
        refine ⟨fun h6 => ?_, fun h6 => ?_⟩
        · simp only [bl, reduceCtorEq] at h6
          (first | have hm := mag_a h1 h2 | have hm := mag_b h2 | have hm := mag_c h1); first | exact numP_len hm (by omega) | exact numP_zero hm (by omega) (by assumption) (by omega) | exact numP_bad hm (i := x_0) (by omega) (by omega)
        · simp only [bl, reduceCtorEq] at h6
          refine ⟨?_, ?_⟩
          · trivial
          refine ⟨fun h7 => ?_, fun h7 => ?_⟩
          · simp only [bl, reduceCtorEq] at h7
            intro h8
            refine ⟨fun h9 => ?_, fun h9 => ?_⟩
            · simp only [bl, reduceCtorEq] at h9
              (first | have hm := mag_a h1 h2 | have hm := mag_b h2 | have hm := mag_c h1); first | exact numP_len hm (by omega) | exact numP_zero hm (by omega) (by assumption) (by omega) | exact numP_bad hm (i := x_0) (by omega) (by omega)
            · simp only [bl, reduceCtorEq] at h9
              refine ⟨?_, ?_⟩
              · exact ⟨0, ⟨by omega, fun j hj => by omega⟩, ⟨rfl, rfl, trivial⟩, trivial⟩
              intro x_0 q_0
              intro h10
              refine ⟨fun h11 => ?_, fun h11 => ?_⟩
              · simp only [bl, reduceCtorEq] at h11
                refine ⟨?_, ?_⟩
                · omega
                refine ⟨fun h12 => ?_, fun h12 => ?_⟩
                · simp only [bl, reduceCtorEq] at h12
                  (first | have hm := mag_a h1 h2 | have hm := mag_b h2 | have hm := mag_c h1); first | exact numP_len hm (by omega) | exact numP_zero hm (by omega) (by assumption) (by omega) | exact numP_bad hm (i := x_0) (by omega) (by omega)
                · simp only [bl, reduceCtorEq] at h12
                  refine ⟨?_, ?_⟩
                  · omega
                  refine ⟨fun h13 => ?_, fun h13 => ?_⟩
                  · simp only [bl, reduceCtorEq] at h13
                    (first | have hm := mag_a h1 h2 | have hm := mag_b h2 | have hm := mag_c h1); first | exact numP_len hm (by omega) | exact numP_zero hm (by omega) (by assumption) (by omega) | exact numP_bad hm (i := x_0) (by omega) (by omega)
                  · simp only [bl, reduceCtorEq] at h13
                    intro x_1 q_1
                    intro h14
                    intro h15
                    refine ⟨?_, ?_⟩
                    · (first | have hm := mag_a h1 h2 | have hm := mag_b h2 | have hm := mag_c h1); have hi : x_0 < (magB s).length := (by rw [hm]; omega); have hs := val_small17 (s := magB s) (i := x_0) hi (by rw [hm]; omega) q_0.2; simp only [I64]; omega
                    refine ⟨?_, ?_⟩
                    · omega
                    intro x_2 q_2
                    intro h16
                    intro h17
                    refine ⟨?_, ?_⟩
                    · (first | have hm := mag_a h1 h2 | have hm := mag_b h2 | have hm := mag_c h1); have hi : x_0 < (magB s).length := (by rw [hm]; omega); have hs := val_small17 (s := magB s) (i := x_0) hi (by rw [hm]; omega) q_0.2; have hn := num_step hm (i := x_0) (by omega) (by assumption) (by assumption) q_1 q_2; simp only [I64]; omega
                    intro h18
                    intro h19
                    refine ⟨?_, ?_⟩
                    · simp only [I64] at *; omega
                    (first | have hm := mag_a h1 h2 | have hm := mag_b h2 | have hm := mag_c h1)
                    have hi : x_0 < (magB s).length := (by rw [hm]; omega)
                    exact ⟨x_0 + 1, ⟨by omega, upto1 q_0.2 (by rw [hm]; exact digit_of (by assumption) (by assumption))⟩, by omega, ⟨by omega, (num_step hm (i := x_0) (by omega) (by assumption) (by assumption) q_1 q_2).1, trivial⟩, (by trivial)⟩
              · simp only [bl, reduceCtorEq] at h11
                intro h12
                intro h13
                refine ⟨fun h14 => ?_, fun h14 => ?_⟩
                · simp only [bl, reduceCtorEq] at h14
                  intro h15
                  intro h16
                  refine ⟨?_, ?_⟩
                  · simp only [I64] at *; omega
                  (first | have hm := mag_a h1 h2 | have hm := mag_b h2 | have hm := mag_c h1); first | exact numP_neg hm (by omega) (by omega) (by first | (intro; omega) | (intro h; exact absurd h (by assumption))) (i := x_0) (by omega) q_0.2 (by omega) | exact numP_pos hm (by omega) (by omega) (by first | (intro; omega) | (intro h; exact absurd h (by assumption))) (i := x_0) (by omega) q_0.2 (by omega)
                · simp only [bl, reduceCtorEq] at h14
                  (first | have hm := mag_a h1 h2 | have hm := mag_b h2 | have hm := mag_c h1); first | exact numP_neg hm (by omega) (by omega) (by first | (intro; omega) | (intro h; exact absurd h (by assumption))) (i := x_0) (by omega) q_0.2 (by omega) | exact numP_pos hm (by omega) (by omega) (by first | (intro; omega) | (intro h; exact absurd h (by assumption))) (i := x_0) (by omega) q_0.2 (by omega)
          · simp only [bl, reduceCtorEq] at h7
            refine ⟨?_, ?_⟩
            · exact ⟨0, ⟨by omega, fun j hj => by omega⟩, ⟨rfl, rfl, trivial⟩, trivial⟩
            intro x_0 q_0
            intro h8
            refine ⟨fun h9 => ?_, fun h9 => ?_⟩
            · simp only [bl, reduceCtorEq] at h9
              refine ⟨?_, ?_⟩
              · omega
              refine ⟨fun h10 => ?_, fun h10 => ?_⟩
              · simp only [bl, reduceCtorEq] at h10
                (first | have hm := mag_a h1 h2 | have hm := mag_b h2 | have hm := mag_c h1); first | exact numP_len hm (by omega) | exact numP_zero hm (by omega) (by assumption) (by omega) | exact numP_bad hm (i := x_0) (by omega) (by omega)
              · simp only [bl, reduceCtorEq] at h10
                refine ⟨?_, ?_⟩
                · omega
                refine ⟨fun h11 => ?_, fun h11 => ?_⟩
                · simp only [bl, reduceCtorEq] at h11
                  (first | have hm := mag_a h1 h2 | have hm := mag_b h2 | have hm := mag_c h1); first | exact numP_len hm (by omega) | exact numP_zero hm (by omega) (by assumption) (by omega) | exact numP_bad hm (i := x_0) (by omega) (by omega)
                · simp only [bl, reduceCtorEq] at h11
                  intro x_1 q_1
                  intro h12
                  intro h13
                  refine ⟨?_, ?_⟩
                  · (first | have hm := mag_a h1 h2 | have hm := mag_b h2 | have hm := mag_c h1); have hi : x_0 < (magB s).length := (by rw [hm]; omega); have hs := val_small17 (s := magB s) (i := x_0) hi (by rw [hm]; omega) q_0.2; simp only [I64]; omega
                  refine ⟨?_, ?_⟩
                  · omega
                  intro x_2 q_2
                  intro h14
                  intro h15
                  refine ⟨?_, ?_⟩
                  · (first | have hm := mag_a h1 h2 | have hm := mag_b h2 | have hm := mag_c h1); have hi : x_0 < (magB s).length := (by rw [hm]; omega); have hs := val_small17 (s := magB s) (i := x_0) hi (by rw [hm]; omega) q_0.2; have hn := num_step hm (i := x_0) (by omega) (by assumption) (by assumption) q_1 q_2; simp only [I64]; omega
                  intro h16
                  intro h17
                  refine ⟨?_, ?_⟩
                  · simp only [I64] at *; omega
                  (first | have hm := mag_a h1 h2 | have hm := mag_b h2 | have hm := mag_c h1)
                  have hi : x_0 < (magB s).length := (by rw [hm]; omega)
                  exact ⟨x_0 + 1, ⟨by omega, upto1 q_0.2 (by rw [hm]; exact digit_of (by assumption) (by assumption))⟩, by omega, ⟨by omega, (num_step hm (i := x_0) (by omega) (by assumption) (by assumption) q_1 q_2).1, trivial⟩, (by trivial)⟩
            · simp only [bl, reduceCtorEq] at h9
              intro h10
              intro h11
              refine ⟨fun h12 => ?_, fun h12 => ?_⟩
              · simp only [bl, reduceCtorEq] at h12
                intro h13
                intro h14
                refine ⟨?_, ?_⟩
                · simp only [I64] at *; omega
                (first | have hm := mag_a h1 h2 | have hm := mag_b h2 | have hm := mag_c h1); first | exact numP_neg hm (by omega) (by omega) (by first | (intro; omega) | (intro h; exact absurd h (by assumption))) (i := x_0) (by omega) q_0.2 (by omega) | exact numP_pos hm (by omega) (by omega) (by first | (intro; omega) | (intro h; exact absurd h (by assumption))) (i := x_0) (by omega) q_0.2 (by omega)
              · simp only [bl, reduceCtorEq] at h12
                (first | have hm := mag_a h1 h2 | have hm := mag_b h2 | have hm := mag_c h1); first | exact numP_neg hm (by omega) (by omega) (by first | (intro; omega) | (intro h; exact absurd h (by assumption))) (i := x_0) (by omega) q_0.2 (by omega) | exact numP_pos hm (by omega) (by omega) (by first | (intro; omega) | (intro h; exact absurd h (by assumption))) (i := x_0) (by omega) q_0.2 (by omega)
  · simp only [bl, reduceCtorEq] at h1
    intro h2
    refine ⟨fun h3 => ?_, fun h3 => ?_⟩
    · simp only [bl, reduceCtorEq] at h3
      (first | have hm := mag_a h1 h2 | have hm := mag_b h2 | have hm := mag_c h1); first | exact numP_len hm (by omega) | exact numP_zero hm (by omega) (by assumption) (by omega) | exact numP_bad hm (i := x_0) (by omega) (by omega)
    · simp only [bl, reduceCtorEq] at h3
      intro h4
      refine ⟨fun h5 => ?_, fun h5 => ?_⟩
      · simp only [bl, reduceCtorEq] at h5
        (first | have hm := mag_a h1 h2 | have hm := mag_b h2 | have hm := mag_c h1); first | exact numP_len hm (by omega) | exact numP_zero hm (by omega) (by assumption) (by omega) | exact numP_bad hm (i := x_0) (by omega) (by omega)
      · simp only [bl, reduceCtorEq] at h5
        refine ⟨?_, ?_⟩
        · trivial
        refine ⟨fun h6 => ?_, fun h6 => ?_⟩
        · simp only [bl, reduceCtorEq] at h6
          intro h7
          refine ⟨fun h8 => ?_, fun h8 => ?_⟩
          · simp only [bl, reduceCtorEq] at h8
            (first | have hm := mag_a h1 h2 | have hm := mag_b h2 | have hm := mag_c h1); first | exact numP_len hm (by omega) | exact numP_zero hm (by omega) (by assumption) (by omega) | exact numP_bad hm (i := x_0) (by omega) (by omega)
          · simp only [bl, reduceCtorEq] at h8
            refine ⟨?_, ?_⟩
            · exact ⟨0, ⟨by omega, fun j hj => by omega⟩, ⟨rfl, rfl, trivial⟩, trivial⟩
            intro x_0 q_0
            intro h9
            refine ⟨fun h10 => ?_, fun h10 => ?_⟩
            · simp only [bl, reduceCtorEq] at h10
              refine ⟨?_, ?_⟩
              · omega
              refine ⟨fun h11 => ?_, fun h11 => ?_⟩
              · simp only [bl, reduceCtorEq] at h11
                (first | have hm := mag_a h1 h2 | have hm := mag_b h2 | have hm := mag_c h1); first | exact numP_len hm (by omega) | exact numP_zero hm (by omega) (by assumption) (by omega) | exact numP_bad hm (i := x_0) (by omega) (by omega)
              · simp only [bl, reduceCtorEq] at h11
                refine ⟨?_, ?_⟩
                · omega
                refine ⟨fun h12 => ?_, fun h12 => ?_⟩
                · simp only [bl, reduceCtorEq] at h12
                  (first | have hm := mag_a h1 h2 | have hm := mag_b h2 | have hm := mag_c h1); first | exact numP_len hm (by omega) | exact numP_zero hm (by omega) (by assumption) (by omega) | exact numP_bad hm (i := x_0) (by omega) (by omega)
                · simp only [bl, reduceCtorEq] at h12
                  intro x_1 q_1
                  intro h13
                  intro h14
                  refine ⟨?_, ?_⟩
                  · (first | have hm := mag_a h1 h2 | have hm := mag_b h2 | have hm := mag_c h1); have hi : x_0 < (magB s).length := (by rw [hm]; omega); have hs := val_small17 (s := magB s) (i := x_0) hi (by rw [hm]; omega) q_0.2; simp only [I64]; omega
                  refine ⟨?_, ?_⟩
                  · omega
                  intro x_2 q_2
                  intro h15
                  intro h16
                  refine ⟨?_, ?_⟩
                  · (first | have hm := mag_a h1 h2 | have hm := mag_b h2 | have hm := mag_c h1); have hi : x_0 < (magB s).length := (by rw [hm]; omega); have hs := val_small17 (s := magB s) (i := x_0) hi (by rw [hm]; omega) q_0.2; have hn := num_step hm (i := x_0) (by omega) (by assumption) (by assumption) q_1 q_2; simp only [I64]; omega
                  intro h17
                  intro h18
                  refine ⟨?_, ?_⟩
                  · simp only [I64] at *; omega
                  (first | have hm := mag_a h1 h2 | have hm := mag_b h2 | have hm := mag_c h1)
                  have hi : x_0 < (magB s).length := (by rw [hm]; omega)
                  exact ⟨x_0 + 1, ⟨by omega, upto1 q_0.2 (by rw [hm]; exact digit_of (by assumption) (by assumption))⟩, by omega, ⟨by omega, (num_step hm (i := x_0) (by omega) (by assumption) (by assumption) q_1 q_2).1, trivial⟩, (by trivial)⟩
            · simp only [bl, reduceCtorEq] at h10
              intro h11
              intro h12
              refine ⟨fun h13 => ?_, fun h13 => ?_⟩
              · simp only [bl, reduceCtorEq] at h13
                intro h14
                intro h15
                refine ⟨?_, ?_⟩
                · simp only [I64] at *; omega
                (first | have hm := mag_a h1 h2 | have hm := mag_b h2 | have hm := mag_c h1); first | exact numP_neg hm (by omega) (by omega) (by first | (intro; omega) | (intro h; exact absurd h (by assumption))) (i := x_0) (by omega) q_0.2 (by omega) | exact numP_pos hm (by omega) (by omega) (by first | (intro; omega) | (intro h; exact absurd h (by assumption))) (i := x_0) (by omega) q_0.2 (by omega)
              · simp only [bl, reduceCtorEq] at h13
                (first | have hm := mag_a h1 h2 | have hm := mag_b h2 | have hm := mag_c h1); first | exact numP_neg hm (by omega) (by omega) (by first | (intro; omega) | (intro h; exact absurd h (by assumption))) (i := x_0) (by omega) q_0.2 (by omega) | exact numP_pos hm (by omega) (by omega) (by first | (intro; omega) | (intro h; exact absurd h (by assumption))) (i := x_0) (by omega) q_0.2 (by omega)
        · simp only [bl, reduceCtorEq] at h6
          refine ⟨?_, ?_⟩
          · exact ⟨0, ⟨by omega, fun j hj => by omega⟩, ⟨rfl, rfl, trivial⟩, trivial⟩
          intro x_0 q_0
          intro h7
          refine ⟨fun h8 => ?_, fun h8 => ?_⟩
          · simp only [bl, reduceCtorEq] at h8
            refine ⟨?_, ?_⟩
            · omega
            refine ⟨fun h9 => ?_, fun h9 => ?_⟩
            · simp only [bl, reduceCtorEq] at h9
              (first | have hm := mag_a h1 h2 | have hm := mag_b h2 | have hm := mag_c h1); first | exact numP_len hm (by omega) | exact numP_zero hm (by omega) (by assumption) (by omega) | exact numP_bad hm (i := x_0) (by omega) (by omega)
            · simp only [bl, reduceCtorEq] at h9
              refine ⟨?_, ?_⟩
              · omega
              refine ⟨fun h10 => ?_, fun h10 => ?_⟩
              · simp only [bl, reduceCtorEq] at h10
                (first | have hm := mag_a h1 h2 | have hm := mag_b h2 | have hm := mag_c h1); first | exact numP_len hm (by omega) | exact numP_zero hm (by omega) (by assumption) (by omega) | exact numP_bad hm (i := x_0) (by omega) (by omega)
              · simp only [bl, reduceCtorEq] at h10
                intro x_1 q_1
                intro h11
                intro h12
                refine ⟨?_, ?_⟩
                · (first | have hm := mag_a h1 h2 | have hm := mag_b h2 | have hm := mag_c h1); have hi : x_0 < (magB s).length := (by rw [hm]; omega); have hs := val_small17 (s := magB s) (i := x_0) hi (by rw [hm]; omega) q_0.2; simp only [I64]; omega
                refine ⟨?_, ?_⟩
                · omega
                intro x_2 q_2
                intro h13
                intro h14
                refine ⟨?_, ?_⟩
                · (first | have hm := mag_a h1 h2 | have hm := mag_b h2 | have hm := mag_c h1); have hi : x_0 < (magB s).length := (by rw [hm]; omega); have hs := val_small17 (s := magB s) (i := x_0) hi (by rw [hm]; omega) q_0.2; have hn := num_step hm (i := x_0) (by omega) (by assumption) (by assumption) q_1 q_2; simp only [I64]; omega
                intro h15
                intro h16
                refine ⟨?_, ?_⟩
                · simp only [I64] at *; omega
                (first | have hm := mag_a h1 h2 | have hm := mag_b h2 | have hm := mag_c h1)
                have hi : x_0 < (magB s).length := (by rw [hm]; omega)
                exact ⟨x_0 + 1, ⟨by omega, upto1 q_0.2 (by rw [hm]; exact digit_of (by assumption) (by assumption))⟩, by omega, ⟨by omega, (num_step hm (i := x_0) (by omega) (by assumption) (by assumption) q_1 q_2).1, trivial⟩, (by trivial)⟩
          · simp only [bl, reduceCtorEq] at h8
            intro h9
            intro h10
            refine ⟨fun h11 => ?_, fun h11 => ?_⟩
            · simp only [bl, reduceCtorEq] at h11
              intro h12
              intro h13
              refine ⟨?_, ?_⟩
              · simp only [I64] at *; omega
              (first | have hm := mag_a h1 h2 | have hm := mag_b h2 | have hm := mag_c h1); first | exact numP_neg hm (by omega) (by omega) (by first | (intro; omega) | (intro h; exact absurd h (by assumption))) (i := x_0) (by omega) q_0.2 (by omega) | exact numP_pos hm (by omega) (by omega) (by first | (intro; omega) | (intro h; exact absurd h (by assumption))) (i := x_0) (by omega) q_0.2 (by omega)
            · simp only [bl, reduceCtorEq] at h11
              (first | have hm := mag_a h1 h2 | have hm := mag_b h2 | have hm := mag_c h1); first | exact numP_neg hm (by omega) (by omega) (by first | (intro; omega) | (intro h; exact absurd h (by assumption))) (i := x_0) (by omega) q_0.2 (by omega) | exact numP_pos hm (by omega) (by omega) (by first | (intro; omega) | (intro h; exact absurd h (by assumption))) (i := x_0) (by omega) q_0.2 (by omega)
theorem Tryd.ok_RNumber : PureOK Tryd.prog Tryd.B.eT Tryd.X 35 [.str] [.int .i64, .bool] (fun _ => True) (fun x y => y = (fun s => (numN s, numK s)) x) :=
  pure_fn (X := Tryd.X) (ctx0 Tryd.tyOK) Tryd.func35 (by kernel_rfl) (fun x => rnumAnn x) (fun x hw hp => vc_RNumber x hw)
end Go.Proofs.YtgokjhhcfemnhaaDoor

namespace Go.Proofs.YtgokjhhcfemnhaaDoor
open Go.Vg Go.Mrl
noncomputable def Tryd.rofCtx : List (FuncId × (Bool × CSpec)) := [(34, (true, funSpec [.str] [.slice .str] (fun s => s.length ≤ 1000000) (fun s => parts 32 s))),
  (33, (true, funSpec [.str] [.slice .str, .bool] (fun s => s.length ≤ 1000000) (fun s => (linL s, linK s)))),
  (35, (true, funSpec [.str] [.int .i64, .bool] (fun _ => True) (fun s => (numN s, numK s)))),
  (10, (true, funSpec [tObject] [.int .i64] (fun _ => True) (fun o => faultO o))),
  (13, (true, funSpec [tObject] [.str, .int .i64] (fun o => faultO o = 0) (fun o => textN o)))]
theorem Tryd.rofCtxOK : CtxOK Tryd.prog Tryd.B Tryd.X Tryd.rofCtx :=
  ctx1 (callOK_of_fun Tryd.ok_RWords) (ctx1 (callOK_of_fun Tryd.ok_RLines) (ctx1 (callOK_of_fun Tryd.ok_RNumber) (ctx1 (callOK_of_fun Tryd.ok_FaultO) (ctx1 (callOK_of_fun Tryd.ok_RTextO) (ctx0 Tryd.tyOK)))))
def rofAnn (s : List UInt8) : Anns := [
  (0, fun st => { X := Nat × D tObject, inv := fun x => RunB (linL s) x.1 x.2, meas := fun x => (linL s).length - x.1, slots := fun x => [(7, sI x.1)], keep := [0, 2, 4, 6], objs := fun x => [(objOf st 6, .cells 35 [.app .str x.2.1 (objIn st (objOf st 6) 0), .app (.int .i64) x.2.2.1 (objIn st (objOf st 6) 1), .app tSymbol x.2.2.2.1 (objIn st (objOf st 6) 2), .app tTie x.2.2.2.2.1 (objIn st (objOf st 6) 3)]), (objIn st (objOf st 6) 0, .tok .str x.2.1), (objIn st (objOf st 6) 1, .tok (.int .i64) x.2.2.1), (objIn st (objOf st 6) 2, .tok tSymbol x.2.2.2.1), (objIn st (objOf st 6) 3, .tok tTie x.2.2.2.2.1)], mods := [objOf st 6, objIn st (objOf st 6) 0, objIn st (objOf st 6) 1, objIn st (objOf st 6) 2, objIn st (objOf st 6) 3] }),
  (300010, fun st => { X := List (List UInt8), inv := fun w => w = parts 32 (nth .str (linL s) (Int.toNat (tmpD (.int .i64) st 7))), meas := fun _ => 0, slots := fun w => [(8, sD (.slice .str) w)], keep := [0, 2, 3, 4, 6, 7, 29, 30, 31, 32] }),
  (400013, fun st => { X := List (List UInt8), inv := fun w => ∀ o : D tObject, lineB o (nth .str (linL s) (Int.toNat (tmpD (.int .i64) st 7))) = wordsB o (nth .str (tmpD (.slice .str) st 8) 0 == wWeak) w, meas := fun _ => 0, slots := fun w => [(8, sD (.slice .str) w)], keep := [0, 2, 3, 4, 6, 7, 9, 29, 30, 31, 32, 35, 36, 37, 38, 39, 40, 41, 42, 43, 44] }),
  (2, fun st => { X := Nat, inv := fun k => 1 ≤ k ∧ k ≤ 3 ∧ (k = 1 ∨ k ≤ List.length (tmpD (.slice .str) st 8)), meas := fun k => 3 - k, slots := fun k => [(11, sI k), (10, .s (.one (.app (.int .i64) (numsB (tmpD (.slice .str) st 8) k) (objOf st 10))))], objs := fun k => [(objOf st 10, .tok (.int .i64) (numsB (tmpD (.slice .str) st 8) k))], keep := [0, 2, 3, 4, 6, 7, 8, 9, 29, 30, 31, 32, 35, 36, 37, 38, 39, 40, 41, 42, 43, 44, 45, 46], mods := [objOf st 10] }),
  (300016, fun st => { X := Bool, inv := fun c => c = true ↔ ((tmpD (.int .i64) st 11) < List.length (tmpD (.slice .str) st 8) ∧ (tmpD (.int .i64) st 11) < 3), meas := fun _ => 0, slots := fun c => [(54, sB c)], keep := [0, 2, 3, 4, 6, 7, 8, 9, 10, 11, 29, 30, 31, 32, 35, 36, 37, 38, 39, 40, 41, 42, 43, 44, 45, 46] }),
  (300023, fun st => { X := Bool, inv := fun c => c = true ↔ (List.length (tmpD (.slice .str) st 8) = 2 ∧ nth .str (tmpD (.slice .str) st 8) 0 = wNeed), meas := fun _ => 0, slots := fun c => [(72, sB c)], keep := [0, 2, 3, 4, 6, 7, 8, 9, 10, 11, 12, 13, 29, 30, 31, 32, 35, 36, 37, 38, 39, 40, 41, 42, 43, 44, 45, 46, 47, 48, 49, 50, 51, 52, 53, 54, 55, 56, 57, 58, 59, 60, 61, 62, 63, 64, 65, 66, 67, 68, 69, 70] }),
  (300025, fun st => { X := Bool, inv := fun c => c = true ↔ (List.length (tmpD (.slice .str) st 8) = 2 ∧ nth .str (tmpD (.slice .str) st 8) 0 = wWord), meas := fun _ => 0, slots := fun c => [(90, sB c)], keep := [0, 2, 3, 4, 6, 7, 8, 9, 10, 11, 12, 13, 29, 30, 31, 32, 35, 36, 37, 38, 39, 40, 41, 42, 43, 44, 45, 46, 47, 48, 49, 50, 51, 52, 53, 54, 55, 56, 57, 58, 59, 60, 61, 62, 63, 64, 65, 66, 67, 68, 69, 70, 72, 73, 74, 75, 76, 77, 78, 79, 80, 81, 82, 83, 84, 85, 86, 87, 88, 89] }),
  (300027, fun st => { X := Bool, inv := fun c => c = true ↔ (List.length (tmpD (.slice .str) st 8) = 3 ∧ nth .str (tmpD (.slice .str) st 8) 0 = wSymbol), meas := fun _ => 0, slots := fun c => [(108, sB c)], keep := [0, 2, 3, 4, 6, 7, 8, 9, 10, 11, 12, 13, 29, 30, 31, 32, 35, 36, 37, 38, 39, 40, 41, 42, 43, 44, 45, 46, 47, 48, 49, 50, 51, 52, 53, 54, 55, 56, 57, 58, 59, 60, 61, 62, 63, 64, 65, 66, 67, 68, 69, 70, 72, 73, 74, 75, 76, 77, 78, 79, 80, 81, 82, 83, 84, 85, 86, 87, 88, 89, 90, 91, 92, 93, 94, 95, 96, 97, 98, 99, 100, 101, 102, 103, 104, 105, 106, 107] }),
  (300029, fun st => { X := Bool, inv := fun c => c = true ↔ (List.length (tmpD (.slice .str) st 8) = 3 ∧ nth .str (tmpD (.slice .str) st 8) 0 = wBase), meas := fun _ => 0, slots := fun c => [(131, sB c)], keep := [0, 2, 3, 4, 6, 7, 8, 9, 10, 11, 12, 13, 29, 30, 31, 32, 35, 36, 37, 38, 39, 40, 41, 42, 43, 44, 45, 46, 47, 48, 49, 50, 51, 52, 53, 54, 55, 56, 57, 58, 59, 60, 61, 62, 63, 64, 65, 66, 67, 68, 69, 70, 72, 73, 74, 75, 76, 77, 78, 79, 80, 81, 82, 83, 84, 85, 86, 87, 88, 89, 90, 91, 92, 93, 94, 95, 96, 97, 98, 99, 100, 101, 102, 103, 104, 105, 106, 107, 108, 109, 110, 111, 112, 113, 114, 115, 116, 117, 118, 119, 120, 121, 122, 123, 124, 125, 126, 127, 128, 129, 130] }),
  (300031, fun st => { X := Bool, inv := fun c => c = true ↔ (List.length (tmpD (.slice .str) st 8) = 4 ∧ nth .str (tmpD (.slice .str) st 8) 0 = wWhole), meas := fun _ => 0, slots := fun c => [(154, sB c)], keep := [0, 2, 3, 4, 6, 7, 8, 9, 10, 11, 12, 13, 29, 30, 31, 32, 35, 36, 37, 38, 39, 40, 41, 42, 43, 44, 45, 46, 47, 48, 49, 50, 51, 52, 53, 54, 55, 56, 57, 58, 59, 60, 61, 62, 63, 64, 65, 66, 67, 68, 69, 70, 72, 73, 74, 75, 76, 77, 78, 79, 80, 81, 82, 83, 84, 85, 86, 87, 88, 89, 90, 91, 92, 93, 94, 95, 96, 97, 98, 99, 100, 101, 102, 103, 104, 105, 106, 107, 108, 109, 110, 111, 112, 113, 114, 115, 116, 117, 118, 119, 120, 121, 122, 123, 124, 125, 126, 127, 128, 129, 130, 131, 132, 133, 134, 135, 136, 137, 138, 139, 140, 141, 142, 143, 144, 145, 146, 147, 148, 149, 150, 151, 152, 153] }),
  (300033, fun st => { X := Bool, inv := fun c => c = true ↔ (List.length (tmpD (.slice .str) st 8) = 4 ∧ nth .str (tmpD (.slice .str) st 8) 0 = wNear), meas := fun _ => 0, slots := fun c => [(180, sB c)], keep := [0, 2, 3, 4, 6, 7, 8, 9, 10, 11, 12, 13, 29, 30, 31, 32, 35, 36, 37, 38, 39, 40, 41, 42, 43, 44, 45, 46, 47, 48, 49, 50, 51, 52, 53, 54, 55, 56, 57, 58, 59, 60, 61, 62, 63, 64, 65, 66, 67, 68, 69, 70, 72, 73, 74, 75, 76, 77, 78, 79, 80, 81, 82, 83, 84, 85, 86, 87, 88, 89, 90, 91, 92, 93, 94, 95, 96, 97, 98, 99, 100, 101, 102, 103, 104, 105, 106, 107, 108, 109, 110, 111, 112, 113, 114, 115, 116, 117, 118, 119, 120, 121, 122, 123, 124, 125, 126, 127, 128, 129, 130, 131, 132, 133, 134, 135, 136, 137, 138, 139, 140, 141, 142, 143, 144, 145, 146, 147, 148, 149, 150, 151, 152, 153, 154, 155, 156, 157, 158, 159, 160, 161, 162, 163, 164, 165, 166, 167, 168, 169, 170, 171, 172, 173, 174, 175, 176, 177, 178, 179] })]
set_option maxRecDepth 100000 in
set_option maxHeartbeats 4000000 in
theorem vc_RObjectOf (s : List UInt8) (hw : wfL [.str] s) : (fnVCs Tryd.B Tryd.rofCtx Tryd.f15 (rofAnn s) [.str] [tObject, .int .i64] (fun x y => y = (fun s => objR s) x) s).holds := by
  refine holds_of (p :=
    ((List.length s ≤ big) → (((decide ((↑(List.length s) : Int) > (1200 : Int))) = true → ((([], [], [], [], ()), (2 : Int)) = objR s)) ∧ ((decide ((↑(List.length s) : Int) > (1200 : Int))) = false → (List.length s ≤ (1000000 : Nat)) ∧ (((!linK s) = true → ((([], [], [], [], ()), (4 : Int)) = objR s)) ∧ ((!linK s) = false →
    (∃ (x : Nat × List (List UInt8) × List Int × List (List UInt8 × Int × Bool × Unit) × List (Int × Int × Int × List UInt8 × Bool × Unit) × Unit), RunB (linL s) x.1 x.2 ∧ ((0 : Int) = (↑x.1 : Int) ∧ True) ∧ (@List.nil (List UInt8) = x.2.1 ∧ @List.nil Int = x.2.2.1 ∧ @List.nil (List UInt8 × Int × Bool × Unit) = x.2.2.2.1 ∧ @List.nil (Int × Int × Int × List UInt8 × Bool × Unit) = x.2.2.2.2.1 ∧ True) ∧ @List.nil (List UInt8) = x.2.1 ∧ @List.nil Int = x.2.2.1 ∧ @List.nil (List UInt8 × Int × Bool × Unit) = x.2.2.2.1 ∧ @List.nil (Int × Int × Int × List UInt8 × Bool × Unit) = x.2.2.2.2.1 ∧ True) ∧
    (∀ x_0 : Nat × List (List UInt8) × List Int × List (List UInt8 × Int × Bool × Unit) × List (Int × Int × Int × List UInt8 × Bool × Unit) × Unit, ((RunB (linL s) x_0.1 x_0.2) → ((List.length (linL s) ≤ big) → (((decide ((↑x_0.1 : Int) < (↑(List.length (linL s)) : Int))) = true → ((((0 : Int) ≤ (↑x_0.1 : Int) ∧ (↑x_0.1 : Int) < (↑(List.length (linL s)) : Int)) ∧ (List.length (nth Ty.str (linL s) x_0.1) ≤ (1000000 : Nat)) ∧
    (∃ (x' : List (List UInt8)), x' = parts (32 : UInt8) (nth Ty.str (linL s) x_0.1) ∧ (parts (32 : UInt8) (nth Ty.str (linL s) x_0.1) = x' ∧ True) ∧ (x_0.2.1 = x_0.2.1 ∧ x_0.2.2.1 = x_0.2.2.1 ∧ x_0.2.2.2.1 = x_0.2.2.2.1 ∧ x_0.2.2.2.2.1 = x_0.2.2.2.2.1 ∧ True) ∧ x_0.2.1 = x_0.2.1 ∧ x_0.2.2.1 = x_0.2.2.1 ∧ x_0.2.2.2.1 = x_0.2.2.2.1 ∧ x_0.2.2.2.2.1 = x_0.2.2.2.2.1 ∧ @List.nil (Int × Int × Int × List UInt8 × Bool × Unit) = @List.nil (Int × Int × Int × List UInt8 × Bool × Unit) ∧ @List.nil (List UInt8 × Int × Bool × Unit) = @List.nil (List UInt8 × Int × Bool × Unit) ∧ @List.nil Int = @List.nil Int ∧ @List.nil (List UInt8) = @List.nil (List UInt8) ∧ (@List.nil (List UInt8) = @List.nil (List UInt8) ∧ @List.nil Int = @List.nil Int ∧ @List.nil (List UInt8 × Int × Bool × Unit) = @List.nil (List UInt8 × Int × Bool × Unit) ∧ @List.nil (Int × Int × Int × List UInt8 × Bool × Unit) = @List.nil (Int × Int × Int × List UInt8 × Bool × Unit) ∧ True) ∧ @List.nil (Int × Int × Int × List UInt8 × Bool × Unit) = @List.nil (Int × Int × Int × List UInt8 × Bool × Unit) ∧ @List.nil (List UInt8 × Int × Bool × Unit) = @List.nil (List UInt8 × Int × Bool × Unit) ∧ @List.nil Int = @List.nil Int ∧ @List.nil (List UInt8) = @List.nil (List UInt8) ∧ True)) ∧ ((∀ x_1 : List (List UInt8), ((x_1 = parts (32 : UInt8) (nth Ty.str (linL s) x_0.1)) → ((0 : Int) ≤ (0 : Int) ∧ (0 : Int) < (↑(List.length x_1) : Int)) ∧ (((((nth Ty.str x_1 (0 : Nat) == [(119 : UInt8), 101, 97, 107]) = true →
    ((0 : Int) ≤ (1 : Int) ∧ (1 : Int) ≤ (↑(List.length x_1) : Int) ∧ (↑(List.length x_1) : Int) ≤ (↑(List.length x_1) : Int)) ∧
    (∃ (x' : List (List UInt8)), (∀ (o : List (List UInt8) × List Int × List (List UInt8 × Int × Bool × Unit) × List (Int × Int × Int × List UInt8 × Bool × Unit) × Unit), lineB o (nth Ty.str (linL s) x_0.1) = wordsB o (nth Ty.str x_1 (0 : Nat) == wWeak) x') ∧ (List.drop (1 : Nat) (List.take (List.length x_1) x_1) = x' ∧ True) ∧ (x_0.2.1 = x_0.2.1 ∧ x_0.2.2.1 = x_0.2.2.1 ∧ x_0.2.2.2.1 = x_0.2.2.2.1 ∧ x_0.2.2.2.2.1 = x_0.2.2.2.2.1 ∧ True) ∧ x_0.2.1 = x_0.2.1 ∧ x_0.2.2.1 = x_0.2.2.1 ∧ x_0.2.2.2.1 = x_0.2.2.2.1 ∧ x_0.2.2.2.2.1 = x_0.2.2.2.2.1 ∧ @List.nil (Int × Int × Int × List UInt8 × Bool × Unit) = @List.nil (Int × Int × Int × List UInt8 × Bool × Unit) ∧ @List.nil (List UInt8 × Int × Bool × Unit) = @List.nil (List UInt8 × Int × Bool × Unit) ∧ @List.nil Int = @List.nil Int ∧ @List.nil (List UInt8) = @List.nil (List UInt8) ∧ (@List.nil (List UInt8) = @List.nil (List UInt8) ∧ @List.nil Int = @List.nil Int ∧ @List.nil (List UInt8 × Int × Bool × Unit) = @List.nil (List UInt8 × Int × Bool × Unit) ∧ @List.nil (Int × Int × Int × List UInt8 × Bool × Unit) = @List.nil (Int × Int × Int × List UInt8 × Bool × Unit) ∧ True) ∧ @List.nil (Int × Int × Int × List UInt8 × Bool × Unit) = @List.nil (Int × Int × Int × List UInt8 × Bool × Unit) ∧ @List.nil (List UInt8 × Int × Bool × Unit) = @List.nil (List UInt8 × Int × Bool × Unit) ∧ @List.nil Int = @List.nil Int ∧ @List.nil (List UInt8) = @List.nil (List UInt8) ∧ True)) ∧ ((nth Ty.str x_1 (0 : Nat) == [(119 : UInt8), 101, 97, 107]) = false →
    (∃ (x' : List (List UInt8)), (∀ (o : List (List UInt8) × List Int × List (List UInt8 × Int × Bool × Unit) × List (Int × Int × Int × List UInt8 × Bool × Unit) × Unit), lineB o (nth Ty.str (linL s) x_0.1) = wordsB o (nth Ty.str x_1 (0 : Nat) == wWeak) x') ∧ (x_1 = x' ∧ True) ∧ (x_0.2.1 = x_0.2.1 ∧ x_0.2.2.1 = x_0.2.2.1 ∧ x_0.2.2.2.1 = x_0.2.2.2.1 ∧ x_0.2.2.2.2.1 = x_0.2.2.2.2.1 ∧ True) ∧ x_0.2.1 = x_0.2.1 ∧ x_0.2.2.1 = x_0.2.2.1 ∧ x_0.2.2.2.1 = x_0.2.2.2.1 ∧ x_0.2.2.2.2.1 = x_0.2.2.2.2.1 ∧ @List.nil (Int × Int × Int × List UInt8 × Bool × Unit) = @List.nil (Int × Int × Int × List UInt8 × Bool × Unit) ∧ @List.nil (List UInt8 × Int × Bool × Unit) = @List.nil (List UInt8 × Int × Bool × Unit) ∧ @List.nil Int = @List.nil Int ∧ @List.nil (List UInt8) = @List.nil (List UInt8) ∧ (@List.nil (List UInt8) = @List.nil (List UInt8) ∧ @List.nil Int = @List.nil Int ∧ @List.nil (List UInt8 × Int × Bool × Unit) = @List.nil (List UInt8 × Int × Bool × Unit) ∧ @List.nil (Int × Int × Int × List UInt8 × Bool × Unit) = @List.nil (Int × Int × Int × List UInt8 × Bool × Unit) ∧ True) ∧ @List.nil (Int × Int × Int × List UInt8 × Bool × Unit) = @List.nil (Int × Int × Int × List UInt8 × Bool × Unit) ∧ @List.nil (List UInt8 × Int × Bool × Unit) = @List.nil (List UInt8 × Int × Bool × Unit) ∧ @List.nil Int = @List.nil Int ∧ @List.nil (List UInt8) = @List.nil (List UInt8) ∧ True)))) ∧ ((∀ x_2 : List (List UInt8),
    ((∀ (o : List (List UInt8) × List Int × List (List UInt8 × Int × Bool × Unit) × List (Int × Int × Int × List UInt8 × Bool × Unit) × Unit), lineB o (nth Ty.str (linL s) x_0.1) = wordsB o (nth Ty.str x_1 (0 : Nat) == wWeak) x_2) →
    (∃ (x : Nat), ((1 : Nat) ≤ x ∧ x ≤ (3 : Nat) ∧ (x = (1 : Nat) ∨ x ≤ List.length x_2)) ∧ ((1 : Int) = (↑x : Int) ∧ @List.nil Int = numsB x_2 x ∧ True) ∧ @List.nil Int = numsB x_2 x ∧ True) ∧ (∀ x_3 : Nat, (((1 : Nat) ≤ x_3 ∧ x_3 ≤ (3 : Nat) ∧ (x_3 = (1 : Nat) ∨ x_3 ≤ List.length x_2)) → ((((List.length x_2 ≤ big) → (((decide ((↑x_3 : Int) < (↑(List.length x_2) : Int))) = true →
    (∃ (x' : Bool), (x' = true ↔ (↑x_3 : Int) < (↑(List.length x_2) : Int) ∧ (↑x_3 : Int) < (3 : Int)) ∧ (decide ((↑x_3 : Int) < (3 : Int)) = x' ∧ True) ∧ numsB x_2 x_3 = numsB x_2 x_3 ∧ (x_0.2.1 = x_0.2.1 ∧ x_0.2.2.1 = x_0.2.2.1 ∧ x_0.2.2.2.1 = x_0.2.2.2.1 ∧ x_0.2.2.2.2.1 = x_0.2.2.2.2.1 ∧ True) ∧ x_0.2.1 = x_0.2.1 ∧ x_0.2.2.1 = x_0.2.2.1 ∧ x_0.2.2.2.1 = x_0.2.2.2.1 ∧ x_0.2.2.2.2.1 = x_0.2.2.2.2.1 ∧ @List.nil (Int × Int × Int × List UInt8 × Bool × Unit) = @List.nil (Int × Int × Int × List UInt8 × Bool × Unit) ∧ @List.nil (List UInt8 × Int × Bool × Unit) = @List.nil (List UInt8 × Int × Bool × Unit) ∧ @List.nil Int = @List.nil Int ∧ @List.nil (List UInt8) = @List.nil (List UInt8) ∧ (@List.nil (List UInt8) = @List.nil (List UInt8) ∧ @List.nil Int = @List.nil Int ∧ @List.nil (List UInt8 × Int × Bool × Unit) = @List.nil (List UInt8 × Int × Bool × Unit) ∧ @List.nil (Int × Int × Int × List UInt8 × Bool × Unit) = @List.nil (Int × Int × Int × List UInt8 × Bool × Unit) ∧ True) ∧ @List.nil (Int × Int × Int × List UInt8 × Bool × Unit) = @List.nil (Int × Int × Int × List UInt8 × Bool × Unit) ∧ @List.nil (List UInt8 × Int × Bool × Unit) = @List.nil (List UInt8 × Int × Bool × Unit) ∧ @List.nil Int = @List.nil Int ∧ @List.nil (List UInt8) = @List.nil (List UInt8) ∧ True)) ∧ ((decide ((↑x_3 : Int) < (↑(List.length x_2) : Int))) = false →
    (∃ (x' : Bool), (x' = true ↔ (↑x_3 : Int) < (↑(List.length x_2) : Int) ∧ (↑x_3 : Int) < (3 : Int)) ∧ (false = x' ∧ True) ∧ numsB x_2 x_3 = numsB x_2 x_3 ∧ (x_0.2.1 = x_0.2.1 ∧ x_0.2.2.1 = x_0.2.2.1 ∧ x_0.2.2.2.1 = x_0.2.2.2.1 ∧ x_0.2.2.2.2.1 = x_0.2.2.2.2.1 ∧ True) ∧ x_0.2.1 = x_0.2.1 ∧ x_0.2.2.1 = x_0.2.2.1 ∧ x_0.2.2.2.1 = x_0.2.2.2.1 ∧ x_0.2.2.2.2.1 = x_0.2.2.2.2.1 ∧ @List.nil (Int × Int × Int × List UInt8 × Bool × Unit) = @List.nil (Int × Int × Int × List UInt8 × Bool × Unit) ∧ @List.nil (List UInt8 × Int × Bool × Unit) = @List.nil (List UInt8 × Int × Bool × Unit) ∧ @List.nil Int = @List.nil Int ∧ @List.nil (List UInt8) = @List.nil (List UInt8) ∧ (@List.nil (List UInt8) = @List.nil (List UInt8) ∧ @List.nil Int = @List.nil Int ∧ @List.nil (List UInt8 × Int × Bool × Unit) = @List.nil (List UInt8 × Int × Bool × Unit) ∧ @List.nil (Int × Int × Int × List UInt8 × Bool × Unit) = @List.nil (Int × Int × Int × List UInt8 × Bool × Unit) ∧ True) ∧ @List.nil (Int × Int × Int × List UInt8 × Bool × Unit) = @List.nil (Int × Int × Int × List UInt8 × Bool × Unit) ∧ @List.nil (List UInt8 × Int × Bool × Unit) = @List.nil (List UInt8 × Int × Bool × Unit) ∧ @List.nil Int = @List.nil Int ∧ @List.nil (List UInt8) = @List.nil (List UInt8) ∧ True))))) ∧ ((∀ x_4 : Bool, ((x_4 = true ↔ (↑x_3 : Int) < (↑(List.length x_2) : Int) ∧ (↑x_3 : Int) < (3 : Int)) → (((x_4) = true → ((0 : Int) ≤ (↑x_3 : Int) ∧ (↑x_3 : Int) < (↑(List.length x_2) : Int)) ∧ (True) ∧ (((!numK (nth Ty.str x_2 x_3)) = true →
    (numsB x_2 x_3 = numsB x_2 x_3 ∧ List.length (numsB x_2 x_3) + List.length [(-1099511627776 : Int)] ≤ (1000000000 : Nat)) ∧ ((I64 (↑x_3 : Int)) → ((I64 (1 : Int)) → (I64 ((↑x_3 : Int) + (1 : Int))) ∧
    (∃ (x' : Nat), ((1 : Nat) ≤ x' ∧ x' ≤ (3 : Nat) ∧ (x' = (1 : Nat) ∨ x' ≤ List.length x_2)) ∧ (3 : Nat) - x' < (3 : Nat) - x_3 ∧ ((↑x_3 : Int) + (1 : Int) = (↑x' : Int) ∧ numsB x_2 x_3 ++ [(-1099511627776 : Int)] = numsB x_2 x' ∧ True) ∧ numsB x_2 x_3 ++ [(-1099511627776 : Int)] = numsB x_2 x' ∧ (x_0.2.1 = x_0.2.1 ∧ x_0.2.2.1 = x_0.2.2.1 ∧ x_0.2.2.2.1 = x_0.2.2.2.1 ∧ x_0.2.2.2.2.1 = x_0.2.2.2.2.1 ∧ True) ∧ x_0.2.1 = x_0.2.1 ∧ x_0.2.2.1 = x_0.2.2.1 ∧ x_0.2.2.2.1 = x_0.2.2.2.1 ∧ x_0.2.2.2.2.1 = x_0.2.2.2.2.1 ∧ @List.nil (Int × Int × Int × List UInt8 × Bool × Unit) = @List.nil (Int × Int × Int × List UInt8 × Bool × Unit) ∧ @List.nil (List UInt8 × Int × Bool × Unit) = @List.nil (List UInt8 × Int × Bool × Unit) ∧ @List.nil Int = @List.nil Int ∧ @List.nil (List UInt8) = @List.nil (List UInt8) ∧ (@List.nil (List UInt8) = @List.nil (List UInt8) ∧ @List.nil Int = @List.nil Int ∧ @List.nil (List UInt8 × Int × Bool × Unit) = @List.nil (List UInt8 × Int × Bool × Unit) ∧ @List.nil (Int × Int × Int × List UInt8 × Bool × Unit) = @List.nil (Int × Int × Int × List UInt8 × Bool × Unit) ∧ True) ∧ @List.nil (Int × Int × Int × List UInt8 × Bool × Unit) = @List.nil (Int × Int × Int × List UInt8 × Bool × Unit) ∧ @List.nil (List UInt8 × Int × Bool × Unit) = @List.nil (List UInt8 × Int × Bool × Unit) ∧ @List.nil Int = @List.nil Int ∧ @List.nil (List UInt8) = @List.nil (List UInt8) ∧ True)))) ∧ ((!numK (nth Ty.str x_2 x_3)) = false →
    (numsB x_2 x_3 = numsB x_2 x_3 ∧ List.length (numsB x_2 x_3) + List.length [numN (nth Ty.str x_2 x_3)] ≤ (1000000000 : Nat)) ∧ ((I64 (↑x_3 : Int)) → ((I64 (1 : Int)) → (I64 ((↑x_3 : Int) + (1 : Int))) ∧
    (∃ (x' : Nat), ((1 : Nat) ≤ x' ∧ x' ≤ (3 : Nat) ∧ (x' = (1 : Nat) ∨ x' ≤ List.length x_2)) ∧ (3 : Nat) - x' < (3 : Nat) - x_3 ∧ ((↑x_3 : Int) + (1 : Int) = (↑x' : Int) ∧ numsB x_2 x_3 ++ [numN (nth Ty.str x_2 x_3)] = numsB x_2 x' ∧ True) ∧ numsB x_2 x_3 ++ [numN (nth Ty.str x_2 x_3)] = numsB x_2 x' ∧ (x_0.2.1 = x_0.2.1 ∧ x_0.2.2.1 = x_0.2.2.1 ∧ x_0.2.2.2.1 = x_0.2.2.2.1 ∧ x_0.2.2.2.2.1 = x_0.2.2.2.2.1 ∧ True) ∧ x_0.2.1 = x_0.2.1 ∧ x_0.2.2.1 = x_0.2.2.1 ∧ x_0.2.2.2.1 = x_0.2.2.2.1 ∧ x_0.2.2.2.2.1 = x_0.2.2.2.2.1 ∧ @List.nil (Int × Int × Int × List UInt8 × Bool × Unit) = @List.nil (Int × Int × Int × List UInt8 × Bool × Unit) ∧ @List.nil (List UInt8 × Int × Bool × Unit) = @List.nil (List UInt8 × Int × Bool × Unit) ∧ @List.nil Int = @List.nil Int ∧ @List.nil (List UInt8) = @List.nil (List UInt8) ∧ (@List.nil (List UInt8) = @List.nil (List UInt8) ∧ @List.nil Int = @List.nil Int ∧ @List.nil (List UInt8 × Int × Bool × Unit) = @List.nil (List UInt8 × Int × Bool × Unit) ∧ @List.nil (Int × Int × Int × List UInt8 × Bool × Unit) = @List.nil (Int × Int × Int × List UInt8 × Bool × Unit) ∧ True) ∧ @List.nil (Int × Int × Int × List UInt8 × Bool × Unit) = @List.nil (Int × Int × Int × List UInt8 × Bool × Unit) ∧ @List.nil (List UInt8 × Int × Bool × Unit) = @List.nil (List UInt8 × Int × Bool × Unit) ∧ @List.nil Int = @List.nil Int ∧ @List.nil (List UInt8) = @List.nil (List UInt8) ∧ True)))))) ∧ ((x_4) = false → ((((List.length x_2 ≤ big) → ((((↑(List.length x_2) : Int) == (2 : Int)) = true → ((0 : Int) ≤ (0 : Int) ∧ (0 : Int) < (↑(List.length x_2) : Int)) ∧
    (∃ (x' : Bool), (x' = true ↔ List.length x_2 = (2 : Nat) ∧ nth Ty.str x_2 (0 : Nat) = wNeed) ∧ ((nth Ty.str x_2 (0 : Nat) == [(110 : UInt8), 101, 101, 100]) = x' ∧ True) ∧ numsB x_2 x_3 = numsB x_2 x_3 ∧ (x_0.2.1 = x_0.2.1 ∧ x_0.2.2.1 = x_0.2.2.1 ∧ x_0.2.2.2.1 = x_0.2.2.2.1 ∧ x_0.2.2.2.2.1 = x_0.2.2.2.2.1 ∧ True) ∧ x_0.2.1 = x_0.2.1 ∧ x_0.2.2.1 = x_0.2.2.1 ∧ x_0.2.2.2.1 = x_0.2.2.2.1 ∧ x_0.2.2.2.2.1 = x_0.2.2.2.2.1 ∧ @List.nil (Int × Int × Int × List UInt8 × Bool × Unit) = @List.nil (Int × Int × Int × List UInt8 × Bool × Unit) ∧ @List.nil (List UInt8 × Int × Bool × Unit) = @List.nil (List UInt8 × Int × Bool × Unit) ∧ @List.nil Int = @List.nil Int ∧ @List.nil (List UInt8) = @List.nil (List UInt8) ∧ (@List.nil (List UInt8) = @List.nil (List UInt8) ∧ @List.nil Int = @List.nil Int ∧ @List.nil (List UInt8 × Int × Bool × Unit) = @List.nil (List UInt8 × Int × Bool × Unit) ∧ @List.nil (Int × Int × Int × List UInt8 × Bool × Unit) = @List.nil (Int × Int × Int × List UInt8 × Bool × Unit) ∧ True) ∧ @List.nil (Int × Int × Int × List UInt8 × Bool × Unit) = @List.nil (Int × Int × Int × List UInt8 × Bool × Unit) ∧ @List.nil (List UInt8 × Int × Bool × Unit) = @List.nil (List UInt8 × Int × Bool × Unit) ∧ @List.nil Int = @List.nil Int ∧ @List.nil (List UInt8) = @List.nil (List UInt8) ∧ True)) ∧ (((↑(List.length x_2) : Int) == (2 : Int)) = false →
    (∃ (x' : Bool), (x' = true ↔ List.length x_2 = (2 : Nat) ∧ nth Ty.str x_2 (0 : Nat) = wNeed) ∧ (false = x' ∧ True) ∧ numsB x_2 x_3 = numsB x_2 x_3 ∧ (x_0.2.1 = x_0.2.1 ∧ x_0.2.2.1 = x_0.2.2.1 ∧ x_0.2.2.2.1 = x_0.2.2.2.1 ∧ x_0.2.2.2.2.1 = x_0.2.2.2.2.1 ∧ True) ∧ x_0.2.1 = x_0.2.1 ∧ x_0.2.2.1 = x_0.2.2.1 ∧ x_0.2.2.2.1 = x_0.2.2.2.1 ∧ x_0.2.2.2.2.1 = x_0.2.2.2.2.1 ∧ @List.nil (Int × Int × Int × List UInt8 × Bool × Unit) = @List.nil (Int × Int × Int × List UInt8 × Bool × Unit) ∧ @List.nil (List UInt8 × Int × Bool × Unit) = @List.nil (List UInt8 × Int × Bool × Unit) ∧ @List.nil Int = @List.nil Int ∧ @List.nil (List UInt8) = @List.nil (List UInt8) ∧ (@List.nil (List UInt8) = @List.nil (List UInt8) ∧ @List.nil Int = @List.nil Int ∧ @List.nil (List UInt8 × Int × Bool × Unit) = @List.nil (List UInt8 × Int × Bool × Unit) ∧ @List.nil (Int × Int × Int × List UInt8 × Bool × Unit) = @List.nil (Int × Int × Int × List UInt8 × Bool × Unit) ∧ True) ∧ @List.nil (Int × Int × Int × List UInt8 × Bool × Unit) = @List.nil (Int × Int × Int × List UInt8 × Bool × Unit) ∧ @List.nil (List UInt8 × Int × Bool × Unit) = @List.nil (List UInt8 × Int × Bool × Unit) ∧ @List.nil Int = @List.nil Int ∧ @List.nil (List UInt8) = @List.nil (List UInt8) ∧ True))))) ∧ ((∀ x_5 : Bool, ((x_5 = true ↔ List.length x_2 = (2 : Nat) ∧ nth Ty.str x_2 (0 : Nat) = wNeed) → (((x_5) = true → ((0 : Int) ≤ (1 : Int) ∧ (1 : Int) < (↑(List.length x_2) : Int)) ∧ (x_0.2.1 = x_0.2.1 ∧ List.length x_0.2.1 + List.length [nth Ty.str x_2 (1 : Nat)] ≤ (1000000000 : Nat)) ∧ ((I64 (↑x_0.1 : Int)) → ((I64 (1 : Int)) → (I64 ((↑x_0.1 : Int) + (1 : Int))) ∧
    (∃ (x' : Nat × List (List UInt8) × List Int × List (List UInt8 × Int × Bool × Unit) × List (Int × Int × Int × List UInt8 × Bool × Unit) × Unit), RunB (linL s) x'.1 x'.2 ∧ List.length (linL s) - x'.1 < List.length (linL s) - x_0.1 ∧ ((↑x_0.1 : Int) + (1 : Int) = (↑x'.1 : Int) ∧ True) ∧ (x_0.2.1 ++ [nth Ty.str x_2 (1 : Nat)] = x'.2.1 ∧ x_0.2.2.1 = x'.2.2.1 ∧ x_0.2.2.2.1 = x'.2.2.2.1 ∧ x_0.2.2.2.2.1 = x'.2.2.2.2.1 ∧ True) ∧ x_0.2.1 ++ [nth Ty.str x_2 (1 : Nat)] = x'.2.1 ∧ x_0.2.2.1 = x'.2.2.1 ∧ x_0.2.2.2.1 = x'.2.2.2.1 ∧ x_0.2.2.2.2.1 = x'.2.2.2.2.1 ∧ @List.nil (Int × Int × Int × List UInt8 × Bool × Unit) = @List.nil (Int × Int × Int × List UInt8 × Bool × Unit) ∧ @List.nil (List UInt8 × Int × Bool × Unit) = @List.nil (List UInt8 × Int × Bool × Unit) ∧ @List.nil Int = @List.nil Int ∧ @List.nil (List UInt8) = @List.nil (List UInt8) ∧ (@List.nil (List UInt8) = @List.nil (List UInt8) ∧ @List.nil Int = @List.nil Int ∧ @List.nil (List UInt8 × Int × Bool × Unit) = @List.nil (List UInt8 × Int × Bool × Unit) ∧ @List.nil (Int × Int × Int × List UInt8 × Bool × Unit) = @List.nil (Int × Int × Int × List UInt8 × Bool × Unit) ∧ True) ∧ @List.nil (Int × Int × Int × List UInt8 × Bool × Unit) = @List.nil (Int × Int × Int × List UInt8 × Bool × Unit) ∧ @List.nil (List UInt8 × Int × Bool × Unit) = @List.nil (List UInt8 × Int × Bool × Unit) ∧ @List.nil Int = @List.nil Int ∧ @List.nil (List UInt8) = @List.nil (List UInt8) ∧ True)))) ∧ ((x_5) = false → ((((List.length x_2 ≤ big) → ((((↑(List.length x_2) : Int) == (2 : Int)) = true → ((0 : Int) ≤ (0 : Int) ∧ (0 : Int) < (↑(List.length x_2) : Int)) ∧
    (∃ (x' : Bool), (x' = true ↔ List.length x_2 = (2 : Nat) ∧ nth Ty.str x_2 (0 : Nat) = wWord) ∧ ((nth Ty.str x_2 (0 : Nat) == [(119 : UInt8), 111, 114, 100]) = x' ∧ True) ∧ numsB x_2 x_3 = numsB x_2 x_3 ∧ (x_0.2.1 = x_0.2.1 ∧ x_0.2.2.1 = x_0.2.2.1 ∧ x_0.2.2.2.1 = x_0.2.2.2.1 ∧ x_0.2.2.2.2.1 = x_0.2.2.2.2.1 ∧ True) ∧ x_0.2.1 = x_0.2.1 ∧ x_0.2.2.1 = x_0.2.2.1 ∧ x_0.2.2.2.1 = x_0.2.2.2.1 ∧ x_0.2.2.2.2.1 = x_0.2.2.2.2.1 ∧ @List.nil (Int × Int × Int × List UInt8 × Bool × Unit) = @List.nil (Int × Int × Int × List UInt8 × Bool × Unit) ∧ @List.nil (List UInt8 × Int × Bool × Unit) = @List.nil (List UInt8 × Int × Bool × Unit) ∧ @List.nil Int = @List.nil Int ∧ @List.nil (List UInt8) = @List.nil (List UInt8) ∧ (@List.nil (List UInt8) = @List.nil (List UInt8) ∧ @List.nil Int = @List.nil Int ∧ @List.nil (List UInt8 × Int × Bool × Unit) = @List.nil (List UInt8 × Int × Bool × Unit) ∧ @List.nil (Int × Int × Int × List UInt8 × Bool × Unit) = @List.nil (Int × Int × Int × List UInt8 × Bool × Unit) ∧ True) ∧ @List.nil (Int × Int × Int × List UInt8 × Bool × Unit) = @List.nil (Int × Int × Int × List UInt8 × Bool × Unit) ∧ @List.nil (List UInt8 × Int × Bool × Unit) = @List.nil (List UInt8 × Int × Bool × Unit) ∧ @List.nil Int = @List.nil Int ∧ @List.nil (List UInt8) = @List.nil (List UInt8) ∧ True)) ∧ (((↑(List.length x_2) : Int) == (2 : Int)) = false →
    (∃ (x' : Bool), (x' = true ↔ List.length x_2 = (2 : Nat) ∧ nth Ty.str x_2 (0 : Nat) = wWord) ∧ (false = x' ∧ True) ∧ numsB x_2 x_3 = numsB x_2 x_3 ∧ (x_0.2.1 = x_0.2.1 ∧ x_0.2.2.1 = x_0.2.2.1 ∧ x_0.2.2.2.1 = x_0.2.2.2.1 ∧ x_0.2.2.2.2.1 = x_0.2.2.2.2.1 ∧ True) ∧ x_0.2.1 = x_0.2.1 ∧ x_0.2.2.1 = x_0.2.2.1 ∧ x_0.2.2.2.1 = x_0.2.2.2.1 ∧ x_0.2.2.2.2.1 = x_0.2.2.2.2.1 ∧ @List.nil (Int × Int × Int × List UInt8 × Bool × Unit) = @List.nil (Int × Int × Int × List UInt8 × Bool × Unit) ∧ @List.nil (List UInt8 × Int × Bool × Unit) = @List.nil (List UInt8 × Int × Bool × Unit) ∧ @List.nil Int = @List.nil Int ∧ @List.nil (List UInt8) = @List.nil (List UInt8) ∧ (@List.nil (List UInt8) = @List.nil (List UInt8) ∧ @List.nil Int = @List.nil Int ∧ @List.nil (List UInt8 × Int × Bool × Unit) = @List.nil (List UInt8 × Int × Bool × Unit) ∧ @List.nil (Int × Int × Int × List UInt8 × Bool × Unit) = @List.nil (Int × Int × Int × List UInt8 × Bool × Unit) ∧ True) ∧ @List.nil (Int × Int × Int × List UInt8 × Bool × Unit) = @List.nil (Int × Int × Int × List UInt8 × Bool × Unit) ∧ @List.nil (List UInt8 × Int × Bool × Unit) = @List.nil (List UInt8 × Int × Bool × Unit) ∧ @List.nil Int = @List.nil Int ∧ @List.nil (List UInt8) = @List.nil (List UInt8) ∧ True))))) ∧ ((∀ x_6 : Bool, ((x_6 = true ↔ List.length x_2 = (2 : Nat) ∧ nth Ty.str x_2 (0 : Nat) = wWord) → (((x_6) = true → ((0 : Int) ≤ (0 : Int) ∧ (0 : Int) < (↑(List.length (numsB x_2 x_3)) : Int)) ∧
    (x_0.2.2.1 = x_0.2.2.1 ∧ List.length x_0.2.2.1 + List.length [nth (Ty.int IntKind.i64) (numsB x_2 x_3) (0 : Nat)] ≤ (1000000000 : Nat)) ∧ ((I64 (↑x_0.1 : Int)) → ((I64 (1 : Int)) → (I64 ((↑x_0.1 : Int) + (1 : Int))) ∧
    (∃ (x' : Nat × List (List UInt8) × List Int × List (List UInt8 × Int × Bool × Unit) × List (Int × Int × Int × List UInt8 × Bool × Unit) × Unit), RunB (linL s) x'.1 x'.2 ∧ List.length (linL s) - x'.1 < List.length (linL s) - x_0.1 ∧ ((↑x_0.1 : Int) + (1 : Int) = (↑x'.1 : Int) ∧ True) ∧ (x_0.2.1 = x'.2.1 ∧ x_0.2.2.1 ++ [nth (Ty.int IntKind.i64) (numsB x_2 x_3) (0 : Nat)] = x'.2.2.1 ∧ x_0.2.2.2.1 = x'.2.2.2.1 ∧ x_0.2.2.2.2.1 = x'.2.2.2.2.1 ∧ True) ∧ x_0.2.1 = x'.2.1 ∧ x_0.2.2.1 ++ [nth (Ty.int IntKind.i64) (numsB x_2 x_3) (0 : Nat)] = x'.2.2.1 ∧ x_0.2.2.2.1 = x'.2.2.2.1 ∧ x_0.2.2.2.2.1 = x'.2.2.2.2.1 ∧ @List.nil (Int × Int × Int × List UInt8 × Bool × Unit) = @List.nil (Int × Int × Int × List UInt8 × Bool × Unit) ∧ @List.nil (List UInt8 × Int × Bool × Unit) = @List.nil (List UInt8 × Int × Bool × Unit) ∧ @List.nil Int = @List.nil Int ∧ @List.nil (List UInt8) = @List.nil (List UInt8) ∧ (@List.nil (List UInt8) = @List.nil (List UInt8) ∧ @List.nil Int = @List.nil Int ∧ @List.nil (List UInt8 × Int × Bool × Unit) = @List.nil (List UInt8 × Int × Bool × Unit) ∧ @List.nil (Int × Int × Int × List UInt8 × Bool × Unit) = @List.nil (Int × Int × Int × List UInt8 × Bool × Unit) ∧ True) ∧ @List.nil (Int × Int × Int × List UInt8 × Bool × Unit) = @List.nil (Int × Int × Int × List UInt8 × Bool × Unit) ∧ @List.nil (List UInt8 × Int × Bool × Unit) = @List.nil (List UInt8 × Int × Bool × Unit) ∧ @List.nil Int = @List.nil Int ∧ @List.nil (List UInt8) = @List.nil (List UInt8) ∧ True)))) ∧ ((x_6) = false → ((((List.length x_2 ≤ big) → ((((↑(List.length x_2) : Int) == (3 : Int)) = true → ((0 : Int) ≤ (0 : Int) ∧ (0 : Int) < (↑(List.length x_2) : Int)) ∧
    (∃ (x' : Bool), (x' = true ↔ List.length x_2 = (3 : Nat) ∧ nth Ty.str x_2 (0 : Nat) = wSymbol) ∧ ((nth Ty.str x_2 (0 : Nat) == [(115 : UInt8), 121, 109, 98, 111, 108]) = x' ∧ True) ∧ numsB x_2 x_3 = numsB x_2 x_3 ∧ (x_0.2.1 = x_0.2.1 ∧ x_0.2.2.1 = x_0.2.2.1 ∧ x_0.2.2.2.1 = x_0.2.2.2.1 ∧ x_0.2.2.2.2.1 = x_0.2.2.2.2.1 ∧ True) ∧ x_0.2.1 = x_0.2.1 ∧ x_0.2.2.1 = x_0.2.2.1 ∧ x_0.2.2.2.1 = x_0.2.2.2.1 ∧ x_0.2.2.2.2.1 = x_0.2.2.2.2.1 ∧ @List.nil (Int × Int × Int × List UInt8 × Bool × Unit) = @List.nil (Int × Int × Int × List UInt8 × Bool × Unit) ∧ @List.nil (List UInt8 × Int × Bool × Unit) = @List.nil (List UInt8 × Int × Bool × Unit) ∧ @List.nil Int = @List.nil Int ∧ @List.nil (List UInt8) = @List.nil (List UInt8) ∧ (@List.nil (List UInt8) = @List.nil (List UInt8) ∧ @List.nil Int = @List.nil Int ∧ @List.nil (List UInt8 × Int × Bool × Unit) = @List.nil (List UInt8 × Int × Bool × Unit) ∧ @List.nil (Int × Int × Int × List UInt8 × Bool × Unit) = @List.nil (Int × Int × Int × List UInt8 × Bool × Unit) ∧ True) ∧ @List.nil (Int × Int × Int × List UInt8 × Bool × Unit) = @List.nil (Int × Int × Int × List UInt8 × Bool × Unit) ∧ @List.nil (List UInt8 × Int × Bool × Unit) = @List.nil (List UInt8 × Int × Bool × Unit) ∧ @List.nil Int = @List.nil Int ∧ @List.nil (List UInt8) = @List.nil (List UInt8) ∧ True)) ∧ (((↑(List.length x_2) : Int) == (3 : Int)) = false →
    (∃ (x' : Bool), (x' = true ↔ List.length x_2 = (3 : Nat) ∧ nth Ty.str x_2 (0 : Nat) = wSymbol) ∧ (false = x' ∧ True) ∧ numsB x_2 x_3 = numsB x_2 x_3 ∧ (x_0.2.1 = x_0.2.1 ∧ x_0.2.2.1 = x_0.2.2.1 ∧ x_0.2.2.2.1 = x_0.2.2.2.1 ∧ x_0.2.2.2.2.1 = x_0.2.2.2.2.1 ∧ True) ∧ x_0.2.1 = x_0.2.1 ∧ x_0.2.2.1 = x_0.2.2.1 ∧ x_0.2.2.2.1 = x_0.2.2.2.1 ∧ x_0.2.2.2.2.1 = x_0.2.2.2.2.1 ∧ @List.nil (Int × Int × Int × List UInt8 × Bool × Unit) = @List.nil (Int × Int × Int × List UInt8 × Bool × Unit) ∧ @List.nil (List UInt8 × Int × Bool × Unit) = @List.nil (List UInt8 × Int × Bool × Unit) ∧ @List.nil Int = @List.nil Int ∧ @List.nil (List UInt8) = @List.nil (List UInt8) ∧ (@List.nil (List UInt8) = @List.nil (List UInt8) ∧ @List.nil Int = @List.nil Int ∧ @List.nil (List UInt8 × Int × Bool × Unit) = @List.nil (List UInt8 × Int × Bool × Unit) ∧ @List.nil (Int × Int × Int × List UInt8 × Bool × Unit) = @List.nil (Int × Int × Int × List UInt8 × Bool × Unit) ∧ True) ∧ @List.nil (Int × Int × Int × List UInt8 × Bool × Unit) = @List.nil (Int × Int × Int × List UInt8 × Bool × Unit) ∧ @List.nil (List UInt8 × Int × Bool × Unit) = @List.nil (List UInt8 × Int × Bool × Unit) ∧ @List.nil Int = @List.nil Int ∧ @List.nil (List UInt8) = @List.nil (List UInt8) ∧ True))))) ∧ ((∀ x_7 : Bool, ((x_7 = true ↔ List.length x_2 = (3 : Nat) ∧ nth Ty.str x_2 (0 : Nat) = wSymbol) → (((x_7) = true → ((0 : Int) ≤ (1 : Int) ∧ (1 : Int) < (↑(List.length x_2) : Int)) ∧ ((0 : Int) ≤ (1 : Int) ∧ (1 : Int) < (↑(List.length (numsB x_2 x_3)) : Int)) ∧
    (x_0.2.2.2.1 = x_0.2.2.2.1 ∧ List.length x_0.2.2.2.1 + List.length [(nth Ty.str x_2 (1 : Nat), nth (Ty.int IntKind.i64) (numsB x_2 x_3) (1 : Nat), nth Ty.str x_1 (0 : Nat) == [(119 : UInt8), 101, 97, 107], ())] ≤ (1000000000 : Nat)) ∧ ((I64 (↑x_0.1 : Int)) → ((I64 (1 : Int)) → (I64 ((↑x_0.1 : Int) + (1 : Int))) ∧
    (∃ (x' : Nat × List (List UInt8) × List Int × List (List UInt8 × Int × Bool × Unit) × List (Int × Int × Int × List UInt8 × Bool × Unit) × Unit), RunB (linL s) x'.1 x'.2 ∧ List.length (linL s) - x'.1 < List.length (linL s) - x_0.1 ∧ ((↑x_0.1 : Int) + (1 : Int) = (↑x'.1 : Int) ∧ True) ∧ (x_0.2.1 = x'.2.1 ∧ x_0.2.2.1 = x'.2.2.1 ∧ x_0.2.2.2.1 ++ [(nth Ty.str x_2 (1 : Nat), nth (Ty.int IntKind.i64) (numsB x_2 x_3) (1 : Nat), nth Ty.str x_1 (0 : Nat) == [(119 : UInt8), 101, 97, 107], ())] = x'.2.2.2.1 ∧ x_0.2.2.2.2.1 = x'.2.2.2.2.1 ∧ True) ∧ x_0.2.1 = x'.2.1 ∧ x_0.2.2.1 = x'.2.2.1 ∧ x_0.2.2.2.1 ++ [(nth Ty.str x_2 (1 : Nat), nth (Ty.int IntKind.i64) (numsB x_2 x_3) (1 : Nat), nth Ty.str x_1 (0 : Nat) == [(119 : UInt8), 101, 97, 107], ())] = x'.2.2.2.1 ∧ x_0.2.2.2.2.1 = x'.2.2.2.2.1 ∧ @List.nil (Int × Int × Int × List UInt8 × Bool × Unit) = @List.nil (Int × Int × Int × List UInt8 × Bool × Unit) ∧ @List.nil (List UInt8 × Int × Bool × Unit) = @List.nil (List UInt8 × Int × Bool × Unit) ∧ @List.nil Int = @List.nil Int ∧ @List.nil (List UInt8) = @List.nil (List UInt8) ∧ (@List.nil (List UInt8) = @List.nil (List UInt8) ∧ @List.nil Int = @List.nil Int ∧ @List.nil (List UInt8 × Int × Bool × Unit) = @List.nil (List UInt8 × Int × Bool × Unit) ∧ @List.nil (Int × Int × Int × List UInt8 × Bool × Unit) = @List.nil (Int × Int × Int × List UInt8 × Bool × Unit) ∧ True) ∧ @List.nil (Int × Int × Int × List UInt8 × Bool × Unit) = @List.nil (Int × Int × Int × List UInt8 × Bool × Unit) ∧ @List.nil (List UInt8 × Int × Bool × Unit) = @List.nil (List UInt8 × Int × Bool × Unit) ∧ @List.nil Int = @List.nil Int ∧ @List.nil (List UInt8) = @List.nil (List UInt8) ∧ True)))) ∧ ((x_7) = false → ((((List.length x_2 ≤ big) → ((((↑(List.length x_2) : Int) == (3 : Int)) = true → ((0 : Int) ≤ (0 : Int) ∧ (0 : Int) < (↑(List.length x_2) : Int)) ∧
    (∃ (x' : Bool), (x' = true ↔ List.length x_2 = (3 : Nat) ∧ nth Ty.str x_2 (0 : Nat) = wBase) ∧ ((nth Ty.str x_2 (0 : Nat) == [(98 : UInt8), 97, 115, 101]) = x' ∧ True) ∧ numsB x_2 x_3 = numsB x_2 x_3 ∧ (x_0.2.1 = x_0.2.1 ∧ x_0.2.2.1 = x_0.2.2.1 ∧ x_0.2.2.2.1 = x_0.2.2.2.1 ∧ x_0.2.2.2.2.1 = x_0.2.2.2.2.1 ∧ True) ∧ x_0.2.1 = x_0.2.1 ∧ x_0.2.2.1 = x_0.2.2.1 ∧ x_0.2.2.2.1 = x_0.2.2.2.1 ∧ x_0.2.2.2.2.1 = x_0.2.2.2.2.1 ∧ @List.nil (Int × Int × Int × List UInt8 × Bool × Unit) = @List.nil (Int × Int × Int × List UInt8 × Bool × Unit) ∧ @List.nil (List UInt8 × Int × Bool × Unit) = @List.nil (List UInt8 × Int × Bool × Unit) ∧ @List.nil Int = @List.nil Int ∧ @List.nil (List UInt8) = @List.nil (List UInt8) ∧ (@List.nil (List UInt8) = @List.nil (List UInt8) ∧ @List.nil Int = @List.nil Int ∧ @List.nil (List UInt8 × Int × Bool × Unit) = @List.nil (List UInt8 × Int × Bool × Unit) ∧ @List.nil (Int × Int × Int × List UInt8 × Bool × Unit) = @List.nil (Int × Int × Int × List UInt8 × Bool × Unit) ∧ True) ∧ @List.nil (Int × Int × Int × List UInt8 × Bool × Unit) = @List.nil (Int × Int × Int × List UInt8 × Bool × Unit) ∧ @List.nil (List UInt8 × Int × Bool × Unit) = @List.nil (List UInt8 × Int × Bool × Unit) ∧ @List.nil Int = @List.nil Int ∧ @List.nil (List UInt8) = @List.nil (List UInt8) ∧ True)) ∧ (((↑(List.length x_2) : Int) == (3 : Int)) = false →
    (∃ (x' : Bool), (x' = true ↔ List.length x_2 = (3 : Nat) ∧ nth Ty.str x_2 (0 : Nat) = wBase) ∧ (false = x' ∧ True) ∧ numsB x_2 x_3 = numsB x_2 x_3 ∧ (x_0.2.1 = x_0.2.1 ∧ x_0.2.2.1 = x_0.2.2.1 ∧ x_0.2.2.2.1 = x_0.2.2.2.1 ∧ x_0.2.2.2.2.1 = x_0.2.2.2.2.1 ∧ True) ∧ x_0.2.1 = x_0.2.1 ∧ x_0.2.2.1 = x_0.2.2.1 ∧ x_0.2.2.2.1 = x_0.2.2.2.1 ∧ x_0.2.2.2.2.1 = x_0.2.2.2.2.1 ∧ @List.nil (Int × Int × Int × List UInt8 × Bool × Unit) = @List.nil (Int × Int × Int × List UInt8 × Bool × Unit) ∧ @List.nil (List UInt8 × Int × Bool × Unit) = @List.nil (List UInt8 × Int × Bool × Unit) ∧ @List.nil Int = @List.nil Int ∧ @List.nil (List UInt8) = @List.nil (List UInt8) ∧ (@List.nil (List UInt8) = @List.nil (List UInt8) ∧ @List.nil Int = @List.nil Int ∧ @List.nil (List UInt8 × Int × Bool × Unit) = @List.nil (List UInt8 × Int × Bool × Unit) ∧ @List.nil (Int × Int × Int × List UInt8 × Bool × Unit) = @List.nil (Int × Int × Int × List UInt8 × Bool × Unit) ∧ True) ∧ @List.nil (Int × Int × Int × List UInt8 × Bool × Unit) = @List.nil (Int × Int × Int × List UInt8 × Bool × Unit) ∧ @List.nil (List UInt8 × Int × Bool × Unit) = @List.nil (List UInt8 × Int × Bool × Unit) ∧ @List.nil Int = @List.nil Int ∧ @List.nil (List UInt8) = @List.nil (List UInt8) ∧ True))))) ∧ ((∀ x_8 : Bool, ((x_8 = true ↔ List.length x_2 = (3 : Nat) ∧ nth Ty.str x_2 (0 : Nat) = wBase) → (((x_8) = true → ((0 : Int) ≤ (0 : Int) ∧ (0 : Int) < (↑(List.length (numsB x_2 x_3)) : Int)) ∧ ((0 : Int) ≤ (1 : Int) ∧ (1 : Int) < (↑(List.length (numsB x_2 x_3)) : Int)) ∧
    (x_0.2.2.2.2.1 = x_0.2.2.2.2.1 ∧ List.length x_0.2.2.2.2.1 + List.length [(nth (Ty.int IntKind.i64) (numsB x_2 x_3) (0 : Nat), (1 : Int), nth (Ty.int IntKind.i64) (numsB x_2 x_3) (1 : Nat), @List.nil UInt8, nth Ty.str x_1 (0 : Nat) == [(119 : UInt8), 101, 97, 107], ())] ≤ (1000000000 : Nat)) ∧ ((I64 (↑x_0.1 : Int)) → ((I64 (1 : Int)) → (I64 ((↑x_0.1 : Int) + (1 : Int))) ∧
    (∃ (x' : Nat × List (List UInt8) × List Int × List (List UInt8 × Int × Bool × Unit) × List (Int × Int × Int × List UInt8 × Bool × Unit) × Unit), RunB (linL s) x'.1 x'.2 ∧ List.length (linL s) - x'.1 < List.length (linL s) - x_0.1 ∧ ((↑x_0.1 : Int) + (1 : Int) = (↑x'.1 : Int) ∧ True) ∧ (x_0.2.1 = x'.2.1 ∧ x_0.2.2.1 = x'.2.2.1 ∧ x_0.2.2.2.1 = x'.2.2.2.1 ∧ x_0.2.2.2.2.1 ++ [(nth (Ty.int IntKind.i64) (numsB x_2 x_3) (0 : Nat), (1 : Int), nth (Ty.int IntKind.i64) (numsB x_2 x_3) (1 : Nat), @List.nil UInt8, nth Ty.str x_1 (0 : Nat) == [(119 : UInt8), 101, 97, 107], ())] = x'.2.2.2.2.1 ∧ True) ∧ x_0.2.1 = x'.2.1 ∧ x_0.2.2.1 = x'.2.2.1 ∧ x_0.2.2.2.1 = x'.2.2.2.1 ∧ x_0.2.2.2.2.1 ++ [(nth (Ty.int IntKind.i64) (numsB x_2 x_3) (0 : Nat), (1 : Int), nth (Ty.int IntKind.i64) (numsB x_2 x_3) (1 : Nat), @List.nil UInt8, nth Ty.str x_1 (0 : Nat) == [(119 : UInt8), 101, 97, 107], ())] = x'.2.2.2.2.1 ∧ @List.nil (Int × Int × Int × List UInt8 × Bool × Unit) = @List.nil (Int × Int × Int × List UInt8 × Bool × Unit) ∧ @List.nil (List UInt8 × Int × Bool × Unit) = @List.nil (List UInt8 × Int × Bool × Unit) ∧ @List.nil Int = @List.nil Int ∧ @List.nil (List UInt8) = @List.nil (List UInt8) ∧ (@List.nil (List UInt8) = @List.nil (List UInt8) ∧ @List.nil Int = @List.nil Int ∧ @List.nil (List UInt8 × Int × Bool × Unit) = @List.nil (List UInt8 × Int × Bool × Unit) ∧ @List.nil (Int × Int × Int × List UInt8 × Bool × Unit) = @List.nil (Int × Int × Int × List UInt8 × Bool × Unit) ∧ True) ∧ @List.nil (Int × Int × Int × List UInt8 × Bool × Unit) = @List.nil (Int × Int × Int × List UInt8 × Bool × Unit) ∧ @List.nil (List UInt8 × Int × Bool × Unit) = @List.nil (List UInt8 × Int × Bool × Unit) ∧ @List.nil Int = @List.nil Int ∧ @List.nil (List UInt8) = @List.nil (List UInt8) ∧ True)))) ∧ ((x_8) = false → ((((List.length x_2 ≤ big) → ((((↑(List.length x_2) : Int) == (4 : Int)) = true → ((0 : Int) ≤ (0 : Int) ∧ (0 : Int) < (↑(List.length x_2) : Int)) ∧
    (∃ (x' : Bool), (x' = true ↔ List.length x_2 = (4 : Nat) ∧ nth Ty.str x_2 (0 : Nat) = wWhole) ∧ ((nth Ty.str x_2 (0 : Nat) == [(119 : UInt8), 104, 111, 108, 101]) = x' ∧ True) ∧ numsB x_2 x_3 = numsB x_2 x_3 ∧ (x_0.2.1 = x_0.2.1 ∧ x_0.2.2.1 = x_0.2.2.1 ∧ x_0.2.2.2.1 = x_0.2.2.2.1 ∧ x_0.2.2.2.2.1 = x_0.2.2.2.2.1 ∧ True) ∧ x_0.2.1 = x_0.2.1 ∧ x_0.2.2.1 = x_0.2.2.1 ∧ x_0.2.2.2.1 = x_0.2.2.2.1 ∧ x_0.2.2.2.2.1 = x_0.2.2.2.2.1 ∧ @List.nil (Int × Int × Int × List UInt8 × Bool × Unit) = @List.nil (Int × Int × Int × List UInt8 × Bool × Unit) ∧ @List.nil (List UInt8 × Int × Bool × Unit) = @List.nil (List UInt8 × Int × Bool × Unit) ∧ @List.nil Int = @List.nil Int ∧ @List.nil (List UInt8) = @List.nil (List UInt8) ∧ (@List.nil (List UInt8) = @List.nil (List UInt8) ∧ @List.nil Int = @List.nil Int ∧ @List.nil (List UInt8 × Int × Bool × Unit) = @List.nil (List UInt8 × Int × Bool × Unit) ∧ @List.nil (Int × Int × Int × List UInt8 × Bool × Unit) = @List.nil (Int × Int × Int × List UInt8 × Bool × Unit) ∧ True) ∧ @List.nil (Int × Int × Int × List UInt8 × Bool × Unit) = @List.nil (Int × Int × Int × List UInt8 × Bool × Unit) ∧ @List.nil (List UInt8 × Int × Bool × Unit) = @List.nil (List UInt8 × Int × Bool × Unit) ∧ @List.nil Int = @List.nil Int ∧ @List.nil (List UInt8) = @List.nil (List UInt8) ∧ True)) ∧ (((↑(List.length x_2) : Int) == (4 : Int)) = false →
    (∃ (x' : Bool), (x' = true ↔ List.length x_2 = (4 : Nat) ∧ nth Ty.str x_2 (0 : Nat) = wWhole) ∧ (false = x' ∧ True) ∧ numsB x_2 x_3 = numsB x_2 x_3 ∧ (x_0.2.1 = x_0.2.1 ∧ x_0.2.2.1 = x_0.2.2.1 ∧ x_0.2.2.2.1 = x_0.2.2.2.1 ∧ x_0.2.2.2.2.1 = x_0.2.2.2.2.1 ∧ True) ∧ x_0.2.1 = x_0.2.1 ∧ x_0.2.2.1 = x_0.2.2.1 ∧ x_0.2.2.2.1 = x_0.2.2.2.1 ∧ x_0.2.2.2.2.1 = x_0.2.2.2.2.1 ∧ @List.nil (Int × Int × Int × List UInt8 × Bool × Unit) = @List.nil (Int × Int × Int × List UInt8 × Bool × Unit) ∧ @List.nil (List UInt8 × Int × Bool × Unit) = @List.nil (List UInt8 × Int × Bool × Unit) ∧ @List.nil Int = @List.nil Int ∧ @List.nil (List UInt8) = @List.nil (List UInt8) ∧ (@List.nil (List UInt8) = @List.nil (List UInt8) ∧ @List.nil Int = @List.nil Int ∧ @List.nil (List UInt8 × Int × Bool × Unit) = @List.nil (List UInt8 × Int × Bool × Unit) ∧ @List.nil (Int × Int × Int × List UInt8 × Bool × Unit) = @List.nil (Int × Int × Int × List UInt8 × Bool × Unit) ∧ True) ∧ @List.nil (Int × Int × Int × List UInt8 × Bool × Unit) = @List.nil (Int × Int × Int × List UInt8 × Bool × Unit) ∧ @List.nil (List UInt8 × Int × Bool × Unit) = @List.nil (List UInt8 × Int × Bool × Unit) ∧ @List.nil Int = @List.nil Int ∧ @List.nil (List UInt8) = @List.nil (List UInt8) ∧ True))))) ∧ ((∀ x_9 : Bool, ((x_9 = true ↔ List.length x_2 = (4 : Nat) ∧ nth Ty.str x_2 (0 : Nat) = wWhole) → (((x_9) = true → ((0 : Int) ≤ (0 : Int) ∧ (0 : Int) < (↑(List.length (numsB x_2 x_3)) : Int)) ∧ ((0 : Int) ≤ (1 : Int) ∧ (1 : Int) < (↑(List.length (numsB x_2 x_3)) : Int)) ∧ ((0 : Int) ≤ (3 : Int) ∧ (3 : Int) < (↑(List.length x_2) : Int)) ∧
    (x_0.2.2.2.2.1 = x_0.2.2.2.2.1 ∧ List.length x_0.2.2.2.2.1 + List.length [(nth (Ty.int IntKind.i64) (numsB x_2 x_3) (0 : Nat), (2 : Int), nth (Ty.int IntKind.i64) (numsB x_2 x_3) (1 : Nat), nth Ty.str x_2 (3 : Nat), nth Ty.str x_1 (0 : Nat) == [(119 : UInt8), 101, 97, 107], ())] ≤ (1000000000 : Nat)) ∧ ((I64 (↑x_0.1 : Int)) → ((I64 (1 : Int)) → (I64 ((↑x_0.1 : Int) + (1 : Int))) ∧
    (∃ (x' : Nat × List (List UInt8) × List Int × List (List UInt8 × Int × Bool × Unit) × List (Int × Int × Int × List UInt8 × Bool × Unit) × Unit), RunB (linL s) x'.1 x'.2 ∧ List.length (linL s) - x'.1 < List.length (linL s) - x_0.1 ∧ ((↑x_0.1 : Int) + (1 : Int) = (↑x'.1 : Int) ∧ True) ∧ (x_0.2.1 = x'.2.1 ∧ x_0.2.2.1 = x'.2.2.1 ∧ x_0.2.2.2.1 = x'.2.2.2.1 ∧ x_0.2.2.2.2.1 ++ [(nth (Ty.int IntKind.i64) (numsB x_2 x_3) (0 : Nat), (2 : Int), nth (Ty.int IntKind.i64) (numsB x_2 x_3) (1 : Nat), nth Ty.str x_2 (3 : Nat), nth Ty.str x_1 (0 : Nat) == [(119 : UInt8), 101, 97, 107], ())] = x'.2.2.2.2.1 ∧ True) ∧ x_0.2.1 = x'.2.1 ∧ x_0.2.2.1 = x'.2.2.1 ∧ x_0.2.2.2.1 = x'.2.2.2.1 ∧ x_0.2.2.2.2.1 ++ [(nth (Ty.int IntKind.i64) (numsB x_2 x_3) (0 : Nat), (2 : Int), nth (Ty.int IntKind.i64) (numsB x_2 x_3) (1 : Nat), nth Ty.str x_2 (3 : Nat), nth Ty.str x_1 (0 : Nat) == [(119 : UInt8), 101, 97, 107], ())] = x'.2.2.2.2.1 ∧ @List.nil (Int × Int × Int × List UInt8 × Bool × Unit) = @List.nil (Int × Int × Int × List UInt8 × Bool × Unit) ∧ @List.nil (List UInt8 × Int × Bool × Unit) = @List.nil (List UInt8 × Int × Bool × Unit) ∧ @List.nil Int = @List.nil Int ∧ @List.nil (List UInt8) = @List.nil (List UInt8) ∧ (@List.nil (List UInt8) = @List.nil (List UInt8) ∧ @List.nil Int = @List.nil Int ∧ @List.nil (List UInt8 × Int × Bool × Unit) = @List.nil (List UInt8 × Int × Bool × Unit) ∧ @List.nil (Int × Int × Int × List UInt8 × Bool × Unit) = @List.nil (Int × Int × Int × List UInt8 × Bool × Unit) ∧ True) ∧ @List.nil (Int × Int × Int × List UInt8 × Bool × Unit) = @List.nil (Int × Int × Int × List UInt8 × Bool × Unit) ∧ @List.nil (List UInt8 × Int × Bool × Unit) = @List.nil (List UInt8 × Int × Bool × Unit) ∧ @List.nil Int = @List.nil Int ∧ @List.nil (List UInt8) = @List.nil (List UInt8) ∧ True)))) ∧ ((x_9) = false → ((((List.length x_2 ≤ big) → ((((↑(List.length x_2) : Int) == (4 : Int)) = true → ((0 : Int) ≤ (0 : Int) ∧ (0 : Int) < (↑(List.length x_2) : Int)) ∧
    (∃ (x' : Bool), (x' = true ↔ List.length x_2 = (4 : Nat) ∧ nth Ty.str x_2 (0 : Nat) = wNear) ∧ ((nth Ty.str x_2 (0 : Nat) == [(110 : UInt8), 101, 97, 114]) = x' ∧ True) ∧ numsB x_2 x_3 = numsB x_2 x_3 ∧ (x_0.2.1 = x_0.2.1 ∧ x_0.2.2.1 = x_0.2.2.1 ∧ x_0.2.2.2.1 = x_0.2.2.2.1 ∧ x_0.2.2.2.2.1 = x_0.2.2.2.2.1 ∧ True) ∧ x_0.2.1 = x_0.2.1 ∧ x_0.2.2.1 = x_0.2.2.1 ∧ x_0.2.2.2.1 = x_0.2.2.2.1 ∧ x_0.2.2.2.2.1 = x_0.2.2.2.2.1 ∧ @List.nil (Int × Int × Int × List UInt8 × Bool × Unit) = @List.nil (Int × Int × Int × List UInt8 × Bool × Unit) ∧ @List.nil (List UInt8 × Int × Bool × Unit) = @List.nil (List UInt8 × Int × Bool × Unit) ∧ @List.nil Int = @List.nil Int ∧ @List.nil (List UInt8) = @List.nil (List UInt8) ∧ (@List.nil (List UInt8) = @List.nil (List UInt8) ∧ @List.nil Int = @List.nil Int ∧ @List.nil (List UInt8 × Int × Bool × Unit) = @List.nil (List UInt8 × Int × Bool × Unit) ∧ @List.nil (Int × Int × Int × List UInt8 × Bool × Unit) = @List.nil (Int × Int × Int × List UInt8 × Bool × Unit) ∧ True) ∧ @List.nil (Int × Int × Int × List UInt8 × Bool × Unit) = @List.nil (Int × Int × Int × List UInt8 × Bool × Unit) ∧ @List.nil (List UInt8 × Int × Bool × Unit) = @List.nil (List UInt8 × Int × Bool × Unit) ∧ @List.nil Int = @List.nil Int ∧ @List.nil (List UInt8) = @List.nil (List UInt8) ∧ True)) ∧ (((↑(List.length x_2) : Int) == (4 : Int)) = false →
    (∃ (x' : Bool), (x' = true ↔ List.length x_2 = (4 : Nat) ∧ nth Ty.str x_2 (0 : Nat) = wNear) ∧ (false = x' ∧ True) ∧ numsB x_2 x_3 = numsB x_2 x_3 ∧ (x_0.2.1 = x_0.2.1 ∧ x_0.2.2.1 = x_0.2.2.1 ∧ x_0.2.2.2.1 = x_0.2.2.2.1 ∧ x_0.2.2.2.2.1 = x_0.2.2.2.2.1 ∧ True) ∧ x_0.2.1 = x_0.2.1 ∧ x_0.2.2.1 = x_0.2.2.1 ∧ x_0.2.2.2.1 = x_0.2.2.2.1 ∧ x_0.2.2.2.2.1 = x_0.2.2.2.2.1 ∧ @List.nil (Int × Int × Int × List UInt8 × Bool × Unit) = @List.nil (Int × Int × Int × List UInt8 × Bool × Unit) ∧ @List.nil (List UInt8 × Int × Bool × Unit) = @List.nil (List UInt8 × Int × Bool × Unit) ∧ @List.nil Int = @List.nil Int ∧ @List.nil (List UInt8) = @List.nil (List UInt8) ∧ (@List.nil (List UInt8) = @List.nil (List UInt8) ∧ @List.nil Int = @List.nil Int ∧ @List.nil (List UInt8 × Int × Bool × Unit) = @List.nil (List UInt8 × Int × Bool × Unit) ∧ @List.nil (Int × Int × Int × List UInt8 × Bool × Unit) = @List.nil (Int × Int × Int × List UInt8 × Bool × Unit) ∧ True) ∧ @List.nil (Int × Int × Int × List UInt8 × Bool × Unit) = @List.nil (Int × Int × Int × List UInt8 × Bool × Unit) ∧ @List.nil (List UInt8 × Int × Bool × Unit) = @List.nil (List UInt8 × Int × Bool × Unit) ∧ @List.nil Int = @List.nil Int ∧ @List.nil (List UInt8) = @List.nil (List UInt8) ∧ True))))) ∧ ((∀ x_10 : Bool, ((x_10 = true ↔ List.length x_2 = (4 : Nat) ∧ nth Ty.str x_2 (0 : Nat) = wNear) → (((x_10) = true → ((0 : Int) ≤ (0 : Int) ∧ (0 : Int) < (↑(List.length (numsB x_2 x_3)) : Int)) ∧ ((0 : Int) ≤ (1 : Int) ∧ (1 : Int) < (↑(List.length (numsB x_2 x_3)) : Int)) ∧ ((0 : Int) ≤ (3 : Int) ∧ (3 : Int) < (↑(List.length x_2) : Int)) ∧
    (x_0.2.2.2.2.1 = x_0.2.2.2.2.1 ∧ List.length x_0.2.2.2.2.1 + List.length [(nth (Ty.int IntKind.i64) (numsB x_2 x_3) (0 : Nat), (3 : Int), nth (Ty.int IntKind.i64) (numsB x_2 x_3) (1 : Nat), nth Ty.str x_2 (3 : Nat), nth Ty.str x_1 (0 : Nat) == [(119 : UInt8), 101, 97, 107], ())] ≤ (1000000000 : Nat)) ∧ ((I64 (↑x_0.1 : Int)) → ((I64 (1 : Int)) → (I64 ((↑x_0.1 : Int) + (1 : Int))) ∧
    (∃ (x' : Nat × List (List UInt8) × List Int × List (List UInt8 × Int × Bool × Unit) × List (Int × Int × Int × List UInt8 × Bool × Unit) × Unit), RunB (linL s) x'.1 x'.2 ∧ List.length (linL s) - x'.1 < List.length (linL s) - x_0.1 ∧ ((↑x_0.1 : Int) + (1 : Int) = (↑x'.1 : Int) ∧ True) ∧ (x_0.2.1 = x'.2.1 ∧ x_0.2.2.1 = x'.2.2.1 ∧ x_0.2.2.2.1 = x'.2.2.2.1 ∧ x_0.2.2.2.2.1 ++ [(nth (Ty.int IntKind.i64) (numsB x_2 x_3) (0 : Nat), (3 : Int), nth (Ty.int IntKind.i64) (numsB x_2 x_3) (1 : Nat), nth Ty.str x_2 (3 : Nat), nth Ty.str x_1 (0 : Nat) == [(119 : UInt8), 101, 97, 107], ())] = x'.2.2.2.2.1 ∧ True) ∧ x_0.2.1 = x'.2.1 ∧ x_0.2.2.1 = x'.2.2.1 ∧ x_0.2.2.2.1 = x'.2.2.2.1 ∧ x_0.2.2.2.2.1 ++ [(nth (Ty.int IntKind.i64) (numsB x_2 x_3) (0 : Nat), (3 : Int), nth (Ty.int IntKind.i64) (numsB x_2 x_3) (1 : Nat), nth Ty.str x_2 (3 : Nat), nth Ty.str x_1 (0 : Nat) == [(119 : UInt8), 101, 97, 107], ())] = x'.2.2.2.2.1 ∧ @List.nil (Int × Int × Int × List UInt8 × Bool × Unit) = @List.nil (Int × Int × Int × List UInt8 × Bool × Unit) ∧ @List.nil (List UInt8 × Int × Bool × Unit) = @List.nil (List UInt8 × Int × Bool × Unit) ∧ @List.nil Int = @List.nil Int ∧ @List.nil (List UInt8) = @List.nil (List UInt8) ∧ (@List.nil (List UInt8) = @List.nil (List UInt8) ∧ @List.nil Int = @List.nil Int ∧ @List.nil (List UInt8 × Int × Bool × Unit) = @List.nil (List UInt8 × Int × Bool × Unit) ∧ @List.nil (Int × Int × Int × List UInt8 × Bool × Unit) = @List.nil (Int × Int × Int × List UInt8 × Bool × Unit) ∧ True) ∧ @List.nil (Int × Int × Int × List UInt8 × Bool × Unit) = @List.nil (Int × Int × Int × List UInt8 × Bool × Unit) ∧ @List.nil (List UInt8 × Int × Bool × Unit) = @List.nil (List UInt8 × Int × Bool × Unit) ∧ @List.nil Int = @List.nil Int ∧ @List.nil (List UInt8) = @List.nil (List UInt8) ∧ True)))) ∧ ((x_10) = false → ((([], [], [], [], ()), (4 : Int)) = objR s)))))))))))))))))))))))))))))))))))))))))))))))))))))) ∧ ((decide ((↑x_0.1 : Int) < (↑(List.length (linL s)) : Int))) = false → (True) ∧ (((decide (faultO (x_0.2.1, x_0.2.2.1, x_0.2.2.2.1, x_0.2.2.2.2.1, ()) > (0 : Int))) = true → ((([], [], [], [], ()), (4 : Int)) = objR s)) ∧ ((decide (faultO (x_0.2.1, x_0.2.2.1, x_0.2.2.2.1, x_0.2.2.2.2.1, ()) > (0 : Int))) = false → (faultO (x_0.2.1, x_0.2.2.1, x_0.2.2.2.1, x_0.2.2.2.2.1, ()) = (0 : Int)) ∧ (((decide ((textN (x_0.2.1, x_0.2.2.1, x_0.2.2.2.1, x_0.2.2.2.2.1, ())).2 > (0 : Int))) = true → ((([], [], [], [], ()), (4 : Int)) = objR s)) ∧ ((decide ((textN (x_0.2.1, x_0.2.2.1, x_0.2.2.2.1, x_0.2.2.2.2.1, ())).2 > (0 : Int))) = false → (((!(textN (x_0.2.1, x_0.2.2.1, x_0.2.2.2.1, x_0.2.2.2.2.1, ())).1 == s) = true → ((([], [], [], [], ()), (4 : Int)) = objR s)) ∧ ((!(textN (x_0.2.1, x_0.2.2.1, x_0.2.2.2.1, x_0.2.2.2.2.1, ())).1 == s) = false → (((x_0.2.1, x_0.2.2.1, x_0.2.2.2.1, x_0.2.2.2.2.1, ()), (0 : Int)) = objR s)))))))))))))))))) (by kernel_rfl) ?_
  intro h0
  refine ⟨fun h1 => ?_, fun h1 => ?_⟩
  · simp only [bl, reduceCtorEq] at h1
    exact objR_bigB (by omega)
  · simp only [bl, reduceCtorEq] at h1
    refine ⟨?_, ?_⟩
    · omega
    refine ⟨fun h2 => ?_, fun h2 => ?_⟩
    · simp only [bl, reduceCtorEq] at h2
      exact objR_openB (by omega) h2
    · simp only [bl, reduceCtorEq] at h2
      refine ⟨?_, ?_⟩
      · exact ⟨(0, zeroD tObject), RunB.zero _, ⟨rfl, trivial⟩, (by trivial)⟩
      intro x_0 q_0
      intro h3
      refine ⟨fun h4 => ?_, fun h4 => ?_⟩
      · simp only [bl, reduceCtorEq] at h4
        refine ⟨?_, ?_⟩
        ·
          refine ⟨?_, ?_⟩
          · omega
          refine ⟨?_, ?_⟩
          · have := linR_short (s := s) (by omega) x_0.1; omega
          exact ⟨_, rfl, ⟨rfl, trivial⟩, (by trivial)⟩
        ·
          intro x_1 q_1
          refine ⟨?_, ?_⟩
          · have := lenpos q_1; omega
          refine ⟨?_, ?_⟩
          ·
            refine ⟨fun h5 => ?_, fun h5 => ?_⟩
            · simp only [bl, reduceCtorEq] at h5
              refine ⟨?_, ?_⟩
              · have := lenpos q_1; omega
              exact ⟨_, fun _ => lineB_yes q_1 h5 rfl, ⟨by rw [List.take_length], trivial⟩, (by trivial)⟩
            · simp only [bl, reduceCtorEq] at h5
              exact ⟨_, fun _ => lineB_no q_1 h5, ⟨rfl, trivial⟩, (by trivial)⟩
          ·
            intro x_2 q_2
            refine ⟨?_, ?_⟩
            · exact ⟨1, ⟨by omega, by omega, .inl rfl⟩, ⟨rfl, rfl, trivial⟩, (by trivial)⟩
            intro x_3 q_3
            refine ⟨?_, ?_⟩
            ·
              intro h5
              refine ⟨fun h6 => ?_, fun h6 => ?_⟩
              · simp only [bl, reduceCtorEq] at h6
                exact ⟨_, eT h6, ⟨rfl, trivial⟩, (by trivial)⟩
              · simp only [bl, reduceCtorEq] at h6
                exact ⟨_, eF h6, ⟨rfl, trivial⟩, (by trivial)⟩
            ·
              intro x_4 q_4
              refine ⟨fun h5 => ?_, fun h5 => ?_⟩
              · refine ⟨?_, ?_⟩
                · simp_all; done
                refine ⟨trivial, ?_⟩
                refine ⟨fun h6 => ?_, fun h6 => ?_⟩
                · simp only [bl, reduceCtorEq] at h6
                  refine ⟨?_, ?_⟩
                  · have a1 := q_0.l1; have a2 := q_0.l2; have a3 := q_0.l3; have a4 := q_0.l4; have a5 := q_0.le; have a6 := linR_few (s := s) (by omega); exact ⟨rfl, by simp only [List.length_singleton]; first | omega | (rw [numsB_len]; omega)⟩
                  intro h7
                  intro h8
                  refine ⟨?_, ?_⟩
                  · simp only [I64, big] at *; omega
                  have hc := q_4.1 (by assumption); exact ⟨x_3 + 1, ⟨by omega, by omega, .inr (by omega)⟩, by omega, ⟨by omega, numsB_bad (by omega) h6, trivial⟩, numsB_bad (by omega) h6, (by trivial)⟩
                · simp only [bl, reduceCtorEq] at h6
                  refine ⟨?_, ?_⟩
                  · have a1 := q_0.l1; have a2 := q_0.l2; have a3 := q_0.l3; have a4 := q_0.l4; have a5 := q_0.le; have a6 := linR_few (s := s) (by omega); exact ⟨rfl, by simp only [List.length_singleton]; first | omega | (rw [numsB_len]; omega)⟩
                  intro h7
                  intro h8
                  refine ⟨?_, ?_⟩
                  · simp only [I64, big] at *; omega
                  have hc := q_4.1 (by assumption); exact ⟨x_3 + 1, ⟨by omega, by omega, .inr (by omega)⟩, by omega, ⟨by omega, numsB_ok (by omega) h6, trivial⟩, numsB_ok (by omega) h6, (by trivial)⟩
              · refine ⟨?_, ?_⟩
                ·
                  intro h6
                  refine ⟨fun h7 => ?_, fun h7 => ?_⟩
                  · simp only [bl, reduceCtorEq] at h7
                    refine ⟨?_, ?_⟩
                    · omega
                    exact ⟨_, jT h7 rfl, ⟨rfl, trivial⟩, (by trivial)⟩
                  · simp only [bl, reduceCtorEq] at h7
                    exact ⟨_, jF h7 rfl, ⟨rfl, trivial⟩, (by trivial)⟩
                ·
                  intro x_5 q_5
                  refine ⟨fun h6 => ?_, fun h6 => ?_⟩
                  · refine ⟨?_, ?_⟩
                    · simp_all; done
                    refine ⟨?_, ?_⟩
                    · have a1 := q_0.l1; have a2 := q_0.l2; have a3 := q_0.l3; have a4 := q_0.l4; have a5 := q_0.le; have a6 := linR_few (s := s) (by omega); exact ⟨rfl, by simp only [List.length_singleton]; first | omega | (rw [numsB_len]; omega)⟩
                    intro h7
                    intro h8
                    refine ⟨?_, ?_⟩
                    · simp only [I64, big] at *; omega
                    (have hk := exitK q_3 (notP q_4 (by assumption))); (first | have hc := q_10.1 (by assumption) | have hc := q_9.1 (by assumption) | have hc := q_8.1 (by assumption) | have hc := q_7.1 (by assumption) | have hc := q_6.1 (by assumption) | have hc := q_5.1 (by assumption)); exact ⟨(x_0.1 + 1, _), q_0.next (by omega) ((q_2 _).trans (wordsB_need (q_5.1 (by assumption)))) (More.need _ _), by simp only; omega, ⟨by simp only; omega, trivial⟩, (by trivial)⟩
                  · refine ⟨?_, ?_⟩
                    ·
                      intro h7
                      refine ⟨fun h8 => ?_, fun h8 => ?_⟩
                      · simp only [bl, reduceCtorEq] at h8
                        refine ⟨?_, ?_⟩
                        · omega
                        exact ⟨_, jT h8 rfl, ⟨rfl, trivial⟩, (by trivial)⟩
                      · simp only [bl, reduceCtorEq] at h8
                        exact ⟨_, jF h8 rfl, ⟨rfl, trivial⟩, (by trivial)⟩
                    ·
                      intro x_6 q_6
                      refine ⟨fun h7 => ?_, fun h7 => ?_⟩
                      · refine ⟨?_, ?_⟩
                        · (have hk := exitK q_3 (notP q_4 (by assumption))); (first | have hc := q_10.1 (by assumption) | have hc := q_9.1 (by assumption) | have hc := q_8.1 (by assumption) | have hc := q_7.1 (by assumption) | have hc := q_6.1 (by assumption) | have hc := q_5.1 (by assumption)); rw [numsB_len]; omega
                        refine ⟨?_, ?_⟩
                        · have a1 := q_0.l1; have a2 := q_0.l2; have a3 := q_0.l3; have a4 := q_0.l4; have a5 := q_0.le; have a6 := linR_few (s := s) (by omega); exact ⟨rfl, by simp only [List.length_singleton]; first | omega | (rw [numsB_len]; omega)⟩
                        intro h8
                        intro h9
                        refine ⟨?_, ?_⟩
                        · simp only [I64, big] at *; omega
                        (have hk := exitK q_3 (notP q_4 (by assumption))); (first | have hc := q_10.1 (by assumption) | have hc := q_9.1 (by assumption) | have hc := q_8.1 (by assumption) | have hc := q_7.1 (by assumption) | have hc := q_6.1 (by assumption) | have hc := q_5.1 (by assumption)); exact ⟨(x_0.1 + 1, _), q_0.next (by omega) ((q_2 _).trans (wordsB_word (k := x_3) (notP q_5 (by assumption)) (q_6.1 (by assumption)) (by omega))) (More.word _ _), by simp only; omega, ⟨by simp only; omega, trivial⟩, (by trivial)⟩
                      · refine ⟨?_, ?_⟩
                        ·
                          intro h8
                          refine ⟨fun h9 => ?_, fun h9 => ?_⟩
                          · simp only [bl, reduceCtorEq] at h9
                            refine ⟨?_, ?_⟩
                            · omega
                            exact ⟨_, jT h9 rfl, ⟨rfl, trivial⟩, (by trivial)⟩
                          · simp only [bl, reduceCtorEq] at h9
                            exact ⟨_, jF h9 rfl, ⟨rfl, trivial⟩, (by trivial)⟩
                        ·
                          intro x_7 q_7
                          refine ⟨fun h8 => ?_, fun h8 => ?_⟩
                          · refine ⟨?_, ?_⟩
                            · simp_all; done
                            refine ⟨?_, ?_⟩
                            · (have hk := exitK q_3 (notP q_4 (by assumption))); (first | have hc := q_10.1 (by assumption) | have hc := q_9.1 (by assumption) | have hc := q_8.1 (by assumption) | have hc := q_7.1 (by assumption) | have hc := q_6.1 (by assumption) | have hc := q_5.1 (by assumption)); rw [numsB_len]; omega
                            refine ⟨?_, ?_⟩
                            · have a1 := q_0.l1; have a2 := q_0.l2; have a3 := q_0.l3; have a4 := q_0.l4; have a5 := q_0.le; have a6 := linR_few (s := s) (by omega); exact ⟨rfl, by simp only [List.length_singleton]; first | omega | (rw [numsB_len]; omega)⟩
                            intro h9
                            intro h10
                            refine ⟨?_, ?_⟩
                            · simp only [I64, big] at *; omega
                            (have hk := exitK q_3 (notP q_4 (by assumption))); (first | have hc := q_10.1 (by assumption) | have hc := q_9.1 (by assumption) | have hc := q_8.1 (by assumption) | have hc := q_7.1 (by assumption) | have hc := q_6.1 (by assumption) | have hc := q_5.1 (by assumption)); exact ⟨(x_0.1 + 1, _), q_0.next (by omega) ((q_2 _).trans (wordsB_sym (k := x_3) (q_7.1 (by assumption)) (by omega))) (More.sym _ _), by simp only; omega, ⟨by simp only; omega, trivial⟩, (by trivial)⟩
                          · refine ⟨?_, ?_⟩
                            ·
                              intro h9
                              refine ⟨fun h10 => ?_, fun h10 => ?_⟩
                              · simp only [bl, reduceCtorEq] at h10
                                refine ⟨?_, ?_⟩
                                · omega
                                exact ⟨_, jT h10 rfl, ⟨rfl, trivial⟩, (by trivial)⟩
                              · simp only [bl, reduceCtorEq] at h10
                                exact ⟨_, jF h10 rfl, ⟨rfl, trivial⟩, (by trivial)⟩
                            ·
                              intro x_8 q_8
                              refine ⟨fun h9 => ?_, fun h9 => ?_⟩
                              · refine ⟨?_, ?_⟩
                                · (have hk := exitK q_3 (notP q_4 (by assumption))); (first | have hc := q_10.1 (by assumption) | have hc := q_9.1 (by assumption) | have hc := q_8.1 (by assumption) | have hc := q_7.1 (by assumption) | have hc := q_6.1 (by assumption) | have hc := q_5.1 (by assumption)); rw [numsB_len]; omega
                                refine ⟨?_, ?_⟩
                                · (have hk := exitK q_3 (notP q_4 (by assumption))); (first | have hc := q_10.1 (by assumption) | have hc := q_9.1 (by assumption) | have hc := q_8.1 (by assumption) | have hc := q_7.1 (by assumption) | have hc := q_6.1 (by assumption) | have hc := q_5.1 (by assumption)); rw [numsB_len]; omega
                                refine ⟨?_, ?_⟩
                                · have a1 := q_0.l1; have a2 := q_0.l2; have a3 := q_0.l3; have a4 := q_0.l4; have a5 := q_0.le; have a6 := linR_few (s := s) (by omega); exact ⟨rfl, by simp only [List.length_singleton]; first | omega | (rw [numsB_len]; omega)⟩
                                intro h10
                                intro h11
                                refine ⟨?_, ?_⟩
                                · simp only [I64, big] at *; omega
                                (have hk := exitK q_3 (notP q_4 (by assumption))); (first | have hc := q_10.1 (by assumption) | have hc := q_9.1 (by assumption) | have hc := q_8.1 (by assumption) | have hc := q_7.1 (by assumption) | have hc := q_6.1 (by assumption) | have hc := q_5.1 (by assumption)); exact ⟨(x_0.1 + 1, _), q_0.next (by omega) ((q_2 _).trans (wordsB_base (k := x_3) (notP q_7 (by assumption)) (q_8.1 (by assumption)) (by omega))) (More.tie _ _), by simp only; omega, ⟨by simp only; omega, trivial⟩, (by trivial)⟩
                              · refine ⟨?_, ?_⟩
                                ·
                                  intro h10
                                  refine ⟨fun h11 => ?_, fun h11 => ?_⟩
                                  · simp only [bl, reduceCtorEq] at h11
                                    refine ⟨?_, ?_⟩
                                    · omega
                                    exact ⟨_, jT h11 rfl, ⟨rfl, trivial⟩, (by trivial)⟩
                                  · simp only [bl, reduceCtorEq] at h11
                                    exact ⟨_, jF h11 rfl, ⟨rfl, trivial⟩, (by trivial)⟩
                                ·
                                  intro x_9 q_9
                                  refine ⟨fun h10 => ?_, fun h10 => ?_⟩
                                  · refine ⟨?_, ?_⟩
                                    · (have hk := exitK q_3 (notP q_4 (by assumption))); (first | have hc := q_10.1 (by assumption) | have hc := q_9.1 (by assumption) | have hc := q_8.1 (by assumption) | have hc := q_7.1 (by assumption) | have hc := q_6.1 (by assumption) | have hc := q_5.1 (by assumption)); rw [numsB_len]; omega
                                    refine ⟨?_, ?_⟩
                                    · (have hk := exitK q_3 (notP q_4 (by assumption))); (first | have hc := q_10.1 (by assumption) | have hc := q_9.1 (by assumption) | have hc := q_8.1 (by assumption) | have hc := q_7.1 (by assumption) | have hc := q_6.1 (by assumption) | have hc := q_5.1 (by assumption)); rw [numsB_len]; omega
                                    refine ⟨?_, ?_⟩
                                    · simp_all; done
                                    refine ⟨?_, ?_⟩
                                    · have a1 := q_0.l1; have a2 := q_0.l2; have a3 := q_0.l3; have a4 := q_0.l4; have a5 := q_0.le; have a6 := linR_few (s := s) (by omega); exact ⟨rfl, by simp only [List.length_singleton]; first | omega | (rw [numsB_len]; omega)⟩
                                    intro h11
                                    intro h12
                                    refine ⟨?_, ?_⟩
                                    · simp only [I64, big] at *; omega
                                    (have hk := exitK q_3 (notP q_4 (by assumption))); (first | have hc := q_10.1 (by assumption) | have hc := q_9.1 (by assumption) | have hc := q_8.1 (by assumption) | have hc := q_7.1 (by assumption) | have hc := q_6.1 (by assumption) | have hc := q_5.1 (by assumption)); exact ⟨(x_0.1 + 1, _), q_0.next (by omega) ((q_2 _).trans (wordsB_whole (k := x_3) (q_9.1 (by assumption)) (by omega))) (More.tie _ _), by simp only; omega, ⟨by simp only; omega, trivial⟩, (by trivial)⟩
                                  · refine ⟨?_, ?_⟩
                                    ·
                                      intro h11
                                      refine ⟨fun h12 => ?_, fun h12 => ?_⟩
                                      · simp only [bl, reduceCtorEq] at h12
                                        refine ⟨?_, ?_⟩
                                        · omega
                                        exact ⟨_, jT h12 rfl, ⟨rfl, trivial⟩, (by trivial)⟩
                                      · simp only [bl, reduceCtorEq] at h12
                                        exact ⟨_, jF h12 rfl, ⟨rfl, trivial⟩, (by trivial)⟩
                                    ·
                                      intro x_10 q_10
                                      refine ⟨fun h11 => ?_, fun h11 => ?_⟩
                                      · refine ⟨?_, ?_⟩
                                        · (have hk := exitK q_3 (notP q_4 (by assumption))); (first | have hc := q_10.1 (by assumption) | have hc := q_9.1 (by assumption) | have hc := q_8.1 (by assumption) | have hc := q_7.1 (by assumption) | have hc := q_6.1 (by assumption) | have hc := q_5.1 (by assumption)); rw [numsB_len]; omega
                                        refine ⟨?_, ?_⟩
                                        · (have hk := exitK q_3 (notP q_4 (by assumption))); (first | have hc := q_10.1 (by assumption) | have hc := q_9.1 (by assumption) | have hc := q_8.1 (by assumption) | have hc := q_7.1 (by assumption) | have hc := q_6.1 (by assumption) | have hc := q_5.1 (by assumption)); rw [numsB_len]; omega
                                        refine ⟨?_, ?_⟩
                                        · simp_all; done
                                        refine ⟨?_, ?_⟩
                                        · have a1 := q_0.l1; have a2 := q_0.l2; have a3 := q_0.l3; have a4 := q_0.l4; have a5 := q_0.le; have a6 := linR_few (s := s) (by omega); exact ⟨rfl, by simp only [List.length_singleton]; first | omega | (rw [numsB_len]; omega)⟩
                                        intro h12
                                        intro h13
                                        refine ⟨?_, ?_⟩
                                        · simp only [I64, big] at *; omega
                                        (have hk := exitK q_3 (notP q_4 (by assumption))); (first | have hc := q_10.1 (by assumption) | have hc := q_9.1 (by assumption) | have hc := q_8.1 (by assumption) | have hc := q_7.1 (by assumption) | have hc := q_6.1 (by assumption) | have hc := q_5.1 (by assumption)); exact ⟨(x_0.1 + 1, _), q_0.next (by omega) ((q_2 _).trans (wordsB_near (k := x_3) (notP q_9 (by assumption)) (q_10.1 (by assumption)) (by omega))) (More.tie _ _), by simp only; omega, ⟨by simp only; omega, trivial⟩, (by trivial)⟩
                                      · exact objR_failB (by omega) q_0 (by omega) ((q_2 _).trans (wordsB_none (notP q_5 (by assumption)) (notP q_6 (by assumption)) (notP q_7 (by assumption)) (notP q_8 (by assumption)) (notP q_9 (by assumption)) (notP q_10 (by assumption))))
      · simp only [bl, reduceCtorEq] at h4
        refine ⟨trivial, ?_⟩
        refine ⟨fun h5 => ?_, fun h5 => ?_⟩
        · simp only [bl, reduceCtorEq] at h5
          exact objR_endB (by omega) q_0 (by omega) (.inl h5)
        · simp only [bl, reduceCtorEq] at h5
          refine ⟨?_, ?_⟩
          · exact Int.le_antisymm h5 (faultO_nonneg _)
          refine ⟨fun h6 => ?_, fun h6 => ?_⟩
          · simp only [bl, reduceCtorEq] at h6
            exact objR_endB (by omega) q_0 (by omega) (.inr (.inl h6))
          · simp only [bl, reduceCtorEq] at h6
            refine ⟨fun h7 => ?_, fun h7 => ?_⟩
            · simp only [bl, reduceCtorEq] at h7
              exact objR_endB (by omega) q_0 (by omega) (.inr (.inr h7))
            · simp only [bl, reduceCtorEq] at h7
              exact objR_doneB (by omega) (by assumption) (by assumption) h7
theorem Tryd.ok_RObjectOf : PureOK Tryd.prog Tryd.B.eT Tryd.X 15 [.str] [tObject, .int .i64] (fun _ => True) (fun x y => y = (fun s => objR s) x) :=
  pure_fn (X := Tryd.X) Tryd.rofCtxOK Tryd.func15 (by kernel_rfl) (fun x => rofAnn x) (fun x hw hp => vc_RObjectOf x hw)
end Go.Proofs.YtgokjhhcfemnhaaDoor

