/- A part of the proof that the law TopDisk holds of the given program: facts that are used there. -/
import Derived.Test.YtgokjhhcfemnhabDisk
import Derived.Test.YtgokjhhcfemnhabActs
import Derived.Test.YtgokjhhcfemnhabMrl19
import Derived.Test.YtgokjhhcfemnhabRows
set_option linter.unusedSimpArgs false
set_option linter.unusedVariables false
namespace Go.Proofs.Ytgokjhhcfemnhab
open Go.Vg Go.Mrl
/-! The law TopDisk. -/
noncomputable def Try.tdiskCtx : List (FuncId × (Bool × CSpec)) := [(44, (true, funSpec [.str] [.err] (fun _ => True) (fun s => errNo (nameFault s)))),
  (18, (true, funSpec [.str] [.int .u32] (fun _ => True) (fun s => (hashF s : Int)))),
  (22, (true, funSpec [.err] [.int .i64] (fun _ => True) (fun e => numE e))),
  (27, (false, objSpec Try.diskObs [.obj 0, .d (.int .i64), .d .str] (fun _ x => -1 ≤ x.1.1 ∧ x.2.2.2.1.length ≤ 900000000) Try.writeAlts)),
  (28, (false, objSpec Try.diskObs [.obj 0, .d (.int .i64)] (fun _ _ => True) Try.readAlts)),
  (24, (false, objSpec Try.diskObs [.obj 0] (fun _ x => -1 ≤ x.1.1 ∧ x.2.1.length = x.2.2.1.length) Try.flushAlts)),
  (25, (false, objSpec Try.diskObs [.obj 0] (fun _ _ => True) Try.sectorsAlts)),
  (29, (false, objSpec Try.diskObs [.obj 0, .d (.int .u64)] (fun _ x => x.2.1.length = x.2.2.1.length ∧ ∀ i, i < x.2.2.2.1.length → 0 ≤ ((nth tTurn x.2.2.2.1 i).1 : Int) ∧ ((nth tTurn x.2.2.2.1 i).1 : Int) < x.2.2.1.length) Try.restartAlts)),
  (23, (false, objSpec [] [.d (.int .i64)] (fun _ _ => True) Try.newAlts)),
  (41, (true, pureSpec [tEntry] [.bool] (fun _ => True) (fun e y => y = true → LightE e))),
  (26, (true, pureSpec [.slice tAct, .int .i64] [.bool] (fun _ => True) (fun x y => y = true → LightAs x.1 x.2)))]
theorem Try.tdiskCtxOK {X : Ext} : CtxOK Try.prog Try.B X Try.tdiskCtx :=
  ctx1 (callOK_of_fun Try.ok_Check) (ctx1 (callOK_of_fun Try.ok_Hash) (ctx1 (callOK_of_fun Try.ok_number) (ctx1 (Try.ok_DWrite) (ctx1 (Try.ok_DRead) (ctx1 (Try.ok_DFlush) (ctx1 (Try.ok_DSectors) (ctx1 (Try.ok_DRestart) (ctx1 (Try.ok_DNew) (ctx1 (callOK_of_pure Try.ok_LightEntry) (ctx1 (callOK_of_pure Try.ok_LightActs) (ctx0 Try.tyOK)))))))))))
noncomputable def tdAnn (l more : List (D tAct)) (k : Int) : Anns := [
  (200000, fun st => { X := Nat × Dk, inv := fun x => x.1 ≤ l.length ∧ GoodD x.2 x.1 ∧ CalmD x.2 ∧ x.2.2.2.1.length = 4, meas := fun x => l.length - x.1, slots := fun x => [(9, sI x.1)], keep := [0, 1, 2, 6, 7], obs := Try.diskObs, refs := [(7, 0)], pd := fun x => x.2 }),
  (200002, fun st => { X := Nat × Dk, inv := fun x => x.1 ≤ 4 ∧ GoodD x.2 0 ∧ CalmD x.2 ∧ x.2.2.2.1.length = 4 ∧ x.2.2.1 = x.2.2.2.1, meas := fun x => 4 - x.1, slots := fun x => [(11, sI x.1)], objs := fun x => [(objOf st 10, .arr .str (x.2.2.2.1.take x.1 ++ List.replicate (4 - x.1) []))], mods := [objOf st 10], keep := [1, 2, 7, 10], obs := Try.diskObs, refs := [(7, 0)], pd := fun x => x.2 }),
  (200004, fun st => { X := Nat × Dk, inv := fun x => x.1 ≤ more.length ∧ GoodD x.2 x.1 ∧ CalmD x.2 ∧ x.2.2.2.1.length = 4, meas := fun x => more.length - x.1, slots := fun x => [(15, sI x.1), (14, sI x.2.2.2.2.1.length)], objs := fun x => [(objOf st 10, .arr .str (keepN k x.2.2.2.2.1 x.2.2.1 x.2.2.2.2.1.length))], mods := [objOf st 10], keep := [1, 2, 7, 10], obs := Try.diskObs, refs := [(7, 0)], pd := fun x => x.2 }),
  (200006, fun st => { X := Nat × Dk, inv := fun x => x.1 ≤ 4 ∧ CalmD x.2 ∧ x.2.2.2.1.length = 4, meas := fun x => 4 - x.1, slots := fun x => [(18, sI x.1)], objs := fun x => [(objOf st 10, .arr .str x.2.2.2.1)], mods := [objOf st 10], keep := [7, 10], obs := Try.diskObs, refs := [(7, 0)], pd := fun x => x.2 })]
set_option maxRecDepth 100000 in
set_option maxHeartbeats 4000000 in
theorem vc_TopDisk (l more : List (D tAct)) (k : Int) (hw : wfL [.slice tAct, .slice tAct, .int .u64] (l, more, k)) : (fnVCs Try.B Try.tdiskCtx Try.f9 (tdAnn l more k) [.slice tAct, .slice tAct, .int .u64] [.bool] (fun _ y => y = true) (l, more, k)).holds := by
  refine holds_of (p :=
    (True) ∧ (((((4 : Int) < (1 : Int) ∨ (120 : Int) < (4 : Int)) → (((!Err.isNil (Err.no (1 : Int))) = true → (false = true)) ∧ ((!Err.isNil (Err.no (1 : Int))) = false → (false = true))))) ∧ ((((1 : Int) ≤ (4 : Int) ∧ (4 : Int) ≤ (120 : Int)) → (((!Err.isNil Err.nil) = true → (false = true)) ∧ ((!Err.isNil Err.nil) = false → (@List.nil (Int × List UInt8 × Unit) = @List.nil (Int × List UInt8 × Unit)) ∧
    ((-1 : Int) ≤ (-1 : Int) ∧ List.length (List.replicate (4 : Nat) (fullS (@List.nil UInt8))) = List.length (List.replicate (4 : Nat) (fullS (@List.nil UInt8)))) ∧ ((True) → (((!Err.isNil (errNo (0 : Int))) = true → (false = true)) ∧ ((!Err.isNil (errNo (0 : Int))) = false → (@List.nil (Int × List UInt8 × Unit) = @List.nil (Int × List UInt8 × Unit)) ∧ (True) ∧ ((True) → ((((↑(List.length (List.replicate (4 : Nat) (fullS (@List.nil UInt8)))) : Int) != (4 : Int)) = true → (false = true)) ∧ (((↑(List.length (List.replicate (4 : Nat) (fullS (@List.nil UInt8)))) : Int) != (4 : Int)) = false → (True) ∧ (∀ x_0 : Bool, ((x_0 = true → LightAs l (40 : Int)) → (((!x_0) = true → (true = true)) ∧ ((!x_0) = false → (True) ∧ (∀ x_1 : Bool, ((x_1 = true → LightAs more (60 : Int)) → (((!x_1) = true → (true = true)) ∧ ((!x_1) = false →
    (((@List.nil (Int × List UInt8 × Unit) = @List.nil (Int × List UInt8 × Unit) ∧ ∃ (x' : Nat × Dk), (x'.1 ≤ List.length l ∧ GoodD x'.2 x'.1 ∧ CalmD x'.2 ∧ List.length x'.2.2.2.1 = (4 : Nat)) ∧ True ∧ ((0 : Int) = (↑x'.1 : Int) ∧ True) ∧ True ∧ true = true ∧ ((if (0 : Int) < (-1 : Int) then (-1 : Int) - (1 : Int) else (-1 : Int), false, ()), List.replicate (4 : Nat) (fullS (@List.nil UInt8)), List.replicate (4 : Nat) (fullS (@List.nil UInt8)), [], ()) = x'.2)) ∧ ((∀ x_2 : Nat × Dk, ((x_2.1 ≤ List.length l ∧ GoodD x_2.2 x_2.1 ∧ CalmD x_2.2 ∧ List.length x_2.2.2.2.1 = (4 : Nat)) → ((List.length l ≤ big) → (((decide ((↑x_2.1 : Int) < (↑(List.length l) : Int))) = true → ((0 : Int) ≤ (↑x_2.1 : Int) ∧ (↑x_2.1 : Int) < (↑(List.length l) : Int)) ∧ ((0 : Int) ≤ (↑x_2.1 : Int) ∧ (↑x_2.1 : Int) < (↑(List.length l) : Int)) ∧ (x_2.2.2.2.2.1 = x_2.2.2.2.2.1) ∧ ((-1 : Int) ≤ x_2.2.1.1 ∧ List.length x_2.2.2.2.2.1 ≤ (900000000 : Nat)) ∧ ((True) → ((I64 (↑x_2.1 : Int)) → ((I64 (1 : Int)) → (I64 ((↑x_2.1 : Int) + (1 : Int))) ∧
    ((writeD x_2.2 (nth tAct l x_2.1).2.2.2.1 (nth tAct l x_2.1).2.1).1.2.2.2.1 = (writeD x_2.2 (nth tAct l x_2.1).2.2.2.1 (nth tAct l x_2.1).2.1).1.2.2.2.1 ∧ ∃ (x' : Nat × Dk), (x'.1 ≤ List.length l ∧ GoodD x'.2 x'.1 ∧ CalmD x'.2 ∧ List.length x'.2.2.2.1 = (4 : Nat)) ∧ List.length l - x'.1 < List.length l - x_2.1 ∧ ((↑x_2.1 : Int) + (1 : Int) = (↑x'.1 : Int) ∧ True) ∧ True ∧ true = true ∧ (writeD x_2.2 (nth tAct l x_2.1).2.2.2.1 (nth tAct l x_2.1).2.1).1 = x'.2))))) ∧ ((decide ((↑x_2.1 : Int) < (↑(List.length l) : Int))) = false → (x_2.2.2.2.2.1 = x_2.2.2.2.2.1) ∧ ((-1 : Int) ≤ x_2.2.1.1 ∧ List.length x_2.2.2.1 = List.length x_2.2.2.2.1) ∧ ((True) → (((!Err.isNil (errNo (flushD x_2.2).2)) = true → (false = true)) ∧ ((!Err.isNil (errNo (flushD x_2.2).2)) = false →
    ((((flushD x_2.2).1.2.2.2.1 = (flushD x_2.2).1.2.2.2.1 ∧ ∃ (x' : Nat × Dk), (x'.1 ≤ (4 : Nat) ∧ GoodD x'.2 (0 : Nat) ∧ CalmD x'.2 ∧ List.length x'.2.2.2.1 = (4 : Nat) ∧ x'.2.2.1 = x'.2.2.2.1) ∧ True ∧ ((0 : Int) = (↑x'.1 : Int) ∧ True) ∧ (List.replicate (4 : Nat) (zeroD Ty.str) = List.take x'.1 x'.2.2.2.1 ++ List.replicate ((4 : Nat) - x'.1) (@List.nil UInt8) ∧ True) ∧ (!false && true) = true ∧ (flushD x_2.2).1 = x'.2)) ∧ ((∀ x_3 : Nat × Dk,
    ((x_3.1 ≤ (4 : Nat) ∧ GoodD x_3.2 (0 : Nat) ∧ CalmD x_3.2 ∧ List.length x_3.2.2.2.1 = (4 : Nat) ∧ x_3.2.2.1 = x_3.2.2.2.1) → (((decide ((↑x_3.1 : Int) < (4 : Int))) = true → (x_3.2.2.2.2.1 = x_3.2.2.2.2.1) ∧ (True) ∧ ((True) → (((!Err.isNil (errNo (readD x_3.2 (↑x_3.1 : Int)).2)) = true → (false = true)) ∧ ((!Err.isNil (errNo (readD x_3.2 (↑x_3.1 : Int)).2)) = false →
    ((0 : Int) ≤ (↑x_3.1 : Int) ∧ (↑x_3.1 : Int) < (↑(4 : Nat) : Int) ∧ (↑x_3.1 : Int) < (↑(List.length (List.take x_3.1 x_3.2.2.2.1 ++ List.replicate ((4 : Nat) - x_3.1) (@List.nil UInt8))) : Int)) ∧ (x_3.1 < List.length (List.take x_3.1 x_3.2.2.2.1 ++ List.replicate ((4 : Nat) - x_3.1) (@List.nil UInt8))) ∧ ((I64 (↑x_3.1 : Int)) → ((I64 (1 : Int)) → (I64 ((↑x_3.1 : Int) + (1 : Int))) ∧
    (x_3.2.2.2.2.1 = x_3.2.2.2.2.1 ∧ ∃ (x' : Nat × Dk), (x'.1 ≤ (4 : Nat) ∧ GoodD x'.2 (0 : Nat) ∧ CalmD x'.2 ∧ List.length x'.2.2.2.1 = (4 : Nat) ∧ x'.2.2.1 = x'.2.2.2.1) ∧ (4 : Nat) - x'.1 < (4 : Nat) - x_3.1 ∧ ((↑x_3.1 : Int) + (1 : Int) = (↑x'.1 : Int) ∧ True) ∧ (List.set (List.take x_3.1 x_3.2.2.2.1 ++ List.replicate ((4 : Nat) - x_3.1) (@List.nil UInt8)) x_3.1 (readD x_3.2 (↑x_3.1 : Int)).1 = List.take x'.1 x'.2.2.2.1 ++ List.replicate ((4 : Nat) - x'.1) (@List.nil UInt8) ∧ True) ∧ (!false && true) = true ∧ x_3.2 = x'.2))))))) ∧ ((decide ((↑x_3.1 : Int) < (4 : Int))) = false →
    (((x_3.2.2.2.2.1 = x_3.2.2.2.2.1 ∧ ∃ (x' : Nat × Dk), (x'.1 ≤ List.length more ∧ GoodD x'.2 x'.1 ∧ CalmD x'.2 ∧ List.length x'.2.2.2.1 = (4 : Nat)) ∧ True ∧ ((0 : Int) = (↑x'.1 : Int) ∧ (0 : Int) = (↑(List.length x'.2.2.2.2.1) : Int) ∧ True) ∧ (List.take x_3.1 x_3.2.2.2.1 ++ List.replicate ((4 : Nat) - x_3.1) (@List.nil UInt8) = keepN k x'.2.2.2.2.1 x'.2.2.1 (List.length x'.2.2.2.2.1) ∧ True) ∧ (!false && true) = true ∧ x_3.2 = x'.2)) ∧ ((∀ x_4 : Nat × Dk, ((x_4.1 ≤ List.length more ∧ GoodD x_4.2 x_4.1 ∧ CalmD x_4.2 ∧ List.length x_4.2.2.2.1 = (4 : Nat)) → ((List.length more ≤ big) → (((decide ((↑x_4.1 : Int) < (↑(List.length more) : Int))) = true → ((0 : Int) ≤ (↑x_4.1 : Int) ∧ (↑x_4.1 : Int) < (↑(List.length more) : Int)) ∧ ((0 : Int) ≤ (↑x_4.1 : Int) ∧ (↑x_4.1 : Int) < (↑(List.length more) : Int)) ∧ (x_4.2.2.2.2.1 = x_4.2.2.2.2.1) ∧ ((-1 : Int) ≤ x_4.2.1.1 ∧ List.length x_4.2.2.2.2.1 ≤ (900000000 : Nat)) ∧ ((True) → (((!Err.isNil (errNo (writeD x_4.2 (nth tAct more x_4.1).2.2.2.1 (nth tAct more x_4.1).2.1).2)) = true → ((I64 (↑x_4.1 : Int)) → ((I64 (1 : Int)) → (I64 ((↑x_4.1 : Int) + (1 : Int))) ∧
    ((writeD x_4.2 (nth tAct more x_4.1).2.2.2.1 (nth tAct more x_4.1).2.1).1.2.2.2.1 = (writeD x_4.2 (nth tAct more x_4.1).2.2.2.1 (nth tAct more x_4.1).2.1).1.2.2.2.1 ∧ ∃ (x' : Nat × Dk), (x'.1 ≤ List.length more ∧ GoodD x'.2 x'.1 ∧ CalmD x'.2 ∧ List.length x'.2.2.2.1 = (4 : Nat)) ∧ List.length more - x'.1 < List.length more - x_4.1 ∧ ((↑x_4.1 : Int) + (1 : Int) = (↑x'.1 : Int) ∧ (↑(List.length x_4.2.2.2.2.1) : Int) = (↑(List.length x'.2.2.2.2.1) : Int) ∧ True) ∧ (keepN k x_4.2.2.2.2.1 x_4.2.2.1 (List.length x_4.2.2.2.2.1) = keepN k x'.2.2.2.2.1 x'.2.2.1 (List.length x'.2.2.2.2.1) ∧ True) ∧ (!false && true) = true ∧ (writeD x_4.2 (nth tAct more x_4.1).2.2.2.1 (nth tAct more x_4.1).2.1).1 = x'.2)))) ∧ ((!Err.isNil (errNo (writeD x_4.2 (nth tAct more x_4.1).2.2.2.1 (nth tAct more x_4.1).2.1).2)) = false → ((0 : Int) ≤ (↑(List.length x_4.2.2.2.2.1) : Int)) ∧ (∀ x_5 : Int, ((x_5 = Int.fdiv k ((2 : Int) ^ min (List.length x_4.2.2.2.2.1) (IntKind.bits IntKind.u64))) → (∀ x_6 : Int,
    ((x_6 = IntKind.wrap IntKind.u64 (↑(BitVec.toNat (BitVec.ofInt (IntKind.bits IntKind.u64) x_5 &&& BitVec.ofInt (IntKind.bits IntKind.u64) (1 : Int))) : Int)) → (((x_6 == (1 : Int)) = true → ((0 : Int) ≤ (↑x_4.1 : Int) ∧ (↑x_4.1 : Int) < (↑(List.length more) : Int)) ∧
    ((writeD x_4.2 (nth tAct more x_4.1).2.2.2.1 (nth tAct more x_4.1).2.1).1.2.2.2.1 = (writeD x_4.2 (nth tAct more x_4.1).2.2.2.1 (nth tAct more x_4.1).2.1).1.2.2.2.1) ∧ (True) ∧ ((True) →
    (((!Err.isNil (errNo (readD (writeD x_4.2 (nth tAct more x_4.1).2.2.2.1 (nth tAct more x_4.1).2.1).1 (nth tAct more x_4.1).2.2.2.1).2)) = true → (false = true)) ∧
    ((!Err.isNil (errNo (readD (writeD x_4.2 (nth tAct more x_4.1).2.2.2.1 (nth tAct more x_4.1).2.1).1 (nth tAct more x_4.1).2.2.2.1).2)) = false → ((0 : Int) ≤ (↑x_4.1 : Int) ∧ (↑x_4.1 : Int) < (↑(List.length more) : Int)) ∧
    ((0 : Int) ≤ (nth tAct more x_4.1).2.2.2.1 ∧ (nth tAct more x_4.1).2.2.2.1 < (↑(4 : Nat) : Int) ∧ (nth tAct more x_4.1).2.2.2.1 < (↑(List.length (keepN k x_4.2.2.2.2.1 x_4.2.2.1 (List.length x_4.2.2.2.2.1))) : Int)) ∧ (Int.toNat (nth tAct more x_4.1).2.2.2.1 < List.length (keepN k x_4.2.2.2.2.1 x_4.2.2.1 (List.length x_4.2.2.2.2.1))) ∧ ((I64 (↑(List.length x_4.2.2.2.2.1) : Int)) → ((I64 (1 : Int)) → (I64 ((↑(List.length x_4.2.2.2.2.1) : Int) + (1 : Int))) ∧ ((I64 (↑x_4.1 : Int)) → ((I64 (1 : Int)) → (I64 ((↑x_4.1 : Int) + (1 : Int))) ∧
    ((writeD x_4.2 (nth tAct more x_4.1).2.2.2.1 (nth tAct more x_4.1).2.1).1.2.2.2.1 = (writeD x_4.2 (nth tAct more x_4.1).2.2.2.1 (nth tAct more x_4.1).2.1).1.2.2.2.1 ∧ ∃ (x' : Nat × Dk), (x'.1 ≤ List.length more ∧ GoodD x'.2 x'.1 ∧ CalmD x'.2 ∧ List.length x'.2.2.2.1 = (4 : Nat)) ∧ List.length more - x'.1 < List.length more - x_4.1 ∧ ((↑x_4.1 : Int) + (1 : Int) = (↑x'.1 : Int) ∧ (↑(List.length x_4.2.2.2.2.1) : Int) + (1 : Int) = (↑(List.length x'.2.2.2.2.1) : Int) ∧ True) ∧ (List.set (keepN k x_4.2.2.2.2.1 x_4.2.2.1 (List.length x_4.2.2.2.2.1)) (Int.toNat (nth tAct more x_4.1).2.2.2.1) (readD (writeD x_4.2 (nth tAct more x_4.1).2.2.2.1 (nth tAct more x_4.1).2.1).1 (nth tAct more x_4.1).2.2.2.1).1 = keepN k x'.2.2.2.2.1 x'.2.2.1 (List.length x'.2.2.2.2.1) ∧ True) ∧ (!false && true) = true ∧ (writeD x_4.2 (nth tAct more x_4.1).2.2.2.1 (nth tAct more x_4.1).2.1).1 = x'.2))))))))) ∧ ((x_6 == (1 : Int)) = false → ((I64 (↑(List.length x_4.2.2.2.2.1) : Int)) → ((I64 (1 : Int)) → (I64 ((↑(List.length x_4.2.2.2.2.1) : Int) + (1 : Int))) ∧ ((I64 (↑x_4.1 : Int)) → ((I64 (1 : Int)) → (I64 ((↑x_4.1 : Int) + (1 : Int))) ∧
    ((writeD x_4.2 (nth tAct more x_4.1).2.2.2.1 (nth tAct more x_4.1).2.1).1.2.2.2.1 = (writeD x_4.2 (nth tAct more x_4.1).2.2.2.1 (nth tAct more x_4.1).2.1).1.2.2.2.1 ∧ ∃ (x' : Nat × Dk), (x'.1 ≤ List.length more ∧ GoodD x'.2 x'.1 ∧ CalmD x'.2 ∧ List.length x'.2.2.2.1 = (4 : Nat)) ∧ List.length more - x'.1 < List.length more - x_4.1 ∧ ((↑x_4.1 : Int) + (1 : Int) = (↑x'.1 : Int) ∧ (↑(List.length x_4.2.2.2.2.1) : Int) + (1 : Int) = (↑(List.length x'.2.2.2.2.1) : Int) ∧ True) ∧ (keepN k x_4.2.2.2.2.1 x_4.2.2.1 (List.length x_4.2.2.2.2.1) = keepN k x'.2.2.2.2.1 x'.2.2.1 (List.length x'.2.2.2.2.1) ∧ True) ∧ (!false && true) = true ∧ (writeD x_4.2 (nth tAct more x_4.1).2.2.2.1 (nth tAct more x_4.1).2.1).1 = x'.2))))))))))))))) ∧ ((decide ((↑x_4.1 : Int) < (↑(List.length more) : Int))) = false → (x_4.2.2.2.2.1 = x_4.2.2.2.2.1) ∧
    (List.length x_4.2.2.1 = List.length x_4.2.2.2.1 ∧ ∀ (i : Nat), i < List.length x_4.2.2.2.2.1 → (0 : Int) ≤ (nth tTurn x_4.2.2.2.2.1 i).1 ∧ (nth tTurn x_4.2.2.2.2.1 i).1 < (↑(List.length x_4.2.2.2.1) : Int)) ∧ ((True) →
    (((@List.nil (Int × List UInt8 × Unit) = @List.nil (Int × List UInt8 × Unit) ∧ ∃ (x' : Nat × Dk), (x'.1 ≤ (4 : Nat) ∧ CalmD x'.2 ∧ List.length x'.2.2.2.1 = (4 : Nat)) ∧ True ∧ ((0 : Int) = (↑x'.1 : Int) ∧ True) ∧ (keepN k x_4.2.2.2.2.1 x_4.2.2.1 (List.length x_4.2.2.2.2.1) = x'.2.2.2.1 ∧ True) ∧ (!false && true) = true ∧ (((-1 : Int), false, ()), keepN k x_4.2.2.2.2.1 x_4.2.2.1 (List.length x_4.2.2.2.2.1), keepN k x_4.2.2.2.2.1 x_4.2.2.1 (List.length x_4.2.2.2.2.1), [], ()) = x'.2)) ∧ ((∀ x_5 : Nat × Dk, ((x_5.1 ≤ (4 : Nat) ∧ CalmD x_5.2 ∧ List.length x_5.2.2.2.1 = (4 : Nat)) → (((decide ((↑x_5.1 : Int) < (4 : Int))) = true → (x_5.2.2.2.2.1 = x_5.2.2.2.2.1) ∧ (True) ∧ ((True) → (((!Err.isNil (errNo (readD x_5.2 (↑x_5.1 : Int)).2)) = true → (false = true)) ∧ ((!Err.isNil (errNo (readD x_5.2 (↑x_5.1 : Int)).2)) = false →
    ((0 : Int) ≤ (↑x_5.1 : Int) ∧ (↑x_5.1 : Int) < (↑(4 : Nat) : Int) ∧ (↑x_5.1 : Int) < (↑(List.length x_5.2.2.2.1) : Int)) ∧ (x_5.1 < List.length x_5.2.2.2.1) ∧ (((!(readD x_5.2 (↑x_5.1 : Int)).1 == nth Ty.str x_5.2.2.2.1 x_5.1) = true → (false = true)) ∧ ((!(readD x_5.2 (↑x_5.1 : Int)).1 == nth Ty.str x_5.2.2.2.1 x_5.1) = false → ((I64 (↑x_5.1 : Int)) → ((I64 (1 : Int)) → (I64 ((↑x_5.1 : Int) + (1 : Int))) ∧
    (x_5.2.2.2.2.1 = x_5.2.2.2.2.1 ∧ ∃ (x' : Nat × Dk), (x'.1 ≤ (4 : Nat) ∧ CalmD x'.2 ∧ List.length x'.2.2.2.1 = (4 : Nat)) ∧ (4 : Nat) - x'.1 < (4 : Nat) - x_5.1 ∧ ((↑x_5.1 : Int) + (1 : Int) = (↑x'.1 : Int) ∧ True) ∧ (x_5.2.2.2.1 = x'.2.2.2.1 ∧ True) ∧ (!false && true) = true ∧ x_5.2 = x'.2))))))))) ∧ ((decide ((↑x_5.1 : Int) < (4 : Int))) = false → (true = true))))))))))))))))))))))))))))))))))))))))))))))))))) (by kernel_rfl) ?_
  refine ⟨trivial, ?_⟩
  refine ⟨?_, ?_⟩
  ·
    intro h0
    refine ⟨fun h1 => ?_, fun h1 => ?_⟩
    ·
      first | exact True.intro | rfl | assumption | omega | (simp only [I64, big] at *; omega) | (exact absurd rfl hw) | (simp at hw; done)
    · exact absurd (show true = false from h1) (by decide)
  ·
    intro h0
    refine ⟨fun h1 => ?_, fun h1 => ?_⟩
    · exact absurd (show false = true from h1) (by decide)
    ·
      refine ⟨rfl, ?_⟩
      refine ⟨?_, ?_⟩
      · first | exact True.intro | rfl | assumption | omega | (simp only [I64, big] at *; omega) | (exact absurd rfl hw) | (simp at hw; done)
      intro h2
      refine ⟨fun h3 => ?_, fun h3 => ?_⟩
      · exact absurd (show false = true from h3) (by decide)
      ·
        refine ⟨rfl, ?_⟩
        refine ⟨trivial, ?_⟩
        intro h4
        refine ⟨fun h5 => ?_, fun h5 => ?_⟩
        · exact absurd (show false = true from h5) (by decide)
        ·
          refine ⟨trivial, ?_⟩
          intro x_0 q_0
          refine ⟨fun h6 => ?_, fun h6 => ?_⟩
          · try simp only [bl, reduceCtorEq] at h6
            first | exact True.intro | rfl | assumption | omega | (simp only [I64, big] at *; omega) | (exact absurd rfl h6) | (simp at h6; done)
          · try simp only [bl, reduceCtorEq] at h6
            refine ⟨trivial, ?_⟩
            intro x_1 q_1
            refine ⟨fun h7 => ?_, fun h7 => ?_⟩
            · try simp only [bl, reduceCtorEq] at h7
              first | exact True.intro | rfl | assumption | omega | (simp only [I64, big] at *; omega) | (exact absurd rfl h7) | (simp at h7; done)
            · try simp only [bl, reduceCtorEq] at h7
              refine ⟨?_, ?_⟩
              ·
                exact ⟨rfl, (0, newD 4), ⟨by omega, GoodD.new 4 0, rfl, by simp [newD]⟩, trivial, ⟨by simp, trivial⟩, trivial, rfl, rfl⟩
              ·
                intro x_2 q_2
                intro h8
                refine ⟨fun h9 => ?_, fun h9 => ?_⟩
                · try simp only [bl, reduceCtorEq] at h9
                  refine ⟨?_, ?_⟩
                  · first | exact True.intro | rfl | assumption | omega | (simp only [I64, big] at *; omega) | (exact absurd rfl h9) | (simp at h9; done)
                  refine ⟨?_, ?_⟩
                  · first | exact True.intro | rfl | assumption | omega | (simp only [I64, big] at *; omega) | (exact absurd rfl h9) | (simp at h9; done)
                  refine ⟨rfl, ?_⟩
                  refine ⟨?_, ?_⟩
                  · have h80 := (q_0 (by assumption)).1
                    have := q_2.2.1.few
                    exact ⟨q_2.2.1.fuse, by omega⟩
                  intro h10
                  intro h11
                  intro h12
                  refine ⟨?_, ?_⟩
                  · first | exact True.intro | rfl | assumption | omega | (simp only [I64, big] at *; omega) | (exact absurd rfl h9) | (simp at h9; done)
                  exact ⟨rfl, (x_2.1 + 1, (writeD x_2.2 _ _).1), ⟨by simp only; omega, q_2.2.1.write, q_2.2.2.1.write, by simp only; rw [writeD_len]; exact q_2.2.2.2⟩, by simp only; omega, ⟨by simp only; omega, trivial⟩, trivial, rfl, rfl⟩
                · try simp only [bl, reduceCtorEq] at h9
                  refine ⟨rfl, ?_⟩
                  refine ⟨?_, ?_⟩
                  · exact ⟨q_2.2.1.fuse, q_2.2.1.len⟩
                  intro h10
                  refine ⟨fun h11 => ?_, fun h11 => ?_⟩
                  · try simp only [bl, reduceCtorEq] at h11
                    rw [errNo_nil.2 (by rw [calm_flush q_2.2.2.1])] at h11; cases h11
                  · try simp only [bl, reduceCtorEq] at h11
                    refine ⟨?_, ?_⟩
                    ·
                      exact ⟨rfl, (0, (flushD x_2.2).1), ⟨by omega, good_flush q_2.2.2.1 q_2.2.1, q_2.2.2.1.flush, by simp only; rw [flushD_len]; exact q_2.2.2.2, by simp only [calm_flush q_2.2.2.1]⟩, trivial, ⟨by simp, trivial⟩, ⟨rfl, trivial⟩, rfl, rfl⟩
                    ·
                      intro x_3 q_3
                      refine ⟨fun h12 => ?_, fun h12 => ?_⟩
                      · try simp only [bl, reduceCtorEq] at h12
                        refine ⟨rfl, ?_⟩
                        refine ⟨trivial, ?_⟩
                        intro h13
                        refine ⟨fun h14 => ?_, fun h14 => ?_⟩
                        · try simp only [bl, reduceCtorEq] at h14
                          rw [calm_read_nil q_3.2.2.1 (by omega) (by rw [q_3.2.2.2.1]; omega)] at h14; cases h14
                        · try simp only [bl, reduceCtorEq] at h14
                          refine ⟨?_, ?_⟩
                          · refine ⟨by omega, by omega, ?_⟩
                            simp only [List.length_append, List.length_take, List.length_replicate]; omega
                          refine ⟨?_, ?_⟩
                          · simp only [List.length_append, List.length_take, List.length_replicate]; omega
                          intro h15
                          intro h16
                          refine ⟨?_, ?_⟩
                          · first | exact True.intro | rfl | assumption | omega | (simp only [I64, big] at *; omega) | (exact absurd rfl h14) | (simp at h14; done)
                          refine ⟨rfl, (x_3.1 + 1, x_3.2), ⟨by simp only; omega, q_3.2.1, q_3.2.2⟩, by simp only; omega, ⟨by simp only; omega, trivial⟩, ⟨?_, trivial⟩, rfl, rfl⟩
                          rw [calm_read q_3.2.2.1 (by omega) (by rw [q_3.2.2.2.1]; omega), Int.toNat_natCast]
                          exact takeRep_set q_3.2.2.2.1 (by omega)
                      · try simp only [bl, reduceCtorEq] at h12
                        refine ⟨?_, ?_⟩
                        ·
                          have e4 : x_3.1 = 4 := by omega
                          have hw0 : x_3.2.2.2.2.1.length = 0 := by have := q_3.2.1.few; omega
                          refine ⟨rfl, (0, x_3.2), ⟨by omega, q_3.2.1, q_3.2.2.1, q_3.2.2.2.1⟩, trivial, ⟨by simp, by simp only; rw [hw0]; rfl, trivial⟩, ⟨?_, trivial⟩, rfl, rfl⟩
                          simp only
                          rw [hw0, e4, List.take_of_length_le (by rw [q_3.2.2.2.1]; omega), q_3.2.2.2.2]
                          simp [keepN]
                        ·
                          intro x_4 q_4
                          intro h13
                          refine ⟨fun h14 => ?_, fun h14 => ?_⟩
                          · try simp only [bl, reduceCtorEq] at h14
                            refine ⟨?_, ?_⟩
                            · first | exact True.intro | rfl | assumption | omega | (simp only [I64, big] at *; omega) | (exact absurd rfl h14) | (simp at h14; done)
                            refine ⟨?_, ?_⟩
                            · first | exact True.intro | rfl | assumption | omega | (simp only [I64, big] at *; omega) | (exact absurd rfl h14) | (simp at h14; done)
                            refine ⟨rfl, ?_⟩
                            refine ⟨?_, ?_⟩
                            · have h80 := (q_1 (by assumption)).1
                              have := q_4.2.1.few
                              exact ⟨q_4.2.1.fuse, by omega⟩
                            intro h15
                            refine ⟨fun h16 => ?_, fun h16 => ?_⟩
                            · try simp only [bl, reduceCtorEq] at h16
                              intro h17
                              intro h18
                              refine ⟨?_, ?_⟩
                              · first | exact True.intro | rfl | assumption | omega | (simp only [I64, big] at *; omega) | (exact absurd rfl h16) | (simp at h16; done)
                              rw [calm_err q_4.2.2.1 h16]
                              exact ⟨rfl, (x_4.1 + 1, x_4.2), ⟨by simp only; omega, q_4.2.1.up, q_4.2.2.1, q_4.2.2.2⟩, by simp only; omega, ⟨by simp only; omega, rfl, trivial⟩, ⟨rfl, trivial⟩, rfl, rfl⟩
                            · try simp only [bl, reduceCtorEq] at h16
                              refine ⟨?_, ?_⟩
                              · first | exact True.intro | rfl | assumption | omega | (simp only [I64, big] at *; omega) | (exact absurd rfl h16) | (simp at h16; done)
                              intro x_5 q_5
                              intro x_6 q_6
                              refine ⟨fun h17 => ?_, fun h17 => ?_⟩
                              · try simp only [bl, reduceCtorEq] at h17
                                refine ⟨?_, ?_⟩
                                · first | exact True.intro | rfl | assumption | omega | (simp only [I64, big] at *; omega) | (exact absurd rfl h17) | (simp at h17; done)
                                refine ⟨rfl, ?_⟩
                                refine ⟨trivial, ?_⟩
                                intro h18
                                refine ⟨fun h19 => ?_, fun h19 => ?_⟩
                                · try simp only [bl, reduceCtorEq] at h19
                                  have hf := calm_fine q_4.2.2.1 h16
                                  rw [calm_read_nil q_4.2.2.1.write hf.1 (by rw [writeD_len]; exact hf.2.1)] at h19; cases h19
                                · try simp only [bl, reduceCtorEq] at h19
                                  refine ⟨?_, ?_⟩
                                  · first | exact True.intro | rfl | assumption | omega | (simp only [I64, big] at *; omega) | (exact absurd rfl h19) | (simp at h19; done)
                                  refine ⟨?_, ?_⟩
                                  · have hf := calm_fine q_4.2.2.1 h16
                                    have := q_4.2.1.len
                                    have := q_4.2.2.2
                                    rw [keepN_len]; have h2 := hf.2.1; have h1 := hf.1; (try dsimp only [D] at *); omega
                                  refine ⟨?_, ?_⟩
                                  · have hf := calm_fine q_4.2.2.1 h16
                                    have := q_4.2.1.len
                                    rw [keepN_len]; have := hf.2.1; have := hf.1; omega
                                  intro h20
                                  intro h21
                                  refine ⟨?_, ?_⟩
                                  · have h80 := (q_1 (by assumption)).1
                                    have := q_4.2.1.few
                                    simp only [I64]; omega
                                  intro h22
                                  intro h23
                                  refine ⟨?_, ?_⟩
                                  · first | exact True.intro | rfl | assumption | omega | (simp only [I64, big] at *; omega) | (exact absurd rfl h19) | (simp at h19; done)
                                  have hf := calm_fine q_4.2.2.1 h16
                                  have h80 := (q_1 (by assumption)).1
                                  have hfew := q_4.2.1.few
                                  have hb := (bit_test (k := k) (i := x_4.2.2.2.2.1.length) q_5 (by omega) q_6).1 h17
                                  have hr : readD (writeD x_4.2 (nth tAct more x_4.1).2.2.2.1 (nth tAct more x_4.1).2.1).1 (nth tAct more x_4.1).2.2.2.1 = (fullS (nth tAct more x_4.1).2.1, 0) := by
                                    rw [calm_read q_4.2.2.1.write hf.1 (by rw [writeD_len]; exact hf.2.1), hf.2.2]
                                    exact congrArg (fun z => (z, (0 : Int))) (nth_set (t := .str) (by have := hf.1; have := hf.2.1; omega))
                                  refine ⟨rfl, (x_4.1 + 1, (writeD x_4.2 _ _).1), ⟨by simp only; omega, q_4.2.1.write, q_4.2.2.1.write, by simp only; rw [writeD_len]; exact q_4.2.2.2⟩, by simp only; omega, ⟨by simp only; omega, ?_, trivial⟩, ⟨?_, trivial⟩, rfl, rfl⟩
                                  · simp only [hf.2.2, List.length_append, List.length_singleton]; omega
                                  · rw [hr, hf.2.2]; exact (keepN_more (x := ((nth tAct more x_4.1).2.2.2.1, fullS (nth tAct more x_4.1).2.1, ())) hb).symm
                              · try simp only [bl, reduceCtorEq] at h17
                                intro h18
                                intro h19
                                refine ⟨?_, ?_⟩
                                · have h80 := (q_1 (by assumption)).1
                                  have := q_4.2.1.few
                                  simp only [I64]; omega
                                intro h20
                                intro h21
                                refine ⟨?_, ?_⟩
                                · first | exact True.intro | rfl | assumption | omega | (simp only [I64, big] at *; omega) | (exact absurd rfl h17) | (simp at h17; done)
                                have hf := calm_fine q_4.2.2.1 h16
                                have h80 := (q_1 (by assumption)).1
                                have hfew := q_4.2.1.few
                                have hb := (not_congr (bit_test (k := k) (i := x_4.2.2.2.2.1.length) q_5 (by omega) q_6)).1 h17
                                refine ⟨rfl, (x_4.1 + 1, (writeD x_4.2 _ _).1), ⟨by simp only; omega, q_4.2.1.write, q_4.2.2.1.write, by simp only; rw [writeD_len]; exact q_4.2.2.2⟩, by simp only; omega, ⟨by simp only; omega, ?_, trivial⟩, ⟨?_, trivial⟩, rfl, rfl⟩
                                · simp only [hf.2.2, List.length_append, List.length_singleton]; omega
                                · rw [hf.2.2]; exact (keepN_same hb).symm
                          · try simp only [bl, reduceCtorEq] at h14
                            refine ⟨rfl, ?_⟩
                            refine ⟨?_, ?_⟩
                            · exact ⟨q_4.2.1.len, q_4.2.1.wait⟩
                            intro h15
                            refine ⟨?_, ?_⟩
                            ·
                              exact ⟨rfl, (0, restartD x_4.2 k), ⟨by omega, rfl, by simp only [restartD, keepN_len]; rw [q_4.2.1.len]; exact q_4.2.2.2⟩, trivial, ⟨by simp, trivial⟩, ⟨rfl, trivial⟩, rfl, rfl⟩
                            ·
                              intro x_5 q_5
                              refine ⟨fun h16 => ?_, fun h16 => ?_⟩
                              · try simp only [bl, reduceCtorEq] at h16
                                refine ⟨rfl, ?_⟩
                                refine ⟨trivial, ?_⟩
                                intro h17
                                refine ⟨fun h18 => ?_, fun h18 => ?_⟩
                                · try simp only [bl, reduceCtorEq] at h18
                                  rw [calm_read_nil q_5.2.1 (by omega) (by rw [q_5.2.2]; omega)] at h18; cases h18
                                · try simp only [bl, reduceCtorEq] at h18
                                  refine ⟨?_, ?_⟩
                                  · first | exact True.intro | rfl | assumption | omega | (simp only [I64, big] at *; omega) | (exact absurd rfl h18) | (simp at h18; done)
                                  refine ⟨?_, ?_⟩
                                  · first | exact True.intro | rfl | assumption | omega | (simp only [I64, big] at *; omega) | (exact absurd rfl h18) | (simp at h18; done)
                                  refine ⟨fun h19 => ?_, fun h19 => ?_⟩
                                  · try simp only [bl, reduceCtorEq] at h19
                                    rw [calm_read q_5.2.1 (by omega) (by rw [q_5.2.2]; omega), Int.toNat_natCast] at h19
                                    exact absurd rfl h19
                                  · try simp only [bl, reduceCtorEq] at h19
                                    intro h20
                                    intro h21
                                    refine ⟨?_, ?_⟩
                                    · first | exact True.intro | rfl | assumption | omega | (simp only [I64, big] at *; omega) | (exact absurd rfl h19) | (simp at h19; done)
                                    exact ⟨rfl, (x_5.1 + 1, x_5.2), ⟨by simp only; omega, q_5.2⟩, by simp only; omega, ⟨by simp only; omega, trivial⟩, ⟨rfl, trivial⟩, rfl, rfl⟩
                              · try simp only [bl, reduceCtorEq] at h16
                                first | exact True.intro | rfl | assumption | omega | (simp only [I64, big] at *; omega) | (exact absurd rfl h16) | (simp at h16; done)
theorem Try.ok_TopDisk : PureOK Try.prog Try.B.eT 9 [.slice tAct, .slice tAct, .int .u64] [.bool] (fun _ => True) (fun _ y => y = true) :=
  pure_fn (X := noExt) Try.tdiskCtxOK Try.func9 (by kernel_rfl) (fun x => tdAnn x.1 x.2.1 x.2.2) (fun x hw hp => vc_TopDisk x.1 x.2.1 x.2.2 hw)
open Go.ChangeShapes Go.WideShapes Go.ChangeAt Go.RowKit in
set_option maxRecDepth 100000 in
theorem topDisk_lifted (os : Os) (started : os.Started) (H : Type) (enc : TypeId × Value → H) :
    ReturnsInHanded {} Try.checked os 9 .any (Rows.topDiskSpec.pre6 enc Try.prog Try.f9 Rows.topDiskRow.domain false) (Rows.topDiskSpec.post enc Try.prog Try.f9 false true false false) := by
  refine returnsInHanded_of_change (C := Try.checked) (by kernel_rfl) started (by kernel_rfl) Try.func9
    (ChangeSpec.witness6 (enc := enc) (C := Try.checked) false ⟨#[], #[.slice none 0 0, .slice none 0 0, .int .u64 0], []⟩ 8 (by kernel_rfl) (by kernel_rfl) (by kernel_rfl) (by kernel_rfl)) ?_
  intro W base args ds gs before hval hW hcnd _
  exact law_calls (C := Try.checked) (n := 16) rfl (by kernel_rfl) (fun ds h => by match ds, h with | [_, _, _], _ => rfl) (by kernel_rfl) (by kernel_rfl) (by kernel_rfl) (tb := 4) (by kernel_rfl) Try.ok_TopDisk hval hW (fun _ _ => trivial)
open Go.ChangeShapes Go.WideShapes Go.ChangeAt Go.RowKit in
theorem topDisk_holds : Rows.TopDiskSaid :=
  OpenClaim.holds_of_wide 9 Try.f9 rfl rfl rfl rfl rfl rfl rfl ⟨rfl, rfl, rfl, rfl, rfl⟩ rfl rfl rfl rfl rfl (by kernel_rfl) Try.func9 (by kernel_rfl)
    (of_decide_eq_true (by kernel_rfl)) (by unfold Func.isWrapper; first | (rw [if_pos (by decide +kernel)]; kernel_rfl) | (rw [if_neg (by decide +kernel)]; exact ⟨rfl, rfl⟩))
    (fun os started H enc _ => topDisk_lifted os started H enc)
#print axioms topDisk_holds
end Go.Proofs.Ytgokjhhcfemnhab

