/- A part of the proof that the law FilesSays holds of the given program: facts that are used there. -/
import Derived.Test.YtgokjhhcfemnhaaFiles
import Derived.Test.YtgokjhhcfemnhaaRFiles
import Derived.Test.YtgokjhhcfemnhaaActs
import Derived.Test.YtgokjhhcfemnhaaRSame
import Derived.Test.YtgokjhhcfemnhaaMrl25
import Derived.Test.YtgokjhhcfemnhaaRows
set_option linter.unusedSimpArgs false
set_option linter.unusedVariables false
namespace Go.Proofs.Ytgokjhhcfemnhaa
open Go.Vg Go.Mrl
/-! The law of files. -/
noncomputable def Try.filed0Ctx : List (FuncId × (Bool × CSpec)) := [(12, (true, funSpec [.str] [.err] (fun _ => True) (fun s => errNo (nameFault s)))),
  (13, (true, funSpec [.str] [.int .i64] (fun _ => True) (fun s => nameFault s))),
  (14, (true, funSpec [.str] [.int .u32] (fun _ => True) (fun s => (hashF s : Int)))),
  (15, (true, funSpec [.str] [.int .i64] (fun _ => True) (fun s => (hashF s : Int)))),
  (11, (true, funSpec [.err, .int .i64] [.bool] (fun _ => True) (fun x => sameE x.1 x.2))),
  (56, (true, pureSpec [tEntry] [.bool] (fun _ => True) (fun e y => y = true → LightE e))),
  (35, (true, pureSpec [.slice tAct, .int .i64] [.bool] (fun _ => True) (fun x y => y = true → LightAs x.1 x.2))),
  (26, (true, funSpec [.slice (.int .i64), .slice (.int .i64)] [.bool] (fun _ => True) (fun x => sameI x.1 x.2))),
  (71, (true, funSpec [.slice .str, .slice .str] [.bool] (fun _ => True) (fun x => sameS x.1 x.2))),
  (63, (false, objSpec [] [] (fun _ _ => True) Try.newAlts)),
  (65, (false, objSpec Try.filesObs [.obj 0, .d .str] (fun _ _ => True) Try.freadAlts)),
  (64, (false, objSpec Try.filesObs [.obj 0, .d .str, .d .str] (fun _ x => x.2.1.1.length ≤ 6 ∧ 0 ≤ x.1.1 ∧ x.1.1 ≤ 1000000) Try.fwriteAlts)),
  (68, (false, objSpec Try.filesObs [.obj 0, .d .str] (fun _ _ => True) Try.fremoveAlts)),
  (66, (false, objSpec Try.filesObs [.obj 0] (fun _ x => x.2.1.1.length ≤ 6 ∧ (x.2.1.1.map bornF).Nodup) Try.flistAlts)),
  (70, (false, objSpec Try.rfilesObs [.obj 0, .d .str] (fun _ _ => True) Try.rreadAlts)),
  (67, (false, objSpec Try.rfilesObs [.obj 0, .d .str, .d .str] (fun _ x => x.1.1.length ≤ 6 ∧ 0 ≤ x.1.2.1 ∧ x.1.2.1 ≤ 1000000) Try.rwriteAlts)),
  (69, (false, objSpec Try.rfilesObs [.obj 0, .d .str] (fun _ x => x.1.1.length ≤ 6) Try.rremoveAlts)),
  (72, (false, objSpec Try.rfilesObs [.obj 0] (fun _ x => x.1.1.length ≤ 6) Try.rlistAlts))]
theorem Try.filed0CtxOK {X : Ext} : CtxOK Try.prog Try.B X Try.filed0Ctx :=
  ctx1 (callOK_of_fun Try.ok_Check) (ctx1 (callOK_of_fun Try.ok_NameFault) (ctx1 (callOK_of_fun Try.ok_Hash) (ctx1 (callOK_of_fun Try.ok_RHash) (ctx1 (callOK_of_fun Try.ok_same) (ctx1 (callOK_of_pure Try.ok_LightEntry) (ctx1 (callOK_of_pure Try.ok_LightActs) (ctx1 (callOK_of_fun Try.ok_SameNumbers) (ctx1 (callOK_of_fun Try.ok_SameTexts) (ctx1 (Try.ok_FNew) (ctx1 (Try.ok_FRead) (ctx1 (Try.ok_FWrite) (ctx1 (Try.ok_FRemove) (ctx1 (Try.ok_FList) (ctx1 (Try.ok_RRead) (ctx1 (Try.ok_RWrite) (ctx1 (Try.ok_RRemove) (ctx1 (Try.ok_RList) (ctx0 Try.tyOK))))))))))))))))))
set_option maxRecDepth 100000 in
set_option maxHeartbeats 4000000 in
theorem vc_drawer  (hw : wfL [] ()) : (fnVCs Try.B Try.filed0Ctx Try.f49 [] [] [.bool] (fun x y => y = (fun _ => true) x) ()).holds := by
  refine holds_of (p :=
    (True) ∧ ((True) → (List.length (@List.nil FE) ≤ (6 : Nat) ∧ (0 : Int) ≤ (0 : Int) ∧ (0 : Int) ≤ (1000000 : Int)) ∧ ((True) → (((!Err.isNil (errNo (0 : Int))) = true → (false = true)) ∧ ((!Err.isNil (errNo (0 : Int))) = false →
    (List.length (putE tFV (@List.nil FE) [(97 : UInt8)] ([(120 : UInt8)], (0 : Int) + (1 : Int), ()) (0 : Int)) ≤ (6 : Nat) ∧ (0 : Int) ≤ (0 : Int) + (1 : Int) ∧ (0 : Int) + (1 : Int) ≤ (1000000 : Int)) ∧ ((True) → (((!Err.isNil (errNo (0 : Int))) = true → (false = true)) ∧ ((!Err.isNil (errNo (0 : Int))) = false → (True) ∧ ((True) → (True) ∧ (((sameE (errNo (0 : Int)) (0 : Int)) = true → ((([(121 : UInt8)] == [(121 : UInt8)]) = true → ((((0 : Int) + (1 : Int) + (1 : Int) == (2 : Int)) = true →
    (List.length (putE tFV (putE tFV (@List.nil FE) [(97 : UInt8)] ([(120 : UInt8)], (0 : Int) + (1 : Int), ()) (0 : Int)) [(98 : UInt8)] ([(121 : UInt8)], (0 : Int) + (1 : Int) + (1 : Int), ()) (clkE tFV (@List.nil FE) [(97 : UInt8)] (0 : Int))) ≤ (6 : Nat) ∧ List.Nodup (List.map bornF (putE tFV (putE tFV (@List.nil FE) [(97 : UInt8)] ([(120 : UInt8)], (0 : Int) + (1 : Int), ()) (0 : Int)) [(98 : UInt8)] ([(121 : UInt8)], (0 : Int) + (1 : Int) + (1 : Int), ()) (clkE tFV (@List.nil FE) [(97 : UInt8)] (0 : Int))))) ∧ ((True) →
    ((List.length (listFs (((0 : Int) + (1 : Int) + (1 : Int), ()), (putE tFV (putE tFV (@List.nil FE) [(97 : UInt8)] ([(120 : UInt8)], (0 : Int) + (1 : Int), ()) (0 : Int)) [(98 : UInt8)] ([(121 : UInt8)], (0 : Int) + (1 : Int) + (1 : Int), ()) (clkE tFV (@List.nil FE) [(97 : UInt8)] (0 : Int)), clkE tFV (putE tFV (@List.nil FE) [(97 : UInt8)] ([(120 : UInt8)], (0 : Int) + (1 : Int), ()) (0 : Int)) [(98 : UInt8)] (clkE tFV (@List.nil FE) [(97 : UInt8)] (0 : Int)), ()), ())) ≤ big) →
    (((↑(List.length (listFs (((0 : Int) + (1 : Int) + (1 : Int), ()), (putE tFV (putE tFV (@List.nil FE) [(97 : UInt8)] ([(120 : UInt8)], (0 : Int) + (1 : Int), ()) (0 : Int)) [(98 : UInt8)] ([(121 : UInt8)], (0 : Int) + (1 : Int) + (1 : Int), ()) (clkE tFV (@List.nil FE) [(97 : UInt8)] (0 : Int)), clkE tFV (putE tFV (@List.nil FE) [(97 : UInt8)] ([(120 : UInt8)], (0 : Int) + (1 : Int), ()) (0 : Int)) [(98 : UInt8)] (clkE tFV (@List.nil FE) [(97 : UInt8)] (0 : Int)), ()), ()))) : Int) == (2 : Int)) = true)))) ∧ (((0 : Int) + (1 : Int) + (1 : Int) == (2 : Int)) = false → (false = true)))) ∧ (([(121 : UInt8)] == [(121 : UInt8)]) = false → (false = true)))) ∧ ((sameE (errNo (0 : Int)) (0 : Int)) = false → (false = true)))))))))))) (by kernel_rfl) ?_
  refine ⟨trivial, ?_⟩
  intro h0
  refine ⟨?_, ?_⟩
  · first | trivial | omega | (dsimp only [D] at *; omega) | (simp only [I64, big] at *; omega) | (simp_all; done)
  intro h1
  refine ⟨fun h2 => ?_, fun h2 => ?_⟩
  · exact absurd (show false = true from h2) (by decide)
  ·
    refine ⟨?_, ?_⟩
    · first | trivial | omega | (dsimp only [D] at *; omega) | (simp only [I64, big] at *; omega) | (simp_all; done)
    intro h3
    refine ⟨fun h4 => ?_, fun h4 => ?_⟩
    · exact absurd (show false = true from h4) (by decide)
    ·
      refine ⟨trivial, ?_⟩
      intro h5
      refine ⟨trivial, ?_⟩
      refine ⟨fun h6 => ?_, fun h6 => ?_⟩
      ·
        refine ⟨fun h7 => ?_, fun h7 => ?_⟩
        ·
          refine ⟨fun h8 => ?_, fun h8 => ?_⟩
          ·
            refine ⟨?_, ?_⟩
            · first | trivial | omega | (dsimp only [D] at *; omega) | (simp only [I64, big] at *; omega) | (simp_all; done)
            intro h9
            intro h10
            first | trivial | omega | (dsimp only [D] at *; omega) | (simp only [I64, big] at *; omega) | (simp_all; done)
          · exact absurd (show true = false from h8) (by decide)
        · exact absurd (show true = false from h7) (by decide)
      · exact absurd (show true = false from h6) (by decide)
theorem Try.ok_drawer : PureOK Try.prog Try.B.eT 49 [] [.bool] (fun _ => True) (fun x y => y = (fun _ => true) x) :=
  pure_fn (X := noExt) Try.filed0CtxOK Try.func49 (by kernel_rfl) (fun _ => []) (fun x hw hp => vc_drawer  hw)
@[reducible] def Try.filedObs : List Ob := Try.filesObs ++ Try.rfilesObs
def Try.filedAnn (l : List (D tAct)) : Anns := [(200000, fun st => { X := Nat, inv := fun i => i ≤ l.length, meas := fun i => l.length - i, slots := fun i => [(7, sI i)], keep := [0, 5, 6], obs := Try.filedObs, refs := [(5, 0), (6, 2)], pd := fun i => ((runF (l.take i)).1.1, (runF (l.take i)).1.2.1, (runF (l.take i)).2, ()) })]
def Try.filedAlts : List (Alt [] [.d (.slice tAct)]) := [{ obs' := Try.filedObs, res := [.obj 0, .obj 2, .d .bool], out := fun a _ => ((runF a.1).1.1, (runF a.1).1.2.1, (runF a.1).2, ()), ret := fun _ _ => (true, ()) }]
set_option maxRecDepth 100000 in
set_option maxHeartbeats 4000000 in
theorem vc_Filed (l : List (D tAct)) (hw : wfC [.d (.slice tAct)] (l, ())) : (objVCs Try.B Try.filed0Ctx Try.f50 (Try.filedAnn l) [] [.d (.slice tAct)] Try.filedAlts (l, ()) ()).holds := by
  refine holds_of (p :=
    (True) ∧ ((True) →
    (((∃ (x' : Nat), x' ≤ List.length l ∧ True ∧ ((0 : Int) = (↑x' : Int) ∧ True) ∧ (@List.nil (List UInt8 × List UInt8 × Int × Unit) = @List.nil (List UInt8 × List UInt8 × Int × Unit) ∧ True) ∧ (!false && true) = true ∧ (((0 : Int), ()), ([], (0 : Int), ()), ([], (0 : Int), ()), ()) = ((runF (List.take x' l)).1.1, (runF (List.take x' l)).1.2.1, (runF (List.take x' l)).2, ()))) ∧ ((∀ x_0 : Nat, ((x_0 ≤ List.length l) → ((List.length l ≤ big) → (((decide ((↑x_0 : Int) < (↑(List.length l) : Int))) = true → ((0 : Int) ≤ (↑x_0 : Int) ∧ (↑x_0 : Int) < (↑(List.length l) : Int)) ∧ ((((nth tAct l x_0).1 == [(119 : UInt8), (114 : UInt8), (105 : UInt8), (116 : UInt8), (101 : UInt8)]) = true → ((fun a0 a1 : Prop => a0 ∧ a1 ∧ a0 ∧ a0)
    ((List.length (runF (List.take x_0 l)).1.2.1.1 ≤ (6 : Nat) ∧ (0 : Int) ≤ (runF (List.take x_0 l)).1.1.1 ∧ (runF (List.take x_0 l)).1.1.1 ≤ (1000000 : Int)) ∧ ((True) →
    (List.length (runF (List.take x_0 l)).2.1 ≤ (6 : Nat) ∧ (0 : Int) ≤ (runF (List.take x_0 l)).2.2.1 ∧ (runF (List.take x_0 l)).2.2.1 ≤ (1000000 : Int)) ∧ ((True) → (True) ∧ (True) ∧ ((True) → (True) ∧ ((True) →
    (((!sameE (errNo (writeFs (((runF (List.take x_0 l)).1.1.1, ()), (runF (List.take x_0 l)).1.2.1, ()) (nth tAct l x_0).2.1 (nth tAct l x_0).2.2.1).2) (writeR ((runF (List.take x_0 l)).2.1, (runF (List.take x_0 l)).2.2.1, ()) (nth tAct l x_0).2.1 (nth tAct l x_0).2.2.1).2) = true → False) ∧
    ((!sameE (errNo (writeFs (((runF (List.take x_0 l)).1.1.1, ()), (runF (List.take x_0 l)).1.2.1, ()) (nth tAct l x_0).2.1 (nth tAct l x_0).2.2.1).2) (writeR ((runF (List.take x_0 l)).2.1, (runF (List.take x_0 l)).2.2.1, ()) (nth tAct l x_0).2.1 (nth tAct l x_0).2.2.1).2) = false →
    (((!(readFs (((writeFs (((runF (List.take x_0 l)).1.1.1, ()), (runF (List.take x_0 l)).1.2.1, ()) (nth tAct l x_0).2.1 (nth tAct l x_0).2.2.1).1.1.1, ()), (writeFs (((runF (List.take x_0 l)).1.1.1, ()), (runF (List.take x_0 l)).1.2.1, ()) (nth tAct l x_0).2.1 (nth tAct l x_0).2.2.1).1.2.1, ()) (nth tAct l x_0).2.1).1 == (findR (writeR ((runF (List.take x_0 l)).2.1, (runF (List.take x_0 l)).2.2.1, ()) (nth tAct l x_0).2.1 (nth tAct l x_0).2.2.1).1.1 (nth tAct l x_0).2.1).1) = true → False) ∧
    ((!(readFs (((writeFs (((runF (List.take x_0 l)).1.1.1, ()), (runF (List.take x_0 l)).1.2.1, ()) (nth tAct l x_0).2.1 (nth tAct l x_0).2.2.1).1.1.1, ()), (writeFs (((runF (List.take x_0 l)).1.1.1, ()), (runF (List.take x_0 l)).1.2.1, ()) (nth tAct l x_0).2.1 (nth tAct l x_0).2.2.1).1.2.1, ()) (nth tAct l x_0).2.1).1 == (findR (writeR ((runF (List.take x_0 l)).2.1, (runF (List.take x_0 l)).2.2.1, ()) (nth tAct l x_0).2.1 (nth tAct l x_0).2.2.1).1.1 (nth tAct l x_0).2.1).1) = false →
    ((((readFs (((writeFs (((runF (List.take x_0 l)).1.1.1, ()), (runF (List.take x_0 l)).1.2.1, ()) (nth tAct l x_0).2.1 (nth tAct l x_0).2.2.1).1.1.1, ()), (writeFs (((runF (List.take x_0 l)).1.1.1, ()), (runF (List.take x_0 l)).1.2.1, ()) (nth tAct l x_0).2.1 (nth tAct l x_0).2.2.1).1.2.1, ()) (nth tAct l x_0).2.1).2.1 != (findR (writeR ((runF (List.take x_0 l)).2.1, (runF (List.take x_0 l)).2.2.1, ()) (nth tAct l x_0).2.1 (nth tAct l x_0).2.2.1).1.1 (nth tAct l x_0).2.1).2.1) = true → False) ∧
    (((readFs (((writeFs (((runF (List.take x_0 l)).1.1.1, ()), (runF (List.take x_0 l)).1.2.1, ()) (nth tAct l x_0).2.1 (nth tAct l x_0).2.2.1).1.1.1, ()), (writeFs (((runF (List.take x_0 l)).1.1.1, ()), (runF (List.take x_0 l)).1.2.1, ()) (nth tAct l x_0).2.1 (nth tAct l x_0).2.2.1).1.2.1, ()) (nth tAct l x_0).2.1).2.1 != (findR (writeR ((runF (List.take x_0 l)).2.1, (runF (List.take x_0 l)).2.2.1, ()) (nth tAct l x_0).2.1 (nth tAct l x_0).2.2.1).1.1 (nth tAct l x_0).2.1).2.1) = false → (True) ∧
    (((!sameE (errNo (readFs (((writeFs (((runF (List.take x_0 l)).1.1.1, ()), (runF (List.take x_0 l)).1.2.1, ()) (nth tAct l x_0).2.1 (nth tAct l x_0).2.2.1).1.1.1, ()), (writeFs (((runF (List.take x_0 l)).1.1.1, ()), (runF (List.take x_0 l)).1.2.1, ()) (nth tAct l x_0).2.1 (nth tAct l x_0).2.2.1).1.2.1, ()) (nth tAct l x_0).2.1).2.2) (findR (writeR ((runF (List.take x_0 l)).2.1, (runF (List.take x_0 l)).2.2.1, ()) (nth tAct l x_0).2.1 (nth tAct l x_0).2.2.1).1.1 (nth tAct l x_0).2.1).2.2) = true → False) ∧
    ((!sameE (errNo (readFs (((writeFs (((runF (List.take x_0 l)).1.1.1, ()), (runF (List.take x_0 l)).1.2.1, ()) (nth tAct l x_0).2.1 (nth tAct l x_0).2.2.1).1.1.1, ()), (writeFs (((runF (List.take x_0 l)).1.1.1, ()), (runF (List.take x_0 l)).1.2.1, ()) (nth tAct l x_0).2.1 (nth tAct l x_0).2.2.1).1.2.1, ()) (nth tAct l x_0).2.1).2.2) (findR (writeR ((runF (List.take x_0 l)).2.1, (runF (List.take x_0 l)).2.2.1, ()) (nth tAct l x_0).2.1 (nth tAct l x_0).2.2.1).1.1 (nth tAct l x_0).2.1).2.2) = false →
    (List.length (writeFs (((runF (List.take x_0 l)).1.1.1, ()), (runF (List.take x_0 l)).1.2.1, ()) (nth tAct l x_0).2.1 (nth tAct l x_0).2.2.1).1.2.1.1 ≤ (6 : Nat) ∧ List.Nodup (List.map bornF (writeFs (((runF (List.take x_0 l)).1.1.1, ()), (runF (List.take x_0 l)).1.2.1, ()) (nth tAct l x_0).2.1 (nth tAct l x_0).2.2.1).1.2.1.1)) ∧ ((True) →
    (List.length (writeR ((runF (List.take x_0 l)).2.1, (runF (List.take x_0 l)).2.2.1, ()) (nth tAct l x_0).2.1 (nth tAct l x_0).2.2.1).1.1 ≤ (6 : Nat)) ∧ ((True) → (True) ∧
    (((!sameS (listFs (((writeFs (((runF (List.take x_0 l)).1.1.1, ()), (runF (List.take x_0 l)).1.2.1, ()) (nth tAct l x_0).2.1 (nth tAct l x_0).2.2.1).1.1.1, ()), (writeFs (((runF (List.take x_0 l)).1.1.1, ()), (runF (List.take x_0 l)).1.2.1, ()) (nth tAct l x_0).2.1 (nth tAct l x_0).2.2.1).1.2.1, ())) (List.map nameR (writeR ((runF (List.take x_0 l)).2.1, (runF (List.take x_0 l)).2.2.1, ()) (nth tAct l x_0).2.1 (nth tAct l x_0).2.2.1).1.1)) = true → False) ∧
    ((!sameS (listFs (((writeFs (((runF (List.take x_0 l)).1.1.1, ()), (runF (List.take x_0 l)).1.2.1, ()) (nth tAct l x_0).2.1 (nth tAct l x_0).2.2.1).1.1.1, ()), (writeFs (((runF (List.take x_0 l)).1.1.1, ()), (runF (List.take x_0 l)).1.2.1, ()) (nth tAct l x_0).2.1 (nth tAct l x_0).2.2.1).1.2.1, ())) (List.map nameR (writeR ((runF (List.take x_0 l)).2.1, (runF (List.take x_0 l)).2.2.1, ()) (nth tAct l x_0).2.1 (nth tAct l x_0).2.2.1).1.1)) = false → ((I64 (↑x_0 : Int)) → ((I64 (1 : Int)) → (I64 ((↑x_0 : Int) + (1 : Int))) ∧
    (∃ (x' : Nat), x' ≤ List.length l ∧ List.length l - x' < List.length l - x_0 ∧ ((↑x_0 : Int) + (1 : Int) = (↑x' : Int) ∧ True) ∧ (@List.nil (List UInt8 × List UInt8 × Int × Unit) = @List.nil (List UInt8 × List UInt8 × Int × Unit) ∧ True) ∧ (!false && true) = true ∧ (((writeFs (((runF (List.take x_0 l)).1.1.1, ()), (runF (List.take x_0 l)).1.2.1, ()) (nth tAct l x_0).2.1 (nth tAct l x_0).2.2.1).1.1.1, ()), (writeFs (((runF (List.take x_0 l)).1.1.1, ()), (runF (List.take x_0 l)).1.2.1, ()) (nth tAct l x_0).2.1 (nth tAct l x_0).2.2.1).1.2.1, ((writeR ((runF (List.take x_0 l)).2.1, (runF (List.take x_0 l)).2.2.1, ()) (nth tAct l x_0).2.1 (nth tAct l x_0).2.2.1).1.1, (writeR ((runF (List.take x_0 l)).2.1, (runF (List.take x_0 l)).2.2.1, ()) (nth tAct l x_0).2.1 (nth tAct l x_0).2.2.1).1.2.1, ()), ()) = ((runF (List.take x' l)).1.1, (runF (List.take x' l)).1.2.1, (runF (List.take x' l)).2, ()))))))))))))))))))))) (((fun a0 : Prop => a0 ∧ a0)
    ((List.length (runF (List.take x_0 l)).1.2.1.1 ≤ (6 : Nat) ∧ (0 : Int) ≤ (runF (List.take x_0 l)).1.1.1 ∧ (runF (List.take x_0 l)).1.1.1 ≤ (1000000 : Int)) ∧ ((True) →
    (List.length (runF (List.take x_0 l)).2.1 ≤ (6 : Nat) ∧ (0 : Int) ≤ (runF (List.take x_0 l)).2.2.1 ∧ (runF (List.take x_0 l)).2.2.1 ≤ (1000000 : Int)) ∧ ((True) → (True) ∧ (True) ∧ ((True) → (True) ∧ ((True) →
    (((!sameE (errNo (writeFs (((runF (List.take x_0 l)).1.1.1, ()), (runF (List.take x_0 l)).1.2.1, ()) (nth tAct l x_0).2.1 (nth tAct l x_0).2.2.1).2) (writeR ((runF (List.take x_0 l)).2.1, (runF (List.take x_0 l)).2.2.1, ()) (nth tAct l x_0).2.1 (nth tAct l x_0).2.2.1).2) = true → False) ∧
    ((!sameE (errNo (writeFs (((runF (List.take x_0 l)).1.1.1, ()), (runF (List.take x_0 l)).1.2.1, ()) (nth tAct l x_0).2.1 (nth tAct l x_0).2.2.1).2) (writeR ((runF (List.take x_0 l)).2.1, (runF (List.take x_0 l)).2.2.1, ()) (nth tAct l x_0).2.1 (nth tAct l x_0).2.2.1).2) = false →
    (((!(readFs (((writeFs (((runF (List.take x_0 l)).1.1.1, ()), (runF (List.take x_0 l)).1.2.1, ()) (nth tAct l x_0).2.1 (nth tAct l x_0).2.2.1).1.1.1, ()), (writeFs (((runF (List.take x_0 l)).1.1.1, ()), (runF (List.take x_0 l)).1.2.1, ()) (nth tAct l x_0).2.1 (nth tAct l x_0).2.2.1).1.2.1, ()) (nth tAct l x_0).2.1).1 == (findR (writeR ((runF (List.take x_0 l)).2.1, (runF (List.take x_0 l)).2.2.1, ()) (nth tAct l x_0).2.1 (nth tAct l x_0).2.2.1).1.1 (nth tAct l x_0).2.1).1) = true → False) ∧
    ((!(readFs (((writeFs (((runF (List.take x_0 l)).1.1.1, ()), (runF (List.take x_0 l)).1.2.1, ()) (nth tAct l x_0).2.1 (nth tAct l x_0).2.2.1).1.1.1, ()), (writeFs (((runF (List.take x_0 l)).1.1.1, ()), (runF (List.take x_0 l)).1.2.1, ()) (nth tAct l x_0).2.1 (nth tAct l x_0).2.2.1).1.2.1, ()) (nth tAct l x_0).2.1).1 == (findR (writeR ((runF (List.take x_0 l)).2.1, (runF (List.take x_0 l)).2.2.1, ()) (nth tAct l x_0).2.1 (nth tAct l x_0).2.2.1).1.1 (nth tAct l x_0).2.1).1) = false →
    ((((readFs (((writeFs (((runF (List.take x_0 l)).1.1.1, ()), (runF (List.take x_0 l)).1.2.1, ()) (nth tAct l x_0).2.1 (nth tAct l x_0).2.2.1).1.1.1, ()), (writeFs (((runF (List.take x_0 l)).1.1.1, ()), (runF (List.take x_0 l)).1.2.1, ()) (nth tAct l x_0).2.1 (nth tAct l x_0).2.2.1).1.2.1, ()) (nth tAct l x_0).2.1).2.1 != (findR (writeR ((runF (List.take x_0 l)).2.1, (runF (List.take x_0 l)).2.2.1, ()) (nth tAct l x_0).2.1 (nth tAct l x_0).2.2.1).1.1 (nth tAct l x_0).2.1).2.1) = true → False) ∧
    (((readFs (((writeFs (((runF (List.take x_0 l)).1.1.1, ()), (runF (List.take x_0 l)).1.2.1, ()) (nth tAct l x_0).2.1 (nth tAct l x_0).2.2.1).1.1.1, ()), (writeFs (((runF (List.take x_0 l)).1.1.1, ()), (runF (List.take x_0 l)).1.2.1, ()) (nth tAct l x_0).2.1 (nth tAct l x_0).2.2.1).1.2.1, ()) (nth tAct l x_0).2.1).2.1 != (findR (writeR ((runF (List.take x_0 l)).2.1, (runF (List.take x_0 l)).2.2.1, ()) (nth tAct l x_0).2.1 (nth tAct l x_0).2.2.1).1.1 (nth tAct l x_0).2.1).2.1) = false → (True) ∧
    (((!sameE (errNo (readFs (((writeFs (((runF (List.take x_0 l)).1.1.1, ()), (runF (List.take x_0 l)).1.2.1, ()) (nth tAct l x_0).2.1 (nth tAct l x_0).2.2.1).1.1.1, ()), (writeFs (((runF (List.take x_0 l)).1.1.1, ()), (runF (List.take x_0 l)).1.2.1, ()) (nth tAct l x_0).2.1 (nth tAct l x_0).2.2.1).1.2.1, ()) (nth tAct l x_0).2.1).2.2) (findR (writeR ((runF (List.take x_0 l)).2.1, (runF (List.take x_0 l)).2.2.1, ()) (nth tAct l x_0).2.1 (nth tAct l x_0).2.2.1).1.1 (nth tAct l x_0).2.1).2.2) = true → False) ∧
    ((!sameE (errNo (readFs (((writeFs (((runF (List.take x_0 l)).1.1.1, ()), (runF (List.take x_0 l)).1.2.1, ()) (nth tAct l x_0).2.1 (nth tAct l x_0).2.2.1).1.1.1, ()), (writeFs (((runF (List.take x_0 l)).1.1.1, ()), (runF (List.take x_0 l)).1.2.1, ()) (nth tAct l x_0).2.1 (nth tAct l x_0).2.2.1).1.2.1, ()) (nth tAct l x_0).2.1).2.2) (findR (writeR ((runF (List.take x_0 l)).2.1, (runF (List.take x_0 l)).2.2.1, ()) (nth tAct l x_0).2.1 (nth tAct l x_0).2.2.1).1.1 (nth tAct l x_0).2.1).2.2) = false →
    (List.length (writeFs (((runF (List.take x_0 l)).1.1.1, ()), (runF (List.take x_0 l)).1.2.1, ()) (nth tAct l x_0).2.1 (nth tAct l x_0).2.2.1).1.2.1.1 ≤ (6 : Nat) ∧ List.Nodup (List.map bornF (writeFs (((runF (List.take x_0 l)).1.1.1, ()), (runF (List.take x_0 l)).1.2.1, ()) (nth tAct l x_0).2.1 (nth tAct l x_0).2.2.1).1.2.1.1)) ∧ ((True) →
    (List.length (writeR ((runF (List.take x_0 l)).2.1, (runF (List.take x_0 l)).2.2.1, ()) (nth tAct l x_0).2.1 (nth tAct l x_0).2.2.1).1.1 ≤ (6 : Nat)) ∧ ((True) → (True) ∧
    (((!sameS (listFs (((writeFs (((runF (List.take x_0 l)).1.1.1, ()), (runF (List.take x_0 l)).1.2.1, ()) (nth tAct l x_0).2.1 (nth tAct l x_0).2.2.1).1.1.1, ()), (writeFs (((runF (List.take x_0 l)).1.1.1, ()), (runF (List.take x_0 l)).1.2.1, ()) (nth tAct l x_0).2.1 (nth tAct l x_0).2.2.1).1.2.1, ())) (List.map nameR (writeR ((runF (List.take x_0 l)).2.1, (runF (List.take x_0 l)).2.2.1, ()) (nth tAct l x_0).2.1 (nth tAct l x_0).2.2.1).1.1)) = true → False) ∧
    ((!sameS (listFs (((writeFs (((runF (List.take x_0 l)).1.1.1, ()), (runF (List.take x_0 l)).1.2.1, ()) (nth tAct l x_0).2.1 (nth tAct l x_0).2.2.1).1.1.1, ()), (writeFs (((runF (List.take x_0 l)).1.1.1, ()), (runF (List.take x_0 l)).1.2.1, ()) (nth tAct l x_0).2.1 (nth tAct l x_0).2.2.1).1.2.1, ())) (List.map nameR (writeR ((runF (List.take x_0 l)).2.1, (runF (List.take x_0 l)).2.2.1, ()) (nth tAct l x_0).2.1 (nth tAct l x_0).2.2.1).1.1)) = false → ((I64 (↑x_0 : Int)) → ((I64 (1 : Int)) → (I64 ((↑x_0 : Int) + (1 : Int))) ∧
    (∃ (x' : Nat), x' ≤ List.length l ∧ List.length l - x' < List.length l - x_0 ∧ ((↑x_0 : Int) + (1 : Int) = (↑x' : Int) ∧ True) ∧ (@List.nil (List UInt8 × List UInt8 × Int × Unit) = @List.nil (List UInt8 × List UInt8 × Int × Unit) ∧ True) ∧ (!false && true) = true ∧ (((writeFs (((runF (List.take x_0 l)).1.1.1, ()), (runF (List.take x_0 l)).1.2.1, ()) (nth tAct l x_0).2.1 (nth tAct l x_0).2.2.1).1.1.1, ()), (writeFs (((runF (List.take x_0 l)).1.1.1, ()), (runF (List.take x_0 l)).1.2.1, ()) (nth tAct l x_0).2.1 (nth tAct l x_0).2.2.1).1.2.1, ((writeR ((runF (List.take x_0 l)).2.1, (runF (List.take x_0 l)).2.2.1, ()) (nth tAct l x_0).2.1 (nth tAct l x_0).2.2.1).1.1, (writeR ((runF (List.take x_0 l)).2.1, (runF (List.take x_0 l)).2.2.1, ()) (nth tAct l x_0).2.1 (nth tAct l x_0).2.2.1).1.2.1, ()), ()) = ((runF (List.take x' l)).1.1, (runF (List.take x' l)).1.2.1, (runF (List.take x' l)).2, ()))))))))))))))))))))))))) ∧ (((nth tAct l x_0).1 == [(119 : UInt8), (114 : UInt8), (105 : UInt8), (116 : UInt8), (101 : UInt8)]) = false → ((fun a0 : Prop => a0 ∧ a0) ((True) ∧ ((True) → (List.length (runF (List.take x_0 l)).2.1 ≤ (6 : Nat)) ∧ ((True) → (True) ∧ (True) ∧ ((True) → (True) ∧ ((True) →
    (((!sameE (errNo (removeFs (((runF (List.take x_0 l)).1.1.1, ()), (runF (List.take x_0 l)).1.2.1, ()) (nth tAct l x_0).2.1).2) (removeR ((runF (List.take x_0 l)).2.1, (runF (List.take x_0 l)).2.2.1, ()) (nth tAct l x_0).2.1).2) = true → False) ∧
    ((!sameE (errNo (removeFs (((runF (List.take x_0 l)).1.1.1, ()), (runF (List.take x_0 l)).1.2.1, ()) (nth tAct l x_0).2.1).2) (removeR ((runF (List.take x_0 l)).2.1, (runF (List.take x_0 l)).2.2.1, ()) (nth tAct l x_0).2.1).2) = false →
    (((!(readFs (((removeFs (((runF (List.take x_0 l)).1.1.1, ()), (runF (List.take x_0 l)).1.2.1, ()) (nth tAct l x_0).2.1).1.1.1, ()), (removeFs (((runF (List.take x_0 l)).1.1.1, ()), (runF (List.take x_0 l)).1.2.1, ()) (nth tAct l x_0).2.1).1.2.1, ()) (nth tAct l x_0).2.1).1 == (findR (removeR ((runF (List.take x_0 l)).2.1, (runF (List.take x_0 l)).2.2.1, ()) (nth tAct l x_0).2.1).1.1 (nth tAct l x_0).2.1).1) = true → False) ∧
    ((!(readFs (((removeFs (((runF (List.take x_0 l)).1.1.1, ()), (runF (List.take x_0 l)).1.2.1, ()) (nth tAct l x_0).2.1).1.1.1, ()), (removeFs (((runF (List.take x_0 l)).1.1.1, ()), (runF (List.take x_0 l)).1.2.1, ()) (nth tAct l x_0).2.1).1.2.1, ()) (nth tAct l x_0).2.1).1 == (findR (removeR ((runF (List.take x_0 l)).2.1, (runF (List.take x_0 l)).2.2.1, ()) (nth tAct l x_0).2.1).1.1 (nth tAct l x_0).2.1).1) = false →
    ((((readFs (((removeFs (((runF (List.take x_0 l)).1.1.1, ()), (runF (List.take x_0 l)).1.2.1, ()) (nth tAct l x_0).2.1).1.1.1, ()), (removeFs (((runF (List.take x_0 l)).1.1.1, ()), (runF (List.take x_0 l)).1.2.1, ()) (nth tAct l x_0).2.1).1.2.1, ()) (nth tAct l x_0).2.1).2.1 != (findR (removeR ((runF (List.take x_0 l)).2.1, (runF (List.take x_0 l)).2.2.1, ()) (nth tAct l x_0).2.1).1.1 (nth tAct l x_0).2.1).2.1) = true → False) ∧
    (((readFs (((removeFs (((runF (List.take x_0 l)).1.1.1, ()), (runF (List.take x_0 l)).1.2.1, ()) (nth tAct l x_0).2.1).1.1.1, ()), (removeFs (((runF (List.take x_0 l)).1.1.1, ()), (runF (List.take x_0 l)).1.2.1, ()) (nth tAct l x_0).2.1).1.2.1, ()) (nth tAct l x_0).2.1).2.1 != (findR (removeR ((runF (List.take x_0 l)).2.1, (runF (List.take x_0 l)).2.2.1, ()) (nth tAct l x_0).2.1).1.1 (nth tAct l x_0).2.1).2.1) = false → (True) ∧
    (((!sameE (errNo (readFs (((removeFs (((runF (List.take x_0 l)).1.1.1, ()), (runF (List.take x_0 l)).1.2.1, ()) (nth tAct l x_0).2.1).1.1.1, ()), (removeFs (((runF (List.take x_0 l)).1.1.1, ()), (runF (List.take x_0 l)).1.2.1, ()) (nth tAct l x_0).2.1).1.2.1, ()) (nth tAct l x_0).2.1).2.2) (findR (removeR ((runF (List.take x_0 l)).2.1, (runF (List.take x_0 l)).2.2.1, ()) (nth tAct l x_0).2.1).1.1 (nth tAct l x_0).2.1).2.2) = true → False) ∧
    ((!sameE (errNo (readFs (((removeFs (((runF (List.take x_0 l)).1.1.1, ()), (runF (List.take x_0 l)).1.2.1, ()) (nth tAct l x_0).2.1).1.1.1, ()), (removeFs (((runF (List.take x_0 l)).1.1.1, ()), (runF (List.take x_0 l)).1.2.1, ()) (nth tAct l x_0).2.1).1.2.1, ()) (nth tAct l x_0).2.1).2.2) (findR (removeR ((runF (List.take x_0 l)).2.1, (runF (List.take x_0 l)).2.2.1, ()) (nth tAct l x_0).2.1).1.1 (nth tAct l x_0).2.1).2.2) = false →
    (List.length (removeFs (((runF (List.take x_0 l)).1.1.1, ()), (runF (List.take x_0 l)).1.2.1, ()) (nth tAct l x_0).2.1).1.2.1.1 ≤ (6 : Nat) ∧ List.Nodup (List.map bornF (removeFs (((runF (List.take x_0 l)).1.1.1, ()), (runF (List.take x_0 l)).1.2.1, ()) (nth tAct l x_0).2.1).1.2.1.1)) ∧ ((True) →
    (List.length (removeR ((runF (List.take x_0 l)).2.1, (runF (List.take x_0 l)).2.2.1, ()) (nth tAct l x_0).2.1).1.1 ≤ (6 : Nat)) ∧ ((True) → (True) ∧
    (((!sameS (listFs (((removeFs (((runF (List.take x_0 l)).1.1.1, ()), (runF (List.take x_0 l)).1.2.1, ()) (nth tAct l x_0).2.1).1.1.1, ()), (removeFs (((runF (List.take x_0 l)).1.1.1, ()), (runF (List.take x_0 l)).1.2.1, ()) (nth tAct l x_0).2.1).1.2.1, ())) (List.map nameR (removeR ((runF (List.take x_0 l)).2.1, (runF (List.take x_0 l)).2.2.1, ()) (nth tAct l x_0).2.1).1.1)) = true → False) ∧
    ((!sameS (listFs (((removeFs (((runF (List.take x_0 l)).1.1.1, ()), (runF (List.take x_0 l)).1.2.1, ()) (nth tAct l x_0).2.1).1.1.1, ()), (removeFs (((runF (List.take x_0 l)).1.1.1, ()), (runF (List.take x_0 l)).1.2.1, ()) (nth tAct l x_0).2.1).1.2.1, ())) (List.map nameR (removeR ((runF (List.take x_0 l)).2.1, (runF (List.take x_0 l)).2.2.1, ()) (nth tAct l x_0).2.1).1.1)) = false → ((I64 (↑x_0 : Int)) → ((I64 (1 : Int)) → (I64 ((↑x_0 : Int) + (1 : Int))) ∧
    (∃ (x' : Nat), x' ≤ List.length l ∧ List.length l - x' < List.length l - x_0 ∧ ((↑x_0 : Int) + (1 : Int) = (↑x' : Int) ∧ True) ∧ (@List.nil (List UInt8 × List UInt8 × Int × Unit) = @List.nil (List UInt8 × List UInt8 × Int × Unit) ∧ True) ∧ (!false && true) = true ∧ (((removeFs (((runF (List.take x_0 l)).1.1.1, ()), (runF (List.take x_0 l)).1.2.1, ()) (nth tAct l x_0).2.1).1.1.1, ()), (removeFs (((runF (List.take x_0 l)).1.1.1, ()), (runF (List.take x_0 l)).1.2.1, ()) (nth tAct l x_0).2.1).1.2.1, ((removeR ((runF (List.take x_0 l)).2.1, (runF (List.take x_0 l)).2.2.1, ()) (nth tAct l x_0).2.1).1.1, (removeR ((runF (List.take x_0 l)).2.1, (runF (List.take x_0 l)).2.2.1, ()) (nth tAct l x_0).2.1).1.2.1, ()), ()) = ((runF (List.take x' l)).1.1, (runF (List.take x' l)).1.2.1, (runF (List.take x' l)).2, ()))))))))))))))))))))))))) ∧ ((decide ((↑x_0 : Int) < (↑(List.length l) : Int))) = false →
    (True ∧ (((runF (List.take x_0 l)).1.1.1, ()), (runF (List.take x_0 l)).1.2.1, ((runF (List.take x_0 l)).2.1, (runF (List.take x_0 l)).2.2.1, ()), ()) = ((runF l).1.1, (runF l).1.2.1, (runF l).2, ()) ∧ (true, ()) = (true, ()))))))))))) (by kernel_rfl) ?_
  refine ⟨trivial, ?_⟩
  intro h0
  refine ⟨?_, ?_⟩
  ·
    exact ⟨0, by omega, trivial, ⟨rfl, trivial⟩, ⟨rfl, trivial⟩, rfl, rfl⟩
  ·
    intro x_0 q_0
    intro h1
    refine ⟨fun h2 => ?_, fun h2 => ?_⟩
    · try simp only [bl, reduceCtorEq] at h2
      refine ⟨?_, ?_⟩
      · first | trivial | omega | (dsimp only [D] at *; omega) | (simp only [I64, big] at *; omega) | (simp_all; done)
      refine ⟨fun h3 => ?_, fun h3 => ?_⟩
      · try simp only [bl, reduceCtorEq] at h3
        refine (show ∀ {a0 a1 : Prop}, a0 → a1 → a0 ∧ a1 ∧ a0 ∧ a0 from fun g0 g1 => ⟨g0, g1, g0, g0⟩) ?_ ?_
        ·
          refine ⟨?_, ?_⟩
          · exact (runF_inv (l.take x_0)).pre
          intro h4
          refine ⟨?_, ?_⟩
          · exact (runF_inv (l.take x_0)).rpre
          intro h5
          refine ⟨trivial, ?_⟩
          refine ⟨trivial, ?_⟩
          intro h6
          refine ⟨trivial, ?_⟩
          intro h7
          refine ⟨fun h8 => ?_, fun h8 => ?_⟩
          · try simp only [bl, reduceCtorEq] at h8
            exact Bool.noConfusion (((runF_inv (l.take x_0)).writeE (nth tAct l x_0).2.1 (nth tAct l x_0).2.2.1).symm.trans h8)
          · try simp only [bl, reduceCtorEq] at h8
            refine ⟨fun h9 => ?_, fun h9 => ?_⟩
            · try simp only [bl, reduceCtorEq] at h9
              have hi := runF_inv (l.take x_0); have hw := (hi.write (nth tAct l x_0).2.1 (nth tAct l x_0).2.2.1).1
              exact absurd (congrArg Prod.fst (hw.read (nth tAct l x_0).2.1)) h9
            · try simp only [bl, reduceCtorEq] at h9
              refine ⟨fun h10 => ?_, fun h10 => ?_⟩
              · try simp only [bl, reduceCtorEq] at h10
                have hi := runF_inv (l.take x_0); have hw := (hi.write (nth tAct l x_0).2.1 (nth tAct l x_0).2.2.1).1
                exact absurd (congrArg (fun z => z.2.1) (hw.read (nth tAct l x_0).2.1)) h10
              · try simp only [bl, reduceCtorEq] at h10
                refine ⟨trivial, ?_⟩
                refine ⟨fun h11 => ?_, fun h11 => ?_⟩
                · try simp only [bl, reduceCtorEq] at h11
                  have hi := runF_inv (l.take x_0); have hw := (hi.write (nth tAct l x_0).2.1 (nth tAct l x_0).2.2.1).1
                  exact Bool.noConfusion ((hw.readE (nth tAct l x_0).2.1).symm.trans h11)
                · try simp only [bl, reduceCtorEq] at h11
                  refine ⟨?_, ?_⟩
                  · have hi := runF_inv (l.take x_0); have hw := (hi.write (nth tAct l x_0).2.1 (nth tAct l x_0).2.2.1).1
                    exact hw.lpre
                  intro h12
                  refine ⟨?_, ?_⟩
                  · have hi := runF_inv (l.take x_0); have hw := (hi.write (nth tAct l x_0).2.1 (nth tAct l x_0).2.2.1).1
                    exact hw.rlen
                  intro h13
                  refine ⟨trivial, ?_⟩
                  refine ⟨fun h14 => ?_, fun h14 => ?_⟩
                  · try simp only [bl, reduceCtorEq] at h14
                    have hi := runF_inv (l.take x_0); have hw := (hi.write (nth tAct l x_0).2.1 (nth tAct l x_0).2.2.1).1
                    exact Bool.noConfusion (hw.listS.symm.trans h14)
                  · try simp only [bl, reduceCtorEq] at h14
                    intro h15
                    intro h16
                    refine ⟨?_, ?_⟩
                    · first | trivial | omega | (dsimp only [D] at *; omega) | (simp only [I64, big] at *; omega) | (simp_all; done)
                    exact ⟨x_0 + 1, by omega, by omega, ⟨by omega, trivial⟩, ⟨rfl, trivial⟩, rfl, by rw [runF_next (by omega), stepF_write (by unfold writeS; assumption)]⟩
        ·
          refine (show ∀ {a0 : Prop}, a0 → a0 ∧ a0 from fun g0 => ⟨g0, g0⟩) ?_
          ·
            refine ⟨?_, ?_⟩
            · exact (runF_inv (l.take x_0)).pre
            intro h4
            refine ⟨?_, ?_⟩
            · exact (runF_inv (l.take x_0)).rpre
            intro h5
            refine ⟨trivial, ?_⟩
            refine ⟨trivial, ?_⟩
            intro h6
            refine ⟨trivial, ?_⟩
            intro h7
            refine ⟨fun h8 => ?_, fun h8 => ?_⟩
            · try simp only [bl, reduceCtorEq] at h8
              exact Bool.noConfusion (((runF_inv (l.take x_0)).writeE (nth tAct l x_0).2.1 (nth tAct l x_0).2.2.1).symm.trans h8)
            · try simp only [bl, reduceCtorEq] at h8
              refine ⟨fun h9 => ?_, fun h9 => ?_⟩
              · try simp only [bl, reduceCtorEq] at h9
                have hi := runF_inv (l.take x_0); have hw := (hi.write (nth tAct l x_0).2.1 (nth tAct l x_0).2.2.1).1
                exact absurd (congrArg Prod.fst (hw.read (nth tAct l x_0).2.1)) h9
              · try simp only [bl, reduceCtorEq] at h9
                refine ⟨fun h10 => ?_, fun h10 => ?_⟩
                · try simp only [bl, reduceCtorEq] at h10
                  have hi := runF_inv (l.take x_0); have hw := (hi.write (nth tAct l x_0).2.1 (nth tAct l x_0).2.2.1).1
                  exact absurd (congrArg (fun z => z.2.1) (hw.read (nth tAct l x_0).2.1)) h10
                · try simp only [bl, reduceCtorEq] at h10
                  refine ⟨trivial, ?_⟩
                  refine ⟨fun h11 => ?_, fun h11 => ?_⟩
                  · try simp only [bl, reduceCtorEq] at h11
                    have hi := runF_inv (l.take x_0); have hw := (hi.write (nth tAct l x_0).2.1 (nth tAct l x_0).2.2.1).1
                    exact Bool.noConfusion ((hw.readE (nth tAct l x_0).2.1).symm.trans h11)
                  · try simp only [bl, reduceCtorEq] at h11
                    refine ⟨?_, ?_⟩
                    · have hi := runF_inv (l.take x_0); have hw := (hi.write (nth tAct l x_0).2.1 (nth tAct l x_0).2.2.1).1
                      exact hw.lpre
                    intro h12
                    refine ⟨?_, ?_⟩
                    · have hi := runF_inv (l.take x_0); have hw := (hi.write (nth tAct l x_0).2.1 (nth tAct l x_0).2.2.1).1
                      exact hw.rlen
                    intro h13
                    refine ⟨trivial, ?_⟩
                    refine ⟨fun h14 => ?_, fun h14 => ?_⟩
                    · try simp only [bl, reduceCtorEq] at h14
                      have hi := runF_inv (l.take x_0); have hw := (hi.write (nth tAct l x_0).2.1 (nth tAct l x_0).2.2.1).1
                      exact Bool.noConfusion (hw.listS.symm.trans h14)
                    · try simp only [bl, reduceCtorEq] at h14
                      intro h15
                      intro h16
                      refine ⟨?_, ?_⟩
                      · first | trivial | omega | (dsimp only [D] at *; omega) | (simp only [I64, big] at *; omega) | (simp_all; done)
                      exact ⟨x_0 + 1, by omega, by omega, ⟨by omega, trivial⟩, ⟨rfl, trivial⟩, rfl, by rw [runF_next (by omega), stepF_write (by unfold writeS; assumption)]⟩
      · try simp only [bl, reduceCtorEq] at h3
        refine (show ∀ {a0 : Prop}, a0 → a0 ∧ a0 from fun g0 => ⟨g0, g0⟩) ?_
        ·
          refine ⟨trivial, ?_⟩
          intro h4
          refine ⟨?_, ?_⟩
          · exact (runF_inv (l.take x_0)).rlen
          intro h5
          refine ⟨trivial, ?_⟩
          refine ⟨trivial, ?_⟩
          intro h6
          refine ⟨trivial, ?_⟩
          intro h7
          refine ⟨fun h8 => ?_, fun h8 => ?_⟩
          · try simp only [bl, reduceCtorEq] at h8
            exact Bool.noConfusion (((runF_inv (l.take x_0)).removeE (nth tAct l x_0).2.1).symm.trans h8)
          · try simp only [bl, reduceCtorEq] at h8
            refine ⟨fun h9 => ?_, fun h9 => ?_⟩
            · try simp only [bl, reduceCtorEq] at h9
              have hi := runF_inv (l.take x_0); have hw := (hi.remove (nth tAct l x_0).2.1).1
              exact absurd (congrArg Prod.fst (hw.read (nth tAct l x_0).2.1)) h9
            · try simp only [bl, reduceCtorEq] at h9
              refine ⟨fun h10 => ?_, fun h10 => ?_⟩
              · try simp only [bl, reduceCtorEq] at h10
                have hi := runF_inv (l.take x_0); have hw := (hi.remove (nth tAct l x_0).2.1).1
                exact absurd (congrArg (fun z => z.2.1) (hw.read (nth tAct l x_0).2.1)) h10
              · try simp only [bl, reduceCtorEq] at h10
                refine ⟨trivial, ?_⟩
                refine ⟨fun h11 => ?_, fun h11 => ?_⟩
                · try simp only [bl, reduceCtorEq] at h11
                  have hi := runF_inv (l.take x_0); have hw := (hi.remove (nth tAct l x_0).2.1).1
                  exact Bool.noConfusion ((hw.readE (nth tAct l x_0).2.1).symm.trans h11)
                · try simp only [bl, reduceCtorEq] at h11
                  refine ⟨?_, ?_⟩
                  · have hi := runF_inv (l.take x_0); have hw := (hi.remove (nth tAct l x_0).2.1).1
                    exact hw.lpre
                  intro h12
                  refine ⟨?_, ?_⟩
                  · have hi := runF_inv (l.take x_0); have hw := (hi.remove (nth tAct l x_0).2.1).1
                    exact hw.rlen
                  intro h13
                  refine ⟨trivial, ?_⟩
                  refine ⟨fun h14 => ?_, fun h14 => ?_⟩
                  · try simp only [bl, reduceCtorEq] at h14
                    have hi := runF_inv (l.take x_0); have hw := (hi.remove (nth tAct l x_0).2.1).1
                    exact Bool.noConfusion (hw.listS.symm.trans h14)
                  · try simp only [bl, reduceCtorEq] at h14
                    intro h15
                    intro h16
                    refine ⟨?_, ?_⟩
                    · first | trivial | omega | (dsimp only [D] at *; omega) | (simp only [I64, big] at *; omega) | (simp_all; done)
                    exact ⟨x_0 + 1, by omega, by omega, ⟨by omega, trivial⟩, ⟨rfl, trivial⟩, rfl, by rw [runF_next (by omega), stepF_remove (by unfold writeS; assumption)]⟩
    · try simp only [bl, reduceCtorEq] at h2
      rw [List.take_of_length_le (by omega)]; exact ⟨trivial, rfl, rfl⟩
theorem Try.ok_Filed {X : Ext} : CallOK Try.prog Try.B.eT X 50 false (objSpec [] [.d (.slice tAct)] (fun _ _ => True) Try.filedAlts) :=
  callOK_of_obj (X := X) Try.filed0CtxOK Try.func50 (by kernel_rfl) (fun (a : CD [.d (.slice tAct)]) (x : PD []) => Try.filedAnn a.1) (fun (a : CD [.d (.slice tAct)]) (x : PD []) hw hp => vc_Filed a.1 hw)
noncomputable def Try.filed1Ctx : List (FuncId × (Bool × CSpec)) := [(12, (true, funSpec [.str] [.err] (fun _ => True) (fun s => errNo (nameFault s)))),
  (13, (true, funSpec [.str] [.int .i64] (fun _ => True) (fun s => nameFault s))),
  (14, (true, funSpec [.str] [.int .u32] (fun _ => True) (fun s => (hashF s : Int)))),
  (15, (true, funSpec [.str] [.int .i64] (fun _ => True) (fun s => (hashF s : Int)))),
  (11, (true, funSpec [.err, .int .i64] [.bool] (fun _ => True) (fun x => sameE x.1 x.2))),
  (56, (true, pureSpec [tEntry] [.bool] (fun _ => True) (fun e y => y = true → LightE e))),
  (35, (true, pureSpec [.slice tAct, .int .i64] [.bool] (fun _ => True) (fun x y => y = true → LightAs x.1 x.2))),
  (26, (true, funSpec [.slice (.int .i64), .slice (.int .i64)] [.bool] (fun _ => True) (fun x => sameI x.1 x.2))),
  (71, (true, funSpec [.slice .str, .slice .str] [.bool] (fun _ => True) (fun x => sameS x.1 x.2))),
  (63, (false, objSpec [] [] (fun _ _ => True) Try.newAlts)),
  (65, (false, objSpec Try.filesObs [.obj 0, .d .str] (fun _ _ => True) Try.freadAlts)),
  (64, (false, objSpec Try.filesObs [.obj 0, .d .str, .d .str] (fun _ x => x.2.1.1.length ≤ 6 ∧ 0 ≤ x.1.1 ∧ x.1.1 ≤ 1000000) Try.fwriteAlts)),
  (68, (false, objSpec Try.filesObs [.obj 0, .d .str] (fun _ _ => True) Try.fremoveAlts)),
  (66, (false, objSpec Try.filesObs [.obj 0] (fun _ x => x.2.1.1.length ≤ 6 ∧ (x.2.1.1.map bornF).Nodup) Try.flistAlts)),
  (70, (false, objSpec Try.rfilesObs [.obj 0, .d .str] (fun _ _ => True) Try.rreadAlts)),
  (67, (false, objSpec Try.rfilesObs [.obj 0, .d .str, .d .str] (fun _ x => x.1.1.length ≤ 6 ∧ 0 ≤ x.1.2.1 ∧ x.1.2.1 ≤ 1000000) Try.rwriteAlts)),
  (69, (false, objSpec Try.rfilesObs [.obj 0, .d .str] (fun _ x => x.1.1.length ≤ 6) Try.rremoveAlts)),
  (72, (false, objSpec Try.rfilesObs [.obj 0] (fun _ x => x.1.1.length ≤ 6) Try.rlistAlts)),
  (49, (true, funSpec [] [.bool] (fun _ => True) (fun _ => true))),
  (50, (false, objSpec [] [.d (.slice tAct)] (fun _ _ => True) Try.filedAlts))]
theorem Try.filed1CtxOK {X : Ext} : CtxOK Try.prog Try.B X Try.filed1Ctx :=
  ctx1 (callOK_of_fun Try.ok_Check) (ctx1 (callOK_of_fun Try.ok_NameFault) (ctx1 (callOK_of_fun Try.ok_Hash) (ctx1 (callOK_of_fun Try.ok_RHash) (ctx1 (callOK_of_fun Try.ok_same) (ctx1 (callOK_of_pure Try.ok_LightEntry) (ctx1 (callOK_of_pure Try.ok_LightActs) (ctx1 (callOK_of_fun Try.ok_SameNumbers) (ctx1 (callOK_of_fun Try.ok_SameTexts) (ctx1 (Try.ok_FNew) (ctx1 (Try.ok_FRead) (ctx1 (Try.ok_FWrite) (ctx1 (Try.ok_FRemove) (ctx1 (Try.ok_FList) (ctx1 (Try.ok_RRead) (ctx1 (Try.ok_RWrite) (ctx1 (Try.ok_RRemove) (ctx1 (Try.ok_RList) (ctx1 (callOK_of_fun Try.ok_drawer) (ctx1 (Try.ok_Filed) (ctx0 Try.tyOK))))))))))))))))))))
set_option maxRecDepth 100000 in
set_option maxHeartbeats 4000000 in
theorem vc_FilesSays (l : List (D tAct)) (hw : wfL [.slice tAct] l) : (fnVCs Try.B Try.filed1Ctx Try.f8 [] [.slice tAct] [.bool] (fun _ y => y = true) l).holds := by
  refine holds_of (p :=
    (True) ∧ (((!true) = true → (true = true)) ∧ ((!true) = false → (True) ∧ (∀ x_0 : Bool, ((x_0 = true → LightAs l (30 : Int)) → (((!x_0) = true → (true = true)) ∧ ((!x_0) = false → (True) ∧ ((True) → (true = true))))))))) (by kernel_rfl) ?_
  refine ⟨trivial, ?_⟩
  refine ⟨fun h0 => ?_, fun h0 => ?_⟩
  · exact absurd (show false = true from h0) (by decide)
  ·
    refine ⟨trivial, ?_⟩
    intro x_0 q_0
    refine ⟨fun h1 => ?_, fun h1 => ?_⟩
    · try simp only [bl, reduceCtorEq] at h1
      first | trivial | omega | (dsimp only [D] at *; omega) | (simp only [I64, big] at *; omega) | (simp_all; done)
    · try simp only [bl, reduceCtorEq] at h1
      refine ⟨trivial, ?_⟩
      intro h2
      first | trivial | omega | (dsimp only [D] at *; omega) | (simp only [I64, big] at *; omega) | (simp_all; done)
theorem Try.ok_FilesSays : PureOK Try.prog Try.B.eT 8 [.slice tAct] [.bool] (fun _ => True) (fun _ y => y = true) :=
  pure_fn (X := noExt) Try.filed1CtxOK Try.func8 (by kernel_rfl) (fun _ => []) (fun x hw hp => vc_FilesSays x hw)
open Go.ChangeShapes Go.WideShapes Go.ChangeAt Go.RowKit in
set_option maxRecDepth 100000 in
theorem filesSays_lifted (os : Os) (started : os.Started) (H : Type) (enc : TypeId × Value → H) :
    ReturnsInHanded {} Try.checked os 8 .any (Rows.filesSaysSpec.pre6 enc Try.prog Try.f8 Rows.filesSaysRow.domain false) (Rows.filesSaysSpec.post enc Try.prog Try.f8 false true false false) := by
  refine returnsInHanded_of_change (C := Try.checked) (by kernel_rfl) started (by kernel_rfl) Try.func8
    (ChangeSpec.witness6 (enc := enc) (C := Try.checked) false ⟨#[], #[.slice none 0 0], []⟩ 8 (by kernel_rfl) (by kernel_rfl) (by kernel_rfl) (by kernel_rfl)) ?_
  intro W base args ds gs before hval hW hcnd _
  exact law_calls (C := Try.checked) (n := 16) rfl (by kernel_rfl) (fun ds h => by match ds, h with | [_], _ => rfl) (by kernel_rfl) (by kernel_rfl) (by kernel_rfl) (tb := 4) (by kernel_rfl) Try.ok_FilesSays hval hW (fun _ _ => trivial)
open Go.ChangeShapes Go.WideShapes Go.ChangeAt Go.RowKit in
theorem filesSays_holds : Rows.FilesSaysSaid :=
  OpenClaim.holds_of_wide 8 Try.f8 rfl rfl rfl rfl rfl rfl rfl ⟨rfl, rfl, rfl, rfl, rfl⟩ rfl rfl rfl rfl rfl (by kernel_rfl) Try.func8 (by kernel_rfl)
    (of_decide_eq_true (by kernel_rfl)) (by unfold Func.isWrapper; first | (rw [if_pos (by decide +kernel)]; kernel_rfl) | (rw [if_neg (by decide +kernel)]; exact ⟨rfl, rfl⟩))
    (fun os started H enc _ => filesSays_lifted os started H enc)
#print axioms filesSays_holds
end Go.Proofs.Ytgokjhhcfemnhaa

