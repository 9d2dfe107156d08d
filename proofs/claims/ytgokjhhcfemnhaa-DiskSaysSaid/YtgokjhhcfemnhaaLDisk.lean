/- A part of the proof that the law DiskSays holds of the given program: facts that are used there. -/
import Derived.Test.YtgokjhhcfemnhaaDisk
import Derived.Test.YtgokjhhcfemnhaaRDisk
import Derived.Test.YtgokjhhcfemnhaaActs
import Derived.Test.YtgokjhhcfemnhaaMrl18
import Derived.Test.YtgokjhhcfemnhaaRows
set_option linter.unusedSimpArgs false
set_option linter.unusedVariables false
namespace Go.Proofs.Ytgokjhhcfemnhaa
open Go.Vg Go.Mrl
/-! The law of disks. -/
set_option maxRecDepth 100000 in
set_option maxHeartbeats 4000000 in
theorem vc_spins  (hw : wfL [] ()) : (fnVCs Try.B Try.diskCtx Try.f34 [] [] [.bool] (fun x y => y = (fun _ => true) x) ()).holds := by
  refine holds_of (p :=
    (True) ∧ (((((3 : Int) < (1 : Int) ∨ (120 : Int) < (3 : Int)) → (((!Err.isNil (Err.no (1 : Int))) = true → (false = true)) ∧ ((!Err.isNil (Err.no (1 : Int))) = false → (false = true))))) ∧ ((((1 : Int) ≤ (3 : Int) ∧ (3 : Int) ≤ (120 : Int)) → (((!Err.isNil Err.nil) = true → (false = true)) ∧ ((!Err.isNil Err.nil) = false → (@List.nil (Int × List UInt8 × Unit) = @List.nil (Int × List UInt8 × Unit)) ∧ ((-1 : Int) ≤ (-1 : Int) ∧ List.length (@List.nil (Int × List UInt8 × Unit)) ≤ (900000000 : Nat)) ∧ ((True) →
    (@List.nil (Int × List UInt8 × Unit) ++ [((1 : Int), fullS [(120 : UInt8), (121 : UInt8)], ())] = @List.nil (Int × List UInt8 × Unit) ++ [((1 : Int), fullS [(120 : UInt8), (121 : UInt8)], ())]) ∧
    (((-1 : Int) ≤ if (0 : Int) < (-1 : Int) then (-1 : Int) - (1 : Int) else (-1 : Int)) ∧ List.length (List.replicate (3 : Nat) (fullS (@List.nil UInt8))) = List.length (List.set (List.replicate (3 : Nat) (fullS (@List.nil UInt8))) (1 : Nat) (fullS [(120 : UInt8), (121 : UInt8)]))) ∧ ((True) → (@List.nil (Int × List UInt8 × Unit) = @List.nil (Int × List UInt8 × Unit)) ∧
    (List.length (List.set (List.replicate (3 : Nat) (fullS (@List.nil UInt8))) (1 : Nat) (fullS [(120 : UInt8), (121 : UInt8)])) = List.length (List.set (List.replicate (3 : Nat) (fullS (@List.nil UInt8))) (1 : Nat) (fullS [(120 : UInt8), (121 : UInt8)])) ∧ ∀ (i : Nat), i < List.length (@List.nil (Int × List UInt8 × Unit)) → (0 : Int) ≤ zeroD (Ty.int IntKind.i64) ∧ zeroD (Ty.int IntKind.i64) < (↑(List.length (List.set (List.replicate (3 : Nat) (fullS (@List.nil UInt8))) (1 : Nat) (fullS [(120 : UInt8), (121 : UInt8)]))) : Int)) ∧ ((True) → (@List.nil (Int × List UInt8 × Unit) = @List.nil (Int × List UInt8 × Unit)) ∧ (True) ∧ ((True) → (True) ∧ (((sameE (errNo (0 : Int)) (0 : Int)) = true → (True) ∧ (((sameE (errNo (0 : Int)) (0 : Int)) = true → (True) ∧ (((sameE (errNo (0 : Int)) (0 : Int)) = true →
    ((List.length (nth Ty.str (keepN (0 : Int) (@List.nil (Int × List UInt8 × Unit)) (List.set (List.replicate (3 : Nat) (fullS (@List.nil UInt8))) (1 : Nat) (fullS [(120 : UInt8), (121 : UInt8)])) (List.length (@List.nil (Int × List UInt8 × Unit)))) (1 : Nat)) ≤ big) →
    ((((↑(List.length (nth Ty.str (keepN (0 : Int) (@List.nil (Int × List UInt8 × Unit)) (List.set (List.replicate (3 : Nat) (fullS (@List.nil UInt8))) (1 : Nat) (fullS [(120 : UInt8), (121 : UInt8)])) (List.length (@List.nil (Int × List UInt8 × Unit)))) (1 : Nat))) : Int) == (64 : Int)) = true →
    ((0 : Int) ≤ (0 : Int) ∧ (0 : Int) ≤ (2 : Int) ∧ (2 : Int) ≤ (↑(List.length (nth Ty.str (keepN (0 : Int) (@List.nil (Int × List UInt8 × Unit)) (List.set (List.replicate (3 : Nat) (fullS (@List.nil UInt8))) (1 : Nat) (fullS [(120 : UInt8), (121 : UInt8)])) (List.length (@List.nil (Int × List UInt8 × Unit)))) (1 : Nat))) : Int)) ∧
    (((List.drop (0 : Nat) (List.take (2 : Nat) (nth Ty.str (keepN (0 : Int) (@List.nil (Int × List UInt8 × Unit)) (List.set (List.replicate (3 : Nat) (fullS (@List.nil UInt8))) (1 : Nat) (fullS [(120 : UInt8), (121 : UInt8)])) (List.length (@List.nil (Int × List UInt8 × Unit)))) (1 : Nat))) == [(120 : UInt8), (121 : UInt8)]) = true → (@List.nil (Int × List UInt8 × Unit) = @List.nil (Int × List UInt8 × Unit)) ∧ (True) ∧ ((True) →
    (((↑(List.length (keepN (0 : Int) (@List.nil (Int × List UInt8 × Unit)) (List.set (List.replicate (3 : Nat) (fullS (@List.nil UInt8))) (1 : Nat) (fullS [(120 : UInt8), (121 : UInt8)])) (List.length (@List.nil (Int × List UInt8 × Unit))))) : Int) == (3 : Int)) = true))) ∧
    ((List.drop (0 : Nat) (List.take (2 : Nat) (nth Ty.str (keepN (0 : Int) (@List.nil (Int × List UInt8 × Unit)) (List.set (List.replicate (3 : Nat) (fullS (@List.nil UInt8))) (1 : Nat) (fullS [(120 : UInt8), (121 : UInt8)])) (List.length (@List.nil (Int × List UInt8 × Unit)))) (1 : Nat))) == [(120 : UInt8), (121 : UInt8)]) = false → (false = true)))) ∧
    (((↑(List.length (nth Ty.str (keepN (0 : Int) (@List.nil (Int × List UInt8 × Unit)) (List.set (List.replicate (3 : Nat) (fullS (@List.nil UInt8))) (1 : Nat) (fullS [(120 : UInt8), (121 : UInt8)])) (List.length (@List.nil (Int × List UInt8 × Unit)))) (1 : Nat))) : Int) == (64 : Int)) = false → (false = true))))) ∧ ((sameE (errNo (0 : Int)) (0 : Int)) = false → (false = true)))) ∧ ((sameE (errNo (0 : Int)) (0 : Int)) = false → (false = true)))) ∧ ((sameE (errNo (0 : Int)) (0 : Int)) = false → (false = true))))))))))))) (by kernel_rfl) ?_
  refine ⟨trivial, ?_⟩
  refine ⟨?_, ?_⟩
  ·
    intro h0
    refine ⟨fun h1 => ?_, fun h1 => ?_⟩
    ·
      first | trivial | omega | (dsimp only [D] at *; omega) | (simp only [I64, big] at *; omega) | (simp_all; done)
    · exact absurd (show true = false from h1) (by decide)
  ·
    intro h0
    refine ⟨fun h1 => ?_, fun h1 => ?_⟩
    · exact absurd (show false = true from h1) (by decide)
    ·
      refine ⟨rfl, ?_⟩
      refine ⟨?_, ?_⟩
      · first | trivial | omega | (dsimp only [D] at *; omega) | (simp only [I64, big] at *; omega) | (simp_all; done)
      intro h2
      refine ⟨rfl, ?_⟩
      refine ⟨?_, ?_⟩
      · first | trivial | omega | (dsimp only [D] at *; omega) | (simp only [I64, big] at *; omega) | (simp_all; done)
      intro h3
      refine ⟨rfl, ?_⟩
      refine ⟨?_, ?_⟩
      · first | trivial | omega | (dsimp only [D] at *; omega) | (simp only [I64, big] at *; omega) | (simp_all; done)
      intro h4
      refine ⟨rfl, ?_⟩
      refine ⟨trivial, ?_⟩
      intro h5
      refine ⟨trivial, ?_⟩
      refine ⟨fun h6 => ?_, fun h6 => ?_⟩
      ·
        refine ⟨trivial, ?_⟩
        refine ⟨fun h7 => ?_, fun h7 => ?_⟩
        ·
          refine ⟨trivial, ?_⟩
          refine ⟨fun h8 => ?_, fun h8 => ?_⟩
          ·
            intro h9
            refine ⟨fun h10 => ?_, fun h10 => ?_⟩
            ·
              refine ⟨?_, ?_⟩
              · first | trivial | omega | (dsimp only [D] at *; omega) | (simp only [I64, big] at *; omega) | (simp_all; done)
              refine ⟨fun h11 => ?_, fun h11 => ?_⟩
              ·
                refine ⟨rfl, ?_⟩
                refine ⟨trivial, ?_⟩
                intro h12
                first | trivial | omega | (dsimp only [D] at *; omega) | (simp only [I64, big] at *; omega) | (simp_all; done)
              · exact absurd (show true = false from h11) (by decide)
            · exact absurd (show true = false from h10) (by decide)
          · exact absurd (show true = false from h8) (by decide)
        · exact absurd (show true = false from h7) (by decide)
      · exact absurd (show true = false from h6) (by decide)
theorem Try.ok_spins : PureOK Try.prog Try.B.eT 34 [] [.bool] (fun _ => True) (fun x y => y = (fun _ => true) x) :=
  pure_fn (X := noExt) Try.diskCtxOK Try.func34 (by kernel_rfl) (fun _ => []) (fun x hw hp => vc_spins  hw)
noncomputable def Try.ldiskCtx : List (FuncId × (Bool × CSpec)) := [(12, (true, funSpec [.str] [.err] (fun _ => True) (fun s => errNo (nameFault s)))),
  (13, (true, funSpec [.str] [.int .i64] (fun _ => True) (fun s => nameFault s))),
  (14, (true, funSpec [.str] [.int .u32] (fun _ => True) (fun s => (hashF s : Int)))),
  (15, (true, funSpec [.str] [.int .i64] (fun _ => True) (fun s => (hashF s : Int)))),
  (11, (true, funSpec [.err, .int .i64] [.bool] (fun _ => True) (fun x => sameE x.1 x.2))),
  (39, (false, objSpec Try.diskObs [.obj 0, .d (.int .i64), .d .str] (fun _ x => -1 ≤ x.1.1 ∧ x.2.2.2.1.length ≤ 900000000) Try.writeAlts)),
  (41, (false, objSpec Try.diskObs [.obj 0, .d (.int .i64)] (fun _ _ => True) Try.readAlts)),
  (43, (false, objSpec Try.diskObs [.obj 0] (fun _ x => -1 ≤ x.1.1 ∧ x.2.1.length = x.2.2.1.length) Try.flushAlts)),
  (45, (false, objSpec Try.diskObs [.obj 0, .d (.int .i64)] (fun _ _ => True) Try.armAlts)),
  (48, (false, objSpec Try.diskObs [.obj 0] (fun _ _ => True) Try.downAlts)),
  (38, (false, objSpec Try.diskObs [.obj 0] (fun _ _ => True) Try.sectorsAlts)),
  (46, (false, objSpec Try.diskObs [.obj 0, .d (.int .u64)] (fun _ x => x.2.1.length = x.2.2.1.length ∧ ∀ i, i < x.2.2.2.1.length → 0 ≤ ((nth tTurn x.2.2.2.1 i).1 : Int) ∧ ((nth tTurn x.2.2.2.1 i).1 : Int) < x.2.2.1.length) Try.restartAlts)),
  (36, (false, objSpec [] [.d (.int .i64)] (fun _ _ => True) Try.newAlts)),
  (40, (false, objSpec Try.rdiskObs [.obj 0, .d (.int .i64), .d .str] (fun _ x => -1 ≤ x.1.1 ∧ x.2.2.2.1.length ≤ 900000000) Try.rwriteAlts)),
  (42, (false, objSpec Try.rdiskObs [.obj 0, .d (.int .i64)] (fun _ _ => True) Try.rreadAlts)),
  (44, (false, objSpec Try.rdiskObs [.obj 0] (fun _ x => -1 ≤ x.1.1 ∧ x.2.2.1.length ≤ 1000000) Try.rflushAlts)),
  (47, (false, objSpec Try.rdiskObs [.obj 0, .d (.int .u64)] (fun _ x => x.2.1.length = x.2.2.1.length ∧ x.2.2.2.1.length ≤ 1000000 ∧ x.2.2.1.length ≤ 1000000 ∧ ∀ i, i < x.2.2.2.1.length → 0 ≤ ((nth tTurn x.2.2.2.1 i).1 : Int) ∧ ((nth tTurn x.2.2.2.1 i).1 : Int) < x.2.2.1.length) Try.rrestartAlts)),
  (37, (false, objSpec [] [.d (.int .i64)] (fun _ _ => True) Try.rnewAlts)),
  (56, (true, pureSpec [tEntry] [.bool] (fun _ => True) (fun e y => y = true → LightE e))),
  (35, (true, pureSpec [.slice tAct, .int .i64] [.bool] (fun _ => True) (fun x y => y = true → LightAs x.1 x.2))),
  (34, (true, funSpec [] [.bool] (fun _ => True) (fun _ => true)))]
theorem Try.ldiskCtxOK {X : Ext} : CtxOK Try.prog Try.B X Try.ldiskCtx :=
  ctx1 (callOK_of_fun Try.ok_Check) (ctx1 (callOK_of_fun Try.ok_NameFault) (ctx1 (callOK_of_fun Try.ok_Hash) (ctx1 (callOK_of_fun Try.ok_RHash) (ctx1 (callOK_of_fun Try.ok_same) (ctx1 (Try.ok_DWrite) (ctx1 (Try.ok_DRead) (ctx1 (Try.ok_DFlush) (ctx1 (Try.ok_DArm) (ctx1 (Try.ok_DDown) (ctx1 (Try.ok_DSectors) (ctx1 (Try.ok_DRestart) (ctx1 (Try.ok_DNew) (ctx1 (Try.ok_RWrite) (ctx1 (Try.ok_RRead) (ctx1 (Try.ok_RFlush) (ctx1 (Try.ok_RRestart) (ctx1 (Try.ok_RNew) (ctx1 (callOK_of_pure Try.ok_LightEntry) (ctx1 (callOK_of_pure Try.ok_LightActs) (ctx1 (callOK_of_fun Try.ok_spins) (ctx0 Try.tyOK)))))))))))))))))))))
@[reducible] def Try.twoObs : List Ob := [.box 125 [.obj 1, .obj 2, .obj 3, .d (.int .i64), .d .bool], .row true .str, .row true .str, .tok tTurn, .box 96 [.obj 5, .obj 6, .obj 7, .d (.int .i64), .d .bool], .row true .str, .row true .str, .tok tTurn]
def dsAnn (n : Int) (l : List (D tAct)) : Anns := [
  (200000, fun st => { X := Nat × Dk, inv := fun x => x.1 ≤ l.length ∧ GoodD x.2 x.1 ∧ x.2.2.2.1.length = n.toNat, meas := fun x => l.length - x.1, slots := fun x => [(10, sI x.1)], keep := [0, 1, 6, 8], obs := Try.twoObs, refs := [(6, 0), (8, 4)], pd := fun x => (x.2.1, x.2.2.1, x.2.2.2.1, x.2.2.2.2.1, x.2) }),
  (200003, fun st => { X := Nat × Dk, inv := fun x => (x.1 : Int) ≤ n + 2, meas := fun x => (n + 2).toNat - x.1, slots := fun x => [(17, sI ((x.1 : Int) - 1))], keep := [0, 6, 8], obs := Try.twoObs, refs := [(6, 0), (8, 4)], pd := fun x => (x.2.1, x.2.2.1, x.2.2.2.1, x.2.2.2.2.1, x.2) })]
set_option maxRecDepth 100000 in
set_option maxHeartbeats 4000000 in
theorem vc_DiskSays (n : Int) (l : List (D tAct)) (hw : wfL [.int .i64, .slice tAct] (n, l)) : (fnVCs Try.B Try.ldiskCtx Try.f7 (dsAnn n l) [.int .i64, .slice tAct] [.bool] (fun _ y => y = true) (n, l)).holds := by
  refine holds_of (p :=
    (True) ∧ (((!true) = true → (true = true)) ∧ ((!true) = false → (True) ∧ (∀ x_0 : Bool, ((x_0 = true → LightAs l (80 : Int)) → (((!x_0) = true → (true = true)) ∧ ((!x_0) = false → (True) ∧ ((((n < (1 : Int) ∨ (120 : Int) < n) → (True) ∧ ((((n < (1 : Int) ∨ (120 : Int) < n) → (((decide ((1 : Int) > (0 : Int))) = true → (True) ∧ (((sameE (Err.no (1 : Int)) (1 : Int)) = true → (true = true)) ∧ ((sameE (Err.no (1 : Int)) (1 : Int)) = false → (false = true)))) ∧ ((decide ((1 : Int) > (0 : Int))) = false → (((!Err.isNil (Err.no (1 : Int))) = true → (false = true)) ∧ ((!Err.isNil (Err.no (1 : Int))) = false → (false = true))))))) ∧ ((((1 : Int) ≤ n ∧ n ≤ (120 : Int)) → (((decide ((0 : Int) > (0 : Int))) = true → (True) ∧ (((sameE (Err.no (1 : Int)) (0 : Int)) = true → (true = true)) ∧ ((sameE (Err.no (1 : Int)) (0 : Int)) = false → (false = true)))) ∧ ((decide ((0 : Int) > (0 : Int))) = false → (((!Err.isNil (Err.no (1 : Int))) = true → (false = true)) ∧ ((!Err.isNil (Err.no (1 : Int))) = false → (false = true)))))))))) ∧ ((((1 : Int) ≤ n ∧ n ≤ (120 : Int)) → (True) ∧ ((((n < (1 : Int) ∨ (120 : Int) < n) → (((decide ((1 : Int) > (0 : Int))) = true → (True) ∧ (((sameE Err.nil (1 : Int)) = true → (false = true)) ∧ ((sameE Err.nil (1 : Int)) = false → (false = true)))) ∧ ((decide ((1 : Int) > (0 : Int))) = false → (((!Err.isNil Err.nil) = true → (false = true)) ∧ ((!Err.isNil Err.nil) = false → (@List.nil (Int × List UInt8 × Unit) = @List.nil (Int × List UInt8 × Unit)) ∧ (True) ∧ ((True) → ((((↑(List.length (List.replicate (Int.toNat n) (fullS (@List.nil UInt8)))) : Int) != n) = true → (false = true)) ∧ (((↑(List.length (List.replicate (Int.toNat n) (fullS (@List.nil UInt8)))) : Int) != n) = false → ((False) ∧ ((∀ x_1 : Nat × Dk, ((x_1.1 ≤ List.length l ∧ GoodD x_1.2 x_1.1 ∧ List.length x_1.2.2.2.1 = Int.toNat n) → ((List.length l ≤ big) → (((decide ((↑x_1.1 : Int) < (↑(List.length l) : Int))) = true → ((0 : Int) ≤ (↑x_1.1 : Int) ∧ (↑x_1.1 : Int) < (↑(List.length l) : Int)) ∧ ((((nth tAct l x_1.1).1 == [(119 : UInt8), (114 : UInt8), (105 : UInt8), (116 : UInt8), (101 : UInt8)]) = true → ((fun a0 a1 : Prop => a0 ∧ a1 ∧ a0 ∧ a0) ((x_1.2.2.2.2.1 = x_1.2.2.2.2.1) ∧ ((-1 : Int) ≤ x_1.2.1.1 ∧ List.length x_1.2.2.2.2.1 ≤ (900000000 : Nat)) ∧ ((True) → (x_1.2.2.2.2.1 = x_1.2.2.2.2.1) ∧ ((-1 : Int) ≤ x_1.2.1.1 ∧ List.length x_1.2.2.2.2.1 ≤ (900000000 : Nat)) ∧ ((True) → (True) ∧
    (((!sameE (errNo (writeD x_1.2 (nth tAct l x_1.1).2.2.2.1 (nth tAct l x_1.1).2.1).2) (writeD x_1.2 (nth tAct l x_1.1).2.2.2.1 (nth tAct l x_1.1).2.1).2) = true → ((fun a0 : Prop => a0 ∧ a0) ((false = true)))) ∧
    ((!sameE (errNo (writeD x_1.2 (nth tAct l x_1.1).2.2.2.1 (nth tAct l x_1.1).2.1).2) (writeD x_1.2 (nth tAct l x_1.1).2.2.2.1 (nth tAct l x_1.1).2.1).2) = false → ((fun a0 : Prop => a0 ∧ a0)
    (((writeD x_1.2 (nth tAct l x_1.1).2.2.2.1 (nth tAct l x_1.1).2.1).1.2.2.2.1 = (writeD x_1.2 (nth tAct l x_1.1).2.2.2.1 (nth tAct l x_1.1).2.1).1.2.2.2.1) ∧ (True) ∧ ((True) →
    (((!(writeD x_1.2 (nth tAct l x_1.1).2.2.2.1 (nth tAct l x_1.1).2.1).1.1.2.1 == (writeD x_1.2 (nth tAct l x_1.1).2.2.2.1 (nth tAct l x_1.1).2.1).1.1.2.1) = true → (false = true)) ∧
    ((!(writeD x_1.2 (nth tAct l x_1.1).2.2.2.1 (nth tAct l x_1.1).2.1).1.1.2.1 == (writeD x_1.2 (nth tAct l x_1.1).2.2.2.1 (nth tAct l x_1.1).2.1).1.1.2.1) = false → ((I64 (↑x_1.1 : Int)) → ((I64 (1 : Int)) → (I64 ((↑x_1.1 : Int) + (1 : Int))) ∧
    ((writeD x_1.2 (nth tAct l x_1.1).2.2.2.1 (nth tAct l x_1.1).2.1).1.2.2.2.1 = (writeD x_1.2 (nth tAct l x_1.1).2.2.2.1 (nth tAct l x_1.1).2.1).1.2.2.2.1 ∧ (writeD x_1.2 (nth tAct l x_1.1).2.2.2.1 (nth tAct l x_1.1).2.1).1.2.2.2.1 = (writeD x_1.2 (nth tAct l x_1.1).2.2.2.1 (nth tAct l x_1.1).2.1).1.2.2.2.1 ∧ ∃ (x' : Nat × Dk), (x'.1 ≤ List.length l ∧ GoodD x'.2 x'.1 ∧ List.length x'.2.2.2.1 = Int.toNat n) ∧ List.length l - x'.1 < List.length l - x_1.1 ∧ ((↑x_1.1 : Int) + (1 : Int) = (↑x'.1 : Int) ∧ True) ∧ ((C.mrow (1 : Nat) = C.mrow (1 : Nat) ∧ C.mrow (2 : Nat) = C.mrow (2 : Nat) ∧ @List.nil (Int × List UInt8 × Unit) = @List.nil (Int × List UInt8 × Unit) ∧ (-1 : Int) = (-1 : Int) ∧ false = false ∧ True) ∧ List.replicate (Int.toNat n) (fullS (@List.nil UInt8)) = List.replicate (Int.toNat n) (fullS (@List.nil UInt8)) ∧ List.replicate (Int.toNat n) (fullS (@List.nil UInt8)) = List.replicate (Int.toNat n) (fullS (@List.nil UInt8)) ∧ @List.nil (Int × List UInt8 × Unit) = @List.nil (Int × List UInt8 × Unit) ∧ True) ∧ (!false && (!false && (!false && (!false && true)))) = true ∧ (((writeD x_1.2 (nth tAct l x_1.1).2.2.2.1 (nth tAct l x_1.1).2.1).1.1.1, (writeD x_1.2 (nth tAct l x_1.1).2.2.2.1 (nth tAct l x_1.1).2.1).1.1.2.1, ()), (writeD x_1.2 (nth tAct l x_1.1).2.2.2.1 (nth tAct l x_1.1).2.1).1.2.1, (writeD x_1.2 (nth tAct l x_1.1).2.2.2.1 (nth tAct l x_1.1).2.1).1.2.2.1, (writeD x_1.2 (nth tAct l x_1.1).2.2.2.1 (nth tAct l x_1.1).2.1).1.2.2.2.1, ((writeD x_1.2 (nth tAct l x_1.1).2.2.2.1 (nth tAct l x_1.1).2.1).1.1.1, (writeD x_1.2 (nth tAct l x_1.1).2.2.2.1 (nth tAct l x_1.1).2.1).1.1.2.1, ()), (writeD x_1.2 (nth tAct l x_1.1).2.2.2.1 (nth tAct l x_1.1).2.1).1.2.1, (writeD x_1.2 (nth tAct l x_1.1).2.2.2.1 (nth tAct l x_1.1).2.1).1.2.2.1, (writeD x_1.2 (nth tAct l x_1.1).2.2.2.1 (nth tAct l x_1.1).2.1).1.2.2.2.1, ()) = (x'.2.1, x'.2.2.1, x'.2.2.2.1, x'.2.2.2.2.1, x'.2)))))))))))))) (((fun a0 : Prop => a0 ∧ a0) ((x_1.2.2.2.2.1 = x_1.2.2.2.2.1) ∧ ((-1 : Int) ≤ x_1.2.1.1 ∧ List.length x_1.2.2.2.2.1 ≤ (900000000 : Nat)) ∧ ((True) → (x_1.2.2.2.2.1 = x_1.2.2.2.2.1) ∧ ((-1 : Int) ≤ x_1.2.1.1 ∧ List.length x_1.2.2.2.2.1 ≤ (900000000 : Nat)) ∧ ((True) → (True) ∧
    (((!sameE (errNo (writeD x_1.2 (nth tAct l x_1.1).2.2.2.1 (nth tAct l x_1.1).2.1).2) (writeD x_1.2 (nth tAct l x_1.1).2.2.2.1 (nth tAct l x_1.1).2.1).2) = true → ((fun a0 : Prop => a0 ∧ a0) ((false = true)))) ∧
    ((!sameE (errNo (writeD x_1.2 (nth tAct l x_1.1).2.2.2.1 (nth tAct l x_1.1).2.1).2) (writeD x_1.2 (nth tAct l x_1.1).2.2.2.1 (nth tAct l x_1.1).2.1).2) = false → ((fun a0 : Prop => a0 ∧ a0)
    (((writeD x_1.2 (nth tAct l x_1.1).2.2.2.1 (nth tAct l x_1.1).2.1).1.2.2.2.1 = (writeD x_1.2 (nth tAct l x_1.1).2.2.2.1 (nth tAct l x_1.1).2.1).1.2.2.2.1) ∧ (True) ∧ ((True) →
    (((!(writeD x_1.2 (nth tAct l x_1.1).2.2.2.1 (nth tAct l x_1.1).2.1).1.1.2.1 == (writeD x_1.2 (nth tAct l x_1.1).2.2.2.1 (nth tAct l x_1.1).2.1).1.1.2.1) = true → (false = true)) ∧
    ((!(writeD x_1.2 (nth tAct l x_1.1).2.2.2.1 (nth tAct l x_1.1).2.1).1.1.2.1 == (writeD x_1.2 (nth tAct l x_1.1).2.2.2.1 (nth tAct l x_1.1).2.1).1.1.2.1) = false → ((I64 (↑x_1.1 : Int)) → ((I64 (1 : Int)) → (I64 ((↑x_1.1 : Int) + (1 : Int))) ∧
    ((writeD x_1.2 (nth tAct l x_1.1).2.2.2.1 (nth tAct l x_1.1).2.1).1.2.2.2.1 = (writeD x_1.2 (nth tAct l x_1.1).2.2.2.1 (nth tAct l x_1.1).2.1).1.2.2.2.1 ∧ (writeD x_1.2 (nth tAct l x_1.1).2.2.2.1 (nth tAct l x_1.1).2.1).1.2.2.2.1 = (writeD x_1.2 (nth tAct l x_1.1).2.2.2.1 (nth tAct l x_1.1).2.1).1.2.2.2.1 ∧ ∃ (x' : Nat × Dk), (x'.1 ≤ List.length l ∧ GoodD x'.2 x'.1 ∧ List.length x'.2.2.2.1 = Int.toNat n) ∧ List.length l - x'.1 < List.length l - x_1.1 ∧ ((↑x_1.1 : Int) + (1 : Int) = (↑x'.1 : Int) ∧ True) ∧ ((C.mrow (1 : Nat) = C.mrow (1 : Nat) ∧ C.mrow (2 : Nat) = C.mrow (2 : Nat) ∧ @List.nil (Int × List UInt8 × Unit) = @List.nil (Int × List UInt8 × Unit) ∧ (-1 : Int) = (-1 : Int) ∧ false = false ∧ True) ∧ List.replicate (Int.toNat n) (fullS (@List.nil UInt8)) = List.replicate (Int.toNat n) (fullS (@List.nil UInt8)) ∧ List.replicate (Int.toNat n) (fullS (@List.nil UInt8)) = List.replicate (Int.toNat n) (fullS (@List.nil UInt8)) ∧ @List.nil (Int × List UInt8 × Unit) = @List.nil (Int × List UInt8 × Unit) ∧ True) ∧ (!false && (!false && (!false && (!false && true)))) = true ∧ (((writeD x_1.2 (nth tAct l x_1.1).2.2.2.1 (nth tAct l x_1.1).2.1).1.1.1, (writeD x_1.2 (nth tAct l x_1.1).2.2.2.1 (nth tAct l x_1.1).2.1).1.1.2.1, ()), (writeD x_1.2 (nth tAct l x_1.1).2.2.2.1 (nth tAct l x_1.1).2.1).1.2.1, (writeD x_1.2 (nth tAct l x_1.1).2.2.2.1 (nth tAct l x_1.1).2.1).1.2.2.1, (writeD x_1.2 (nth tAct l x_1.1).2.2.2.1 (nth tAct l x_1.1).2.1).1.2.2.2.1, ((writeD x_1.2 (nth tAct l x_1.1).2.2.2.1 (nth tAct l x_1.1).2.1).1.1.1, (writeD x_1.2 (nth tAct l x_1.1).2.2.2.1 (nth tAct l x_1.1).2.1).1.1.2.1, ()), (writeD x_1.2 (nth tAct l x_1.1).2.2.2.1 (nth tAct l x_1.1).2.1).1.2.1, (writeD x_1.2 (nth tAct l x_1.1).2.2.2.1 (nth tAct l x_1.1).2.1).1.2.2.1, (writeD x_1.2 (nth tAct l x_1.1).2.2.2.1 (nth tAct l x_1.1).2.1).1.2.2.2.1, ()) = (x'.2.1, x'.2.2.1, x'.2.2.2.1, x'.2.2.2.2.1, x'.2)))))))))))))))))) ∧ (((nth tAct l x_1.1).1 == [(119 : UInt8), (114 : UInt8), (105 : UInt8), (116 : UInt8), (101 : UInt8)]) = false → ((((nth tAct l x_1.1).1 == [(114 : UInt8), (101 : UInt8), (97 : UInt8), (100 : UInt8)]) = true → (x_1.2.2.2.2.1 = x_1.2.2.2.2.1) ∧ (True) ∧ ((True) → (x_1.2.2.2.2.1 = x_1.2.2.2.2.1) ∧ (True) ∧ ((True) → ((((readD x_1.2 (nth tAct l x_1.1).2.2.2.1).1 == (readD x_1.2 (nth tAct l x_1.1).2.2.2.1).1) = true → (True) ∧ (((!sameE (errNo (readD x_1.2 (nth tAct l x_1.1).2.2.2.1).2) (readD x_1.2 (nth tAct l x_1.1).2.2.2.1).2) = true → ((fun a0 : Prop => a0 ∧ a0) ((false = true)))) ∧ ((!sameE (errNo (readD x_1.2 (nth tAct l x_1.1).2.2.2.1).2) (readD x_1.2 (nth tAct l x_1.1).2.2.2.1).2) = false → ((fun a0 : Prop => a0 ∧ a0) ((x_1.2.2.2.2.1 = x_1.2.2.2.2.1) ∧ (True) ∧ ((True) → (((!x_1.2.1.2.1 == x_1.2.1.2.1) = true → (false = true)) ∧ ((!x_1.2.1.2.1 == x_1.2.1.2.1) = false → ((I64 (↑x_1.1 : Int)) → ((I64 (1 : Int)) → (I64 ((↑x_1.1 : Int) + (1 : Int))) ∧
    (x_1.2.2.2.2.1 = x_1.2.2.2.2.1 ∧ x_1.2.2.2.2.1 = x_1.2.2.2.2.1 ∧ ∃ (x' : Nat × Dk), (x'.1 ≤ List.length l ∧ GoodD x'.2 x'.1 ∧ List.length x'.2.2.2.1 = Int.toNat n) ∧ List.length l - x'.1 < List.length l - x_1.1 ∧ ((↑x_1.1 : Int) + (1 : Int) = (↑x'.1 : Int) ∧ True) ∧ ((C.mrow (1 : Nat) = C.mrow (1 : Nat) ∧ C.mrow (2 : Nat) = C.mrow (2 : Nat) ∧ @List.nil (Int × List UInt8 × Unit) = @List.nil (Int × List UInt8 × Unit) ∧ (-1 : Int) = (-1 : Int) ∧ false = false ∧ True) ∧ List.replicate (Int.toNat n) (fullS (@List.nil UInt8)) = List.replicate (Int.toNat n) (fullS (@List.nil UInt8)) ∧ List.replicate (Int.toNat n) (fullS (@List.nil UInt8)) = List.replicate (Int.toNat n) (fullS (@List.nil UInt8)) ∧ @List.nil (Int × List UInt8 × Unit) = @List.nil (Int × List UInt8 × Unit) ∧ True) ∧ (!false && (!false && (!false && (!false && true)))) = true ∧ ((x_1.2.1.1, x_1.2.1.2.1, ()), x_1.2.2.1, x_1.2.2.2.1, x_1.2.2.2.2.1, (x_1.2.1.1, x_1.2.1.2.1, ()), x_1.2.2.1, x_1.2.2.2.1, x_1.2.2.2.2.1, ()) = (x'.2.1, x'.2.2.1, x'.2.2.2.1, x'.2.2.2.2.1, x'.2)))))))))))) ∧ (((readD x_1.2 (nth tAct l x_1.1).2.2.2.1).1 == (readD x_1.2 (nth tAct l x_1.1).2.2.2.1).1) = false → ((fun a0 : Prop => a0 ∧ a0) ((false = true)))))))) ∧ (((nth tAct l x_1.1).1 == [(114 : UInt8), (101 : UInt8), (97 : UInt8), (100 : UInt8)]) = false → ((((nth tAct l x_1.1).1 == [(102 : UInt8), (108 : UInt8), (117 : UInt8), (115 : UInt8), (104 : UInt8)]) = true → (x_1.2.2.2.2.1 = x_1.2.2.2.2.1) ∧ ((-1 : Int) ≤ x_1.2.1.1 ∧ List.length x_1.2.2.1 = List.length x_1.2.2.2.1) ∧ ((True) → (x_1.2.2.2.2.1 = x_1.2.2.2.2.1) ∧ ((-1 : Int) ≤ x_1.2.1.1 ∧ List.length x_1.2.2.2.1 ≤ (1000000 : Nat)) ∧ ((True) → (True) ∧ (((!sameE (errNo (flushD x_1.2).2) (flushD x_1.2).2) = true → ((fun a0 : Prop => a0 ∧ a0) ((false = true)))) ∧ ((!sameE (errNo (flushD x_1.2).2) (flushD x_1.2).2) = false → ((fun a0 : Prop => a0 ∧ a0) (((flushD x_1.2).1.2.2.2.1 = (flushD x_1.2).1.2.2.2.1) ∧ (True) ∧ ((True) → (((!(flushD x_1.2).1.1.2.1 == (flushD x_1.2).1.1.2.1) = true → (false = true)) ∧ ((!(flushD x_1.2).1.1.2.1 == (flushD x_1.2).1.1.2.1) = false → ((I64 (↑x_1.1 : Int)) → ((I64 (1 : Int)) → (I64 ((↑x_1.1 : Int) + (1 : Int))) ∧
    ((flushD x_1.2).1.2.2.2.1 = (flushD x_1.2).1.2.2.2.1 ∧ (flushD x_1.2).1.2.2.2.1 = (flushD x_1.2).1.2.2.2.1 ∧ ∃ (x' : Nat × Dk), (x'.1 ≤ List.length l ∧ GoodD x'.2 x'.1 ∧ List.length x'.2.2.2.1 = Int.toNat n) ∧ List.length l - x'.1 < List.length l - x_1.1 ∧ ((↑x_1.1 : Int) + (1 : Int) = (↑x'.1 : Int) ∧ True) ∧ ((C.mrow (1 : Nat) = C.mrow (1 : Nat) ∧ C.mrow (2 : Nat) = C.mrow (2 : Nat) ∧ @List.nil (Int × List UInt8 × Unit) = @List.nil (Int × List UInt8 × Unit) ∧ (-1 : Int) = (-1 : Int) ∧ false = false ∧ True) ∧ List.replicate (Int.toNat n) (fullS (@List.nil UInt8)) = List.replicate (Int.toNat n) (fullS (@List.nil UInt8)) ∧ List.replicate (Int.toNat n) (fullS (@List.nil UInt8)) = List.replicate (Int.toNat n) (fullS (@List.nil UInt8)) ∧ @List.nil (Int × List UInt8 × Unit) = @List.nil (Int × List UInt8 × Unit) ∧ True) ∧ (!false && (!false && (!false && (!false && true)))) = true ∧ (((flushD x_1.2).1.1.1, (flushD x_1.2).1.1.2.1, ()), (flushD x_1.2).1.2.1, (flushD x_1.2).1.2.2.1, (flushD x_1.2).1.2.2.2.1, ((flushD x_1.2).1.1.1, (flushD x_1.2).1.1.2.1, ()), (flushD x_1.2).1.2.1, (flushD x_1.2).1.2.2.1, (flushD x_1.2).1.2.2.2.1, ()) = (x'.2.1, x'.2.2.1, x'.2.2.2.1, x'.2.2.2.2.1, x'.2)))))))))))))) ∧ (((nth tAct l x_1.1).1 == [(102 : UInt8), (108 : UInt8), (117 : UInt8), (115 : UInt8), (104 : UInt8)]) = false → ((((nth tAct l x_1.1).1 == [(97 : UInt8), (114 : UInt8), (109 : UInt8)]) = true → (x_1.2.2.2.2.1 = x_1.2.2.2.2.1) ∧ (True) ∧ ((True) → ((fun a0 : Prop => a0 ∧ a0) ((x_1.2.2.2.2.1 = x_1.2.2.2.2.1) ∧ (True) ∧ ((True) → (((!x_1.2.1.2.1 == x_1.2.1.2.1) = true → (false = true)) ∧ ((!x_1.2.1.2.1 == x_1.2.1.2.1) = false → ((I64 (↑x_1.1 : Int)) → ((I64 (1 : Int)) → (I64 ((↑x_1.1 : Int) + (1 : Int))) ∧
    (x_1.2.2.2.2.1 = x_1.2.2.2.2.1 ∧ x_1.2.2.2.2.1 = x_1.2.2.2.2.1 ∧ ∃ (x' : Nat × Dk), (x'.1 ≤ List.length l ∧ GoodD x'.2 x'.1 ∧ List.length x'.2.2.2.1 = Int.toNat n) ∧ List.length l - x'.1 < List.length l - x_1.1 ∧ ((↑x_1.1 : Int) + (1 : Int) = (↑x'.1 : Int) ∧ True) ∧ ((C.mrow (1 : Nat) = C.mrow (1 : Nat) ∧ C.mrow (2 : Nat) = C.mrow (2 : Nat) ∧ @List.nil (Int × List UInt8 × Unit) = @List.nil (Int × List UInt8 × Unit) ∧ (-1 : Int) = (-1 : Int) ∧ false = false ∧ True) ∧ List.replicate (Int.toNat n) (fullS (@List.nil UInt8)) = List.replicate (Int.toNat n) (fullS (@List.nil UInt8)) ∧ List.replicate (Int.toNat n) (fullS (@List.nil UInt8)) = List.replicate (Int.toNat n) (fullS (@List.nil UInt8)) ∧ @List.nil (Int × List UInt8 × Unit) = @List.nil (Int × List UInt8 × Unit) ∧ True) ∧ (!false && (!false && (!false && (!false && true)))) = true ∧ ((if (-1 : Int) > (nth tAct l x_1.1).2.2.2.1 then (-1 : Int) else (nth tAct l x_1.1).2.2.2.1, x_1.2.1.2.1, ()), x_1.2.2.1, x_1.2.2.2.1, x_1.2.2.2.2.1, (if (-1 : Int) > (nth tAct l x_1.1).2.2.2.1 then (-1 : Int) else (nth tAct l x_1.1).2.2.2.1, x_1.2.1.2.1, ()), x_1.2.2.1, x_1.2.2.2.1, x_1.2.2.2.2.1, ()) = (x'.2.1, x'.2.2.1, x'.2.2.2.1, x'.2.2.2.2.1, x'.2))))))))))) ∧ (((nth tAct l x_1.1).1 == [(97 : UInt8), (114 : UInt8), (109 : UInt8)]) = false → (x_1.2.2.2.2.1 = x_1.2.2.2.2.1) ∧
    (List.length x_1.2.2.1 = List.length x_1.2.2.2.1 ∧ ∀ (i : Nat), i < List.length x_1.2.2.2.2.1 → (0 : Int) ≤ (nth tTurn x_1.2.2.2.2.1 i).1 ∧ (nth tTurn x_1.2.2.2.2.1 i).1 < (↑(List.length x_1.2.2.2.1) : Int)) ∧ ((True) → (x_1.2.2.2.2.1 = x_1.2.2.2.2.1) ∧
    (List.length x_1.2.2.1 = List.length x_1.2.2.2.1 ∧ List.length x_1.2.2.2.2.1 ≤ (1000000 : Nat) ∧ List.length x_1.2.2.2.1 ≤ (1000000 : Nat) ∧ ∀ (i : Nat), i < List.length x_1.2.2.2.2.1 → (0 : Int) ≤ (nth tTurn x_1.2.2.2.2.1 i).1 ∧ (nth tTurn x_1.2.2.2.2.1 i).1 < (↑(List.length x_1.2.2.2.1) : Int)) ∧ ((True) → ((fun a0 : Prop => a0 ∧ a0) ((@List.nil (Int × List UInt8 × Unit) = @List.nil (Int × List UInt8 × Unit)) ∧ (True) ∧ ((True) → (((!false == false) = true → (false = true)) ∧ ((!false == false) = false → ((I64 (↑x_1.1 : Int)) → ((I64 (1 : Int)) → (I64 ((↑x_1.1 : Int) + (1 : Int))) ∧
    (@List.nil (Int × List UInt8 × Unit) = @List.nil (Int × List UInt8 × Unit) ∧ @List.nil (Int × List UInt8 × Unit) = @List.nil (Int × List UInt8 × Unit) ∧ ∃ (x' : Nat × Dk), (x'.1 ≤ List.length l ∧ GoodD x'.2 x'.1 ∧ List.length x'.2.2.2.1 = Int.toNat n) ∧ List.length l - x'.1 < List.length l - x_1.1 ∧ ((↑x_1.1 : Int) + (1 : Int) = (↑x'.1 : Int) ∧ True) ∧ ((C.mrow (1 : Nat) = C.mrow (1 : Nat) ∧ C.mrow (2 : Nat) = C.mrow (2 : Nat) ∧ @List.nil (Int × List UInt8 × Unit) = @List.nil (Int × List UInt8 × Unit) ∧ (-1 : Int) = (-1 : Int) ∧ false = false ∧ True) ∧ List.replicate (Int.toNat n) (fullS (@List.nil UInt8)) = List.replicate (Int.toNat n) (fullS (@List.nil UInt8)) ∧ List.replicate (Int.toNat n) (fullS (@List.nil UInt8)) = List.replicate (Int.toNat n) (fullS (@List.nil UInt8)) ∧ @List.nil (Int × List UInt8 × Unit) = @List.nil (Int × List UInt8 × Unit) ∧ True) ∧ (!false && (!false && (!false && (!false && true)))) = true ∧ (((-1 : Int), false, ()), keepN (nth tAct l x_1.1).2.2.2.2.1 x_1.2.2.2.2.1 x_1.2.2.1 (List.length x_1.2.2.2.2.1), keepN (nth tAct l x_1.1).2.2.2.2.1 x_1.2.2.2.2.1 x_1.2.2.1 (List.length x_1.2.2.2.2.1), [], ((-1 : Int), false, ()), keepN (nth tAct l x_1.1).2.2.2.2.1 x_1.2.2.2.2.1 x_1.2.2.1 (List.length x_1.2.2.2.2.1), keepN (nth tAct l x_1.1).2.2.2.2.1 x_1.2.2.2.2.1 x_1.2.2.1 (List.length x_1.2.2.2.2.1), [], ()) = (x'.2.1, x'.2.2.1, x'.2.2.2.1, x'.2.2.2.2.1, x'.2)))))))))))))))))))) ∧ ((decide ((↑x_1.1 : Int) < (↑(List.length l) : Int))) = false →
    (((x_1.2.2.2.2.1 = x_1.2.2.2.2.1 ∧ x_1.2.2.2.2.1 = x_1.2.2.2.2.1 ∧ ∃ (x' : Nat × Dk), (↑x'.1 : Int) ≤ n + (2 : Int) ∧ True ∧ ((-1 : Int) = (↑x'.1 : Int) - (1 : Int) ∧ True) ∧ ((C.mrow (1 : Nat) = C.mrow (1 : Nat) ∧ C.mrow (2 : Nat) = C.mrow (2 : Nat) ∧ @List.nil (Int × List UInt8 × Unit) = @List.nil (Int × List UInt8 × Unit) ∧ (-1 : Int) = (-1 : Int) ∧ false = false ∧ True) ∧ List.replicate (Int.toNat n) (fullS (@List.nil UInt8)) = List.replicate (Int.toNat n) (fullS (@List.nil UInt8)) ∧ List.replicate (Int.toNat n) (fullS (@List.nil UInt8)) = List.replicate (Int.toNat n) (fullS (@List.nil UInt8)) ∧ @List.nil (Int × List UInt8 × Unit) = @List.nil (Int × List UInt8 × Unit) ∧ True) ∧ (!false && (!false && (!false && (!false && true)))) = true ∧ ((x_1.2.1.1, x_1.2.1.2.1, ()), x_1.2.2.1, x_1.2.2.2.1, x_1.2.2.2.2.1, (x_1.2.1.1, x_1.2.1.2.1, ()), x_1.2.2.1, x_1.2.2.2.1, x_1.2.2.2.2.1, ()) = (x'.2.1, x'.2.2.1, x'.2.2.2.1, x'.2.2.2.2.1, x'.2))) ∧ ((∀ x_2 : Nat × Dk, (((↑x_2.1 : Int) ≤ n + (2 : Int)) → (((decide ((↑x_2.1 : Int) - (1 : Int) ≤ n)) = true → (x_2.2.2.2.2.1 = x_2.2.2.2.2.1) ∧ (True) ∧ ((True) → (x_2.2.2.2.2.1 = x_2.2.2.2.2.1) ∧ (True) ∧ ((True) → (((!(readD x_2.2 ((↑x_2.1 : Int) - (1 : Int))).1 == (readD x_2.2 ((↑x_2.1 : Int) - (1 : Int))).1) = true → (false = true)) ∧ ((!(readD x_2.2 ((↑x_2.1 : Int) - (1 : Int))).1 == (readD x_2.2 ((↑x_2.1 : Int) - (1 : Int))).1) = false → (True) ∧ (((!sameE (errNo (readD x_2.2 ((↑x_2.1 : Int) - (1 : Int))).2) (readD x_2.2 ((↑x_2.1 : Int) - (1 : Int))).2) = true → (false = true)) ∧ ((!sameE (errNo (readD x_2.2 ((↑x_2.1 : Int) - (1 : Int))).2) (readD x_2.2 ((↑x_2.1 : Int) - (1 : Int))).2) = false → ((I64 ((↑x_2.1 : Int) - (1 : Int))) → ((I64 (1 : Int)) → (I64 ((↑x_2.1 : Int) - (1 : Int) + (1 : Int))) ∧
    (x_2.2.2.2.2.1 = x_2.2.2.2.2.1 ∧ x_2.2.2.2.2.1 = x_2.2.2.2.2.1 ∧ ∃ (x' : Nat × Dk), (↑x'.1 : Int) ≤ n + (2 : Int) ∧ Int.toNat (n + (2 : Int)) - x'.1 < Int.toNat (n + (2 : Int)) - x_2.1 ∧ ((↑x_2.1 : Int) - (1 : Int) + (1 : Int) = (↑x'.1 : Int) - (1 : Int) ∧ True) ∧ ((C.mrow (1 : Nat) = C.mrow (1 : Nat) ∧ C.mrow (2 : Nat) = C.mrow (2 : Nat) ∧ @List.nil (Int × List UInt8 × Unit) = @List.nil (Int × List UInt8 × Unit) ∧ (-1 : Int) = (-1 : Int) ∧ false = false ∧ True) ∧ List.replicate (Int.toNat n) (fullS (@List.nil UInt8)) = List.replicate (Int.toNat n) (fullS (@List.nil UInt8)) ∧ List.replicate (Int.toNat n) (fullS (@List.nil UInt8)) = List.replicate (Int.toNat n) (fullS (@List.nil UInt8)) ∧ @List.nil (Int × List UInt8 × Unit) = @List.nil (Int × List UInt8 × Unit) ∧ True) ∧ (!false && (!false && (!false && (!false && true)))) = true ∧ ((x_2.2.1.1, x_2.2.1.2.1, ()), x_2.2.2.1, x_2.2.2.2.1, x_2.2.2.2.2.1, (x_2.2.1.1, x_2.2.1.2.1, ()), x_2.2.2.1, x_2.2.2.2.1, x_2.2.2.2.2.1, ()) = (x'.2.1, x'.2.2.1, x'.2.2.2.1, x'.2.2.2.2.1, x'.2))))))))))) ∧ ((decide ((↑x_2.1 : Int) - (1 : Int) ≤ n)) = false → (true = true))))))))))))))))))))))) ∧ ((((1 : Int) ≤ n ∧ n ≤ (120 : Int)) → (((decide ((0 : Int) > (0 : Int))) = true → (True) ∧ (((sameE Err.nil (0 : Int)) = true → (false = true)) ∧ ((sameE Err.nil (0 : Int)) = false → (false = true)))) ∧ ((decide ((0 : Int) > (0 : Int))) = false → (((!Err.isNil Err.nil) = true → (false = true)) ∧ ((!Err.isNil Err.nil) = false → (@List.nil (Int × List UInt8 × Unit) = @List.nil (Int × List UInt8 × Unit)) ∧ (True) ∧ ((True) → ((((↑(List.length (List.replicate (Int.toNat n) (fullS (@List.nil UInt8)))) : Int) != n) = true → (false = true)) ∧ (((↑(List.length (List.replicate (Int.toNat n) (fullS (@List.nil UInt8)))) : Int) != n) = false →
    (((@List.nil (Int × List UInt8 × Unit) = @List.nil (Int × List UInt8 × Unit) ∧ @List.nil (Int × List UInt8 × Unit) = @List.nil (Int × List UInt8 × Unit) ∧ ∃ (x' : Nat × Dk), (x'.1 ≤ List.length l ∧ GoodD x'.2 x'.1 ∧ List.length x'.2.2.2.1 = Int.toNat n) ∧ True ∧ ((0 : Int) = (↑x'.1 : Int) ∧ True) ∧ True ∧ true = true ∧ (((-1 : Int), false, ()), List.replicate (Int.toNat n) (fullS (@List.nil UInt8)), List.replicate (Int.toNat n) (fullS (@List.nil UInt8)), [], ((-1 : Int), false, ()), List.replicate (Int.toNat n) (fullS (@List.nil UInt8)), List.replicate (Int.toNat n) (fullS (@List.nil UInt8)), [], ()) = (x'.2.1, x'.2.2.1, x'.2.2.2.1, x'.2.2.2.2.1, x'.2))) ∧ ((∀ x_1 : Nat × Dk, ((x_1.1 ≤ List.length l ∧ GoodD x_1.2 x_1.1 ∧ List.length x_1.2.2.2.1 = Int.toNat n) → ((List.length l ≤ big) → (((decide ((↑x_1.1 : Int) < (↑(List.length l) : Int))) = true → ((0 : Int) ≤ (↑x_1.1 : Int) ∧ (↑x_1.1 : Int) < (↑(List.length l) : Int)) ∧ ((((nth tAct l x_1.1).1 == [(119 : UInt8), (114 : UInt8), (105 : UInt8), (116 : UInt8), (101 : UInt8)]) = true → ((fun a0 a1 : Prop => a0 ∧ a1 ∧ a0 ∧ a0) ((x_1.2.2.2.2.1 = x_1.2.2.2.2.1) ∧ ((-1 : Int) ≤ x_1.2.1.1 ∧ List.length x_1.2.2.2.2.1 ≤ (900000000 : Nat)) ∧ ((True) → (x_1.2.2.2.2.1 = x_1.2.2.2.2.1) ∧ ((-1 : Int) ≤ x_1.2.1.1 ∧ List.length x_1.2.2.2.2.1 ≤ (900000000 : Nat)) ∧ ((True) → (True) ∧
    (((!sameE (errNo (writeD x_1.2 (nth tAct l x_1.1).2.2.2.1 (nth tAct l x_1.1).2.1).2) (writeD x_1.2 (nth tAct l x_1.1).2.2.2.1 (nth tAct l x_1.1).2.1).2) = true → ((fun a0 : Prop => a0 ∧ a0) ((false = true)))) ∧
    ((!sameE (errNo (writeD x_1.2 (nth tAct l x_1.1).2.2.2.1 (nth tAct l x_1.1).2.1).2) (writeD x_1.2 (nth tAct l x_1.1).2.2.2.1 (nth tAct l x_1.1).2.1).2) = false → ((fun a0 : Prop => a0 ∧ a0)
    (((writeD x_1.2 (nth tAct l x_1.1).2.2.2.1 (nth tAct l x_1.1).2.1).1.2.2.2.1 = (writeD x_1.2 (nth tAct l x_1.1).2.2.2.1 (nth tAct l x_1.1).2.1).1.2.2.2.1) ∧ (True) ∧ ((True) →
    (((!(writeD x_1.2 (nth tAct l x_1.1).2.2.2.1 (nth tAct l x_1.1).2.1).1.1.2.1 == (writeD x_1.2 (nth tAct l x_1.1).2.2.2.1 (nth tAct l x_1.1).2.1).1.1.2.1) = true → (false = true)) ∧
    ((!(writeD x_1.2 (nth tAct l x_1.1).2.2.2.1 (nth tAct l x_1.1).2.1).1.1.2.1 == (writeD x_1.2 (nth tAct l x_1.1).2.2.2.1 (nth tAct l x_1.1).2.1).1.1.2.1) = false → ((I64 (↑x_1.1 : Int)) → ((I64 (1 : Int)) → (I64 ((↑x_1.1 : Int) + (1 : Int))) ∧
    ((writeD x_1.2 (nth tAct l x_1.1).2.2.2.1 (nth tAct l x_1.1).2.1).1.2.2.2.1 = (writeD x_1.2 (nth tAct l x_1.1).2.2.2.1 (nth tAct l x_1.1).2.1).1.2.2.2.1 ∧ (writeD x_1.2 (nth tAct l x_1.1).2.2.2.1 (nth tAct l x_1.1).2.1).1.2.2.2.1 = (writeD x_1.2 (nth tAct l x_1.1).2.2.2.1 (nth tAct l x_1.1).2.1).1.2.2.2.1 ∧ ∃ (x' : Nat × Dk), (x'.1 ≤ List.length l ∧ GoodD x'.2 x'.1 ∧ List.length x'.2.2.2.1 = Int.toNat n) ∧ List.length l - x'.1 < List.length l - x_1.1 ∧ ((↑x_1.1 : Int) + (1 : Int) = (↑x'.1 : Int) ∧ True) ∧ True ∧ true = true ∧ (((writeD x_1.2 (nth tAct l x_1.1).2.2.2.1 (nth tAct l x_1.1).2.1).1.1.1, (writeD x_1.2 (nth tAct l x_1.1).2.2.2.1 (nth tAct l x_1.1).2.1).1.1.2.1, ()), (writeD x_1.2 (nth tAct l x_1.1).2.2.2.1 (nth tAct l x_1.1).2.1).1.2.1, (writeD x_1.2 (nth tAct l x_1.1).2.2.2.1 (nth tAct l x_1.1).2.1).1.2.2.1, (writeD x_1.2 (nth tAct l x_1.1).2.2.2.1 (nth tAct l x_1.1).2.1).1.2.2.2.1, ((writeD x_1.2 (nth tAct l x_1.1).2.2.2.1 (nth tAct l x_1.1).2.1).1.1.1, (writeD x_1.2 (nth tAct l x_1.1).2.2.2.1 (nth tAct l x_1.1).2.1).1.1.2.1, ()), (writeD x_1.2 (nth tAct l x_1.1).2.2.2.1 (nth tAct l x_1.1).2.1).1.2.1, (writeD x_1.2 (nth tAct l x_1.1).2.2.2.1 (nth tAct l x_1.1).2.1).1.2.2.1, (writeD x_1.2 (nth tAct l x_1.1).2.2.2.1 (nth tAct l x_1.1).2.1).1.2.2.2.1, ()) = (x'.2.1, x'.2.2.1, x'.2.2.2.1, x'.2.2.2.2.1, x'.2)))))))))))))) (((fun a0 : Prop => a0 ∧ a0) ((x_1.2.2.2.2.1 = x_1.2.2.2.2.1) ∧ ((-1 : Int) ≤ x_1.2.1.1 ∧ List.length x_1.2.2.2.2.1 ≤ (900000000 : Nat)) ∧ ((True) → (x_1.2.2.2.2.1 = x_1.2.2.2.2.1) ∧ ((-1 : Int) ≤ x_1.2.1.1 ∧ List.length x_1.2.2.2.2.1 ≤ (900000000 : Nat)) ∧ ((True) → (True) ∧
    (((!sameE (errNo (writeD x_1.2 (nth tAct l x_1.1).2.2.2.1 (nth tAct l x_1.1).2.1).2) (writeD x_1.2 (nth tAct l x_1.1).2.2.2.1 (nth tAct l x_1.1).2.1).2) = true → ((fun a0 : Prop => a0 ∧ a0) ((false = true)))) ∧
    ((!sameE (errNo (writeD x_1.2 (nth tAct l x_1.1).2.2.2.1 (nth tAct l x_1.1).2.1).2) (writeD x_1.2 (nth tAct l x_1.1).2.2.2.1 (nth tAct l x_1.1).2.1).2) = false → ((fun a0 : Prop => a0 ∧ a0)
    (((writeD x_1.2 (nth tAct l x_1.1).2.2.2.1 (nth tAct l x_1.1).2.1).1.2.2.2.1 = (writeD x_1.2 (nth tAct l x_1.1).2.2.2.1 (nth tAct l x_1.1).2.1).1.2.2.2.1) ∧ (True) ∧ ((True) →
    (((!(writeD x_1.2 (nth tAct l x_1.1).2.2.2.1 (nth tAct l x_1.1).2.1).1.1.2.1 == (writeD x_1.2 (nth tAct l x_1.1).2.2.2.1 (nth tAct l x_1.1).2.1).1.1.2.1) = true → (false = true)) ∧
    ((!(writeD x_1.2 (nth tAct l x_1.1).2.2.2.1 (nth tAct l x_1.1).2.1).1.1.2.1 == (writeD x_1.2 (nth tAct l x_1.1).2.2.2.1 (nth tAct l x_1.1).2.1).1.1.2.1) = false → ((I64 (↑x_1.1 : Int)) → ((I64 (1 : Int)) → (I64 ((↑x_1.1 : Int) + (1 : Int))) ∧
    ((writeD x_1.2 (nth tAct l x_1.1).2.2.2.1 (nth tAct l x_1.1).2.1).1.2.2.2.1 = (writeD x_1.2 (nth tAct l x_1.1).2.2.2.1 (nth tAct l x_1.1).2.1).1.2.2.2.1 ∧ (writeD x_1.2 (nth tAct l x_1.1).2.2.2.1 (nth tAct l x_1.1).2.1).1.2.2.2.1 = (writeD x_1.2 (nth tAct l x_1.1).2.2.2.1 (nth tAct l x_1.1).2.1).1.2.2.2.1 ∧ ∃ (x' : Nat × Dk), (x'.1 ≤ List.length l ∧ GoodD x'.2 x'.1 ∧ List.length x'.2.2.2.1 = Int.toNat n) ∧ List.length l - x'.1 < List.length l - x_1.1 ∧ ((↑x_1.1 : Int) + (1 : Int) = (↑x'.1 : Int) ∧ True) ∧ True ∧ true = true ∧ (((writeD x_1.2 (nth tAct l x_1.1).2.2.2.1 (nth tAct l x_1.1).2.1).1.1.1, (writeD x_1.2 (nth tAct l x_1.1).2.2.2.1 (nth tAct l x_1.1).2.1).1.1.2.1, ()), (writeD x_1.2 (nth tAct l x_1.1).2.2.2.1 (nth tAct l x_1.1).2.1).1.2.1, (writeD x_1.2 (nth tAct l x_1.1).2.2.2.1 (nth tAct l x_1.1).2.1).1.2.2.1, (writeD x_1.2 (nth tAct l x_1.1).2.2.2.1 (nth tAct l x_1.1).2.1).1.2.2.2.1, ((writeD x_1.2 (nth tAct l x_1.1).2.2.2.1 (nth tAct l x_1.1).2.1).1.1.1, (writeD x_1.2 (nth tAct l x_1.1).2.2.2.1 (nth tAct l x_1.1).2.1).1.1.2.1, ()), (writeD x_1.2 (nth tAct l x_1.1).2.2.2.1 (nth tAct l x_1.1).2.1).1.2.1, (writeD x_1.2 (nth tAct l x_1.1).2.2.2.1 (nth tAct l x_1.1).2.1).1.2.2.1, (writeD x_1.2 (nth tAct l x_1.1).2.2.2.1 (nth tAct l x_1.1).2.1).1.2.2.2.1, ()) = (x'.2.1, x'.2.2.1, x'.2.2.2.1, x'.2.2.2.2.1, x'.2)))))))))))))))))) ∧ (((nth tAct l x_1.1).1 == [(119 : UInt8), (114 : UInt8), (105 : UInt8), (116 : UInt8), (101 : UInt8)]) = false → ((((nth tAct l x_1.1).1 == [(114 : UInt8), (101 : UInt8), (97 : UInt8), (100 : UInt8)]) = true → (x_1.2.2.2.2.1 = x_1.2.2.2.2.1) ∧ (True) ∧ ((True) → (x_1.2.2.2.2.1 = x_1.2.2.2.2.1) ∧ (True) ∧ ((True) → ((((readD x_1.2 (nth tAct l x_1.1).2.2.2.1).1 == (readD x_1.2 (nth tAct l x_1.1).2.2.2.1).1) = true → (True) ∧ (((!sameE (errNo (readD x_1.2 (nth tAct l x_1.1).2.2.2.1).2) (readD x_1.2 (nth tAct l x_1.1).2.2.2.1).2) = true → ((fun a0 : Prop => a0 ∧ a0) ((false = true)))) ∧ ((!sameE (errNo (readD x_1.2 (nth tAct l x_1.1).2.2.2.1).2) (readD x_1.2 (nth tAct l x_1.1).2.2.2.1).2) = false → ((fun a0 : Prop => a0 ∧ a0) ((x_1.2.2.2.2.1 = x_1.2.2.2.2.1) ∧ (True) ∧ ((True) → (((!x_1.2.1.2.1 == x_1.2.1.2.1) = true → (false = true)) ∧ ((!x_1.2.1.2.1 == x_1.2.1.2.1) = false → ((I64 (↑x_1.1 : Int)) → ((I64 (1 : Int)) → (I64 ((↑x_1.1 : Int) + (1 : Int))) ∧
    (x_1.2.2.2.2.1 = x_1.2.2.2.2.1 ∧ x_1.2.2.2.2.1 = x_1.2.2.2.2.1 ∧ ∃ (x' : Nat × Dk), (x'.1 ≤ List.length l ∧ GoodD x'.2 x'.1 ∧ List.length x'.2.2.2.1 = Int.toNat n) ∧ List.length l - x'.1 < List.length l - x_1.1 ∧ ((↑x_1.1 : Int) + (1 : Int) = (↑x'.1 : Int) ∧ True) ∧ True ∧ true = true ∧ ((x_1.2.1.1, x_1.2.1.2.1, ()), x_1.2.2.1, x_1.2.2.2.1, x_1.2.2.2.2.1, (x_1.2.1.1, x_1.2.1.2.1, ()), x_1.2.2.1, x_1.2.2.2.1, x_1.2.2.2.2.1, ()) = (x'.2.1, x'.2.2.1, x'.2.2.2.1, x'.2.2.2.2.1, x'.2)))))))))))) ∧ (((readD x_1.2 (nth tAct l x_1.1).2.2.2.1).1 == (readD x_1.2 (nth tAct l x_1.1).2.2.2.1).1) = false → ((fun a0 : Prop => a0 ∧ a0) ((false = true)))))))) ∧ (((nth tAct l x_1.1).1 == [(114 : UInt8), (101 : UInt8), (97 : UInt8), (100 : UInt8)]) = false → ((((nth tAct l x_1.1).1 == [(102 : UInt8), (108 : UInt8), (117 : UInt8), (115 : UInt8), (104 : UInt8)]) = true → (x_1.2.2.2.2.1 = x_1.2.2.2.2.1) ∧ ((-1 : Int) ≤ x_1.2.1.1 ∧ List.length x_1.2.2.1 = List.length x_1.2.2.2.1) ∧ ((True) → (x_1.2.2.2.2.1 = x_1.2.2.2.2.1) ∧ ((-1 : Int) ≤ x_1.2.1.1 ∧ List.length x_1.2.2.2.1 ≤ (1000000 : Nat)) ∧ ((True) → (True) ∧ (((!sameE (errNo (flushD x_1.2).2) (flushD x_1.2).2) = true → ((fun a0 : Prop => a0 ∧ a0) ((false = true)))) ∧ ((!sameE (errNo (flushD x_1.2).2) (flushD x_1.2).2) = false → ((fun a0 : Prop => a0 ∧ a0) (((flushD x_1.2).1.2.2.2.1 = (flushD x_1.2).1.2.2.2.1) ∧ (True) ∧ ((True) → (((!(flushD x_1.2).1.1.2.1 == (flushD x_1.2).1.1.2.1) = true → (false = true)) ∧ ((!(flushD x_1.2).1.1.2.1 == (flushD x_1.2).1.1.2.1) = false → ((I64 (↑x_1.1 : Int)) → ((I64 (1 : Int)) → (I64 ((↑x_1.1 : Int) + (1 : Int))) ∧
    ((flushD x_1.2).1.2.2.2.1 = (flushD x_1.2).1.2.2.2.1 ∧ (flushD x_1.2).1.2.2.2.1 = (flushD x_1.2).1.2.2.2.1 ∧ ∃ (x' : Nat × Dk), (x'.1 ≤ List.length l ∧ GoodD x'.2 x'.1 ∧ List.length x'.2.2.2.1 = Int.toNat n) ∧ List.length l - x'.1 < List.length l - x_1.1 ∧ ((↑x_1.1 : Int) + (1 : Int) = (↑x'.1 : Int) ∧ True) ∧ True ∧ true = true ∧ (((flushD x_1.2).1.1.1, (flushD x_1.2).1.1.2.1, ()), (flushD x_1.2).1.2.1, (flushD x_1.2).1.2.2.1, (flushD x_1.2).1.2.2.2.1, ((flushD x_1.2).1.1.1, (flushD x_1.2).1.1.2.1, ()), (flushD x_1.2).1.2.1, (flushD x_1.2).1.2.2.1, (flushD x_1.2).1.2.2.2.1, ()) = (x'.2.1, x'.2.2.1, x'.2.2.2.1, x'.2.2.2.2.1, x'.2)))))))))))))) ∧ (((nth tAct l x_1.1).1 == [(102 : UInt8), (108 : UInt8), (117 : UInt8), (115 : UInt8), (104 : UInt8)]) = false → ((((nth tAct l x_1.1).1 == [(97 : UInt8), (114 : UInt8), (109 : UInt8)]) = true → (x_1.2.2.2.2.1 = x_1.2.2.2.2.1) ∧ (True) ∧ ((True) → ((fun a0 : Prop => a0 ∧ a0) ((x_1.2.2.2.2.1 = x_1.2.2.2.2.1) ∧ (True) ∧ ((True) → (((!x_1.2.1.2.1 == x_1.2.1.2.1) = true → (false = true)) ∧ ((!x_1.2.1.2.1 == x_1.2.1.2.1) = false → ((I64 (↑x_1.1 : Int)) → ((I64 (1 : Int)) → (I64 ((↑x_1.1 : Int) + (1 : Int))) ∧
    (x_1.2.2.2.2.1 = x_1.2.2.2.2.1 ∧ x_1.2.2.2.2.1 = x_1.2.2.2.2.1 ∧ ∃ (x' : Nat × Dk), (x'.1 ≤ List.length l ∧ GoodD x'.2 x'.1 ∧ List.length x'.2.2.2.1 = Int.toNat n) ∧ List.length l - x'.1 < List.length l - x_1.1 ∧ ((↑x_1.1 : Int) + (1 : Int) = (↑x'.1 : Int) ∧ True) ∧ True ∧ true = true ∧ ((if (-1 : Int) > (nth tAct l x_1.1).2.2.2.1 then (-1 : Int) else (nth tAct l x_1.1).2.2.2.1, x_1.2.1.2.1, ()), x_1.2.2.1, x_1.2.2.2.1, x_1.2.2.2.2.1, (if (-1 : Int) > (nth tAct l x_1.1).2.2.2.1 then (-1 : Int) else (nth tAct l x_1.1).2.2.2.1, x_1.2.1.2.1, ()), x_1.2.2.1, x_1.2.2.2.1, x_1.2.2.2.2.1, ()) = (x'.2.1, x'.2.2.1, x'.2.2.2.1, x'.2.2.2.2.1, x'.2))))))))))) ∧ (((nth tAct l x_1.1).1 == [(97 : UInt8), (114 : UInt8), (109 : UInt8)]) = false → (x_1.2.2.2.2.1 = x_1.2.2.2.2.1) ∧
    (List.length x_1.2.2.1 = List.length x_1.2.2.2.1 ∧ ∀ (i : Nat), i < List.length x_1.2.2.2.2.1 → (0 : Int) ≤ (nth tTurn x_1.2.2.2.2.1 i).1 ∧ (nth tTurn x_1.2.2.2.2.1 i).1 < (↑(List.length x_1.2.2.2.1) : Int)) ∧ ((True) → (x_1.2.2.2.2.1 = x_1.2.2.2.2.1) ∧
    (List.length x_1.2.2.1 = List.length x_1.2.2.2.1 ∧ List.length x_1.2.2.2.2.1 ≤ (1000000 : Nat) ∧ List.length x_1.2.2.2.1 ≤ (1000000 : Nat) ∧ ∀ (i : Nat), i < List.length x_1.2.2.2.2.1 → (0 : Int) ≤ (nth tTurn x_1.2.2.2.2.1 i).1 ∧ (nth tTurn x_1.2.2.2.2.1 i).1 < (↑(List.length x_1.2.2.2.1) : Int)) ∧ ((True) → ((fun a0 : Prop => a0 ∧ a0) ((@List.nil (Int × List UInt8 × Unit) = @List.nil (Int × List UInt8 × Unit)) ∧ (True) ∧ ((True) → (((!false == false) = true → (false = true)) ∧ ((!false == false) = false → ((I64 (↑x_1.1 : Int)) → ((I64 (1 : Int)) → (I64 ((↑x_1.1 : Int) + (1 : Int))) ∧
    (@List.nil (Int × List UInt8 × Unit) = @List.nil (Int × List UInt8 × Unit) ∧ @List.nil (Int × List UInt8 × Unit) = @List.nil (Int × List UInt8 × Unit) ∧ ∃ (x' : Nat × Dk), (x'.1 ≤ List.length l ∧ GoodD x'.2 x'.1 ∧ List.length x'.2.2.2.1 = Int.toNat n) ∧ List.length l - x'.1 < List.length l - x_1.1 ∧ ((↑x_1.1 : Int) + (1 : Int) = (↑x'.1 : Int) ∧ True) ∧ True ∧ true = true ∧ (((-1 : Int), false, ()), keepN (nth tAct l x_1.1).2.2.2.2.1 x_1.2.2.2.2.1 x_1.2.2.1 (List.length x_1.2.2.2.2.1), keepN (nth tAct l x_1.1).2.2.2.2.1 x_1.2.2.2.2.1 x_1.2.2.1 (List.length x_1.2.2.2.2.1), [], ((-1 : Int), false, ()), keepN (nth tAct l x_1.1).2.2.2.2.1 x_1.2.2.2.2.1 x_1.2.2.1 (List.length x_1.2.2.2.2.1), keepN (nth tAct l x_1.1).2.2.2.2.1 x_1.2.2.2.2.1 x_1.2.2.1 (List.length x_1.2.2.2.2.1), [], ()) = (x'.2.1, x'.2.2.1, x'.2.2.2.1, x'.2.2.2.2.1, x'.2)))))))))))))))))))) ∧ ((decide ((↑x_1.1 : Int) < (↑(List.length l) : Int))) = false →
    (((x_1.2.2.2.2.1 = x_1.2.2.2.2.1 ∧ x_1.2.2.2.2.1 = x_1.2.2.2.2.1 ∧ ∃ (x' : Nat × Dk), (↑x'.1 : Int) ≤ n + (2 : Int) ∧ True ∧ ((-1 : Int) = (↑x'.1 : Int) - (1 : Int) ∧ True) ∧ True ∧ true = true ∧ ((x_1.2.1.1, x_1.2.1.2.1, ()), x_1.2.2.1, x_1.2.2.2.1, x_1.2.2.2.2.1, (x_1.2.1.1, x_1.2.1.2.1, ()), x_1.2.2.1, x_1.2.2.2.1, x_1.2.2.2.2.1, ()) = (x'.2.1, x'.2.2.1, x'.2.2.2.1, x'.2.2.2.2.1, x'.2))) ∧ ((∀ x_2 : Nat × Dk, (((↑x_2.1 : Int) ≤ n + (2 : Int)) → (((decide ((↑x_2.1 : Int) - (1 : Int) ≤ n)) = true → (x_2.2.2.2.2.1 = x_2.2.2.2.2.1) ∧ (True) ∧ ((True) → (x_2.2.2.2.2.1 = x_2.2.2.2.2.1) ∧ (True) ∧ ((True) → (((!(readD x_2.2 ((↑x_2.1 : Int) - (1 : Int))).1 == (readD x_2.2 ((↑x_2.1 : Int) - (1 : Int))).1) = true → (false = true)) ∧ ((!(readD x_2.2 ((↑x_2.1 : Int) - (1 : Int))).1 == (readD x_2.2 ((↑x_2.1 : Int) - (1 : Int))).1) = false → (True) ∧ (((!sameE (errNo (readD x_2.2 ((↑x_2.1 : Int) - (1 : Int))).2) (readD x_2.2 ((↑x_2.1 : Int) - (1 : Int))).2) = true → (false = true)) ∧ ((!sameE (errNo (readD x_2.2 ((↑x_2.1 : Int) - (1 : Int))).2) (readD x_2.2 ((↑x_2.1 : Int) - (1 : Int))).2) = false → ((I64 ((↑x_2.1 : Int) - (1 : Int))) → ((I64 (1 : Int)) → (I64 ((↑x_2.1 : Int) - (1 : Int) + (1 : Int))) ∧
    (x_2.2.2.2.2.1 = x_2.2.2.2.2.1 ∧ x_2.2.2.2.2.1 = x_2.2.2.2.2.1 ∧ ∃ (x' : Nat × Dk), (↑x'.1 : Int) ≤ n + (2 : Int) ∧ Int.toNat (n + (2 : Int)) - x'.1 < Int.toNat (n + (2 : Int)) - x_2.1 ∧ ((↑x_2.1 : Int) - (1 : Int) + (1 : Int) = (↑x'.1 : Int) - (1 : Int) ∧ True) ∧ True ∧ true = true ∧ ((x_2.2.1.1, x_2.2.1.2.1, ()), x_2.2.2.1, x_2.2.2.2.1, x_2.2.2.2.2.1, (x_2.2.1.1, x_2.2.1.2.1, ()), x_2.2.2.1, x_2.2.2.2.1, x_2.2.2.2.2.1, ()) = (x'.2.1, x'.2.2.1, x'.2.2.2.1, x'.2.2.2.2.1, x'.2))))))))))) ∧ ((decide ((↑x_2.1 : Int) - (1 : Int) ≤ n)) = false → (true = true)))))))))))))))))))))))))))))))))) (by kernel_rfl) ?_
  refine ⟨trivial, ?_⟩
  refine ⟨fun h0 => ?_, fun h0 => ?_⟩
  · exact absurd (show false = true from h0) (by decide)
  ·
    refine ⟨trivial, ?_⟩
    intro x_0 q_0
    refine ⟨fun h1 => ?_, fun h1 => ?_⟩
    · try simp only [bl, reduceCtorEq] at h1
      first | exact True.intro | rfl | assumption | omega | (simp only [I64, big] at *; omega) | (exact absurd rfl h1) | (simp at h1; done)
    · try simp only [bl, reduceCtorEq] at h1
      refine ⟨trivial, ?_⟩
      refine ⟨?_, ?_⟩
      ·
        intro h2
        refine ⟨trivial, ?_⟩
        refine ⟨?_, ?_⟩
        ·
          intro h3
          refine ⟨fun h4 => ?_, fun h4 => ?_⟩
          ·
            refine ⟨trivial, ?_⟩
            refine ⟨fun h5 => ?_, fun h5 => ?_⟩
            ·
              first | exact True.intro | rfl | assumption | omega | (simp only [I64, big] at *; omega) | (exact absurd rfl h1) | (simp at h1; done)
            · exact absurd (show true = false from h5) (by decide)
          · exact absurd (show true = false from h4) (by decide)
        ·
          intro h3
          refine ⟨fun h4 => ?_, fun h4 => ?_⟩
          · exact absurd (show false = true from h4) (by decide)
          ·
            refine ⟨fun h5 => ?_, fun h5 => ?_⟩
            ·
              exfalso; omega
            · exact absurd (show true = false from h5) (by decide)
      ·
        intro h2
        refine ⟨trivial, ?_⟩
        refine ⟨?_, ?_⟩
        ·
          intro h3
          refine ⟨fun h4 => ?_, fun h4 => ?_⟩
          ·
            refine ⟨trivial, ?_⟩
            refine ⟨fun h5 => ?_, fun h5 => ?_⟩
            · exact absurd (show false = true from h5) (by decide)
            ·
              exfalso; omega
          · exact absurd (show true = false from h4) (by decide)
        ·
          intro h3
          refine ⟨fun h4 => ?_, fun h4 => ?_⟩
          · exact absurd (show false = true from h4) (by decide)
          ·
            refine ⟨fun h5 => ?_, fun h5 => ?_⟩
            · exact absurd (show false = true from h5) (by decide)
            ·
              refine ⟨rfl, ?_⟩
              refine ⟨trivial, ?_⟩
              intro h6
              refine ⟨fun h7 => ?_, fun h7 => ?_⟩
              · try simp only [bl, reduceCtorEq] at h7
                simp only [List.length_replicate] at h7; exfalso; omega
              · try simp only [bl, reduceCtorEq] at h7
                refine ⟨?_, ?_⟩
                ·
                  exact ⟨rfl, rfl, (0, newD n), ⟨by omega, GoodD.new n 0, by simp [newD]⟩, trivial, ⟨rfl, trivial⟩, trivial, rfl, rfl⟩
                ·
                  intro x_1 q_1
                  intro h8
                  refine ⟨fun h9 => ?_, fun h9 => ?_⟩
                  · try simp only [bl, reduceCtorEq] at h9
                    refine ⟨?_, ?_⟩
                    · first | exact True.intro | rfl | assumption | omega | (simp only [I64, big] at *; omega) | (exact absurd rfl h9) | (simp at h9; done)
                    refine ⟨fun h10 => ?_, fun h10 => ?_⟩
                    · try simp only [bl, reduceCtorEq] at h10
                      refine (show ∀ {a0 a1 : Prop}, a0 → a1 → a0 ∧ a1 ∧ a0 ∧ a0 from fun g0 g1 => ⟨g0, g1, g0, g0⟩) ?_ ?_
                      ·
                        refine ⟨rfl, ?_⟩
                        refine ⟨?_, ?_⟩
                        · have h80 := (q_0 h1).1
                          have := q_1.2.1.few
                          exact ⟨q_1.2.1.fuse, by omega⟩
                        intro h11
                        refine ⟨rfl, ?_⟩
                        refine ⟨?_, ?_⟩
                        · have h80 := (q_0 h1).1
                          have := q_1.2.1.few
                          exact ⟨q_1.2.1.fuse, by omega⟩
                        intro h12
                        refine ⟨trivial, ?_⟩
                        refine ⟨fun h13 => ?_, fun h13 => ?_⟩
                        · try simp only [bl, reduceCtorEq] at h13
                          refine (show ∀ {a0 : Prop}, a0 → a0 ∧ a0 from fun g0 => ⟨g0, g0⟩) ?_
                          ·
                            exact (sameE_no (writeD_err _ _ _) h13).elim
                        · try simp only [bl, reduceCtorEq] at h13
                          refine (show ∀ {a0 : Prop}, a0 → a0 ∧ a0 from fun g0 => ⟨g0, g0⟩) ?_
                          ·
                            refine ⟨rfl, ?_⟩
                            refine ⟨trivial, ?_⟩
                            intro h14
                            refine ⟨fun h15 => ?_, fun h15 => ?_⟩
                            · try simp only [bl, reduceCtorEq] at h15
                              first | exact True.intro | rfl | assumption | omega | (simp only [I64, big] at *; omega) | (exact absurd rfl h15) | (simp at h15; done)
                            · try simp only [bl, reduceCtorEq] at h15
                              intro h16
                              intro h17
                              refine ⟨?_, ?_⟩
                              · first | exact True.intro | rfl | assumption | omega | (simp only [I64, big] at *; omega) | (exact absurd rfl h15) | (simp at h15; done)
                              exact ⟨rfl, rfl, (x_1.1 + 1, (writeD x_1.2 _ _).1), ⟨by simp only; omega, q_1.2.1.write, by simp only; rw [writeD_len]; exact q_1.2.2⟩, by simp only; omega, ⟨by simp only; omega, trivial⟩, trivial, rfl, rfl⟩
                      ·
                        refine (show ∀ {a0 : Prop}, a0 → a0 ∧ a0 from fun g0 => ⟨g0, g0⟩) ?_
                        ·
                          refine ⟨rfl, ?_⟩
                          refine ⟨?_, ?_⟩
                          · have h80 := (q_0 h1).1
                            have := q_1.2.1.few
                            exact ⟨q_1.2.1.fuse, by omega⟩
                          intro h11
                          refine ⟨rfl, ?_⟩
                          refine ⟨?_, ?_⟩
                          · have h80 := (q_0 h1).1
                            have := q_1.2.1.few
                            exact ⟨q_1.2.1.fuse, by omega⟩
                          intro h12
                          refine ⟨trivial, ?_⟩
                          refine ⟨fun h13 => ?_, fun h13 => ?_⟩
                          · try simp only [bl, reduceCtorEq] at h13
                            refine (show ∀ {a0 : Prop}, a0 → a0 ∧ a0 from fun g0 => ⟨g0, g0⟩) ?_
                            ·
                              exact (sameE_no (writeD_err _ _ _) h13).elim
                          · try simp only [bl, reduceCtorEq] at h13
                            refine (show ∀ {a0 : Prop}, a0 → a0 ∧ a0 from fun g0 => ⟨g0, g0⟩) ?_
                            ·
                              refine ⟨rfl, ?_⟩
                              refine ⟨trivial, ?_⟩
                              intro h14
                              refine ⟨fun h15 => ?_, fun h15 => ?_⟩
                              · try simp only [bl, reduceCtorEq] at h15
                                first | exact True.intro | rfl | assumption | omega | (simp only [I64, big] at *; omega) | (exact absurd rfl h15) | (simp at h15; done)
                              · try simp only [bl, reduceCtorEq] at h15
                                intro h16
                                intro h17
                                refine ⟨?_, ?_⟩
                                · first | exact True.intro | rfl | assumption | omega | (simp only [I64, big] at *; omega) | (exact absurd rfl h15) | (simp at h15; done)
                                exact ⟨rfl, rfl, (x_1.1 + 1, (writeD x_1.2 _ _).1), ⟨by simp only; omega, q_1.2.1.write, by simp only; rw [writeD_len]; exact q_1.2.2⟩, by simp only; omega, ⟨by simp only; omega, trivial⟩, trivial, rfl, rfl⟩
                    · try simp only [bl, reduceCtorEq] at h10
                      refine ⟨fun h11 => ?_, fun h11 => ?_⟩
                      · try simp only [bl, reduceCtorEq] at h11
                        refine ⟨rfl, ?_⟩
                        refine ⟨trivial, ?_⟩
                        intro h12
                        refine ⟨rfl, ?_⟩
                        refine ⟨trivial, ?_⟩
                        intro h13
                        refine ⟨fun h14 => ?_, fun h14 => ?_⟩
                        · try simp only [bl, reduceCtorEq] at h14
                          refine ⟨trivial, ?_⟩
                          refine ⟨fun h15 => ?_, fun h15 => ?_⟩
                          · try simp only [bl, reduceCtorEq] at h15
                            refine (show ∀ {a0 : Prop}, a0 → a0 ∧ a0 from fun g0 => ⟨g0, g0⟩) ?_
                            ·
                              exact (sameE_no (readD_err _ _) h15).elim
                          · try simp only [bl, reduceCtorEq] at h15
                            refine (show ∀ {a0 : Prop}, a0 → a0 ∧ a0 from fun g0 => ⟨g0, g0⟩) ?_
                            ·
                              refine ⟨rfl, ?_⟩
                              refine ⟨trivial, ?_⟩
                              intro h16
                              refine ⟨fun h17 => ?_, fun h17 => ?_⟩
                              · try simp only [bl, reduceCtorEq] at h17
                                first | exact True.intro | rfl | assumption | omega | (simp only [I64, big] at *; omega) | (exact absurd rfl h17) | (simp at h17; done)
                              · try simp only [bl, reduceCtorEq] at h17
                                intro h18
                                intro h19
                                refine ⟨?_, ?_⟩
                                · first | exact True.intro | rfl | assumption | omega | (simp only [I64, big] at *; omega) | (exact absurd rfl h17) | (simp at h17; done)
                                exact ⟨rfl, rfl, (x_1.1 + 1, x_1.2), ⟨by simp only; omega, q_1.2.1.up, q_1.2.2⟩, by simp only; omega, ⟨by simp only; omega, trivial⟩, trivial, rfl, rfl⟩
                        · try simp only [bl, reduceCtorEq] at h14
                          refine (show ∀ {a0 : Prop}, a0 → a0 ∧ a0 from fun g0 => ⟨g0, g0⟩) ?_
                          ·
                            first | exact True.intro | rfl | assumption | omega | (simp only [I64, big] at *; omega) | (exact absurd rfl h14) | (simp at h14; done)
                      · try simp only [bl, reduceCtorEq] at h11
                        refine ⟨fun h12 => ?_, fun h12 => ?_⟩
                        · try simp only [bl, reduceCtorEq] at h12
                          refine ⟨rfl, ?_⟩
                          refine ⟨?_, ?_⟩
                          · exact ⟨q_1.2.1.fuse, q_1.2.1.len⟩
                          intro h13
                          refine ⟨rfl, ?_⟩
                          refine ⟨?_, ?_⟩
                          · have := q_1.2.2
                            exact ⟨q_1.2.1.fuse, by omega⟩
                          intro h14
                          refine ⟨trivial, ?_⟩
                          refine ⟨fun h15 => ?_, fun h15 => ?_⟩
                          · try simp only [bl, reduceCtorEq] at h15
                            refine (show ∀ {a0 : Prop}, a0 → a0 ∧ a0 from fun g0 => ⟨g0, g0⟩) ?_
                            ·
                              exact (sameE_no (flushD_err _) h15).elim
                          · try simp only [bl, reduceCtorEq] at h15
                            refine (show ∀ {a0 : Prop}, a0 → a0 ∧ a0 from fun g0 => ⟨g0, g0⟩) ?_
                            ·
                              refine ⟨rfl, ?_⟩
                              refine ⟨trivial, ?_⟩
                              intro h16
                              refine ⟨fun h17 => ?_, fun h17 => ?_⟩
                              · try simp only [bl, reduceCtorEq] at h17
                                first | exact True.intro | rfl | assumption | omega | (simp only [I64, big] at *; omega) | (exact absurd rfl h17) | (simp at h17; done)
                              · try simp only [bl, reduceCtorEq] at h17
                                intro h18
                                intro h19
                                refine ⟨?_, ?_⟩
                                · first | exact True.intro | rfl | assumption | omega | (simp only [I64, big] at *; omega) | (exact absurd rfl h17) | (simp at h17; done)
                                exact ⟨rfl, rfl, (x_1.1 + 1, (flushD x_1.2).1), ⟨by simp only; omega, q_1.2.1.flush.up, by simp only; rw [flushD_len]; exact q_1.2.2⟩, by simp only; omega, ⟨by simp only; omega, trivial⟩, trivial, rfl, rfl⟩
                        · try simp only [bl, reduceCtorEq] at h12
                          refine ⟨fun h13 => ?_, fun h13 => ?_⟩
                          · try simp only [bl, reduceCtorEq] at h13
                            refine ⟨rfl, ?_⟩
                            refine ⟨trivial, ?_⟩
                            intro h14
                            refine (show ∀ {a0 : Prop}, a0 → a0 ∧ a0 from fun g0 => ⟨g0, g0⟩) ?_
                            ·
                              refine ⟨rfl, ?_⟩
                              refine ⟨trivial, ?_⟩
                              intro h15
                              refine ⟨fun h16 => ?_, fun h16 => ?_⟩
                              · try simp only [bl, reduceCtorEq] at h16
                                first | exact True.intro | rfl | assumption | omega | (simp only [I64, big] at *; omega) | (exact absurd rfl h16) | (simp at h16; done)
                              · try simp only [bl, reduceCtorEq] at h16
                                intro h17
                                intro h18
                                refine ⟨?_, ?_⟩
                                · first | exact True.intro | rfl | assumption | omega | (simp only [I64, big] at *; omega) | (exact absurd rfl h16) | (simp at h16; done)
                                refine ⟨rfl, rfl, (x_1.1 + 1, ((if (-1 : Int) > (nth tAct l x_1.1).2.2.2.1 then (-1 : Int) else (nth tAct l x_1.1).2.2.2.1, x_1.2.1.2.1, ()), x_1.2.2)), ⟨by simp only; omega, ⟨q_1.2.1.len, ?_, q_1.2.1.wait, Nat.le_succ_of_le q_1.2.1.few⟩, q_1.2.2⟩, by simp only; omega, ⟨by simp only; omega, trivial⟩, trivial, rfl, rfl⟩
                                simp only; split <;> omega
                          · try simp only [bl, reduceCtorEq] at h13
                            refine ⟨rfl, ?_⟩
                            refine ⟨?_, ?_⟩
                            · exact ⟨q_1.2.1.len, q_1.2.1.wait⟩
                            intro h14
                            refine ⟨rfl, ?_⟩
                            refine ⟨?_, ?_⟩
                            · have h80 := (q_0 h1).1
                              have := q_1.2.1.few
                              have := q_1.2.2
                              exact ⟨q_1.2.1.len, by omega, by omega, q_1.2.1.wait⟩
                            intro h15
                            refine (show ∀ {a0 : Prop}, a0 → a0 ∧ a0 from fun g0 => ⟨g0, g0⟩) ?_
                            ·
                              refine ⟨rfl, ?_⟩
                              refine ⟨trivial, ?_⟩
                              intro h16
                              refine ⟨fun h17 => ?_, fun h17 => ?_⟩
                              · exact absurd (show false = true from h17) (by decide)
                              ·
                                intro h18
                                intro h19
                                refine ⟨?_, ?_⟩
                                · first | exact True.intro | rfl | assumption | omega | (simp only [I64, big] at *; omega) | (exact absurd rfl h13) | (simp at h13; done)
                                exact ⟨rfl, rfl, (x_1.1 + 1, restartD x_1.2 _), ⟨by simp only; omega, q_1.2.1.restart.up, by simp only [restartD, keepN_len]; rw [q_1.2.1.len]; exact q_1.2.2⟩, by simp only; omega, ⟨by simp only; omega, trivial⟩, trivial, rfl, rfl⟩
                  · try simp only [bl, reduceCtorEq] at h9
                    refine ⟨?_, ?_⟩
                    ·
                      exact ⟨rfl, rfl, (0, x_1.2), by simp only; omega, trivial, ⟨by simp, trivial⟩, trivial, rfl, rfl⟩
                    ·
                      intro x_2 q_2
                      refine ⟨fun h10 => ?_, fun h10 => ?_⟩
                      · try simp only [bl, reduceCtorEq] at h10
                        refine ⟨rfl, ?_⟩
                        refine ⟨trivial, ?_⟩
                        intro h11
                        refine ⟨rfl, ?_⟩
                        refine ⟨trivial, ?_⟩
                        intro h12
                        refine ⟨fun h13 => ?_, fun h13 => ?_⟩
                        · try simp only [bl, reduceCtorEq] at h13
                          first | exact True.intro | rfl | assumption | omega | (simp only [I64, big] at *; omega) | (exact absurd rfl h13) | (simp at h13; done)
                        · try simp only [bl, reduceCtorEq] at h13
                          refine ⟨trivial, ?_⟩
                          refine ⟨fun h14 => ?_, fun h14 => ?_⟩
                          · try simp only [bl, reduceCtorEq] at h14
                            exact (sameE_no (readD_err _ _) h14).elim
                          · try simp only [bl, reduceCtorEq] at h14
                            intro h15
                            intro h16
                            refine ⟨?_, ?_⟩
                            · first | exact True.intro | rfl | assumption | omega | (simp only [I64, big] at *; omega) | (exact absurd rfl h14) | (simp at h14; done)
                            exact ⟨rfl, rfl, (x_2.1 + 1, x_2.2), by simp only; omega, by simp only; omega, ⟨by simp only; omega, trivial⟩, trivial, rfl, rfl⟩
                      · try simp only [bl, reduceCtorEq] at h10
                        first | exact True.intro | rfl | assumption | omega | (simp only [I64, big] at *; omega) | (exact absurd rfl h10) | (simp at h10; done)
theorem Try.ok_DiskSays : PureOK Try.prog Try.B.eT 7 [.int .i64, .slice tAct] [.bool] (fun _ => True) (fun _ y => y = true) :=
  pure_fn (X := noExt) Try.ldiskCtxOK Try.func7 (by kernel_rfl) (fun x => dsAnn x.1 x.2) (fun x hw hp => vc_DiskSays x.1 x.2 hw)
open Go.ChangeShapes Go.WideShapes Go.ChangeAt Go.RowKit in
set_option maxRecDepth 100000 in
theorem diskSays_lifted (os : Os) (started : os.Started) (H : Type) (enc : TypeId × Value → H) :
    ReturnsInHanded {} Try.checked os 7 .any (Rows.diskSaysSpec.pre6 enc Try.prog Try.f7 Rows.diskSaysRow.domain false) (Rows.diskSaysSpec.post enc Try.prog Try.f7 false true false false) := by
  refine returnsInHanded_of_change (C := Try.checked) (by kernel_rfl) started (by kernel_rfl) Try.func7
    (ChangeSpec.witness6 (enc := enc) (C := Try.checked) false ⟨#[], #[.int .i64 0, .slice none 0 0], []⟩ 8 (by kernel_rfl) (by kernel_rfl) (by kernel_rfl) (by kernel_rfl)) ?_
  intro W base args ds gs before hval hW hcnd _
  exact law_calls (C := Try.checked) (n := 16) rfl (by kernel_rfl) (fun ds h => by match ds, h with | [_, _], _ => rfl) (by kernel_rfl) (by kernel_rfl) (by kernel_rfl) (tb := 4) (by kernel_rfl) Try.ok_DiskSays hval hW (fun _ _ => trivial)
open Go.ChangeShapes Go.WideShapes Go.ChangeAt Go.RowKit in
theorem diskSays_holds : Rows.DiskSaysSaid :=
  OpenClaim.holds_of_wide 7 Try.f7 rfl rfl rfl rfl rfl rfl rfl ⟨rfl, rfl, rfl, rfl, rfl⟩ rfl rfl rfl rfl rfl (by kernel_rfl) Try.func7 (by kernel_rfl)
    (of_decide_eq_true (by kernel_rfl)) (by unfold Func.isWrapper; first | (rw [if_pos (by decide +kernel)]; kernel_rfl) | (rw [if_neg (by decide +kernel)]; exact ⟨rfl, rfl⟩))
    (fun os started H enc _ => diskSays_lifted os started H enc)
#print axioms diskSays_holds
end Go.Proofs.Ytgokjhhcfemnhaa

