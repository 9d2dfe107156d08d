/- A part of the proof that the law TopStamp holds of the given program: facts that are used there. -/
import Derived.Test.YtgokjhhcfemnhabFiles
import Derived.Test.YtgokjhhcfemnhabActs
import Derived.Test.YtgokjhhcfemnhabRSame
import Derived.Test.YtgokjhhcfemnhabMrl26
import Derived.Test.YtgokjhhcfemnhabRows
set_option linter.unusedSimpArgs false
set_option linter.unusedVariables false
namespace Go.Proofs.Ytgokjhhcfemnhab
open Go.Vg Go.Mrl
/-! The law TopStamp. -/
noncomputable def Try.stamp0Ctx : List (FuncId × (Bool × CSpec)) := [(44, (true, funSpec [.str] [.err] (fun _ => True) (fun s => errNo (nameFault s)))),
  (18, (true, funSpec [.str] [.int .u32] (fun _ => True) (fun s => (hashF s : Int)))),
  (22, (true, funSpec [.err] [.int .i64] (fun _ => True) (fun e => numE e))),
  (41, (true, pureSpec [tEntry] [.bool] (fun _ => True) (fun e y => y = true → LightE e))),
  (26, (true, pureSpec [.slice tAct, .int .i64] [.bool] (fun _ => True) (fun x y => y = true → LightAs x.1 x.2))),
  (31, (false, objSpec [] [] (fun _ _ => True) Try.newAlts)),
  (33, (false, objSpec Try.filesObs [.obj 0, .d .str] (fun _ _ => True) Try.freadAlts)),
  (35, (false, objSpec Try.filesObs [.obj 0, .d .str, .d .str] (fun _ x => x.2.1.1.length ≤ 6 ∧ 0 ≤ x.1.1 ∧ x.1.1 ≤ 1000000) Try.fwriteAlts)),
  (42, (false, objSpec Try.filesObs [.obj 0, .d .str] (fun _ _ => True) Try.fremoveAlts)),
  (34, (false, objSpec Try.filesObs [.obj 0] (fun _ x => x.2.1.1.length ≤ 6 ∧ (x.2.1.1.map bornF).Nodup) Try.flistAlts))]
theorem Try.stamp0CtxOK {X : Ext} : CtxOK Try.prog Try.B X Try.stamp0Ctx :=
  ctx1 (callOK_of_fun Try.ok_Check) (ctx1 (callOK_of_fun Try.ok_Hash) (ctx1 (callOK_of_fun Try.ok_number) (ctx1 (callOK_of_pure Try.ok_LightEntry) (ctx1 (callOK_of_pure Try.ok_LightActs) (ctx1 (Try.ok_FNew) (ctx1 (Try.ok_FRead) (ctx1 (Try.ok_FWrite) (ctx1 (Try.ok_FRemove) (ctx1 (Try.ok_FList) (ctx0 Try.tyOK))))))))))
set_option maxRecDepth 100000 in
set_option maxHeartbeats 4000000 in
theorem vc_drawer  (hw : wfL [] ()) : (fnVCs Try.B Try.stamp0Ctx Try.f30 [] [] [.bool] (fun x y => y = (fun _ => true) x) ()).holds := by
  refine holds_of (p :=
    (True) ∧ ((True) → (List.length (@List.nil FE) ≤ (6 : Nat) ∧ (0 : Int) ≤ (0 : Int) ∧ (0 : Int) ≤ (1000000 : Int)) ∧ ((True) → (((!Err.isNil (errNo (0 : Int))) = true → (false = true)) ∧ ((!Err.isNil (errNo (0 : Int))) = false → (True) ∧ ((True) → (((Err.isNil (errNo (0 : Int))) = true → ((([(120 : UInt8)] == [(120 : UInt8)]) = true → (((0 : Int) + (1 : Int) == (1 : Int)) = true)) ∧ (([(120 : UInt8)] == [(120 : UInt8)]) = false → (false = true)))) ∧ ((Err.isNil (errNo (0 : Int))) = false → (false = true))))))))) (by kernel_rfl) ?_
  refine ⟨trivial, ?_⟩
  intro h0
  refine ⟨?_, ?_⟩
  · first | trivial | omega | (dsimp only [D] at *; omega) | (simp only [I64, big] at *; omega) | (simp_all; done)
  intro h1
  refine ⟨fun h2 => ?_, fun h2 => ?_⟩
  · exact absurd (show false = true from h2) (by decide)
  ·
    refine ⟨trivial, ?_⟩
    intro h3
    refine ⟨fun h4 => ?_, fun h4 => ?_⟩
    ·
      refine ⟨fun h5 => ?_, fun h5 => ?_⟩
      ·
        first | trivial | omega | (dsimp only [D] at *; omega) | (simp only [I64, big] at *; omega) | (simp_all; done)
      · exact absurd (show true = false from h5) (by decide)
    · exact absurd (show true = false from h4) (by decide)
theorem Try.ok_drawer : PureOK Try.prog Try.B.eT 30 [] [.bool] (fun _ => True) (fun x y => y = (fun _ => true) x) :=
  pure_fn (X := noExt) Try.stamp0CtxOK Try.func30 (by kernel_rfl) (fun _ => []) (fun x hw hp => vc_drawer  hw)
def Try.doneAnn (l : List (D tAct)) (f : FZ) : Anns := [(0, fun st => { X := Nat, inv := fun i => i ≤ l.length, meas := fun i => l.length - i, slots := fun i => [(4, sI i)], keep := [0, 1], objs := fun i => [(0, .cells 111 [.xref 1, .d (.int .i64) (doneF f (l.take i)).1.1]), (1, .ext 1 (mapT tFV) (doneF f (l.take i)).2.1)], mods := [0, 1] })]
def Try.doneAlts : List (Alt Try.filesObs [.obj 0, .d (.slice tAct)]) := [{ obs' := Try.filesObs, res := [], out := fun a x => doneF x a.1, ret := fun _ _ => () }]
set_option maxRecDepth 100000 in
set_option maxHeartbeats 4000000 in
theorem vc_Done (l : List (D tAct)) (f : FZ) (hw : wfC [.obj 0, .d (.slice tAct)] (l, ())) (hp : (fun _ x => StampInv x) (l, ()) f) : (objVCs Try.B Try.stamp0Ctx Try.f32 (Try.doneAnn l f) Try.filesObs [.obj 0, .d (.slice tAct)] Try.doneAlts (l, ()) f).holds := by
  refine holds_of (p :=
    (∃ (x : Nat), x ≤ List.length l ∧ ((0 : Int) = (↑x : Int) ∧ True) ∧ (C.xref (1 : Nat) = C.xref (1 : Nat) ∧ f.1.1 = (doneF f (List.take x l)).1.1 ∧ True) ∧ f.2.1 = (doneF f (List.take x l)).2.1 ∧ True) ∧ (∀ x_0 : Nat, ((x_0 ≤ List.length l) → ((List.length l ≤ big) → (((decide ((↑x_0 : Int) < (↑(List.length l) : Int))) = true → ((0 : Int) ≤ (↑x_0 : Int) ∧ (↑x_0 : Int) < (↑(List.length l) : Int)) ∧ ((((nth tAct l x_0).1 == [(119 : UInt8), (114 : UInt8), (105 : UInt8), (116 : UInt8), (101 : UInt8)]) = true → ((0 : Int) ≤ (↑x_0 : Int) ∧ (↑x_0 : Int) < (↑(List.length l) : Int)) ∧ ((0 : Int) ≤ (↑x_0 : Int) ∧ (↑x_0 : Int) < (↑(List.length l) : Int)) ∧
    (List.length (doneF f (List.take x_0 l)).2.1.1 ≤ (6 : Nat) ∧ (0 : Int) ≤ (doneF f (List.take x_0 l)).1.1 ∧ (doneF f (List.take x_0 l)).1.1 ≤ (1000000 : Int)) ∧ ((True) → ((I64 (↑x_0 : Int)) → ((I64 (1 : Int)) → (I64 ((↑x_0 : Int) + (1 : Int))) ∧
    (∃ (x' : Nat), x' ≤ List.length l ∧ List.length l - x' < List.length l - x_0 ∧ ((↑x_0 : Int) + (1 : Int) = (↑x' : Int) ∧ True) ∧ (C.xref (1 : Nat) = C.xref (1 : Nat) ∧ (writeFs (doneF f (List.take x_0 l)) (nth tAct l x_0).2.1 (nth tAct l x_0).2.2.1).1.1.1 = (doneF f (List.take x' l)).1.1 ∧ True) ∧ (writeFs (doneF f (List.take x_0 l)) (nth tAct l x_0).2.1 (nth tAct l x_0).2.2.1).1.2.1 = (doneF f (List.take x' l)).2.1 ∧ True))))) ∧ (((nth tAct l x_0).1 == [(119 : UInt8), (114 : UInt8), (105 : UInt8), (116 : UInt8), (101 : UInt8)]) = false → ((0 : Int) ≤ (↑x_0 : Int) ∧ (↑x_0 : Int) < (↑(List.length l) : Int)) ∧
    ((((nth tAct l x_0).1 == [(114 : UInt8), (101 : UInt8), (109 : UInt8), (111 : UInt8), (118 : UInt8), (101 : UInt8)]) = true → ((0 : Int) ≤ (↑x_0 : Int) ∧ (↑x_0 : Int) < (↑(List.length l) : Int)) ∧ (True) ∧ ((True) → ((I64 (↑x_0 : Int)) → ((I64 (1 : Int)) → (I64 ((↑x_0 : Int) + (1 : Int))) ∧
    (∃ (x' : Nat), x' ≤ List.length l ∧ List.length l - x' < List.length l - x_0 ∧ ((↑x_0 : Int) + (1 : Int) = (↑x' : Int) ∧ True) ∧ (C.xref (1 : Nat) = C.xref (1 : Nat) ∧ (removeFs (doneF f (List.take x_0 l)) (nth tAct l x_0).2.1).1.1.1 = (doneF f (List.take x' l)).1.1 ∧ True) ∧ (removeFs (doneF f (List.take x_0 l)) (nth tAct l x_0).2.1).1.2.1 = (doneF f (List.take x' l)).2.1 ∧ True))))) ∧
    (((nth tAct l x_0).1 == [(114 : UInt8), (101 : UInt8), (109 : UInt8), (111 : UInt8), (118 : UInt8), (101 : UInt8)]) = false → ((I64 (↑x_0 : Int)) → ((I64 (1 : Int)) → (I64 ((↑x_0 : Int) + (1 : Int))) ∧
    (∃ (x' : Nat), x' ≤ List.length l ∧ List.length l - x' < List.length l - x_0 ∧ ((↑x_0 : Int) + (1 : Int) = (↑x' : Int) ∧ True) ∧ (C.xref (1 : Nat) = C.xref (1 : Nat) ∧ (doneF f (List.take x_0 l)).1.1 = (doneF f (List.take x' l)).1.1 ∧ True) ∧ (doneF f (List.take x_0 l)).2.1 = (doneF f (List.take x' l)).2.1 ∧ True)))))))) ∧ ((decide ((↑x_0 : Int) < (↑(List.length l) : Int))) = false → (True ∧ (doneF f (List.take x_0 l)) = doneF f l ∧ () = ()))))))) (by kernel_rfl) ?_
  try dsimp only at hp
  refine ⟨?_, ?_⟩
  · exact ⟨0, by omega, ⟨rfl, trivial⟩, ⟨rfl, rfl, trivial⟩, rfl, trivial⟩
  intro x_0 q_0
  intro h0
  refine ⟨fun h1 => ?_, fun h1 => ?_⟩
  · try simp only [bl, reduceCtorEq] at h1
    refine ⟨?_, ?_⟩
    · first | trivial | omega | (dsimp only [D] at *; omega) | (simp only [I64, big] at *; omega) | (simp_all; done)
    refine ⟨fun h2 => ?_, fun h2 => ?_⟩
    · try simp only [bl, reduceCtorEq] at h2
      refine ⟨?_, ?_⟩
      · first | trivial | omega | (dsimp only [D] at *; omega) | (simp only [I64, big] at *; omega) | (simp_all; done)
      refine ⟨?_, ?_⟩
      · first | trivial | omega | (dsimp only [D] at *; omega) | (simp only [I64, big] at *; omega) | (simp_all; done)
      refine ⟨?_, ?_⟩
      · exact (StampInv.done _ hp).pre
      intro h3
      intro h4
      intro h5
      refine ⟨?_, ?_⟩
      · first | trivial | omega | (dsimp only [D] at *; omega) | (simp only [I64, big] at *; omega) | (simp_all; done)
      exact ⟨x_0 + 1, by omega, by omega, ⟨by omega, trivial⟩, by rw [doneF_next (by omega), dstep_write (by unfold writeS; assumption)]; exact ⟨⟨rfl, rfl, trivial⟩, rfl, trivial⟩⟩
    · try simp only [bl, reduceCtorEq] at h2
      refine ⟨?_, ?_⟩
      · first | trivial | omega | (dsimp only [D] at *; omega) | (simp only [I64, big] at *; omega) | (simp_all; done)
      refine ⟨fun h3 => ?_, fun h3 => ?_⟩
      · try simp only [bl, reduceCtorEq] at h3
        refine ⟨?_, ?_⟩
        · first | trivial | omega | (dsimp only [D] at *; omega) | (simp only [I64, big] at *; omega) | (simp_all; done)
        refine ⟨trivial, ?_⟩
        intro h4
        intro h5
        intro h6
        refine ⟨?_, ?_⟩
        · first | trivial | omega | (dsimp only [D] at *; omega) | (simp only [I64, big] at *; omega) | (simp_all; done)
        exact ⟨x_0 + 1, by omega, by omega, ⟨by omega, trivial⟩, by rw [doneF_next (by omega), dstep_remove (by unfold writeS; assumption) (by unfold removeS; assumption)]; exact ⟨⟨rfl, rfl, trivial⟩, rfl, trivial⟩⟩
      · try simp only [bl, reduceCtorEq] at h3
        intro h4
        intro h5
        refine ⟨?_, ?_⟩
        · first | trivial | omega | (dsimp only [D] at *; omega) | (simp only [I64, big] at *; omega) | (simp_all; done)
        exact ⟨x_0 + 1, by omega, by omega, ⟨by omega, trivial⟩, by rw [doneF_next (by omega), dstep_none (by unfold writeS; assumption) (by unfold removeS; assumption)]; exact ⟨⟨rfl, rfl, trivial⟩, rfl, trivial⟩⟩
  · try simp only [bl, reduceCtorEq] at h1
    rw [List.take_of_length_le (by omega)]; exact ⟨trivial, rfl, rfl⟩
theorem Try.ok_Done {X : Ext} : CallOK Try.prog Try.B.eT X 32 false (objSpec Try.filesObs [.obj 0, .d (.slice tAct)] (fun _ x => StampInv x) Try.doneAlts) :=
  callOK_of_obj (X := X) Try.stamp0CtxOK Try.func32 (by kernel_rfl) (fun (a : CD [.obj 0, .d (.slice tAct)]) (x : PD Try.filesObs) => Try.doneAnn a.1 x) (fun (a : CD [.obj 0, .d (.slice tAct)]) (x : PD Try.filesObs) hw hp => vc_Done a.1 x hw hp)
noncomputable def Try.stampCtx : List (FuncId × (Bool × CSpec)) := [(44, (true, funSpec [.str] [.err] (fun _ => True) (fun s => errNo (nameFault s)))),
  (18, (true, funSpec [.str] [.int .u32] (fun _ => True) (fun s => (hashF s : Int)))),
  (22, (true, funSpec [.err] [.int .i64] (fun _ => True) (fun e => numE e))),
  (41, (true, pureSpec [tEntry] [.bool] (fun _ => True) (fun e y => y = true → LightE e))),
  (26, (true, pureSpec [.slice tAct, .int .i64] [.bool] (fun _ => True) (fun x y => y = true → LightAs x.1 x.2))),
  (31, (false, objSpec [] [] (fun _ _ => True) Try.newAlts)),
  (33, (false, objSpec Try.filesObs [.obj 0, .d .str] (fun _ _ => True) Try.freadAlts)),
  (35, (false, objSpec Try.filesObs [.obj 0, .d .str, .d .str] (fun _ x => x.2.1.1.length ≤ 6 ∧ 0 ≤ x.1.1 ∧ x.1.1 ≤ 1000000) Try.fwriteAlts)),
  (42, (false, objSpec Try.filesObs [.obj 0, .d .str] (fun _ _ => True) Try.fremoveAlts)),
  (34, (false, objSpec Try.filesObs [.obj 0] (fun _ x => x.2.1.1.length ≤ 6 ∧ (x.2.1.1.map bornF).Nodup) Try.flistAlts)),
  (30, (true, funSpec [] [.bool] (fun _ => True) (fun _ => true))),
  (32, (false, objSpec Try.filesObs [.obj 0, .d (.slice tAct)] (fun _ x => StampInv x) Try.doneAlts))]
theorem Try.stampCtxOK {X : Ext} : CtxOK Try.prog Try.B X Try.stampCtx :=
  ctx1 (callOK_of_fun Try.ok_Check) (ctx1 (callOK_of_fun Try.ok_Hash) (ctx1 (callOK_of_fun Try.ok_number) (ctx1 (callOK_of_pure Try.ok_LightEntry) (ctx1 (callOK_of_pure Try.ok_LightActs) (ctx1 (Try.ok_FNew) (ctx1 (Try.ok_FRead) (ctx1 (Try.ok_FWrite) (ctx1 (Try.ok_FRemove) (ctx1 (Try.ok_FList) (ctx1 (callOK_of_fun Try.ok_drawer) (ctx1 (Try.ok_Done) (ctx0 Try.tyOK))))))))))))
def Try.tstampAnn (l : List (D tAct)) (_s : List UInt8) (_t : List UInt8) : Anns := [
  (200000, fun st => { X := Nat × Int, inv := fun x => x.1 ≤ l.length ∧ 0 ≤ x.2 ∧ x.2 ≤ (doneF newFs (l.take x.1)).1.1, meas := fun x => l.length - x.1, slots := fun x => [(10, sI x.1), (9, sI x.2)], keep := [0, 1, 2, 6, 8], obs := Try.filesObs, refs := [(8, 0)], pd := fun x => doneF newFs (l.take x.1) }),
  (2, fun st => { X := Nat, inv := fun i => i ≤ (listFs (doneF newFs l)).length, meas := fun i => (listFs (doneF newFs l)).length - i, slots := fun i => [(17, sI i), (15, .s (.one (.app .str (((listFs (doneF newFs l)).take i).map fun k => (readFs (doneF newFs l) k).1) (objOf st 15)))), (16, .s (.one (.app (.int .i64) (((listFs (doneF newFs l)).take i).map fun k => (readFs (doneF newFs l) k).2.1) (objOf st 16))))], objs := fun i => [(objOf st 15, .tok .str (((listFs (doneF newFs l)).take i).map fun k => (readFs (doneF newFs l) k).1)), (objOf st 16, .tok (.int .i64) (((listFs (doneF newFs l)).take i).map fun k => (readFs (doneF newFs l) k).2.1))], keep := [1, 2, 6, 8, 9, 14], mods := [objOf st 15, objOf st 16] }),
  (4, fun st => { X := Nat, inv := fun i => i ≤ (listFs (doneF newFs l)).length, meas := fun i => (listFs (doneF newFs l)).length - i, slots := fun i => [(22, sI i)], keep := [1, 2, 8, 9, 14, 15, 16, 21] })]
set_option maxRecDepth 100000 in
set_option maxHeartbeats 4000000 in
theorem vc_TopStamp (l : List (D tAct)) (s : List UInt8) (t : List UInt8) (hw : wfL [.slice tAct, .str, .str] (l, s, t)) : (fnVCs Try.B Try.stampCtx Try.f10 (Try.tstampAnn l s t) [.slice tAct, .str, .str] [.bool] (fun _ y => y = true) (l, s, t)).holds := by
  refine holds_of (p :=
    (True) ∧ (((!true) = true → (false = true)) ∧ ((!true) = false → (True) ∧ (∀ x_0 : Bool, ((x_0 = true → LightAs l (30 : Int)) → (((!x_0) = true → (true = true)) ∧ ((!x_0) = false → ((List.length s ≤ big) → (((decide ((↑(List.length s) : Int) > (20 : Int))) = true → (true = true)) ∧ ((decide ((↑(List.length s) : Int) > (20 : Int))) = false → ((List.length t ≤ big) → (((decide ((↑(List.length t) : Int) > (1300 : Int))) = true → (true = true)) ∧ ((decide ((↑(List.length t) : Int) > (1300 : Int))) = false → (True) ∧ ((True) →
    (((∃ (x' : Nat × Int), (x'.1 ≤ List.length l ∧ (0 : Int) ≤ x'.2 ∧ x'.2 ≤ (doneF newFs (List.take x'.1 l)).1.1) ∧ True ∧ ((0 : Int) = (↑x'.1 : Int) ∧ (0 : Int) = x'.2 ∧ True) ∧ True ∧ true = true ∧ (((0 : Int), ()), ([], (0 : Int), ()), ()) = doneF newFs (List.take x'.1 l))) ∧ ((∀ x_1 : Nat × Int, ((x_1.1 ≤ List.length l ∧ (0 : Int) ≤ x_1.2 ∧ x_1.2 ≤ (doneF newFs (List.take x_1.1 l)).1.1) → ((List.length l ≤ big) → (((decide ((↑x_1.1 : Int) < (↑(List.length l) : Int))) = true → ((I64 (↑x_1.1 : Int)) → ((I64 (1 : Int)) → (I64 ((↑x_1.1 : Int) + (1 : Int))) ∧
    ((0 : Int) ≤ (↑x_1.1 : Int) ∧ (↑x_1.1 : Int) ≤ (↑x_1.1 : Int) + (1 : Int) ∧ (↑x_1.1 : Int) + (1 : Int) ≤ (↑(List.length l) : Int)) ∧ (StampInv (doneF newFs (List.take x_1.1 l))) ∧ ((True) → ((0 : Int) ≤ (↑x_1.1 : Int) ∧ (↑x_1.1 : Int) < (↑(List.length l) : Int)) ∧ (True) ∧ ((True) →
    (((Err.isNil (errNo (readFs (doneF (doneF newFs (List.take x_1.1 l)) (List.drop x_1.1 (List.take (Int.toNat ((↑x_1.1 : Int) + (1 : Int))) l))) (nth tAct l x_1.1).2.1).2.2)) = true → ((I64 (↑x_1.1 : Int)) → ((I64 (1 : Int)) → (I64 ((↑x_1.1 : Int) + (1 : Int))) ∧
    (∃ (x' : Nat × Int), (x'.1 ≤ List.length l ∧ (0 : Int) ≤ x'.2 ∧ x'.2 ≤ (doneF newFs (List.take x'.1 l)).1.1) ∧ List.length l - x'.1 < List.length l - x_1.1 ∧ ((↑x_1.1 : Int) + (1 : Int) = (↑x'.1 : Int) ∧ (if (readFs (doneF (doneF newFs (List.take x_1.1 l)) (List.drop x_1.1 (List.take (Int.toNat ((↑x_1.1 : Int) + (1 : Int))) l))) (nth tAct l x_1.1).2.1).2.1 > x_1.2 then (readFs (doneF (doneF newFs (List.take x_1.1 l)) (List.drop x_1.1 (List.take (Int.toNat ((↑x_1.1 : Int) + (1 : Int))) l))) (nth tAct l x_1.1).2.1).2.1 else x_1.2) = x'.2 ∧ True) ∧ True ∧ true = true ∧ (doneF (doneF newFs (List.take x_1.1 l)) (List.drop x_1.1 (List.take (Int.toNat ((↑x_1.1 : Int) + (1 : Int))) l))) = doneF newFs (List.take x'.1 l))))) ∧
    ((Err.isNil (errNo (readFs (doneF (doneF newFs (List.take x_1.1 l)) (List.drop x_1.1 (List.take (Int.toNat ((↑x_1.1 : Int) + (1 : Int))) l))) (nth tAct l x_1.1).2.1).2.2)) = false → ((I64 (↑x_1.1 : Int)) → ((I64 (1 : Int)) → (I64 ((↑x_1.1 : Int) + (1 : Int))) ∧
    (∃ (x' : Nat × Int), (x'.1 ≤ List.length l ∧ (0 : Int) ≤ x'.2 ∧ x'.2 ≤ (doneF newFs (List.take x'.1 l)).1.1) ∧ List.length l - x'.1 < List.length l - x_1.1 ∧ ((↑x_1.1 : Int) + (1 : Int) = (↑x'.1 : Int) ∧ x_1.2 = x'.2 ∧ True) ∧ True ∧ true = true ∧ (doneF (doneF newFs (List.take x_1.1 l)) (List.drop x_1.1 (List.take (Int.toNat ((↑x_1.1 : Int) + (1 : Int))) l))) = doneF newFs (List.take x'.1 l))))))))))) ∧ ((decide ((↑x_1.1 : Int) < (↑(List.length l) : Int))) = false →
    (List.length (doneF newFs (List.take x_1.1 l)).2.1.1 ≤ (6 : Nat) ∧ List.Nodup (List.map bornF (doneF newFs (List.take x_1.1 l)).2.1.1)) ∧ ((True) →
    (∃ (x : Nat), x ≤ List.length (listFs (doneF newFs l)) ∧ ((0 : Int) = (↑x : Int) ∧ @List.nil (List UInt8) = List.map (fun (k : Str) => (readFs (doneF newFs l) k).1) (List.take x (listFs (doneF newFs l))) ∧ @List.nil Int = List.map (fun (k : Str) => (readFs (doneF newFs l) k).2.1) (List.take x (listFs (doneF newFs l))) ∧ True) ∧ @List.nil (List UInt8) = List.map (fun (k : Str) => (readFs (doneF newFs l) k).1) (List.take x (listFs (doneF newFs l))) ∧ @List.nil Int = List.map (fun (k : Str) => (readFs (doneF newFs l) k).2.1) (List.take x (listFs (doneF newFs l))) ∧ True) ∧ (∀ x_2 : Nat, ((x_2 ≤ List.length (listFs (doneF newFs l))) → ((List.length (listFs (doneF newFs (List.take x_1.1 l))) ≤ big) → (((decide ((↑x_2 : Int) < (↑(List.length (listFs (doneF newFs (List.take x_1.1 l)))) : Int))) = true → ((0 : Int) ≤ (↑x_2 : Int) ∧ (↑x_2 : Int) < (↑(List.length (listFs (doneF newFs (List.take x_1.1 l)))) : Int)) ∧ (x_2 < List.length (listFs (doneF newFs (List.take x_1.1 l)))) ∧ (True) ∧ ((True) →
    (List.map (fun (k : Str) => (readFs (doneF newFs l) k).1) (List.take x_2 (listFs (doneF newFs l))) = List.map (fun (k : Str) => (readFs (doneF newFs l) k).1) (List.take x_2 (listFs (doneF newFs l))) ∧ List.length (List.map (fun (k : Str) => (readFs (doneF newFs l) k).1) (List.take x_2 (listFs (doneF newFs l)))) + List.length [(readFs (doneF newFs (List.take x_1.1 l)) (nth Ty.str (listFs (doneF newFs (List.take x_1.1 l))) x_2)).1] ≤ (1000000000 : Nat)) ∧
    (List.map (fun (k : Str) => (readFs (doneF newFs l) k).2.1) (List.take x_2 (listFs (doneF newFs l))) = List.map (fun (k : Str) => (readFs (doneF newFs l) k).2.1) (List.take x_2 (listFs (doneF newFs l))) ∧ List.length (List.map (fun (k : Str) => (readFs (doneF newFs l) k).2.1) (List.take x_2 (listFs (doneF newFs l)))) + List.length [(readFs (doneF newFs (List.take x_1.1 l)) (nth Ty.str (listFs (doneF newFs (List.take x_1.1 l))) x_2)).2.1] ≤ (1000000000 : Nat)) ∧ ((I64 (↑x_2 : Int)) → ((I64 (1 : Int)) → (I64 ((↑x_2 : Int) + (1 : Int))) ∧
    (∃ (x' : Nat), x' ≤ List.length (listFs (doneF newFs l)) ∧ List.length (listFs (doneF newFs l)) - x' < List.length (listFs (doneF newFs l)) - x_2 ∧ ((↑x_2 : Int) + (1 : Int) = (↑x' : Int) ∧ List.map (fun (k : Str) => (readFs (doneF newFs l) k).1) (List.take x_2 (listFs (doneF newFs l))) ++ [(readFs (doneF newFs (List.take x_1.1 l)) (nth Ty.str (listFs (doneF newFs (List.take x_1.1 l))) x_2)).1] = List.map (fun (k : Str) => (readFs (doneF newFs l) k).1) (List.take x' (listFs (doneF newFs l))) ∧ List.map (fun (k : Str) => (readFs (doneF newFs l) k).2.1) (List.take x_2 (listFs (doneF newFs l))) ++ [(readFs (doneF newFs (List.take x_1.1 l)) (nth Ty.str (listFs (doneF newFs (List.take x_1.1 l))) x_2)).2.1] = List.map (fun (k : Str) => (readFs (doneF newFs l) k).2.1) (List.take x' (listFs (doneF newFs l))) ∧ True) ∧ List.map (fun (k : Str) => (readFs (doneF newFs l) k).1) (List.take x_2 (listFs (doneF newFs l))) ++ [(readFs (doneF newFs (List.take x_1.1 l)) (nth Ty.str (listFs (doneF newFs (List.take x_1.1 l))) x_2)).1] = List.map (fun (k : Str) => (readFs (doneF newFs l) k).1) (List.take x' (listFs (doneF newFs l))) ∧ List.map (fun (k : Str) => (readFs (doneF newFs l) k).2.1) (List.take x_2 (listFs (doneF newFs l))) ++ [(readFs (doneF newFs (List.take x_1.1 l)) (nth Ty.str (listFs (doneF newFs (List.take x_1.1 l))) x_2)).2.1] = List.map (fun (k : Str) => (readFs (doneF newFs l) k).2.1) (List.take x' (listFs (doneF newFs l))) ∧ (C.xref ((0 : Nat) + List.length Try.filesObs + (1 : Nat)) = C.xref ((0 : Nat) + List.length Try.filesObs + (1 : Nat)) ∧ (doneF newFs (List.take x_1.1 l)).1.1 = (doneF newFs (List.take x_1.1 l)).1.1 ∧ True) ∧ (doneF newFs (List.take x_1.1 l)).2.1 = (doneF newFs (List.take x_1.1 l)).2.1 ∧ listFs (doneF newFs (List.take x_1.1 l)) = listFs (doneF newFs (List.take x_1.1 l)) ∧ True))))) ∧ ((decide ((↑x_2 : Int) < (↑(List.length (listFs (doneF newFs (List.take x_1.1 l)))) : Int))) = false →
    (List.length (doneF newFs (List.take x_1.1 l)).2.1.1 ≤ (6 : Nat) ∧ (0 : Int) ≤ (doneF newFs (List.take x_1.1 l)).1.1 ∧ (doneF newFs (List.take x_1.1 l)).1.1 ≤ (1000000 : Int)) ∧ ((True) → (∃ (x : Nat), x ≤ List.length (listFs (doneF newFs l)) ∧ ((0 : Int) = (↑x : Int) ∧ True) ∧ True) ∧ (∀ x_3 : Nat, ((x_3 ≤ List.length (listFs (doneF newFs l))) → ((List.length (listFs (doneF newFs (List.take x_1.1 l))) ≤ big) → (((decide ((↑x_3 : Int) < (↑(List.length (listFs (doneF newFs (List.take x_1.1 l)))) : Int))) = true → ((0 : Int) ≤ (↑x_3 : Int) ∧ (↑x_3 : Int) < (↑(List.length (listFs (doneF newFs (List.take x_1.1 l)))) : Int)) ∧ (x_3 < List.length (listFs (doneF newFs (List.take x_1.1 l)))) ∧ (True) ∧ ((True) → ((0 : Int) ≤ (↑x_3 : Int) ∧ (↑x_3 : Int) < (↑(List.length (listFs (doneF newFs (List.take x_1.1 l)))) : Int)) ∧ (x_3 < List.length (listFs (doneF newFs (List.take x_1.1 l)))) ∧ (((!nth Ty.str (listFs (doneF newFs (List.take x_1.1 l))) x_3 == s) = true →
    (((!Err.isNil (errNo (readFs (writeFs (doneF newFs (List.take x_1.1 l)) s t).1 (nth Ty.str (listFs (doneF newFs (List.take x_1.1 l))) x_3)).2.2)) = true → (false = true)) ∧
    ((!Err.isNil (errNo (readFs (writeFs (doneF newFs (List.take x_1.1 l)) s t).1 (nth Ty.str (listFs (doneF newFs (List.take x_1.1 l))) x_3)).2.2)) = false →
    ((0 : Int) ≤ (↑x_3 : Int) ∧ (↑x_3 : Int) < (↑(List.length (List.map (fun (k : Str) => (readFs (doneF newFs l) k).1) (List.take x_2 (listFs (doneF newFs l))))) : Int)) ∧
    (((!(readFs (writeFs (doneF newFs (List.take x_1.1 l)) s t).1 (nth Ty.str (listFs (doneF newFs (List.take x_1.1 l))) x_3)).1 == nth Ty.str (List.map (fun (k : Str) => (readFs (doneF newFs l) k).1) (List.take x_2 (listFs (doneF newFs l)))) x_3) = true → (false = true)) ∧
    ((!(readFs (writeFs (doneF newFs (List.take x_1.1 l)) s t).1 (nth Ty.str (listFs (doneF newFs (List.take x_1.1 l))) x_3)).1 == nth Ty.str (List.map (fun (k : Str) => (readFs (doneF newFs l) k).1) (List.take x_2 (listFs (doneF newFs l)))) x_3) = false →
    ((0 : Int) ≤ (↑x_3 : Int) ∧ (↑x_3 : Int) < (↑(List.length (List.map (fun (k : Str) => (readFs (doneF newFs l) k).2.1) (List.take x_2 (listFs (doneF newFs l))))) : Int)) ∧
    ((((readFs (writeFs (doneF newFs (List.take x_1.1 l)) s t).1 (nth Ty.str (listFs (doneF newFs (List.take x_1.1 l))) x_3)).2.1 != nth (Ty.int IntKind.i64) (List.map (fun (k : Str) => (readFs (doneF newFs l) k).2.1) (List.take x_2 (listFs (doneF newFs l)))) x_3) = true → (false = true)) ∧
    (((readFs (writeFs (doneF newFs (List.take x_1.1 l)) s t).1 (nth Ty.str (listFs (doneF newFs (List.take x_1.1 l))) x_3)).2.1 != nth (Ty.int IntKind.i64) (List.map (fun (k : Str) => (readFs (doneF newFs l) k).2.1) (List.take x_2 (listFs (doneF newFs l)))) x_3) = false → ((I64 (↑x_3 : Int)) → ((I64 (1 : Int)) → (I64 ((↑x_3 : Int) + (1 : Int))) ∧
    (∃ (x' : Nat), x' ≤ List.length (listFs (doneF newFs l)) ∧ List.length (listFs (doneF newFs l)) - x' < List.length (listFs (doneF newFs l)) - x_3 ∧ ((↑x_3 : Int) + (1 : Int) = (↑x' : Int) ∧ True) ∧ (C.xref ((0 : Nat) + List.length Try.filesObs + (1 : Nat)) = C.xref ((0 : Nat) + List.length Try.filesObs + (1 : Nat)) ∧ (writeFs (doneF newFs (List.take x_1.1 l)) s t).1.1.1 = (writeFs (doneF newFs (List.take x_1.1 l)) s t).1.1.1 ∧ True) ∧ (writeFs (doneF newFs (List.take x_1.1 l)) s t).1.2.1 = (writeFs (doneF newFs (List.take x_1.1 l)) s t).1.2.1 ∧ List.map (fun (k : Str) => (readFs (doneF newFs l) k).1) (List.take x_2 (listFs (doneF newFs l))) = List.map (fun (k : Str) => (readFs (doneF newFs l) k).1) (List.take x_2 (listFs (doneF newFs l))) ∧ List.map (fun (k : Str) => (readFs (doneF newFs l) k).2.1) (List.take x_2 (listFs (doneF newFs l))) = List.map (fun (k : Str) => (readFs (doneF newFs l) k).2.1) (List.take x_2 (listFs (doneF newFs l))) ∧ listFs (doneF newFs (List.take x_1.1 l)) = listFs (doneF newFs (List.take x_1.1 l)) ∧ True)))))))))) ∧ ((!nth Ty.str (listFs (doneF newFs (List.take x_1.1 l))) x_3 == s) = false → ((I64 (↑x_3 : Int)) → ((I64 (1 : Int)) → (I64 ((↑x_3 : Int) + (1 : Int))) ∧
    (∃ (x' : Nat), x' ≤ List.length (listFs (doneF newFs l)) ∧ List.length (listFs (doneF newFs l)) - x' < List.length (listFs (doneF newFs l)) - x_3 ∧ ((↑x_3 : Int) + (1 : Int) = (↑x' : Int) ∧ True) ∧ (C.xref ((0 : Nat) + List.length Try.filesObs + (1 : Nat)) = C.xref ((0 : Nat) + List.length Try.filesObs + (1 : Nat)) ∧ (writeFs (doneF newFs (List.take x_1.1 l)) s t).1.1.1 = (writeFs (doneF newFs (List.take x_1.1 l)) s t).1.1.1 ∧ True) ∧ (writeFs (doneF newFs (List.take x_1.1 l)) s t).1.2.1 = (writeFs (doneF newFs (List.take x_1.1 l)) s t).1.2.1 ∧ List.map (fun (k : Str) => (readFs (doneF newFs l) k).1) (List.take x_2 (listFs (doneF newFs l))) = List.map (fun (k : Str) => (readFs (doneF newFs l) k).1) (List.take x_2 (listFs (doneF newFs l))) ∧ List.map (fun (k : Str) => (readFs (doneF newFs l) k).2.1) (List.take x_2 (listFs (doneF newFs l))) = List.map (fun (k : Str) => (readFs (doneF newFs l) k).2.1) (List.take x_2 (listFs (doneF newFs l))) ∧ listFs (doneF newFs (List.take x_1.1 l)) = listFs (doneF newFs (List.take x_1.1 l)) ∧ True))))))) ∧ ((decide ((↑x_3 : Int) < (↑(List.length (listFs (doneF newFs (List.take x_1.1 l)))) : Int))) = false → (((!Err.isNil (errNo (writeFs (doneF newFs (List.take x_1.1 l)) s t).2)) = true →
    (List.length (writeFs (doneF newFs (List.take x_1.1 l)) s t).1.2.1.1 ≤ (6 : Nat) ∧ List.Nodup (List.map bornF (writeFs (doneF newFs (List.take x_1.1 l)) s t).1.2.1.1)) ∧ ((True) → ((List.length (listFs (writeFs (doneF newFs (List.take x_1.1 l)) s t).1) ≤ big) → ((List.length (listFs (doneF newFs (List.take x_1.1 l))) ≤ big) →
    (((↑(List.length (listFs (writeFs (doneF newFs (List.take x_1.1 l)) s t).1)) : Int) == (↑(List.length (listFs (doneF newFs (List.take x_1.1 l)))) : Int)) = true))))) ∧ ((!Err.isNil (errNo (writeFs (doneF newFs (List.take x_1.1 l)) s t).2)) = false → (True) ∧ ((True) → (((Err.isNil (errNo (readFs (writeFs (doneF newFs (List.take x_1.1 l)) s t).1 s).2.2)) = true → ((((readFs (writeFs (doneF newFs (List.take x_1.1 l)) s t).1 s).1 == t) = true → (decide ((readFs (writeFs (doneF newFs (List.take x_1.1 l)) s t).1 s).2.1 > x_1.2) = true)) ∧ (((readFs (writeFs (doneF newFs (List.take x_1.1 l)) s t).1 s).1 == t) = false → (false = true)))) ∧ ((Err.isNil (errNo (readFs (writeFs (doneF newFs (List.take x_1.1 l)) s t).1 s).2.2)) = false → (false = true))))))))))))))))))))))))))))))))))))))) (by kernel_rfl) ?_
  refine ⟨trivial, ?_⟩
  refine ⟨fun h0 => ?_, fun h0 => ?_⟩
  · exact absurd (show false = true from h0) (by decide)
  ·
    refine ⟨trivial, ?_⟩
    intro x_0 q_0
    refine ⟨fun h1 => ?_, fun h1 => ?_⟩
    · try simp only [bl, reduceCtorEq] at h1
      first | trivial | omega | (dsimp only [D] at *; omega) | (simp only [I64, big] at *; omega) | (simp_all; done)
    · try simp only [bl, reduceCtorEq] at h1
      intro h2
      refine ⟨fun h3 => ?_, fun h3 => ?_⟩
      · try simp only [bl, reduceCtorEq] at h3
        first | trivial | omega | (dsimp only [D] at *; omega) | (simp only [I64, big] at *; omega) | (simp_all; done)
      · try simp only [bl, reduceCtorEq] at h3
        intro h4
        refine ⟨fun h5 => ?_, fun h5 => ?_⟩
        · try simp only [bl, reduceCtorEq] at h5
          first | trivial | omega | (dsimp only [D] at *; omega) | (simp only [I64, big] at *; omega) | (simp_all; done)
        · try simp only [bl, reduceCtorEq] at h5
          refine ⟨trivial, ?_⟩
          intro h6
          refine ⟨?_, ?_⟩
          ·
            exact ⟨(0, 0), ⟨by omega, by omega, Int.le_refl _⟩, trivial, ⟨rfl, rfl, trivial⟩, trivial, rfl, rfl⟩
          ·
            intro x_1 q_1
            intro h7
            refine ⟨fun h8 => ?_, fun h8 => ?_⟩
            · try simp only [bl, reduceCtorEq] at h8
              intro h9
              intro h10
              refine ⟨?_, ?_⟩
              · first | trivial | omega | (dsimp only [D] at *; omega) | (simp only [I64, big] at *; omega) | (simp_all; done)
              refine ⟨?_, ?_⟩
              · first | trivial | omega | (dsimp only [D] at *; omega) | (simp only [I64, big] at *; omega) | (simp_all; done)
              refine ⟨?_, ?_⟩
              · exact StampInv.done _ StampInv.new
              intro h11
              refine ⟨?_, ?_⟩
              · first | trivial | omega | (dsimp only [D] at *; omega) | (simp only [I64, big] at *; omega) | (simp_all; done)
              refine ⟨trivial, ?_⟩
              intro h12
              refine ⟨fun h13 => ?_, fun h13 => ?_⟩
              · try simp only [bl, reduceCtorEq] at h13
                intro h14
                intro h15
                refine ⟨?_, ?_⟩
                · first | trivial | omega | (dsimp only [D] at *; omega) | (simp only [I64, big] at *; omega) | (simp_all; done)
                have e1 : Int.toNat ((x_1.1 : Int) + 1) = x_1.1 + 1 := (by omega); have e2 := doneF_slice (x := newFs) (l := l) (i := x_1.1) (by omega); have hm : (doneF newFs (l.take x_1.1)).1.1 ≤ (doneF newFs (l.take (x_1.1 + 1))).1.1 := (by rw [doneF_next (by omega)]; exact ((StampInv.done _ StampInv.new).dstep _).2)
                rw [e1, e2] at h13 ⊢
                have hs := stamp_read (StampInv.done (l.take (x_1.1 + 1)) StampInv.new) h13
                exact ⟨(x_1.1 + 1, (if (readFs (doneF newFs (List.take (x_1.1 + 1) l)) (nth tAct l x_1.1).2.1).2.1 > x_1.2 then (readFs (doneF newFs (List.take (x_1.1 + 1) l)) (nth tAct l x_1.1).2.1).2.1 else x_1.2)), ⟨by simp only; omega, by simp only; split <;> omega, by simp only; split <;> omega⟩, by simp only; omega, ⟨by simp only; omega, rfl, trivial⟩, trivial, rfl, rfl⟩
              · try simp only [bl, reduceCtorEq] at h13
                intro h14
                intro h15
                refine ⟨?_, ?_⟩
                · first | trivial | omega | (dsimp only [D] at *; omega) | (simp only [I64, big] at *; omega) | (simp_all; done)
                have e1 : Int.toNat ((x_1.1 : Int) + 1) = x_1.1 + 1 := (by omega); have e2 := doneF_slice (x := newFs) (l := l) (i := x_1.1) (by omega); have hm : (doneF newFs (l.take x_1.1)).1.1 ≤ (doneF newFs (l.take (x_1.1 + 1))).1.1 := (by rw [doneF_next (by omega)]; exact ((StampInv.done _ StampInv.new).dstep _).2)
                rw [e1, e2]
                exact ⟨(x_1.1 + 1, x_1.2), ⟨by simp only; omega, by simp only; omega, by simp only; omega⟩, by simp only; omega, ⟨by simp only; omega, rfl, trivial⟩, trivial, rfl, rfl⟩
            · try simp only [bl, reduceCtorEq] at h8
              refine ⟨?_, ?_⟩
              · exact (StampInv.done _ StampInv.new).lpre
              intro h9
              refine ⟨?_, ?_⟩
              · exact ⟨0, by omega, ⟨rfl, rfl, rfl, trivial⟩, rfl, rfl, (by repeat' (first | exact trivial | rfl | apply And.intro))⟩
              intro x_2 q_2
              intro h10
              refine ⟨fun h11 => ?_, fun h11 => ?_⟩
              · try simp only [bl, reduceCtorEq] at h11
                refine ⟨?_, ?_⟩
                · first | trivial | omega | (dsimp only [D] at *; omega) | (simp only [I64, big] at *; omega) | (simp_all; done)
                refine ⟨?_, ?_⟩
                · first | trivial | omega | (dsimp only [D] at *; omega) | (simp only [I64, big] at *; omega) | (simp_all; done)
                refine ⟨trivial, ?_⟩
                intro h12
                refine ⟨?_, ?_⟩
                · have := (StampInv.done l StampInv.new).llen; exact ⟨rfl, by simp only [List.length_map, List.length_take, List.length_singleton]; omega⟩
                refine ⟨?_, ?_⟩
                · have := (StampInv.done l StampInv.new).llen; exact ⟨rfl, by simp only [List.length_map, List.length_take, List.length_singleton]; omega⟩
                intro h13
                intro h14
                refine ⟨?_, ?_⟩
                · first | trivial | omega | (dsimp only [D] at *; omega) | (simp only [I64, big] at *; omega) | (simp_all; done)
                have e : List.take x_1.1 l = l := List.take_of_length_le (by omega)
                simp only [e] at *
                exact ⟨x_2 + 1, by omega, by omega, ⟨by omega, map_next (by omega), map_next (by omega), trivial⟩, map_next (by omega), map_next (by omega), (by repeat' (first | exact trivial | rfl | apply And.intro))⟩
              · try simp only [bl, reduceCtorEq] at h11
                refine ⟨?_, ?_⟩
                · exact (StampInv.done _ StampInv.new).pre
                intro h12
                refine ⟨?_, ?_⟩
                · exact ⟨0, by omega, ⟨rfl, trivial⟩, (by repeat' (first | exact trivial | rfl | apply And.intro))⟩
                intro x_3 q_3
                intro h13
                refine ⟨fun h14 => ?_, fun h14 => ?_⟩
                · try simp only [bl, reduceCtorEq] at h14
                  refine ⟨?_, ?_⟩
                  · first | trivial | omega | (dsimp only [D] at *; omega) | (simp only [I64, big] at *; omega) | (simp_all; done)
                  refine ⟨?_, ?_⟩
                  · first | trivial | omega | (dsimp only [D] at *; omega) | (simp only [I64, big] at *; omega) | (simp_all; done)
                  refine ⟨trivial, ?_⟩
                  intro h15
                  refine ⟨?_, ?_⟩
                  · first | trivial | omega | (dsimp only [D] at *; omega) | (simp only [I64, big] at *; omega) | (simp_all; done)
                  refine ⟨?_, ?_⟩
                  · first | trivial | omega | (dsimp only [D] at *; omega) | (simp only [I64, big] at *; omega) | (simp_all; done)
                  refine ⟨fun h16 => ?_, fun h16 => ?_⟩
                  · try simp only [bl, reduceCtorEq] at h16
                    refine ⟨fun h17 => ?_, fun h17 => ?_⟩
                    · try simp only [bl, reduceCtorEq] at h17
                      have e : List.take x_1.1 l = l := List.take_of_length_le (by omega)
                      simp only [e] at *
                      rw [read_other (by assumption), read_listed (by omega)] at h17; cases h17
                    · try simp only [bl, reduceCtorEq] at h17
                      refine ⟨?_, ?_⟩
                      · have e : List.take x_1.1 l = l := List.take_of_length_le (by omega)
                        simp only [e] at *
                        simp only [List.length_map, List.length_take]; omega
                      refine ⟨fun h18 => ?_, fun h18 => ?_⟩
                      · try simp only [bl, reduceCtorEq] at h18
                        have e : List.take x_1.1 l = l := List.take_of_length_le (by omega)
                        simp only [e] at *
                        rw [read_other (by assumption), List.take_of_length_le (by omega), nth_mapT (t := .str) (by omega)] at h18; exact absurd rfl h18
                      · try simp only [bl, reduceCtorEq] at h18
                        refine ⟨?_, ?_⟩
                        · have e : List.take x_1.1 l = l := List.take_of_length_le (by omega)
                          simp only [e] at *
                          simp only [List.length_map, List.length_take]; omega
                        refine ⟨fun h19 => ?_, fun h19 => ?_⟩
                        · try simp only [bl, reduceCtorEq] at h19
                          have e : List.take x_1.1 l = l := List.take_of_length_le (by omega)
                          simp only [e] at *
                          rw [read_other (by assumption), List.take_of_length_le (by omega), nth_mapT (t := .int .i64) (by omega)] at h19; exact absurd rfl h19
                        · try simp only [bl, reduceCtorEq] at h19
                          intro h20
                          intro h21
                          refine ⟨?_, ?_⟩
                          · first | trivial | omega | (dsimp only [D] at *; omega) | (simp only [I64, big] at *; omega) | (simp_all; done)
                          have e : List.take x_1.1 l = l := List.take_of_length_le (by omega)
                          simp only [e] at *
                          exact ⟨x_3 + 1, by omega, by omega, ⟨by omega, trivial⟩, (by repeat' (first | exact trivial | rfl | apply And.intro))⟩
                  · try simp only [bl, reduceCtorEq] at h16
                    intro h17
                    intro h18
                    refine ⟨?_, ?_⟩
                    · first | trivial | omega | (dsimp only [D] at *; omega) | (simp only [I64, big] at *; omega) | (simp_all; done)
                    have e : List.take x_1.1 l = l := List.take_of_length_le (by omega)
                    simp only [e] at *
                    exact ⟨x_3 + 1, by omega, by omega, ⟨by omega, trivial⟩, (by repeat' (first | exact trivial | rfl | apply And.intro))⟩
                · try simp only [bl, reduceCtorEq] at h14
                  refine ⟨fun h15 => ?_, fun h15 => ?_⟩
                  · try simp only [bl, reduceCtorEq] at h15
                    refine ⟨?_, ?_⟩
                    · exact ((StampInv.done _ StampInv.new).write s t).1.lpre
                    intro h16
                    intro h17
                    intro h18
                    rw [write_err h15]; simp
                  · try simp only [bl, reduceCtorEq] at h15
                    refine ⟨trivial, ?_⟩
                    intro h16
                    refine ⟨fun h17 => ?_, fun h17 => ?_⟩
                    · try simp only [bl, reduceCtorEq] at h17
                      refine ⟨fun h18 => ?_, fun h18 => ?_⟩
                      · try simp only [bl, reduceCtorEq] at h18
                        have e : List.take x_1.1 l = l := List.take_of_length_le (by omega)
                        have h3 := q_1.2.2
                        rw [read_self (by assumption)]; simp only [e, decide_eq_true_eq] at *; omega
                      · try simp only [bl, reduceCtorEq] at h18
                        rw [read_self (by assumption)] at h18; first | (cases h18; done) | exact absurd rfl h18
                    · try simp only [bl, reduceCtorEq] at h17
                      rw [read_self (by assumption)] at h17; first | (cases h17; done) | exact absurd rfl h17
theorem Try.ok_TopStamp : PureOK Try.prog Try.B.eT 10 [.slice tAct, .str, .str] [.bool] (fun _ => True) (fun _ y => y = true) :=
  pure_fn (X := noExt) Try.stampCtxOK Try.func10 (by kernel_rfl) (fun x => Try.tstampAnn x.1 x.2.1 x.2.2) (fun x hw hp => vc_TopStamp x.1 x.2.1 x.2.2 hw)
open Go.ChangeShapes Go.WideShapes Go.ChangeAt Go.RowKit in
set_option maxRecDepth 100000 in
theorem topStamp_lifted (os : Os) (started : os.Started) (H : Type) (enc : TypeId × Value → H) :
    ReturnsInHanded {} Try.checked os 10 .any (Rows.topStampSpec.pre6 enc Try.prog Try.f10 Rows.topStampRow.domain false) (Rows.topStampSpec.post enc Try.prog Try.f10 false true false false) := by
  refine returnsInHanded_of_change (C := Try.checked) (by kernel_rfl) started (by kernel_rfl) Try.func10
    (ChangeSpec.witness6 (enc := enc) (C := Try.checked) false ⟨#[], #[.slice none 0 0, .string ⟨#[]⟩, .string ⟨#[]⟩], []⟩ 8 (by kernel_rfl) (by kernel_rfl) (by kernel_rfl) (by kernel_rfl)) ?_
  intro W base args ds gs before hval hW hcnd _
  exact law_calls (C := Try.checked) (n := 16) rfl (by kernel_rfl) (fun ds h => by match ds, h with | [_, _, _], _ => rfl) (by kernel_rfl) (by kernel_rfl) (by kernel_rfl) (tb := 4) (by kernel_rfl) Try.ok_TopStamp hval hW (fun _ _ => trivial)
open Go.ChangeShapes Go.WideShapes Go.ChangeAt Go.RowKit in
theorem topStamp_holds : Rows.TopStampSaid :=
  OpenClaim.holds_of_wide 10 Try.f10 rfl rfl rfl rfl rfl rfl rfl ⟨rfl, rfl, rfl, rfl, rfl⟩ rfl rfl rfl rfl rfl (by kernel_rfl) Try.func10 (by kernel_rfl)
    (of_decide_eq_true (by kernel_rfl)) (by unfold Func.isWrapper; first | (rw [if_pos (by decide +kernel)]; kernel_rfl) | (rw [if_neg (by decide +kernel)]; exact ⟨rfl, rfl⟩))
    (fun os started H enc _ => topStamp_lifted os started H enc)
#print axioms topStamp_holds
end Go.Proofs.Ytgokjhhcfemnhab

