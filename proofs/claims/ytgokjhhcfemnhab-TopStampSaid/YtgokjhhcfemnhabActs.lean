/- A part of the proof that the law TopStamp holds of the given program: facts that are used there. -/
import Derived.Test.YtgokjhhcfemnhabName
import Derived.Test.YtgokjhhcfemnhabMrl17
set_option linter.unusedSimpArgs false
set_option linter.unusedVariables false
namespace Go.Proofs.Ytgokjhhcfemnhab
open Go.Vg Go.Mrl
/-! Entries and acts that are light. -/
def lightEAnn (e : D tEntry) : Anns := [
  (0, fun st => { X := Nat, inv := fun i => i ≤ e.2.1.length ∧ ∀ j, j < i → (nth tStamped e.2.1 j).1.length ≤ 20, meas := fun i => e.2.1.length - i, slots := fun i => [(3, sI i)], keep := [1] })]
set_option maxRecDepth 100000 in
set_option maxHeartbeats 4000000 in
theorem vc_LightEntry (e : D tEntry) (hw : wfL [tEntry] e) : (fnVCs Try.B [] Try.f41 (lightEAnn e) [tEntry] [.bool] (fun e y => y = true → LightE e) e).holds := by
  refine holds_of (p :=
    ((List.length e.1 ≤ big) → (((decide ((↑(List.length e.1) : Int) > (20 : Int))) = true → (false = true → LightE e)) ∧ ((decide ((↑(List.length e.1) : Int) > (20 : Int))) = false → ((List.length e.2.1 ≤ big) → (((decide ((↑(List.length e.2.1) : Int) > (8 : Int))) = true → (false = true → LightE e)) ∧ ((decide ((↑(List.length e.2.1) : Int) > (8 : Int))) = false → ((List.length e.2.2.1 ≤ big) → (((decide ((↑(List.length e.2.2.1) : Int) > (40 : Int))) = true → (false = true → LightE e)) ∧ ((decide ((↑(List.length e.2.2.1) : Int) > (40 : Int))) = false →
    (∃ (x : Nat), (x ≤ List.length e.2.1 ∧ ∀ (j : Nat), j < x → List.length (nth tStamped e.2.1 j).1 ≤ (20 : Nat)) ∧ ((0 : Int) = (↑x : Int) ∧ True) ∧ True) ∧ (∀ x_0 : Nat, ((x_0 ≤ List.length e.2.1 ∧ ∀ (j : Nat), j < x_0 → List.length (nth tStamped e.2.1 j).1 ≤ (20 : Nat)) → ((List.length e.2.1 ≤ big) → (((decide ((↑x_0 : Int) < (↑(List.length e.2.1) : Int))) = true → ((0 : Int) ≤ (↑x_0 : Int) ∧ (↑x_0 : Int) < (↑(List.length e.2.1) : Int)) ∧ ((List.length (nth tStamped e.2.1 x_0).1 ≤ big) → (((decide ((↑(List.length (nth tStamped e.2.1 x_0).1) : Int) > (20 : Int))) = true → (false = true → LightE e)) ∧ ((decide ((↑(List.length (nth tStamped e.2.1 x_0).1) : Int) > (20 : Int))) = false → ((I64 (↑x_0 : Int)) → ((I64 (1 : Int)) → (I64 ((↑x_0 : Int) + (1 : Int))) ∧
    (∃ (x' : Nat), (x' ≤ List.length e.2.1 ∧ ∀ (j : Nat), j < x' → List.length (nth tStamped e.2.1 j).1 ≤ (20 : Nat)) ∧ List.length e.2.1 - x' < List.length e.2.1 - x_0 ∧ ((↑x_0 : Int) + (1 : Int) = (↑x' : Int) ∧ True) ∧ (e.1 = e.1 ∧ e.2.1 = e.2.1 ∧ e.2.2.1 = e.2.2.1 ∧ True) ∧ True))))))) ∧ ((decide ((↑x_0 : Int) < (↑(List.length e.2.1) : Int))) = false → (true = true → LightE e)))))))))))))))) (by kernel_rfl) ?_
  intro h0
  refine ⟨fun h1 => ?_, fun h1 => ?_⟩
  · try simp only [bl, reduceCtorEq] at h1
    first | trivial | omega | (dsimp only [D] at *; omega) | (simp only [I64, big] at *; omega) | (simp_all; done)
  · try simp only [bl, reduceCtorEq] at h1
    intro h2
    refine ⟨fun h3 => ?_, fun h3 => ?_⟩
    · try simp only [bl, reduceCtorEq] at h3
      first | trivial | omega | (dsimp only [D] at *; omega) | (simp only [I64, big] at *; omega) | (simp_all; done)
    · try simp only [bl, reduceCtorEq] at h3
      intro h4
      refine ⟨fun h5 => ?_, fun h5 => ?_⟩
      · try simp only [bl, reduceCtorEq] at h5
        first | trivial | omega | (dsimp only [D] at *; omega) | (simp only [I64, big] at *; omega) | (simp_all; done)
      · try simp only [bl, reduceCtorEq] at h5
        refine ⟨?_, ?_⟩
        · refine ⟨0, ?_⟩; (repeat' (first | exact trivial | rfl | omega | assumption | apply And.intro))
        intro x_0 q_0
        intro h6
        refine ⟨fun h7 => ?_, fun h7 => ?_⟩
        · try simp only [bl, reduceCtorEq] at h7
          refine ⟨?_, ?_⟩
          · first | trivial | omega | (dsimp only [D] at *; omega) | (simp only [I64, big] at *; omega) | (simp_all; done)
          intro h8
          refine ⟨fun h9 => ?_, fun h9 => ?_⟩
          · try simp only [bl, reduceCtorEq] at h9
            first | trivial | omega | (dsimp only [D] at *; omega) | (simp only [I64, big] at *; omega) | (simp_all; done)
          · try simp only [bl, reduceCtorEq] at h9
            intro h10
            intro h11
            refine ⟨?_, ?_⟩
            · first | trivial | omega | (dsimp only [D] at *; omega) | (simp only [I64, big] at *; omega) | (simp_all; done)
            exact ⟨x_0 + 1, ⟨by omega, upto1 q_0.2 (by omega)⟩, by omega, ⟨by omega, trivial⟩, (by repeat' (first | exact trivial | rfl | apply And.intro))⟩
        · try simp only [bl, reduceCtorEq] at h7
          exact fun _ => ⟨by omega, by omega, by omega, fun i hi => q_0.2 i (by omega)⟩
theorem Try.ok_LightEntry : PureOK Try.prog Try.B.eT 41 [tEntry] [.bool] (fun _ => True) (fun e y => y = true → LightE e) :=
  pure_fn (X := noExt) (ctx0 Try.tyOK) Try.func41 (by kernel_rfl) (fun x => lightEAnn x) (fun x hw hp => vc_LightEntry x hw)
noncomputable def Try.acts1Ctx : List (FuncId × (Bool × CSpec)) := [(41, (true, pureSpec [tEntry] [.bool] (fun _ => True) (fun e y => y = true → LightE e)))]
theorem Try.acts1CtxOK {X : Ext} : CtxOK Try.prog Try.B X Try.acts1Ctx :=
  ctx1 (callOK_of_pure Try.ok_LightEntry) (ctx0 Try.tyOK)
def lightAAnn (l : List (D tAct)) (m : Int) : Anns := [
  (0, fun st => { X := Nat × Int, inv := fun x => x.1 ≤ l.length ∧ (0 ≤ x.2 ∧ x.2 ≤ 20000) ∧ ∀ j, j < x.1 → LightA (nth tAct l j), meas := fun x => l.length - x.1, slots := fun x => [(6, sI x.1), (5, sI x.2)], keep := [0] })]
set_option maxRecDepth 100000 in
set_option maxHeartbeats 4000000 in
theorem vc_LightActs (l : List (D tAct)) (m : Int) (hw : wfL [.slice tAct, .int .i64] (l, m)) : (fnVCs (wrapB Try.B) Try.acts1Ctx Try.f26 (lightAAnn l m) [.slice tAct, .int .i64] [.bool] (fun x y => y = true → LightAs x.1 x.2) (l, m)).holds := by
  refine holds_of (p :=
    ((List.length l ≤ big) → (((decide ((↑(List.length l) : Int) > m)) = true → (false = true → LightAs l m)) ∧ ((decide ((↑(List.length l) : Int) > m)) = false →
    (∃ (x : Nat × Int), (x.1 ≤ List.length l ∧ ((0 : Int) ≤ x.2 ∧ x.2 ≤ (20000 : Int)) ∧ ∀ (j : Nat), j < x.1 → LightA (nth tAct l j)) ∧ ((0 : Int) = (↑x.1 : Int) ∧ (0 : Int) = x.2 ∧ True) ∧ True) ∧ (∀ x_0 : Nat × Int,
    ((x_0.1 ≤ List.length l ∧ ((0 : Int) ≤ x_0.2 ∧ x_0.2 ≤ (20000 : Int)) ∧ ∀ (j : Nat), j < x_0.1 → LightA (nth tAct l j)) → ((List.length l ≤ big) → (((decide ((↑x_0.1 : Int) < (↑(List.length l) : Int))) = true → ((0 : Int) ≤ (↑x_0.1 : Int) ∧ (↑x_0.1 : Int) < (↑(List.length l) : Int)) ∧ ((List.length (nth tAct l x_0.1).2.2.1 ≤ big) → (∀ x_1 : Int, ((x_1 = IntKind.wrap IntKind.i64 (x_0.2 + (↑(List.length (nth tAct l x_0.1).2.2.1) : Int))) → ((0 : Int) ≤ (↑x_0.1 : Int) ∧ (↑x_0.1 : Int) < (↑(List.length l) : Int)) ∧ ((List.length (nth tAct l x_0.1).2.1 ≤ big) → (((decide ((↑(List.length (nth tAct l x_0.1).2.1) : Int) > (100 : Int))) = true → (false = true → LightAs l m)) ∧ ((decide ((↑(List.length (nth tAct l x_0.1).2.1) : Int) > (100 : Int))) = false → ((0 : Int) ≤ (↑x_0.1 : Int) ∧ (↑x_0.1 : Int) < (↑(List.length l) : Int)) ∧ ((List.length (nth tAct l x_0.1).2.2.1 ≤ big) → (((decide ((↑(List.length (nth tAct l x_0.1).2.2.1) : Int) > (1300 : Int))) = true → (false = true → LightAs l m)) ∧ ((decide ((↑(List.length (nth tAct l x_0.1).2.2.1) : Int) > (1300 : Int))) = false → (((decide (x_1 > (20000 : Int))) = true → (false = true → LightAs l m)) ∧ ((decide (x_1 > (20000 : Int))) = false → ((0 : Int) ≤ (↑x_0.1 : Int) ∧ (↑x_0.1 : Int) < (↑(List.length l) : Int)) ∧ (True) ∧ (∀ x_2 : Bool, ((x_2 = true → LightE (nth tAct l x_0.1).2.2.2.2.2.1) → (((!x_2) = true → (false = true → LightAs l m)) ∧ ((!x_2) = false → (∀ x_3 : Int, ((x_3 = IntKind.wrap IntKind.i64 ((↑x_0.1 : Int) + (1 : Int))) →
    (∃ (x' : Nat × Int), (x'.1 ≤ List.length l ∧ ((0 : Int) ≤ x'.2 ∧ x'.2 ≤ (20000 : Int)) ∧ ∀ (j : Nat), j < x'.1 → LightA (nth tAct l j)) ∧ List.length l - x'.1 < List.length l - x_0.1 ∧ (x_3 = (↑x'.1 : Int) ∧ x_1 = x'.2 ∧ True) ∧ True))))))))))))))))))) ∧ ((decide ((↑x_0.1 : Int) < (↑(List.length l) : Int))) = false → (true = true → LightAs l m)))))))))) (by kernel_rfl) ?_
  intro h0
  refine ⟨fun h1 => ?_, fun h1 => ?_⟩
  · try simp only [bl, reduceCtorEq] at h1
    first | trivial | omega | (dsimp only [D] at *; omega) | (simp only [I64, big] at *; omega) | (simp_all; done)
  · try simp only [bl, reduceCtorEq] at h1
    refine ⟨?_, ?_⟩
    · exact ⟨(0, 0), ⟨by omega, by simp, fun j hj => by simp only at hj; omega⟩, ⟨rfl, rfl, trivial⟩, trivial⟩
    intro x_0 q_0
    intro h2
    refine ⟨fun h3 => ?_, fun h3 => ?_⟩
    · try simp only [bl, reduceCtorEq] at h3
      refine ⟨?_, ?_⟩
      · first | trivial | omega | (dsimp only [D] at *; omega) | (simp only [I64, big] at *; omega) | (simp_all; done)
      intro h4
      intro x_1 q_1
      refine ⟨?_, ?_⟩
      · first | trivial | omega | (dsimp only [D] at *; omega) | (simp only [I64, big] at *; omega) | (simp_all; done)
      intro h5
      refine ⟨fun h6 => ?_, fun h6 => ?_⟩
      · try simp only [bl, reduceCtorEq] at h6
        first | trivial | omega | (dsimp only [D] at *; omega) | (simp only [I64, big] at *; omega) | (simp_all; done)
      · try simp only [bl, reduceCtorEq] at h6
        refine ⟨?_, ?_⟩
        · first | trivial | omega | (dsimp only [D] at *; omega) | (simp only [I64, big] at *; omega) | (simp_all; done)
        intro h7
        refine ⟨fun h8 => ?_, fun h8 => ?_⟩
        · try simp only [bl, reduceCtorEq] at h8
          first | trivial | omega | (dsimp only [D] at *; omega) | (simp only [I64, big] at *; omega) | (simp_all; done)
        · try simp only [bl, reduceCtorEq] at h8
          refine ⟨fun h9 => ?_, fun h9 => ?_⟩
          · try simp only [bl, reduceCtorEq] at h9
            first | trivial | omega | (dsimp only [D] at *; omega) | (simp only [I64, big] at *; omega) | (simp_all; done)
          · try simp only [bl, reduceCtorEq] at h9
            refine ⟨?_, ?_⟩
            · first | trivial | omega | (dsimp only [D] at *; omega) | (simp only [I64, big] at *; omega) | (simp_all; done)
            refine ⟨trivial, ?_⟩
            intro x_2 q_2
            refine ⟨fun h10 => ?_, fun h10 => ?_⟩
            · try simp only [bl, reduceCtorEq] at h10
              first | trivial | omega | (dsimp only [D] at *; omega) | (simp only [I64, big] at *; omega) | (simp_all; done)
            · try simp only [bl, reduceCtorEq] at h10
              intro x_3 q_3
              have hw2 : IntKind.wrap IntKind.i64 (x_0.2 + (List.length (nth tAct l x_0.1).2.2.1 : Int)) = x_0.2 + (List.length (nth tAct l x_0.1).2.2.1 : Int) := wrap_i64_small (by omega) (by omega)
              have hw3 : IntKind.wrap IntKind.i64 ((x_0.1 : Int) + 1) = (x_0.1 : Int) + 1 := wrap_i64_small (by omega) (by have : (big : Int) = 9223372036854775807 := rfl; omega)
              exact ⟨(x_0.1 + 1, _), ⟨by omega, by simp only; omega, upto1 q_0.2.2 ⟨by omega, by omega, by simp_all⟩⟩, by simp only; omega, ⟨by simp only; omega, rfl, trivial⟩, (by repeat' (first | exact trivial | rfl | apply And.intro))⟩
    · try simp only [bl, reduceCtorEq] at h3
      exact fun _ => ⟨by omega, fun i hi => q_0.2.2 i (by omega)⟩
theorem Try.ok_LightActs : PureOK Try.prog Try.B.eT 26 [.slice tAct, .int .i64] [.bool] (fun _ => True) (fun x y => y = true → LightAs x.1 x.2) :=
  pure_fn (B := (wrapB Try.B)) (X := noExt) (CtxOK.wrap Try.acts1CtxOK) Try.func26 (by kernel_rfl) (fun x => lightAAnn x.1 x.2) (fun x hw hp => vc_LightActs x.1 x.2 hw)
noncomputable def Try.actsCtx : List (FuncId × (Bool × CSpec)) := [(41, (true, pureSpec [tEntry] [.bool] (fun _ => True) (fun e y => y = true → LightE e))),
  (26, (true, pureSpec [.slice tAct, .int .i64] [.bool] (fun _ => True) (fun x y => y = true → LightAs x.1 x.2)))]
theorem Try.actsCtxOK {X : Ext} : CtxOK Try.prog Try.B X Try.actsCtx :=
  ctx1 (callOK_of_pure Try.ok_LightEntry) (ctx1 (callOK_of_pure Try.ok_LightActs) (ctx0 Try.tyOK))
end Go.Proofs.Ytgokjhhcfemnhab

