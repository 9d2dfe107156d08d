/- A part of the proof that the law PatchSays holds of the given program: facts that are used there. -/
import Derived.Test.YtgokjhhcfemnhaaName
import Derived.Test.YtgokjhhcfemnhaaMrl13
set_option linter.unusedSimpArgs false
set_option linter.unusedVariables false
namespace Go.Proofs.Ytgokjhhcfemnhaa
open Go.Vg Go.Mrl
/-! Objects that are light; symbols that are looked for. -/
def lightAnn (o : D tObject) : Anns := [
  (0, fun st => { X := Nat, inv := fun i => i ≤ o.1.length ∧ ∀ j, j < i → (nth .str o.1 j).length ≤ 20, meas := fun i => o.1.length - i, slots := fun i => [(3, sI i)], keep := [1] }),
  (2, fun st => { X := Nat, inv := fun i => i ≤ o.2.2.1.length ∧ ∀ j, j < i → (nth tSymbol o.2.2.1 j).1.length ≤ 20, meas := fun i => o.2.2.1.length - i, slots := fun i => [(4, sI i)], keep := [1] }),
  (4, fun st => { X := Nat, inv := fun i => i ≤ o.2.2.2.1.length ∧ ∀ j, j < i → (nth tTie o.2.2.2.1 j).2.2.2.1.length ≤ 20, meas := fun i => o.2.2.2.1.length - i, slots := fun i => [(5, sI i)], keep := [1] })]
set_option maxRecDepth 100000 in
set_option maxHeartbeats 4000000 in
theorem vc_LightObject (o : D tObject) (hw : wfL [tObject] o) : (fnVCs Try.B [] Try.f52 (lightAnn o) [tObject] [.bool] (fun o y => y = true → LightO o) o).holds := by
  refine holds_of (p :=
    ((List.length o.1 ≤ big) → (((decide ((↑(List.length o.1) : Int) > (6 : Int))) = true → (false = true → LightO o)) ∧ ((decide ((↑(List.length o.1) : Int) > (6 : Int))) = false → ((List.length o.2.1 ≤ big) → (((decide ((↑(List.length o.2.1) : Int) > (50 : Int))) = true → (false = true → LightO o)) ∧ ((decide ((↑(List.length o.2.1) : Int) > (50 : Int))) = false → ((List.length o.2.2.1 ≤ big) → (((decide ((↑(List.length o.2.2.1) : Int) > (10 : Int))) = true → (false = true → LightO o)) ∧ ((decide ((↑(List.length o.2.2.1) : Int) > (10 : Int))) = false → ((List.length o.2.2.2.1 ≤ big) → (((decide ((↑(List.length o.2.2.2.1) : Int) > (10 : Int))) = true → (false = true → LightO o)) ∧ ((decide ((↑(List.length o.2.2.2.1) : Int) > (10 : Int))) = false →
    (∃ (x : Nat), (x ≤ List.length o.1 ∧ ∀ (j : Nat), j < x → List.length (nth Ty.str o.1 j) ≤ (20 : Nat)) ∧ ((0 : Int) = (↑x : Int) ∧ True) ∧ True) ∧ (∀ x_0 : Nat, ((x_0 ≤ List.length o.1 ∧ ∀ (j : Nat), j < x_0 → List.length (nth Ty.str o.1 j) ≤ (20 : Nat)) → ((List.length o.1 ≤ big) → (((decide ((↑x_0 : Int) < (↑(List.length o.1) : Int))) = true → ((0 : Int) ≤ (↑x_0 : Int) ∧ (↑x_0 : Int) < (↑(List.length o.1) : Int)) ∧ ((List.length (nth Ty.str o.1 x_0) ≤ big) → (((decide ((↑(List.length (nth Ty.str o.1 x_0)) : Int) > (20 : Int))) = true → (false = true → LightO o)) ∧ ((decide ((↑(List.length (nth Ty.str o.1 x_0)) : Int) > (20 : Int))) = false → ((I64 (↑x_0 : Int)) → ((I64 (1 : Int)) → (I64 ((↑x_0 : Int) + (1 : Int))) ∧
    (∃ (x' : Nat), (x' ≤ List.length o.1 ∧ ∀ (j : Nat), j < x' → List.length (nth Ty.str o.1 j) ≤ (20 : Nat)) ∧ List.length o.1 - x' < List.length o.1 - x_0 ∧ ((↑x_0 : Int) + (1 : Int) = (↑x' : Int) ∧ True) ∧ (o.1 = o.1 ∧ o.2.1 = o.2.1 ∧ o.2.2.1 = o.2.2.1 ∧ o.2.2.2.1 = o.2.2.2.1 ∧ True) ∧ True))))))) ∧ ((decide ((↑x_0 : Int) < (↑(List.length o.1) : Int))) = false →
    (∃ (x : Nat), (x ≤ List.length o.2.2.1 ∧ ∀ (j : Nat), j < x → List.length (nth tSymbol o.2.2.1 j).1 ≤ (20 : Nat)) ∧ ((0 : Int) = (↑x : Int) ∧ True) ∧ True) ∧ (∀ x_1 : Nat, ((x_1 ≤ List.length o.2.2.1 ∧ ∀ (j : Nat), j < x_1 → List.length (nth tSymbol o.2.2.1 j).1 ≤ (20 : Nat)) → ((List.length o.2.2.1 ≤ big) → (((decide ((↑x_1 : Int) < (↑(List.length o.2.2.1) : Int))) = true → ((0 : Int) ≤ (↑x_1 : Int) ∧ (↑x_1 : Int) < (↑(List.length o.2.2.1) : Int)) ∧ ((List.length (nth tSymbol o.2.2.1 x_1).1 ≤ big) → (((decide ((↑(List.length (nth tSymbol o.2.2.1 x_1).1) : Int) > (20 : Int))) = true → (false = true → LightO o)) ∧ ((decide ((↑(List.length (nth tSymbol o.2.2.1 x_1).1) : Int) > (20 : Int))) = false → ((I64 (↑x_1 : Int)) → ((I64 (1 : Int)) → (I64 ((↑x_1 : Int) + (1 : Int))) ∧
    (∃ (x' : Nat), (x' ≤ List.length o.2.2.1 ∧ ∀ (j : Nat), j < x' → List.length (nth tSymbol o.2.2.1 j).1 ≤ (20 : Nat)) ∧ List.length o.2.2.1 - x' < List.length o.2.2.1 - x_1 ∧ ((↑x_1 : Int) + (1 : Int) = (↑x' : Int) ∧ True) ∧ (o.1 = o.1 ∧ o.2.1 = o.2.1 ∧ o.2.2.1 = o.2.2.1 ∧ o.2.2.2.1 = o.2.2.2.1 ∧ True) ∧ True))))))) ∧ ((decide ((↑x_1 : Int) < (↑(List.length o.2.2.1) : Int))) = false →
    (∃ (x : Nat), (x ≤ List.length o.2.2.2.1 ∧ ∀ (j : Nat), j < x → List.length (nth tTie o.2.2.2.1 j).2.2.2.1 ≤ (20 : Nat)) ∧ ((0 : Int) = (↑x : Int) ∧ True) ∧ True) ∧ (∀ x_2 : Nat, ((x_2 ≤ List.length o.2.2.2.1 ∧ ∀ (j : Nat), j < x_2 → List.length (nth tTie o.2.2.2.1 j).2.2.2.1 ≤ (20 : Nat)) → ((List.length o.2.2.2.1 ≤ big) → (((decide ((↑x_2 : Int) < (↑(List.length o.2.2.2.1) : Int))) = true → ((0 : Int) ≤ (↑x_2 : Int) ∧ (↑x_2 : Int) < (↑(List.length o.2.2.2.1) : Int)) ∧ ((List.length (nth tTie o.2.2.2.1 x_2).2.2.2.1 ≤ big) → (((decide ((↑(List.length (nth tTie o.2.2.2.1 x_2).2.2.2.1) : Int) > (20 : Int))) = true → (false = true → LightO o)) ∧ ((decide ((↑(List.length (nth tTie o.2.2.2.1 x_2).2.2.2.1) : Int) > (20 : Int))) = false → ((I64 (↑x_2 : Int)) → ((I64 (1 : Int)) → (I64 ((↑x_2 : Int) + (1 : Int))) ∧
    (∃ (x' : Nat), (x' ≤ List.length o.2.2.2.1 ∧ ∀ (j : Nat), j < x' → List.length (nth tTie o.2.2.2.1 j).2.2.2.1 ≤ (20 : Nat)) ∧ List.length o.2.2.2.1 - x' < List.length o.2.2.2.1 - x_2 ∧ ((↑x_2 : Int) + (1 : Int) = (↑x' : Int) ∧ True) ∧ (o.1 = o.1 ∧ o.2.1 = o.2.1 ∧ o.2.2.1 = o.2.2.1 ∧ o.2.2.2.1 = o.2.2.2.1 ∧ True) ∧ True))))))) ∧ ((decide ((↑x_2 : Int) < (↑(List.length o.2.2.2.1) : Int))) = false → (true = true → LightO o))))))))))))))))))))))))))))) (by kernel_rfl) ?_
  intro h0
  refine ⟨fun h1 => ?_, fun h1 => ?_⟩
  · try simp only [bl, reduceCtorEq] at h1
    first | trivial | omega | (dsimp only [D] at *; omega) | (simp only [I64, big] at *; omega) | (simp_all; done)
  · try simp only [bl, reduceCtorEq] at h1
    intro h2
    refine ⟨fun h3 => ?_, fun h3 => ?_⟩
    · try simp only [bl, reduceCtorEq] at h3
      first | trivial | omega | (dsimp only [D] at *; omega) | (simp only [I64, big] at *; omega) | (simp_all; done)
    · try simp only [bl, reduceCtorEq] at h3
      intro h4
      refine ⟨fun h5 => ?_, fun h5 => ?_⟩
      · try simp only [bl, reduceCtorEq] at h5
        first | trivial | omega | (dsimp only [D] at *; omega) | (simp only [I64, big] at *; omega) | (simp_all; done)
      · try simp only [bl, reduceCtorEq] at h5
        intro h6
        refine ⟨fun h7 => ?_, fun h7 => ?_⟩
        · try simp only [bl, reduceCtorEq] at h7
          first | trivial | omega | (dsimp only [D] at *; omega) | (simp only [I64, big] at *; omega) | (simp_all; done)
        · try simp only [bl, reduceCtorEq] at h7
          refine ⟨?_, ?_⟩
          · refine ⟨0, ?_⟩; (repeat' (first | exact trivial | rfl | omega | assumption | apply And.intro))
          intro x_0 q_0
          intro h8
          refine ⟨fun h9 => ?_, fun h9 => ?_⟩
          · try simp only [bl, reduceCtorEq] at h9
            refine ⟨?_, ?_⟩
            · first | trivial | omega | (dsimp only [D] at *; omega) | (simp only [I64, big] at *; omega) | (simp_all; done)
            intro h10
            refine ⟨fun h11 => ?_, fun h11 => ?_⟩
            · try simp only [bl, reduceCtorEq] at h11
              first | trivial | omega | (dsimp only [D] at *; omega) | (simp only [I64, big] at *; omega) | (simp_all; done)
            · try simp only [bl, reduceCtorEq] at h11
              intro h12
              intro h13
              refine ⟨?_, ?_⟩
              · first | trivial | omega | (dsimp only [D] at *; omega) | (simp only [I64, big] at *; omega) | (simp_all; done)
              exact ⟨x_0 + 1, ⟨by omega, upto1 q_0.2 (by omega)⟩, by omega, ⟨by omega, trivial⟩, (by repeat' (first | exact trivial | rfl | apply And.intro))⟩
          · try simp only [bl, reduceCtorEq] at h9
            refine ⟨?_, ?_⟩
            · refine ⟨0, ?_⟩; (repeat' (first | exact trivial | rfl | omega | assumption | apply And.intro))
            intro x_1 q_1
            intro h10
            refine ⟨fun h11 => ?_, fun h11 => ?_⟩
            · try simp only [bl, reduceCtorEq] at h11
              refine ⟨?_, ?_⟩
              · first | trivial | omega | (dsimp only [D] at *; omega) | (simp only [I64, big] at *; omega) | (simp_all; done)
              intro h12
              refine ⟨fun h13 => ?_, fun h13 => ?_⟩
              · try simp only [bl, reduceCtorEq] at h13
                first | trivial | omega | (dsimp only [D] at *; omega) | (simp only [I64, big] at *; omega) | (simp_all; done)
              · try simp only [bl, reduceCtorEq] at h13
                intro h14
                intro h15
                refine ⟨?_, ?_⟩
                · first | trivial | omega | (dsimp only [D] at *; omega) | (simp only [I64, big] at *; omega) | (simp_all; done)
                exact ⟨x_1 + 1, ⟨by omega, upto1 q_1.2 (by omega)⟩, by omega, ⟨by omega, trivial⟩, (by repeat' (first | exact trivial | rfl | apply And.intro))⟩
            · try simp only [bl, reduceCtorEq] at h11
              refine ⟨?_, ?_⟩
              · refine ⟨0, ?_⟩; (repeat' (first | exact trivial | rfl | omega | assumption | apply And.intro))
              intro x_2 q_2
              intro h12
              refine ⟨fun h13 => ?_, fun h13 => ?_⟩
              · try simp only [bl, reduceCtorEq] at h13
                refine ⟨?_, ?_⟩
                · first | trivial | omega | (dsimp only [D] at *; omega) | (simp only [I64, big] at *; omega) | (simp_all; done)
                intro h14
                refine ⟨fun h15 => ?_, fun h15 => ?_⟩
                · try simp only [bl, reduceCtorEq] at h15
                  first | trivial | omega | (dsimp only [D] at *; omega) | (simp only [I64, big] at *; omega) | (simp_all; done)
                · try simp only [bl, reduceCtorEq] at h15
                  intro h16
                  intro h17
                  refine ⟨?_, ?_⟩
                  · first | trivial | omega | (dsimp only [D] at *; omega) | (simp only [I64, big] at *; omega) | (simp_all; done)
                  exact ⟨x_2 + 1, ⟨by omega, upto1 q_2.2 (by omega)⟩, by omega, ⟨by omega, trivial⟩, (by repeat' (first | exact trivial | rfl | apply And.intro))⟩
              · try simp only [bl, reduceCtorEq] at h13
                exact fun _ => ⟨by omega, by omega, by omega, by omega, fun i hi => q_0.2 i (by omega), fun i hi => q_1.2 i (by omega), fun i hi => q_2.2 i (by omega)⟩
theorem Try.ok_LightObject : PureOK Try.prog Try.B.eT 52 [tObject] [.bool] (fun _ => True) (fun o y => y = true → LightO o) :=
  pure_fn (X := noExt) (ctx0 Try.tyOK) Try.func52 (by kernel_rfl) (fun x => lightAnn x) (fun x hw hp => vc_LightObject x hw)
noncomputable def Try.light1Ctx : List (FuncId × (Bool × CSpec)) := [(52, (true, pureSpec [tObject] [.bool] (fun _ => True) (fun o y => y = true → LightO o)))]
theorem Try.light1CtxOK {X : Ext} : CtxOK Try.prog Try.B X Try.light1Ctx :=
  ctx1 (callOK_of_pure Try.ok_LightObject) (ctx0 Try.tyOK)
def lightsAnn (l : List (D tObject)) : Anns := [
  (0, fun st => { X := Nat, inv := fun i => i ≤ l.length ∧ ∀ j, j < i → LightO (nth tObject l j), meas := fun i => l.length - i, slots := fun i => [(3, sI i)], keep := [0] })]
set_option maxRecDepth 100000 in
set_option maxHeartbeats 4000000 in
theorem vc_LightObjects (l : List (D tObject)) (hw : wfL [.slice tObject] l) : (fnVCs Try.B Try.light1Ctx Try.f28 (lightsAnn l) [.slice tObject] [.bool] (fun l y => y = true → LightOs l) l).holds := by
  refine holds_of (p :=
    ((List.length l ≤ big) → (((decide ((↑(List.length l) : Int) > (8 : Int))) = true → (false = true → LightOs l)) ∧ ((decide ((↑(List.length l) : Int) > (8 : Int))) = false →
    (∃ (x : Nat), (x ≤ List.length l ∧ ∀ (j : Nat), j < x → LightO (nth tObject l j)) ∧ ((0 : Int) = (↑x : Int) ∧ True) ∧ True) ∧ (∀ x_0 : Nat, ((x_0 ≤ List.length l ∧ ∀ (j : Nat), j < x_0 → LightO (nth tObject l j)) → ((List.length l ≤ big) → (((decide ((↑x_0 : Int) < (↑(List.length l) : Int))) = true → ((0 : Int) ≤ (↑x_0 : Int) ∧ (↑x_0 : Int) < (↑(List.length l) : Int)) ∧ (True) ∧ (∀ x_1 : Bool, ((x_1 = true → LightO (nth tObject l x_0)) → (((!x_1) = true → (false = true → LightOs l)) ∧ ((!x_1) = false → ((I64 (↑x_0 : Int)) → ((I64 (1 : Int)) → (I64 ((↑x_0 : Int) + (1 : Int))) ∧
    (∃ (x' : Nat), (x' ≤ List.length l ∧ ∀ (j : Nat), j < x' → LightO (nth tObject l j)) ∧ List.length l - x' < List.length l - x_0 ∧ ((↑x_0 : Int) + (1 : Int) = (↑x' : Int) ∧ True) ∧ True)))))))) ∧ ((decide ((↑x_0 : Int) < (↑(List.length l) : Int))) = false → (true = true → LightOs l)))))))))) (by kernel_rfl) ?_
  intro h0
  refine ⟨fun h1 => ?_, fun h1 => ?_⟩
  · try simp only [bl, reduceCtorEq] at h1
    first | trivial | omega | (dsimp only [D] at *; omega) | (simp only [I64, big] at *; omega) | (simp_all; done)
  · try simp only [bl, reduceCtorEq] at h1
    refine ⟨?_, ?_⟩
    · refine ⟨0, ?_⟩; (repeat' (first | exact trivial | rfl | omega | assumption | apply And.intro))
    intro x_0 q_0
    intro h2
    refine ⟨fun h3 => ?_, fun h3 => ?_⟩
    · try simp only [bl, reduceCtorEq] at h3
      refine ⟨?_, ?_⟩
      · first | trivial | omega | (dsimp only [D] at *; omega) | (simp only [I64, big] at *; omega) | (simp_all; done)
      refine ⟨trivial, ?_⟩
      intro x_1 q_1
      refine ⟨fun h4 => ?_, fun h4 => ?_⟩
      · try simp only [bl, reduceCtorEq] at h4
        first | trivial | omega | (dsimp only [D] at *; omega) | (simp only [I64, big] at *; omega) | (simp_all; done)
      · try simp only [bl, reduceCtorEq] at h4
        intro h5
        intro h6
        refine ⟨?_, ?_⟩
        · first | trivial | omega | (dsimp only [D] at *; omega) | (simp only [I64, big] at *; omega) | (simp_all; done)
        exact ⟨x_0 + 1, ⟨by omega, upto1 q_0.2 (by simp_all)⟩, by omega, ⟨by omega, trivial⟩, (by repeat' (first | exact trivial | rfl | apply And.intro))⟩
    · try simp only [bl, reduceCtorEq] at h3
      exact fun _ => ⟨by omega, fun i hi => q_0.2 i (by omega)⟩
theorem Try.ok_LightObjects : PureOK Try.prog Try.B.eT 28 [.slice tObject] [.bool] (fun _ => True) (fun l y => y = true → LightOs l) :=
  pure_fn (X := noExt) Try.light1CtxOK Try.func28 (by kernel_rfl) (fun x => lightsAnn x) (fun x hw hp => vc_LightObjects x hw)
def findSAnn (l : List (D tObject)) (s : List UInt8) : Anns := [
  (0, fun st => { X := Nat × Int × Int, inv := fun x => x.1 ≤ l.length ∧ FInv l s x.1 0 x.2.1 x.2.2, meas := fun x => l.length - x.1, slots := fun x => [(14, sI x.1), (6, sI x.2.1), (7, sI x.2.2)], keep := [1, 12, 13] }),
  (2, fun st => { X := Nat × Int × Int, inv := fun x => x.1 ≤ (nth tObject l (tmpD (.int .i64) st 14).toNat).2.2.1.length ∧ FInv l s (tmpD (.int .i64) st 14).toNat x.1 x.2.1 x.2.2, meas := fun x => (nth tObject l (tmpD (.int .i64) st 14).toNat).2.2.1.length - x.1, slots := fun x => [(22, sI x.1), (6, sI x.2.1), (7, sI x.2.2)], keep := [1, 8, 9, 12, 13, 14, 15, 16, 17, 18, 19, 20, 21] })]
set_option maxRecDepth 100000 in
set_option maxHeartbeats 4000000 in
theorem vc_FindS (l : List (D tObject)) (s : List UInt8) (hw : wfL [.slice tObject, .str] (l, s)) : (fnVCs Try.B [] Try.f79 (findSAnn l s) [.slice tObject, .str] [.int .i64, .int .i64] (fun x y => y = (fun x => findS x) x) (l, s)).holds := by
  refine holds_of (p :=
    ((List.length l ≤ big) →
    (∃ (x : Nat × Int × Int), (x.1 ≤ List.length l ∧ FInv l s x.1 (0 : Nat) x.2.1 x.2.2) ∧ ((0 : Int) = (↑x.1 : Int) ∧ (-1 : Int) = x.2.1 ∧ (-1 : Int) = x.2.2 ∧ True) ∧ True) ∧ (∀ x_0 : Nat × Int × Int, ((x_0.1 ≤ List.length l ∧ FInv l s x_0.1 (0 : Nat) x_0.2.1 x_0.2.2) → (((decide ((↑x_0.1 : Int) < (↑(List.length l) : Int))) = true → ((0 : Int) ≤ (↑x_0.1 : Int) ∧ (↑x_0.1 : Int) < (↑(List.length l) : Int)) ∧ ((List.length (nth tObject l x_0.1).2.2.1 ≤ big) →
    (∃ (x : Nat × Int × Int), (x.1 ≤ List.length (nth tObject l x_0.1).2.2.1 ∧ FInv l s x_0.1 x.1 x.2.1 x.2.2) ∧ ((0 : Int) = (↑x.1 : Int) ∧ x_0.2.1 = x.2.1 ∧ x_0.2.2 = x.2.2 ∧ True) ∧ True) ∧ (∀ x_1 : Nat × Int × Int, ((x_1.1 ≤ List.length (nth tObject l x_0.1).2.2.1 ∧ FInv l s x_0.1 x_1.1 x_1.2.1 x_1.2.2) → (((decide ((↑x_1.1 : Int) < (↑(List.length (nth tObject l x_0.1).2.2.1) : Int))) = true → ((0 : Int) ≤ (↑x_1.1 : Int) ∧ (↑x_1.1 : Int) < (↑(List.length (nth tObject l x_0.1).2.2.1) : Int)) ∧ (((!(nth tSymbol (nth tObject l x_0.1).2.2.1 x_1.1).1 == s) = true → ((I64 (↑x_1.1 : Int)) → ((I64 (1 : Int)) → (I64 ((↑x_1.1 : Int) + (1 : Int))) ∧
    (∃ (x' : Nat × Int × Int), (x'.1 ≤ List.length (nth tObject l x_0.1).2.2.1 ∧ FInv l s x_0.1 x'.1 x'.2.1 x'.2.2) ∧ List.length (nth tObject l x_0.1).2.2.1 - x'.1 < List.length (nth tObject l x_0.1).2.2.1 - x_1.1 ∧ ((↑x_1.1 : Int) + (1 : Int) = (↑x'.1 : Int) ∧ x_1.2.1 = x'.2.1 ∧ x_1.2.2 = x'.2.2 ∧ True) ∧ ((nth tObject l x_0.1).1 = (nth tObject l x_0.1).1 ∧ (nth tObject l x_0.1).2.1 = (nth tObject l x_0.1).2.1 ∧ (nth tObject l x_0.1).2.2.1 = (nth tObject l x_0.1).2.2.1 ∧ (nth tObject l x_0.1).2.2.2.1 = (nth tObject l x_0.1).2.2.2.1 ∧ True) ∧ @List.nil (Int × Int × Int × List UInt8 × Bool × Unit) = @List.nil (Int × Int × Int × List UInt8 × Bool × Unit) ∧ @List.nil (List UInt8 × Int × Bool × Unit) = @List.nil (List UInt8 × Int × Bool × Unit) ∧ @List.nil Int = @List.nil Int ∧ @List.nil (List UInt8) = @List.nil (List UInt8) ∧ True)))) ∧ ((!(nth tSymbol (nth tObject l x_0.1).2.2.1 x_1.1).1 == s) = false → (((!(nth tSymbol (nth tObject l x_0.1).2.2.1 x_1.1).2.2.1) = true → (((↑x_0.1 : Int), (↑x_1.1 : Int)) = findS (l, s))) ∧ ((!(nth tSymbol (nth tObject l x_0.1).2.2.1 x_1.1).2.2.1) = false → (((decide (x_1.2.1 < (0 : Int))) = true → ((I64 (↑x_1.1 : Int)) → ((I64 (1 : Int)) → (I64 ((↑x_1.1 : Int) + (1 : Int))) ∧
    (∃ (x' : Nat × Int × Int), (x'.1 ≤ List.length (nth tObject l x_0.1).2.2.1 ∧ FInv l s x_0.1 x'.1 x'.2.1 x'.2.2) ∧ List.length (nth tObject l x_0.1).2.2.1 - x'.1 < List.length (nth tObject l x_0.1).2.2.1 - x_1.1 ∧ ((↑x_1.1 : Int) + (1 : Int) = (↑x'.1 : Int) ∧ (↑x_0.1 : Int) = x'.2.1 ∧ (↑x_1.1 : Int) = x'.2.2 ∧ True) ∧ ((nth tObject l x_0.1).1 = (nth tObject l x_0.1).1 ∧ (nth tObject l x_0.1).2.1 = (nth tObject l x_0.1).2.1 ∧ (nth tObject l x_0.1).2.2.1 = (nth tObject l x_0.1).2.2.1 ∧ (nth tObject l x_0.1).2.2.2.1 = (nth tObject l x_0.1).2.2.2.1 ∧ True) ∧ @List.nil (Int × Int × Int × List UInt8 × Bool × Unit) = @List.nil (Int × Int × Int × List UInt8 × Bool × Unit) ∧ @List.nil (List UInt8 × Int × Bool × Unit) = @List.nil (List UInt8 × Int × Bool × Unit) ∧ @List.nil Int = @List.nil Int ∧ @List.nil (List UInt8) = @List.nil (List UInt8) ∧ True)))) ∧ ((decide (x_1.2.1 < (0 : Int))) = false → ((I64 (↑x_1.1 : Int)) → ((I64 (1 : Int)) → (I64 ((↑x_1.1 : Int) + (1 : Int))) ∧
    (∃ (x' : Nat × Int × Int), (x'.1 ≤ List.length (nth tObject l x_0.1).2.2.1 ∧ FInv l s x_0.1 x'.1 x'.2.1 x'.2.2) ∧ List.length (nth tObject l x_0.1).2.2.1 - x'.1 < List.length (nth tObject l x_0.1).2.2.1 - x_1.1 ∧ ((↑x_1.1 : Int) + (1 : Int) = (↑x'.1 : Int) ∧ x_1.2.1 = x'.2.1 ∧ x_1.2.2 = x'.2.2 ∧ True) ∧ ((nth tObject l x_0.1).1 = (nth tObject l x_0.1).1 ∧ (nth tObject l x_0.1).2.1 = (nth tObject l x_0.1).2.1 ∧ (nth tObject l x_0.1).2.2.1 = (nth tObject l x_0.1).2.2.1 ∧ (nth tObject l x_0.1).2.2.2.1 = (nth tObject l x_0.1).2.2.2.1 ∧ True) ∧ @List.nil (Int × Int × Int × List UInt8 × Bool × Unit) = @List.nil (Int × Int × Int × List UInt8 × Bool × Unit) ∧ @List.nil (List UInt8 × Int × Bool × Unit) = @List.nil (List UInt8 × Int × Bool × Unit) ∧ @List.nil Int = @List.nil Int ∧ @List.nil (List UInt8) = @List.nil (List UInt8) ∧ True)))))))))) ∧ ((decide ((↑x_1.1 : Int) < (↑(List.length (nth tObject l x_0.1).2.2.1) : Int))) = false → ((I64 (↑x_0.1 : Int)) → ((I64 (1 : Int)) → (I64 ((↑x_0.1 : Int) + (1 : Int))) ∧
    (∃ (x' : Nat × Int × Int), (x'.1 ≤ List.length l ∧ FInv l s x'.1 (0 : Nat) x'.2.1 x'.2.2) ∧ List.length l - x'.1 < List.length l - x_0.1 ∧ ((↑x_0.1 : Int) + (1 : Int) = (↑x'.1 : Int) ∧ x_1.2.1 = x'.2.1 ∧ x_1.2.2 = x'.2.2 ∧ True) ∧ True))))))))) ∧ ((decide ((↑x_0.1 : Int) < (↑(List.length l) : Int))) = false → ((x_0.2.1, x_0.2.2) = findS (l, s)))))))) (by kernel_rfl) ?_
  intro h0
  refine ⟨?_, ?_⟩
  · exact ⟨(0, -1, -1), ⟨by omega, FInv.start l s⟩, ⟨rfl, rfl, rfl, trivial⟩, trivial⟩
  intro x_0 q_0
  refine ⟨fun h1 => ?_, fun h1 => ?_⟩
  · try simp only [bl, reduceCtorEq] at h1
    refine ⟨?_, ?_⟩
    · first | trivial | omega | (dsimp only [D] at *; omega) | (simp only [I64, big] at *; omega) | (simp_all; done)
    intro h2
    refine ⟨?_, ?_⟩
    · exact ⟨(0, x_0.2), ⟨by omega, q_0.2⟩, ⟨rfl, rfl, rfl, trivial⟩, trivial⟩
    intro x_1 q_1
    refine ⟨fun h3 => ?_, fun h3 => ?_⟩
    · try simp only [bl, reduceCtorEq] at h3
      refine ⟨?_, ?_⟩
      · first | trivial | omega | (dsimp only [D] at *; omega) | (simp only [I64, big] at *; omega) | (simp_all; done)
      refine ⟨fun h4 => ?_, fun h4 => ?_⟩
      · try simp only [bl, reduceCtorEq] at h4
        intro h5
        intro h6
        refine ⟨?_, ?_⟩
        · first | trivial | omega | (dsimp only [D] at *; omega) | (simp only [I64, big] at *; omega) | (simp_all; done)
        exact ⟨(x_1.1 + 1, x_1.2), ⟨by omega, q_1.2.skip (by assumption)⟩, by simp only; omega, ⟨by simp only; omega, rfl, rfl, trivial⟩, (by repeat' (first | exact trivial | rfl | apply And.intro))⟩
      · try simp only [bl, reduceCtorEq] at h4
        refine ⟨fun h5 => ?_, fun h5 => ?_⟩
        · try simp only [bl, reduceCtorEq] at h5
          exact (q_1.2.strong (by omega) (by omega) (by assumption) (by assumption)).symm
        · try simp only [bl, reduceCtorEq] at h5
          refine ⟨fun h6 => ?_, fun h6 => ?_⟩
          · try simp only [bl, reduceCtorEq] at h6
            intro h7
            intro h8
            refine ⟨?_, ?_⟩
            · first | trivial | omega | (dsimp only [D] at *; omega) | (simp only [I64, big] at *; omega) | (simp_all; done)
            exact ⟨(x_1.1 + 1, _, _), ⟨by omega, q_1.2.weak (by omega) (by omega) (by assumption) (by simp_all) (by omega)⟩, by simp only; omega, ⟨by simp only; omega, rfl, rfl, trivial⟩, (by repeat' (first | exact trivial | rfl | apply And.intro))⟩
          · try simp only [bl, reduceCtorEq] at h6
            intro h7
            intro h8
            refine ⟨?_, ?_⟩
            · first | trivial | omega | (dsimp only [D] at *; omega) | (simp only [I64, big] at *; omega) | (simp_all; done)
            exact ⟨(x_1.1 + 1, x_1.2), ⟨by omega, q_1.2.more (by simp_all) (by omega)⟩, by simp only; omega, ⟨by simp only; omega, rfl, rfl, trivial⟩, (by repeat' (first | exact trivial | rfl | apply And.intro))⟩
    · try simp only [bl, reduceCtorEq] at h3
      intro h4
      intro h5
      refine ⟨?_, ?_⟩
      · first | trivial | omega | (dsimp only [D] at *; omega) | (simp only [I64, big] at *; omega) | (simp_all; done)
      exact ⟨(x_0.1 + 1, x_1.2), ⟨by omega, q_1.2.row (by omega)⟩, by simp only; omega, ⟨by simp only; omega, rfl, rfl, trivial⟩, (by repeat' (first | exact trivial | rfl | apply And.intro))⟩
  · try simp only [bl, reduceCtorEq] at h1
    exact (q_0.2.done (by omega)).symm
theorem Try.ok_FindS : PureOK Try.prog Try.B.eT 79 [.slice tObject, .str] [.int .i64, .int .i64] (fun _ => True) (fun x y => y = (fun x => findS x) x) :=
  pure_fn (X := noExt) (ctx0 Try.tyOK) Try.func79 (by kernel_rfl) (fun x => findSAnn x.1 x.2) (fun x hw hp => vc_FindS x.1 x.2 hw)
noncomputable def Try.scopeCtx : List (FuncId × (Bool × CSpec)) := [(12, (true, funSpec [.str] [.err] (fun _ => True) (fun s => errNo (nameFault s)))),
  (13, (true, funSpec [.str] [.int .i64] (fun _ => True) (fun s => nameFault s))),
  (14, (true, funSpec [.str] [.int .u32] (fun _ => True) (fun s => (hashF s : Int)))),
  (15, (true, funSpec [.str] [.int .i64] (fun _ => True) (fun s => (hashF s : Int)))),
  (11, (true, funSpec [.err, .int .i64] [.bool] (fun _ => True) (fun x => sameE x.1 x.2))),
  (52, (true, pureSpec [tObject] [.bool] (fun _ => True) (fun o y => y = true → LightO o))),
  (28, (true, pureSpec [.slice tObject] [.bool] (fun _ => True) (fun l y => y = true → LightOs l))),
  (79, (true, funSpec [.slice tObject, .str] [.int .i64, .int .i64] (fun _ => True) (fun x => findS x)))]
theorem Try.scopeCtxOK {X : Ext} : CtxOK Try.prog Try.B X Try.scopeCtx :=
  ctx1 (callOK_of_fun Try.ok_Check) (ctx1 (callOK_of_fun Try.ok_NameFault) (ctx1 (callOK_of_fun Try.ok_Hash) (ctx1 (callOK_of_fun Try.ok_RHash) (ctx1 (callOK_of_fun Try.ok_same) (ctx1 (callOK_of_pure Try.ok_LightObject) (ctx1 (callOK_of_pure Try.ok_LightObjects) (ctx1 (callOK_of_fun Try.ok_FindS) (ctx0 Try.tyOK))))))))
end Go.Proofs.Ytgokjhhcfemnhaa

