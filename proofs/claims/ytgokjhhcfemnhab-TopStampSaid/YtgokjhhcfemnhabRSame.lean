/- A part of the proof that the law TopStamp holds of the given program: facts that are used there. -/
import Derived.Test.YtgokjhhcfemnhabName
import Derived.Test.YtgokjhhcfemnhabMrl11
set_option linter.unusedSimpArgs false
set_option linter.unusedVariables false
namespace Go.Proofs.Ytgokjhhcfemnhab
open Go.Vg Go.Mrl
/-! Lists that are held against each other. -/
def sameNAnn (a : List Int) (b : List Int) : Anns := [(0, fun st => { X := Nat, inv := fun i => i ≤ a.length ∧ ∀ j, j < i → nth (.int .i64) a j = nth (.int .i64) b j, meas := fun i => a.length - i, slots := fun i => [(5, sI i)], keep := [0, 1] })]
set_option maxRecDepth 100000 in
set_option maxHeartbeats 4000000 in
theorem vc_SameNumbers (a : List Int) (b : List Int) (hw : wfL [.slice (.int .i64), .slice (.int .i64)] (a, b)) : (fnVCs Try.B [] Try.f12 (sameNAnn a b) [.slice (.int .i64), .slice (.int .i64)] [.bool] (fun x y => y = (fun x => sameI x.1 x.2) x) (a, b)).holds := by
  refine holds_of (p :=
    ((List.length a ≤ big) → ((List.length b ≤ big) → ((((↑(List.length a) : Int) != (↑(List.length b) : Int)) = true → (false = sameI a b)) ∧ (((↑(List.length a) : Int) != (↑(List.length b) : Int)) = false →
    (∃ (x : Nat), (x ≤ List.length a ∧ ∀ (j : Nat), j < x → nth (Ty.int IntKind.i64) a j = nth (Ty.int IntKind.i64) b j) ∧ ((0 : Int) = (↑x : Int) ∧ True) ∧ True) ∧ (∀ x_0 : Nat, ((x_0 ≤ List.length a ∧ ∀ (j : Nat), j < x_0 → nth (Ty.int IntKind.i64) a j = nth (Ty.int IntKind.i64) b j) → ((List.length a ≤ big) → (((decide ((↑x_0 : Int) < (↑(List.length a) : Int))) = true → ((0 : Int) ≤ (↑x_0 : Int) ∧ (↑x_0 : Int) < (↑(List.length a) : Int)) ∧ ((0 : Int) ≤ (↑x_0 : Int) ∧ (↑x_0 : Int) < (↑(List.length b) : Int)) ∧ (((nth (Ty.int IntKind.i64) a x_0 != nth (Ty.int IntKind.i64) b x_0) = true → (false = sameI a b)) ∧ ((nth (Ty.int IntKind.i64) a x_0 != nth (Ty.int IntKind.i64) b x_0) = false → ((I64 (↑x_0 : Int)) → ((I64 (1 : Int)) → (I64 ((↑x_0 : Int) + (1 : Int))) ∧
    (∃ (x' : Nat), (x' ≤ List.length a ∧ ∀ (j : Nat), j < x' → nth (Ty.int IntKind.i64) a j = nth (Ty.int IntKind.i64) b j) ∧ List.length a - x' < List.length a - x_0 ∧ ((↑x_0 : Int) + (1 : Int) = (↑x' : Int) ∧ True) ∧ True)))))) ∧ ((decide ((↑x_0 : Int) < (↑(List.length a) : Int))) = false → (true = sameI a b))))))))))) (by kernel_rfl) ?_
  intro h0
  intro h1
  refine ⟨fun h2 => ?_, fun h2 => ?_⟩
  · try simp only [bl, reduceCtorEq] at h2
    exact sameI_len (by assumption)
  · try simp only [bl, reduceCtorEq] at h2
    refine ⟨?_, ?_⟩
    · exact ⟨0, ⟨by omega, fun j hj => by omega⟩, ⟨rfl, trivial⟩, trivial⟩
    intro x_0 q_0
    intro h3
    refine ⟨fun h4 => ?_, fun h4 => ?_⟩
    · try simp only [bl, reduceCtorEq] at h4
      refine ⟨?_, ?_⟩
      · first | trivial | omega | (dsimp only [D] at *; omega) | (simp only [I64, big] at *; omega) | (simp_all; done)
      refine ⟨?_, ?_⟩
      · first | trivial | omega | (dsimp only [D] at *; omega) | (simp only [I64, big] at *; omega) | (simp_all; done)
      refine ⟨fun h5 => ?_, fun h5 => ?_⟩
      · try simp only [bl, reduceCtorEq] at h5
        exact sameI_at (i := x_0) (by assumption)
      · try simp only [bl, reduceCtorEq] at h5
        intro h6
        intro h7
        refine ⟨?_, ?_⟩
        · first | trivial | omega | (dsimp only [D] at *; omega) | (simp only [I64, big] at *; omega) | (simp_all; done)
        exact ⟨x_0 + 1, ⟨by omega, upto_next q_0.2 (by assumption)⟩, by omega, ⟨by omega, trivial⟩, (by repeat' (first | exact trivial | rfl | apply And.intro))⟩
    · try simp only [bl, reduceCtorEq] at h4
      exact sameI_true (by assumption) (fun i hi => q_0.2 i (by omega))
theorem Try.ok_SameNumbers : PureOK Try.prog Try.B.eT 12 [.slice (.int .i64), .slice (.int .i64)] [.bool] (fun _ => True) (fun x y => y = (fun x => sameI x.1 x.2) x) :=
  pure_fn (X := noExt) (ctx0 Try.tyOK) Try.func12 (by kernel_rfl) (fun x => sameNAnn x.1 x.2) (fun x hw hp => vc_SameNumbers x.1 x.2 hw)
noncomputable def Try.sameCtx : List (FuncId × (Bool × CSpec)) := [(12, (true, funSpec [.slice (.int .i64), .slice (.int .i64)] [.bool] (fun _ => True) (fun x => sameI x.1 x.2)))]
theorem Try.sameCtxOK {X : Ext} : CtxOK Try.prog Try.B X Try.sameCtx :=
  ctx1 (callOK_of_fun Try.ok_SameNumbers) (ctx0 Try.tyOK)
end Go.Proofs.Ytgokjhhcfemnhab

