/- A part of the proof that the law FilesSays holds of the given program: facts that are used there. -/
import Derived.Test.YtgokjhhcfemnhaaBase
import Derived.Test.YtgokjhhcfemnhaaMrl2
set_option linter.unusedSimpArgs false
set_option linter.unusedVariables false
namespace Go.Proofs.Ytgokjhhcfemnhaa
open Go.Vg Go.Mrl
/-! The packages 'name' and the document's chapter 1. -/
def checkAnn (s : List UInt8) : Anns := [(0, fun st => { X := Nat, inv := fun i => i ≤ s.length ∧ ∀ j, j < i → badAt j (nthB s j) = false, meas := fun i => s.length - i, slots := fun i => [(15, .s (.one (.d (.int .i64) i)))], objs := fun _ => [], keep := [0, 14], keepObj := [] })]
def faultAnn (s : List UInt8) : Anns := [(0, fun st => { X := Nat, inv := fun i => i ≤ s.length ∧ ∀ j, j < i → badAt j (nthB s j) = false, meas := fun i => s.length - i, slots := fun i => [(3, .s (.one (.d (.int .i64) i)))], objs := fun _ => [], keep := [0], keepObj := [] })]
def hashAnn (s : List UInt8) : Anns := [(0, fun st => { X := Nat, inv := fun i => i ≤ s.length, meas := fun i => s.length - i, slots := fun i => [(8, .s (.one (.d (.int .i64) i))), (3, .s (.one (.d (.int .u32) (hashF (s.take i)))))], objs := fun _ => [], keep := [0, 7], keepObj := [] })]
def rhashAnn (s : List UInt8) : Anns := [(0, fun st => { X := Nat, inv := fun i => i ≤ s.length, meas := fun i => s.length - i, slots := fun i => [(4, .s (.one (.d (.int .i64) i))), (3, .s (.one (.d (.int .i64) (hashF (s.take i)))))], objs := fun _ => [], keep := [0], keepObj := [] })]
set_option maxRecDepth 100000 in
set_option maxHeartbeats 4000000 in
theorem vc_Check (s : List UInt8) (hw : wfL [.str] s) : (fnVCs Try.B [] Try.f12 (checkAnn s) [.str] [.err] (fun x y => y = (fun s => errNo (nameFault s)) x) s).holds := by
  refine holds_of (p :=
    (((s == @List.nil UInt8) = true → (Err.no (1 : Int) = errNo (nameFault s))) ∧ ((s == @List.nil UInt8) = false → ((List.length s ≤ big) → (((decide ((↑(List.length s) : Int) > (8 : Int))) = true → (Err.no (1 : Int) = errNo (nameFault s))) ∧ ((decide ((↑(List.length s) : Int) > (8 : Int))) = false → ((List.length s ≤ big) →
    (∃ (x : Nat), (x ≤ List.length s ∧ ∀ (j : Nat), j < x → badAt j (nthB s j) = false) ∧ ((0 : Int) = (↑x : Int) ∧ True) ∧ True) ∧ (∀ x_0 : Nat, ((x_0 ≤ List.length s ∧ ∀ (j : Nat), j < x_0 → badAt j (nthB s j) = false) → (((decide ((↑x_0 : Int) < (↑(List.length s) : Int))) = true → ((0 : Int) ≤ (↑x_0 : Int) ∧ (↑x_0 : Int) < (↑(List.length s) : Int)) ∧ (((decide ((↑(UInt8.toNat (nthB s x_0)) : Int) < (97 : Int))) = true → ((((↑x_0 : Int) == (0 : Int)) = true → (Err.no (3 : Int) = errNo (nameFault s))) ∧ (((↑x_0 : Int) == (0 : Int)) = false → (((decide ((↑(UInt8.toNat (nthB s x_0)) : Int) < (48 : Int))) = true → ((((↑(UInt8.toNat (nthB s x_0)) : Int) != (95 : Int)) = true → (Err.no (3 : Int) = errNo (nameFault s))) ∧ (((↑(UInt8.toNat (nthB s x_0)) : Int) != (95 : Int)) = false → ((I64 (↑x_0 : Int)) → ((I64 (1 : Int)) → (I64 ((↑x_0 : Int) + (1 : Int))) ∧
    (∃ (x' : Nat), (x' ≤ List.length s ∧ ∀ (j : Nat), j < x' → badAt j (nthB s j) = false) ∧ List.length s - x' < List.length s - x_0 ∧ ((↑x_0 : Int) + (1 : Int) = (↑x' : Int) ∧ True) ∧ True)))))) ∧ ((decide ((↑(UInt8.toNat (nthB s x_0)) : Int) < (48 : Int))) = false → (((decide ((↑(UInt8.toNat (nthB s x_0)) : Int) > (57 : Int))) = true → ((((↑(UInt8.toNat (nthB s x_0)) : Int) != (95 : Int)) = true → (Err.no (3 : Int) = errNo (nameFault s))) ∧ (((↑(UInt8.toNat (nthB s x_0)) : Int) != (95 : Int)) = false → ((I64 (↑x_0 : Int)) → ((I64 (1 : Int)) → (I64 ((↑x_0 : Int) + (1 : Int))) ∧
    (∃ (x' : Nat), (x' ≤ List.length s ∧ ∀ (j : Nat), j < x' → badAt j (nthB s j) = false) ∧ List.length s - x' < List.length s - x_0 ∧ ((↑x_0 : Int) + (1 : Int) = (↑x' : Int) ∧ True) ∧ True)))))) ∧ ((decide ((↑(UInt8.toNat (nthB s x_0)) : Int) > (57 : Int))) = false → ((I64 (↑x_0 : Int)) → ((I64 (1 : Int)) → (I64 ((↑x_0 : Int) + (1 : Int))) ∧
    (∃ (x' : Nat), (x' ≤ List.length s ∧ ∀ (j : Nat), j < x' → badAt j (nthB s j) = false) ∧ List.length s - x' < List.length s - x_0 ∧ ((↑x_0 : Int) + (1 : Int) = (↑x' : Int) ∧ True) ∧ True)))))))))) ∧ ((decide ((↑(UInt8.toNat (nthB s x_0)) : Int) < (97 : Int))) = false → (((decide ((↑(UInt8.toNat (nthB s x_0)) : Int) > (122 : Int))) = true → ((((↑x_0 : Int) == (0 : Int)) = true → (Err.no (3 : Int) = errNo (nameFault s))) ∧ (((↑x_0 : Int) == (0 : Int)) = false → (((decide ((↑(UInt8.toNat (nthB s x_0)) : Int) < (48 : Int))) = true → ((((↑(UInt8.toNat (nthB s x_0)) : Int) != (95 : Int)) = true → (Err.no (3 : Int) = errNo (nameFault s))) ∧ (((↑(UInt8.toNat (nthB s x_0)) : Int) != (95 : Int)) = false → ((I64 (↑x_0 : Int)) → ((I64 (1 : Int)) → (I64 ((↑x_0 : Int) + (1 : Int))) ∧
    (∃ (x' : Nat), (x' ≤ List.length s ∧ ∀ (j : Nat), j < x' → badAt j (nthB s j) = false) ∧ List.length s - x' < List.length s - x_0 ∧ ((↑x_0 : Int) + (1 : Int) = (↑x' : Int) ∧ True) ∧ True)))))) ∧ ((decide ((↑(UInt8.toNat (nthB s x_0)) : Int) < (48 : Int))) = false → (((decide ((↑(UInt8.toNat (nthB s x_0)) : Int) > (57 : Int))) = true → ((((↑(UInt8.toNat (nthB s x_0)) : Int) != (95 : Int)) = true → (Err.no (3 : Int) = errNo (nameFault s))) ∧ (((↑(UInt8.toNat (nthB s x_0)) : Int) != (95 : Int)) = false → ((I64 (↑x_0 : Int)) → ((I64 (1 : Int)) → (I64 ((↑x_0 : Int) + (1 : Int))) ∧
    (∃ (x' : Nat), (x' ≤ List.length s ∧ ∀ (j : Nat), j < x' → badAt j (nthB s j) = false) ∧ List.length s - x' < List.length s - x_0 ∧ ((↑x_0 : Int) + (1 : Int) = (↑x' : Int) ∧ True) ∧ True)))))) ∧ ((decide ((↑(UInt8.toNat (nthB s x_0)) : Int) > (57 : Int))) = false → ((I64 (↑x_0 : Int)) → ((I64 (1 : Int)) → (I64 ((↑x_0 : Int) + (1 : Int))) ∧
    (∃ (x' : Nat), (x' ≤ List.length s ∧ ∀ (j : Nat), j < x' → badAt j (nthB s j) = false) ∧ List.length s - x' < List.length s - x_0 ∧ ((↑x_0 : Int) + (1 : Int) = (↑x' : Int) ∧ True) ∧ True)))))))))) ∧ ((decide ((↑(UInt8.toNat (nthB s x_0)) : Int) > (122 : Int))) = false → ((I64 (↑x_0 : Int)) → ((I64 (1 : Int)) → (I64 ((↑x_0 : Int) + (1 : Int))) ∧
    (∃ (x' : Nat), (x' ≤ List.length s ∧ ∀ (j : Nat), j < x' → badAt j (nthB s j) = false) ∧ List.length s - x' < List.length s - x_0 ∧ ((↑x_0 : Int) + (1 : Int) = (↑x' : Int) ∧ True) ∧ True)))))))) ∧ ((decide ((↑x_0 : Int) < (↑(List.length s) : Int))) = false → (Err.nil = errNo (nameFault s))))))))))))) (by kernel_rfl) ?_
  refine ⟨fun h0 => ?_, fun h0 => ?_⟩
  · try simp only [bl, reduceCtorEq] at h0
    rw [nameFault_one (by first | omega | simp [h0])]; rfl
  · try simp only [bl, reduceCtorEq] at h0
    intro h1
    refine ⟨fun h2 => ?_, fun h2 => ?_⟩
    · try simp only [bl, reduceCtorEq] at h2
      rw [nameFault_one (by first | omega | simp [h0])]; rfl
    · try simp only [bl, reduceCtorEq] at h2
      intro h3
      refine ⟨?_, ?_⟩
      · exact ⟨0, ⟨by omega, fun j hj => by omega⟩, ⟨rfl, trivial⟩, trivial⟩
      intro x_0 q_0
      refine ⟨fun h4 => ?_, fun h4 => ?_⟩
      · try simp only [bl, reduceCtorEq] at h4
        refine ⟨?_, ?_⟩
        · first | trivial | omega | (dsimp only [D] at *; omega) | (simp only [I64, big] at *; omega) | (simp_all; done)
        refine ⟨fun h5 => ?_, fun h5 => ?_⟩
        · try simp only [bl, reduceCtorEq] at h5
          refine ⟨fun h6 => ?_, fun h6 => ?_⟩
          · try simp only [bl, reduceCtorEq] at h6
            have hl : s.length ≠ 0 := fun e => h0 (List.length_eq_zero_iff.1 e)
            rw [nameFault_three (i := x_0) (by omega) (by omega) (badAt_iff.2 (by omega))]; rfl
          · try simp only [bl, reduceCtorEq] at h6
            refine ⟨fun h7 => ?_, fun h7 => ?_⟩
            · try simp only [bl, reduceCtorEq] at h7
              refine ⟨fun h8 => ?_, fun h8 => ?_⟩
              · try simp only [bl, reduceCtorEq] at h8
                have hl : s.length ≠ 0 := fun e => h0 (List.length_eq_zero_iff.1 e)
                rw [nameFault_three (i := x_0) (by omega) (by omega) (badAt_iff.2 (by omega))]; rfl
              · try simp only [bl, reduceCtorEq] at h8
                intro h9
                intro h10
                refine ⟨?_, ?_⟩
                · first | trivial | omega | (dsimp only [D] at *; omega) | (simp only [I64, big] at *; omega) | (simp_all; done)
                exact ⟨x_0 + 1, ⟨by omega, bad_next q_0.2 (badAt_false.2 (by omega))⟩, by omega, ⟨by omega, trivial⟩, trivial⟩
            · try simp only [bl, reduceCtorEq] at h7
              refine ⟨fun h8 => ?_, fun h8 => ?_⟩
              · try simp only [bl, reduceCtorEq] at h8
                refine ⟨fun h9 => ?_, fun h9 => ?_⟩
                · try simp only [bl, reduceCtorEq] at h9
                  have hl : s.length ≠ 0 := fun e => h0 (List.length_eq_zero_iff.1 e)
                  rw [nameFault_three (i := x_0) (by omega) (by omega) (badAt_iff.2 (by omega))]; rfl
                · try simp only [bl, reduceCtorEq] at h9
                  intro h10
                  intro h11
                  refine ⟨?_, ?_⟩
                  · first | trivial | omega | (dsimp only [D] at *; omega) | (simp only [I64, big] at *; omega) | (simp_all; done)
                  exact ⟨x_0 + 1, ⟨by omega, bad_next q_0.2 (badAt_false.2 (by omega))⟩, by omega, ⟨by omega, trivial⟩, trivial⟩
              · try simp only [bl, reduceCtorEq] at h8
                intro h9
                intro h10
                refine ⟨?_, ?_⟩
                · first | trivial | omega | (dsimp only [D] at *; omega) | (simp only [I64, big] at *; omega) | (simp_all; done)
                exact ⟨x_0 + 1, ⟨by omega, bad_next q_0.2 (badAt_false.2 (by omega))⟩, by omega, ⟨by omega, trivial⟩, trivial⟩
        · try simp only [bl, reduceCtorEq] at h5
          refine ⟨fun h6 => ?_, fun h6 => ?_⟩
          · try simp only [bl, reduceCtorEq] at h6
            refine ⟨fun h7 => ?_, fun h7 => ?_⟩
            · try simp only [bl, reduceCtorEq] at h7
              have hl : s.length ≠ 0 := fun e => h0 (List.length_eq_zero_iff.1 e)
              rw [nameFault_three (i := x_0) (by omega) (by omega) (badAt_iff.2 (by omega))]; rfl
            · try simp only [bl, reduceCtorEq] at h7
              refine ⟨fun h8 => ?_, fun h8 => ?_⟩
              · try simp only [bl, reduceCtorEq] at h8
                refine ⟨fun h9 => ?_, fun h9 => ?_⟩
                · try simp only [bl, reduceCtorEq] at h9
                  have hl : s.length ≠ 0 := fun e => h0 (List.length_eq_zero_iff.1 e)
                  rw [nameFault_three (i := x_0) (by omega) (by omega) (badAt_iff.2 (by omega))]; rfl
                · try simp only [bl, reduceCtorEq] at h9
                  intro h10
                  intro h11
                  refine ⟨?_, ?_⟩
                  · first | trivial | omega | (dsimp only [D] at *; omega) | (simp only [I64, big] at *; omega) | (simp_all; done)
                  exact ⟨x_0 + 1, ⟨by omega, bad_next q_0.2 (badAt_false.2 (by omega))⟩, by omega, ⟨by omega, trivial⟩, trivial⟩
              · try simp only [bl, reduceCtorEq] at h8
                refine ⟨fun h9 => ?_, fun h9 => ?_⟩
                · try simp only [bl, reduceCtorEq] at h9
                  refine ⟨fun h10 => ?_, fun h10 => ?_⟩
                  · try simp only [bl, reduceCtorEq] at h10
                    have hl : s.length ≠ 0 := fun e => h0 (List.length_eq_zero_iff.1 e)
                    rw [nameFault_three (i := x_0) (by omega) (by omega) (badAt_iff.2 (by omega))]; rfl
                  · try simp only [bl, reduceCtorEq] at h10
                    intro h11
                    intro h12
                    refine ⟨?_, ?_⟩
                    · first | trivial | omega | (dsimp only [D] at *; omega) | (simp only [I64, big] at *; omega) | (simp_all; done)
                    exact ⟨x_0 + 1, ⟨by omega, bad_next q_0.2 (badAt_false.2 (by omega))⟩, by omega, ⟨by omega, trivial⟩, trivial⟩
                · try simp only [bl, reduceCtorEq] at h9
                  intro h10
                  intro h11
                  refine ⟨?_, ?_⟩
                  · first | trivial | omega | (dsimp only [D] at *; omega) | (simp only [I64, big] at *; omega) | (simp_all; done)
                  exact ⟨x_0 + 1, ⟨by omega, bad_next q_0.2 (badAt_false.2 (by omega))⟩, by omega, ⟨by omega, trivial⟩, trivial⟩
          · try simp only [bl, reduceCtorEq] at h6
            intro h7
            intro h8
            refine ⟨?_, ?_⟩
            · first | trivial | omega | (dsimp only [D] at *; omega) | (simp only [I64, big] at *; omega) | (simp_all; done)
            exact ⟨x_0 + 1, ⟨by omega, bad_next q_0.2 (badAt_false.2 (by omega))⟩, by omega, ⟨by omega, trivial⟩, trivial⟩
      · try simp only [bl, reduceCtorEq] at h4
        have hl : s.length ≠ 0 := fun e => h0 (List.length_eq_zero_iff.1 e)
        rw [nameFault_zero (by omega) (fun i hi => q_0.2 i (by omega))]; rfl
theorem Try.ok_Check : PureOK Try.prog Try.B.eT 12 [.str] [.err] (fun _ => True) (fun x y => y = (fun s => errNo (nameFault s)) x) :=
  pure_fn (X := noExt) (ctx0 Try.tyOK) Try.func12 (by kernel_rfl) (fun x => checkAnn x) (fun x hw hp => vc_Check x hw)
set_option maxRecDepth 100000 in
set_option maxHeartbeats 4000000 in
theorem vc_NameFault (s : List UInt8) (hw : wfL [.str] s) : (fnVCs Try.B [] Try.f13 (faultAnn s) [.str] [.int .i64] (fun x y => y = (fun s => nameFault s) x) s).holds := by
  refine holds_of (p :=
    ((List.length s ≤ big) → (((decide ((↑(List.length s) : Int) < (1 : Int))) = true → ((1 : Int) = nameFault s)) ∧ ((decide ((↑(List.length s) : Int) < (1 : Int))) = false → ((List.length s ≤ big) → (((decide ((↑(List.length s) : Int) > (8 : Int))) = true → ((1 : Int) = nameFault s)) ∧ ((decide ((↑(List.length s) : Int) > (8 : Int))) = false →
    (∃ (x : Nat), (x ≤ List.length s ∧ ∀ (j : Nat), j < x → badAt j (nthB s j) = false) ∧ ((0 : Int) = (↑x : Int) ∧ True) ∧ True) ∧ (∀ x_0 : Nat, ((x_0 ≤ List.length s ∧ ∀ (j : Nat), j < x_0 → badAt j (nthB s j) = false) → ((List.length s ≤ big) → (((decide ((↑x_0 : Int) < (↑(List.length s) : Int))) = true → ((0 : Int) ≤ (↑x_0 : Int) ∧ (↑x_0 : Int) < (↑(List.length s) : Int)) ∧ (((decide ((↑(UInt8.toNat (nthB s x_0)) : Int) ≥ (97 : Int))) = true → ((0 : Int) ≤ (↑x_0 : Int) ∧ (↑x_0 : Int) < (↑(List.length s) : Int)) ∧ ((0 : Int) ≤ (↑x_0 : Int) ∧ (↑x_0 : Int) < (↑(List.length s) : Int)) ∧ (((decide ((↑(UInt8.toNat (nthB s x_0)) : Int) ≥ (48 : Int))) = true → ((0 : Int) ≤ (↑x_0 : Int) ∧ (↑x_0 : Int) < (↑(List.length s) : Int)) ∧ (((decide ((↑(UInt8.toNat (nthB s x_0)) : Int) ≤ (57 : Int))) = true → (((!decide ((↑(UInt8.toNat (nthB s x_0)) : Int) ≤ (122 : Int))) = true → ((((↑x_0 : Int) == (0 : Int)) = true → ((3 : Int) = nameFault s)) ∧ (((↑x_0 : Int) == (0 : Int)) = false → ((I64 (↑x_0 : Int)) → ((I64 (1 : Int)) → (I64 ((↑x_0 : Int) + (1 : Int))) ∧
    (∃ (x' : Nat), (x' ≤ List.length s ∧ ∀ (j : Nat), j < x' → badAt j (nthB s j) = false) ∧ List.length s - x' < List.length s - x_0 ∧ ((↑x_0 : Int) + (1 : Int) = (↑x' : Int) ∧ True) ∧ True)))))) ∧ ((!decide ((↑(UInt8.toNat (nthB s x_0)) : Int) ≤ (122 : Int))) = false → ((I64 (↑x_0 : Int)) → ((I64 (1 : Int)) → (I64 ((↑x_0 : Int) + (1 : Int))) ∧
    (∃ (x' : Nat), (x' ≤ List.length s ∧ ∀ (j : Nat), j < x' → badAt j (nthB s j) = false) ∧ List.length s - x' < List.length s - x_0 ∧ ((↑x_0 : Int) + (1 : Int) = (↑x' : Int) ∧ True) ∧ True)))))) ∧ ((decide ((↑(UInt8.toNat (nthB s x_0)) : Int) ≤ (57 : Int))) = false → ((0 : Int) ≤ (↑x_0 : Int) ∧ (↑x_0 : Int) < (↑(List.length s) : Int)) ∧ (((!decide ((↑(UInt8.toNat (nthB s x_0)) : Int) ≤ (122 : Int))) = true → ((((↑x_0 : Int) == (0 : Int)) = true → ((3 : Int) = nameFault s)) ∧ (((↑x_0 : Int) == (0 : Int)) = false → (((!(↑(UInt8.toNat (nthB s x_0)) : Int) == (95 : Int)) = true → ((3 : Int) = nameFault s)) ∧ ((!(↑(UInt8.toNat (nthB s x_0)) : Int) == (95 : Int)) = false → ((I64 (↑x_0 : Int)) → ((I64 (1 : Int)) → (I64 ((↑x_0 : Int) + (1 : Int))) ∧
    (∃ (x' : Nat), (x' ≤ List.length s ∧ ∀ (j : Nat), j < x' → badAt j (nthB s j) = false) ∧ List.length s - x' < List.length s - x_0 ∧ ((↑x_0 : Int) + (1 : Int) = (↑x' : Int) ∧ True) ∧ True)))))))) ∧ ((!decide ((↑(UInt8.toNat (nthB s x_0)) : Int) ≤ (122 : Int))) = false → ((I64 (↑x_0 : Int)) → ((I64 (1 : Int)) → (I64 ((↑x_0 : Int) + (1 : Int))) ∧
    (∃ (x' : Nat), (x' ≤ List.length s ∧ ∀ (j : Nat), j < x' → badAt j (nthB s j) = false) ∧ List.length s - x' < List.length s - x_0 ∧ ((↑x_0 : Int) + (1 : Int) = (↑x' : Int) ∧ True) ∧ True)))))))) ∧ ((decide ((↑(UInt8.toNat (nthB s x_0)) : Int) ≥ (48 : Int))) = false → ((0 : Int) ≤ (↑x_0 : Int) ∧ (↑x_0 : Int) < (↑(List.length s) : Int)) ∧ (((!decide ((↑(UInt8.toNat (nthB s x_0)) : Int) ≤ (122 : Int))) = true → ((((↑x_0 : Int) == (0 : Int)) = true → ((3 : Int) = nameFault s)) ∧ (((↑x_0 : Int) == (0 : Int)) = false → (((!(↑(UInt8.toNat (nthB s x_0)) : Int) == (95 : Int)) = true → ((3 : Int) = nameFault s)) ∧ ((!(↑(UInt8.toNat (nthB s x_0)) : Int) == (95 : Int)) = false → ((I64 (↑x_0 : Int)) → ((I64 (1 : Int)) → (I64 ((↑x_0 : Int) + (1 : Int))) ∧
    (∃ (x' : Nat), (x' ≤ List.length s ∧ ∀ (j : Nat), j < x' → badAt j (nthB s j) = false) ∧ List.length s - x' < List.length s - x_0 ∧ ((↑x_0 : Int) + (1 : Int) = (↑x' : Int) ∧ True) ∧ True)))))))) ∧ ((!decide ((↑(UInt8.toNat (nthB s x_0)) : Int) ≤ (122 : Int))) = false → ((I64 (↑x_0 : Int)) → ((I64 (1 : Int)) → (I64 ((↑x_0 : Int) + (1 : Int))) ∧
    (∃ (x' : Nat), (x' ≤ List.length s ∧ ∀ (j : Nat), j < x' → badAt j (nthB s j) = false) ∧ List.length s - x' < List.length s - x_0 ∧ ((↑x_0 : Int) + (1 : Int) = (↑x' : Int) ∧ True) ∧ True)))))))) ∧ ((decide ((↑(UInt8.toNat (nthB s x_0)) : Int) ≥ (97 : Int))) = false → ((0 : Int) ≤ (↑x_0 : Int) ∧ (↑x_0 : Int) < (↑(List.length s) : Int)) ∧ (((decide ((↑(UInt8.toNat (nthB s x_0)) : Int) ≥ (48 : Int))) = true → ((0 : Int) ≤ (↑x_0 : Int) ∧ (↑x_0 : Int) < (↑(List.length s) : Int)) ∧ (((decide ((↑(UInt8.toNat (nthB s x_0)) : Int) ≤ (57 : Int))) = true → ((((↑x_0 : Int) == (0 : Int)) = true → ((3 : Int) = nameFault s)) ∧ (((↑x_0 : Int) == (0 : Int)) = false → ((I64 (↑x_0 : Int)) → ((I64 (1 : Int)) → (I64 ((↑x_0 : Int) + (1 : Int))) ∧
    (∃ (x' : Nat), (x' ≤ List.length s ∧ ∀ (j : Nat), j < x' → badAt j (nthB s j) = false) ∧ List.length s - x' < List.length s - x_0 ∧ ((↑x_0 : Int) + (1 : Int) = (↑x' : Int) ∧ True) ∧ True)))))) ∧ ((decide ((↑(UInt8.toNat (nthB s x_0)) : Int) ≤ (57 : Int))) = false → ((0 : Int) ≤ (↑x_0 : Int) ∧ (↑x_0 : Int) < (↑(List.length s) : Int)) ∧ ((((↑x_0 : Int) == (0 : Int)) = true → ((3 : Int) = nameFault s)) ∧ (((↑x_0 : Int) == (0 : Int)) = false → (((!(↑(UInt8.toNat (nthB s x_0)) : Int) == (95 : Int)) = true → ((3 : Int) = nameFault s)) ∧ ((!(↑(UInt8.toNat (nthB s x_0)) : Int) == (95 : Int)) = false → ((I64 (↑x_0 : Int)) → ((I64 (1 : Int)) → (I64 ((↑x_0 : Int) + (1 : Int))) ∧
    (∃ (x' : Nat), (x' ≤ List.length s ∧ ∀ (j : Nat), j < x' → badAt j (nthB s j) = false) ∧ List.length s - x' < List.length s - x_0 ∧ ((↑x_0 : Int) + (1 : Int) = (↑x' : Int) ∧ True) ∧ True)))))))))) ∧ ((decide ((↑(UInt8.toNat (nthB s x_0)) : Int) ≥ (48 : Int))) = false → ((0 : Int) ≤ (↑x_0 : Int) ∧ (↑x_0 : Int) < (↑(List.length s) : Int)) ∧ ((((↑x_0 : Int) == (0 : Int)) = true → ((3 : Int) = nameFault s)) ∧ (((↑x_0 : Int) == (0 : Int)) = false → (((!(↑(UInt8.toNat (nthB s x_0)) : Int) == (95 : Int)) = true → ((3 : Int) = nameFault s)) ∧ ((!(↑(UInt8.toNat (nthB s x_0)) : Int) == (95 : Int)) = false → ((I64 (↑x_0 : Int)) → ((I64 (1 : Int)) → (I64 ((↑x_0 : Int) + (1 : Int))) ∧
    (∃ (x' : Nat), (x' ≤ List.length s ∧ ∀ (j : Nat), j < x' → badAt j (nthB s j) = false) ∧ List.length s - x' < List.length s - x_0 ∧ ((↑x_0 : Int) + (1 : Int) = (↑x' : Int) ∧ True) ∧ True)))))))))))) ∧ ((decide ((↑x_0 : Int) < (↑(List.length s) : Int))) = false → ((0 : Int) = nameFault s))))))))))))) (by kernel_rfl) ?_
  intro h0
  refine ⟨fun h1 => ?_, fun h1 => ?_⟩
  · try simp only [bl, reduceCtorEq] at h1
    rw [nameFault_one (by omega)]
  · try simp only [bl, reduceCtorEq] at h1
    intro h2
    refine ⟨fun h3 => ?_, fun h3 => ?_⟩
    · try simp only [bl, reduceCtorEq] at h3
      rw [nameFault_one (by omega)]
    · try simp only [bl, reduceCtorEq] at h3
      refine ⟨?_, ?_⟩
      · exact ⟨0, ⟨by omega, fun j hj => by omega⟩, ⟨rfl, trivial⟩, trivial⟩
      intro x_0 q_0
      intro h4
      refine ⟨fun h5 => ?_, fun h5 => ?_⟩
      · try simp only [bl, reduceCtorEq] at h5
        refine ⟨?_, ?_⟩
        · first | trivial | omega | (dsimp only [D] at *; omega) | (simp only [I64, big] at *; omega) | (simp_all; done)
        refine ⟨fun h6 => ?_, fun h6 => ?_⟩
        · try simp only [bl, reduceCtorEq] at h6
          refine ⟨?_, ?_⟩
          · first | trivial | omega | (dsimp only [D] at *; omega) | (simp only [I64, big] at *; omega) | (simp_all; done)
          refine ⟨?_, ?_⟩
          · first | trivial | omega | (dsimp only [D] at *; omega) | (simp only [I64, big] at *; omega) | (simp_all; done)
          refine ⟨fun h7 => ?_, fun h7 => ?_⟩
          · try simp only [bl, reduceCtorEq] at h7
            refine ⟨?_, ?_⟩
            · first | trivial | omega | (dsimp only [D] at *; omega) | (simp only [I64, big] at *; omega) | (simp_all; done)
            refine ⟨fun h8 => ?_, fun h8 => ?_⟩
            · try simp only [bl, reduceCtorEq] at h8
              refine ⟨fun h9 => ?_, fun h9 => ?_⟩
              · try simp only [bl, reduceCtorEq] at h9
                refine ⟨fun h10 => ?_, fun h10 => ?_⟩
                · try simp only [bl, reduceCtorEq] at h10
                  rw [nameFault_three (i := x_0) (by omega) (by omega) (badAt_iff.2 (by omega))]
                · try simp only [bl, reduceCtorEq] at h10
                  intro h11
                  intro h12
                  refine ⟨?_, ?_⟩
                  · first | trivial | omega | (dsimp only [D] at *; omega) | (simp only [I64, big] at *; omega) | (simp_all; done)
                  exact ⟨x_0 + 1, ⟨by omega, bad_next q_0.2 (badAt_false.2 (by omega))⟩, by omega, ⟨by omega, trivial⟩, trivial⟩
              · try simp only [bl, reduceCtorEq] at h9
                intro h10
                intro h11
                refine ⟨?_, ?_⟩
                · first | trivial | omega | (dsimp only [D] at *; omega) | (simp only [I64, big] at *; omega) | (simp_all; done)
                exact ⟨x_0 + 1, ⟨by omega, bad_next q_0.2 (badAt_false.2 (by omega))⟩, by omega, ⟨by omega, trivial⟩, trivial⟩
            · try simp only [bl, reduceCtorEq] at h8
              refine ⟨?_, ?_⟩
              · first | trivial | omega | (dsimp only [D] at *; omega) | (simp only [I64, big] at *; omega) | (simp_all; done)
              refine ⟨fun h9 => ?_, fun h9 => ?_⟩
              · try simp only [bl, reduceCtorEq] at h9
                refine ⟨fun h10 => ?_, fun h10 => ?_⟩
                · try simp only [bl, reduceCtorEq] at h10
                  rw [nameFault_three (i := x_0) (by omega) (by omega) (badAt_iff.2 (by omega))]
                · try simp only [bl, reduceCtorEq] at h10
                  refine ⟨fun h11 => ?_, fun h11 => ?_⟩
                  · try simp only [bl, reduceCtorEq] at h11
                    rw [nameFault_three (i := x_0) (by omega) (by omega) (badAt_iff.2 (by omega))]
                  · try simp only [bl, reduceCtorEq] at h11
                    intro h12
                    intro h13
                    refine ⟨?_, ?_⟩
                    · first | trivial | omega | (dsimp only [D] at *; omega) | (simp only [I64, big] at *; omega) | (simp_all; done)
                    exact ⟨x_0 + 1, ⟨by omega, bad_next q_0.2 (badAt_false.2 (by omega))⟩, by omega, ⟨by omega, trivial⟩, trivial⟩
              · try simp only [bl, reduceCtorEq] at h9
                intro h10
                intro h11
                refine ⟨?_, ?_⟩
                · first | trivial | omega | (dsimp only [D] at *; omega) | (simp only [I64, big] at *; omega) | (simp_all; done)
                exact ⟨x_0 + 1, ⟨by omega, bad_next q_0.2 (badAt_false.2 (by omega))⟩, by omega, ⟨by omega, trivial⟩, trivial⟩
          · try simp only [bl, reduceCtorEq] at h7
            refine ⟨?_, ?_⟩
            · first | trivial | omega | (dsimp only [D] at *; omega) | (simp only [I64, big] at *; omega) | (simp_all; done)
            refine ⟨fun h8 => ?_, fun h8 => ?_⟩
            · try simp only [bl, reduceCtorEq] at h8
              refine ⟨fun h9 => ?_, fun h9 => ?_⟩
              · try simp only [bl, reduceCtorEq] at h9
                rw [nameFault_three (i := x_0) (by omega) (by omega) (badAt_iff.2 (by omega))]
              · try simp only [bl, reduceCtorEq] at h9
                refine ⟨fun h10 => ?_, fun h10 => ?_⟩
                · try simp only [bl, reduceCtorEq] at h10
                  rw [nameFault_three (i := x_0) (by omega) (by omega) (badAt_iff.2 (by omega))]
                · try simp only [bl, reduceCtorEq] at h10
                  intro h11
                  intro h12
                  refine ⟨?_, ?_⟩
                  · first | trivial | omega | (dsimp only [D] at *; omega) | (simp only [I64, big] at *; omega) | (simp_all; done)
                  exact ⟨x_0 + 1, ⟨by omega, bad_next q_0.2 (badAt_false.2 (by omega))⟩, by omega, ⟨by omega, trivial⟩, trivial⟩
            · try simp only [bl, reduceCtorEq] at h8
              intro h9
              intro h10
              refine ⟨?_, ?_⟩
              · first | trivial | omega | (dsimp only [D] at *; omega) | (simp only [I64, big] at *; omega) | (simp_all; done)
              exact ⟨x_0 + 1, ⟨by omega, bad_next q_0.2 (badAt_false.2 (by omega))⟩, by omega, ⟨by omega, trivial⟩, trivial⟩
        · try simp only [bl, reduceCtorEq] at h6
          refine ⟨?_, ?_⟩
          · first | trivial | omega | (dsimp only [D] at *; omega) | (simp only [I64, big] at *; omega) | (simp_all; done)
          refine ⟨fun h7 => ?_, fun h7 => ?_⟩
          · try simp only [bl, reduceCtorEq] at h7
            refine ⟨?_, ?_⟩
            · first | trivial | omega | (dsimp only [D] at *; omega) | (simp only [I64, big] at *; omega) | (simp_all; done)
            refine ⟨fun h8 => ?_, fun h8 => ?_⟩
            · try simp only [bl, reduceCtorEq] at h8
              refine ⟨fun h9 => ?_, fun h9 => ?_⟩
              · try simp only [bl, reduceCtorEq] at h9
                rw [nameFault_three (i := x_0) (by omega) (by omega) (badAt_iff.2 (by omega))]
              · try simp only [bl, reduceCtorEq] at h9
                intro h10
                intro h11
                refine ⟨?_, ?_⟩
                · first | trivial | omega | (dsimp only [D] at *; omega) | (simp only [I64, big] at *; omega) | (simp_all; done)
                exact ⟨x_0 + 1, ⟨by omega, bad_next q_0.2 (badAt_false.2 (by omega))⟩, by omega, ⟨by omega, trivial⟩, trivial⟩
            · try simp only [bl, reduceCtorEq] at h8
              refine ⟨?_, ?_⟩
              · first | trivial | omega | (dsimp only [D] at *; omega) | (simp only [I64, big] at *; omega) | (simp_all; done)
              refine ⟨fun h9 => ?_, fun h9 => ?_⟩
              · try simp only [bl, reduceCtorEq] at h9
                rw [nameFault_three (i := x_0) (by omega) (by omega) (badAt_iff.2 (by omega))]
              · try simp only [bl, reduceCtorEq] at h9
                refine ⟨fun h10 => ?_, fun h10 => ?_⟩
                · try simp only [bl, reduceCtorEq] at h10
                  rw [nameFault_three (i := x_0) (by omega) (by omega) (badAt_iff.2 (by omega))]
                · try simp only [bl, reduceCtorEq] at h10
                  intro h11
                  intro h12
                  refine ⟨?_, ?_⟩
                  · first | trivial | omega | (dsimp only [D] at *; omega) | (simp only [I64, big] at *; omega) | (simp_all; done)
                  exact ⟨x_0 + 1, ⟨by omega, bad_next q_0.2 (badAt_false.2 (by omega))⟩, by omega, ⟨by omega, trivial⟩, trivial⟩
          · try simp only [bl, reduceCtorEq] at h7
            refine ⟨?_, ?_⟩
            · first | trivial | omega | (dsimp only [D] at *; omega) | (simp only [I64, big] at *; omega) | (simp_all; done)
            refine ⟨fun h8 => ?_, fun h8 => ?_⟩
            · try simp only [bl, reduceCtorEq] at h8
              rw [nameFault_three (i := x_0) (by omega) (by omega) (badAt_iff.2 (by omega))]
            · try simp only [bl, reduceCtorEq] at h8
              refine ⟨fun h9 => ?_, fun h9 => ?_⟩
              · try simp only [bl, reduceCtorEq] at h9
                rw [nameFault_three (i := x_0) (by omega) (by omega) (badAt_iff.2 (by omega))]
              · try simp only [bl, reduceCtorEq] at h9
                intro h10
                intro h11
                refine ⟨?_, ?_⟩
                · first | trivial | omega | (dsimp only [D] at *; omega) | (simp only [I64, big] at *; omega) | (simp_all; done)
                exact ⟨x_0 + 1, ⟨by omega, bad_next q_0.2 (badAt_false.2 (by omega))⟩, by omega, ⟨by omega, trivial⟩, trivial⟩
      · try simp only [bl, reduceCtorEq] at h5
        rw [nameFault_zero (by omega) (fun i hi => q_0.2 i (by omega))]
theorem Try.ok_NameFault : PureOK Try.prog Try.B.eT 13 [.str] [.int .i64] (fun _ => True) (fun x y => y = (fun s => nameFault s) x) :=
  pure_fn (X := noExt) (ctx0 Try.tyOK) Try.func13 (by kernel_rfl) (fun x => faultAnn x) (fun x hw hp => vc_NameFault x hw)
set_option maxRecDepth 100000 in
set_option maxHeartbeats 4000000 in
theorem vc_Hash (s : List UInt8) (hw : wfL [.str] s) : (fnVCs Try.B [] Try.f14 (hashAnn s) [.str] [.int .u32] (fun x y => y = (fun s => (hashF s : Int)) x) s).holds := by
  refine holds_of (p :=
    ((List.length s ≤ big) →
    (∃ (x : Nat), x ≤ List.length s ∧ ((0 : Int) = (↑x : Int) ∧ (0 : Int) = (↑(hashF (List.take x s)) : Int) ∧ True) ∧ True) ∧ (∀ x_0 : Nat, ((x_0 ≤ List.length s) → (((decide ((↑x_0 : Int) < (↑(List.length s) : Int))) = true → ((0 : Int) ≤ (4 : Int)) ∧ (∀ x_1 : Int,
    ((x_1 = IntKind.wrap IntKind.u32 ((↑(hashF (List.take x_0 s)) : Int) * (2 : Int) ^ min (4 : Nat) (IntKind.bits IntKind.u32))) → ((0 : Int) ≤ (↑x_0 : Int) ∧ (↑x_0 : Int) < (↑(List.length s) : Int)) ∧ (∀ x_2 : Int, ((x_2 = IntKind.wrap IntKind.u32 (x_1 + (↑(UInt8.toNat (nthB s x_0)) : Int))) → (∀ x_3 : Int,
    ((x_3 = IntKind.wrap IntKind.u32 (↑(BitVec.toNat (BitVec.ofInt (IntKind.bits IntKind.u32) x_2 &&& BitVec.ofInt (IntKind.bits IntKind.u32) (4026531840 : Int))) : Int)) → ((0 : Int) ≤ (24 : Int)) ∧ (∀ x_4 : Int, ((x_4 = Int.fdiv x_3 ((2 : Int) ^ min (24 : Nat) (IntKind.bits IntKind.u32))) → (∀ x_5 : Int,
    ((x_5 = IntKind.wrap IntKind.u32 (↑(BitVec.toNat (BitVec.ofInt (IntKind.bits IntKind.u32) x_2 ^^^ BitVec.ofInt (IntKind.bits IntKind.u32) x_4)) : Int)) → (∀ x_6 : Int,
    ((x_6 = IntKind.wrap IntKind.u32 (↑(BitVec.toNat (BitVec.ofInt (IntKind.bits IntKind.u32) x_5 &&& ~~~BitVec.ofInt (IntKind.bits IntKind.u32) x_3)) : Int)) → ((I64 (↑x_0 : Int)) → ((I64 (1 : Int)) → (I64 ((↑x_0 : Int) + (1 : Int))) ∧
    (∃ (x' : Nat), x' ≤ List.length s ∧ List.length s - x' < List.length s - x_0 ∧ ((↑x_0 : Int) + (1 : Int) = (↑x' : Int) ∧ x_6 = (↑(hashF (List.take x' s)) : Int) ∧ True) ∧ True)))))))))))))))) ∧ ((decide ((↑x_0 : Int) < (↑(List.length s) : Int))) = false → ((↑(hashF (List.take x_0 s)) : Int) = (↑(hashF s) : Int)))))))) (by kernel_rfl) ?_
  intro h0
  refine ⟨?_, ?_⟩
  · exact ⟨0, by omega, ⟨rfl, rfl, trivial⟩, trivial⟩
  intro x_0 q_0
  refine ⟨fun h1 => ?_, fun h1 => ?_⟩
  · try simp only [bl, reduceCtorEq] at h1
    refine ⟨?_, ?_⟩
    · first | trivial | omega | (dsimp only [D] at *; omega) | (simp only [I64, big] at *; omega) | (simp_all; done)
    intro x_1 q_1
    refine ⟨?_, ?_⟩
    · first | trivial | omega | (dsimp only [D] at *; omega) | (simp only [I64, big] at *; omega) | (simp_all; done)
    intro x_2 q_2
    intro x_3 q_3
    refine ⟨?_, ?_⟩
    · first | trivial | omega | (dsimp only [D] at *; omega) | (simp only [I64, big] at *; omega) | (simp_all; done)
    intro x_4 q_4
    intro x_5 q_5
    intro x_6 q_6
    intro h2
    intro h3
    refine ⟨?_, ?_⟩
    · first | trivial | omega | (dsimp only [D] at *; omega) | (simp only [I64, big] at *; omega) | (simp_all; done)
    exact ⟨x_0 + 1, by omega, by omega, ⟨by omega, by rw [hashF_take (by omega)]; exact hash_next (hashF_lt _) q_1 q_2 q_3 q_4 q_5 q_6, trivial⟩, trivial⟩
  · try simp only [bl, reduceCtorEq] at h1
    rw [List.take_of_length_le (by omega)]
theorem Try.ok_Hash : PureOK Try.prog Try.B.eT 14 [.str] [.int .u32] (fun _ => True) (fun x y => y = (fun s => (hashF s : Int)) x) :=
  pure_fn (X := noExt) (ctx0 Try.tyOK) Try.func14 (by kernel_rfl) (fun x => hashAnn x) (fun x hw hp => vc_Hash x hw)
set_option maxRecDepth 100000 in
set_option maxHeartbeats 4000000 in
theorem vc_RHash (s : List UInt8) (hw : wfL [.str] s) : (fnVCs Try.B [] Try.f15 (rhashAnn s) [.str] [.int .i64] (fun x y => y = (fun s => (hashF s : Int)) x) s).holds := by
  refine holds_of (p :=
    (∃ (x : Nat), x ≤ List.length s ∧ ((0 : Int) = (↑x : Int) ∧ (0 : Int) = (↑(hashF (List.take x s)) : Int) ∧ True) ∧ True) ∧ (∀ x_0 : Nat, ((x_0 ≤ List.length s) → ((List.length s ≤ big) → (((decide ((↑x_0 : Int) < (↑(List.length s) : Int))) = true → (∀ x_1 : Int, ((x_1 = (16 : Int) * (↑(hashF (List.take x_0 s)) : Int)) → ((I64 (16 : Int)) → ((I64 (↑(hashF (List.take x_0 s)) : Int)) → (I64 x_1) ∧ ((0 : Int) ≤ (↑x_0 : Int) ∧ (↑x_0 : Int) < (↑(List.length s) : Int)) ∧ ((I64 x_1) → ((I64 (↑(UInt8.toNat (nthB s x_0)) : Int)) → (I64 (x_1 + (↑(UInt8.toNat (nthB s x_0)) : Int))) ∧ ((4294967296 : Int) ≠ (0 : Int)) ∧ (∀ x_2 : Int, ((x_2 = Int.tmod (x_1 + (↑(UInt8.toNat (nthB s x_0)) : Int)) (4294967296 : Int)) → ((268435456 : Int) ≠ (0 : Int)) ∧ (∀ x_3 : Int, ((x_3 = Int.tdiv x_2 (268435456 : Int)) → ((I64 x_2) → ((I64 (268435456 : Int)) → (I64 x_3) ∧ ((268435456 : Int) ≠ (0 : Int)) ∧ (∀ x_4 : Int, ((x_4 = Int.tmod x_2 (268435456 : Int)) → (∀ x_5 : Int, ((x_5 = (16 : Int) * x_3) → ((I64 (16 : Int)) → ((I64 x_3) → (I64 x_5) ∧ (∀ x_6 : Int,
    ((x_6 = IntKind.wrap IntKind.i64 (↑(BitVec.toNat (BitVec.ofInt (IntKind.bits IntKind.i64) x_4 ^^^ BitVec.ofInt (IntKind.bits IntKind.i64) x_5)) : Int)) → ((I64 (↑x_0 : Int)) → ((I64 (1 : Int)) → (I64 ((↑x_0 : Int) + (1 : Int))) ∧
    (∃ (x' : Nat), x' ≤ List.length s ∧ List.length s - x' < List.length s - x_0 ∧ ((↑x_0 : Int) + (1 : Int) = (↑x' : Int) ∧ x_6 = (↑(hashF (List.take x' s)) : Int) ∧ True) ∧ True)))))))))))))))))))))))) ∧ ((decide ((↑x_0 : Int) < (↑(List.length s) : Int))) = false → ((↑(hashF (List.take x_0 s)) : Int) = (↑(hashF s) : Int)))))))) (by kernel_rfl) ?_
  refine ⟨?_, ?_⟩
  · exact ⟨0, by omega, ⟨rfl, rfl, trivial⟩, trivial⟩
  intro x_0 q_0
  intro h0
  refine ⟨fun h1 => ?_, fun h1 => ?_⟩
  · try simp only [bl, reduceCtorEq] at h1
    intro x_1 q_1
    intro h2
    intro h3
    refine ⟨?_, ?_⟩
    · have := hashF_lt (s.take x_0); simp only [I64]; omega
    refine ⟨?_, ?_⟩
    · first | trivial | omega | (dsimp only [D] at *; omega) | (simp only [I64, big] at *; omega) | (simp_all; done)
    intro h4
    intro h5
    refine ⟨?_, ?_⟩
    · have := hashF_lt (s.take x_0); have := (nthB s x_0).toNat_lt; simp only [I64]; omega
    refine ⟨?_, ?_⟩
    · first | trivial | omega | (dsimp only [D] at *; omega) | (simp only [I64, big] at *; omega) | (simp_all; done)
    intro x_2 q_2
    refine ⟨?_, ?_⟩
    · first | trivial | omega | (dsimp only [D] at *; omega) | (simp only [I64, big] at *; omega) | (simp_all; done)
    intro x_3 q_3
    intro h6
    intro h7
    refine ⟨?_, ?_⟩
    · have q := rh4 (rh3 q_1 q_2) q_3; simp only [I64]; omega
    refine ⟨?_, ?_⟩
    · first | trivial | omega | (dsimp only [D] at *; omega) | (simp only [I64, big] at *; omega) | (simp_all; done)
    intro x_4 q_4
    intro x_5 q_5
    intro h8
    intro h9
    refine ⟨?_, ?_⟩
    · have q := rh4 (rh3 q_1 q_2) q_3; simp only [I64]; omega
    intro x_6 q_6
    intro h10
    intro h11
    refine ⟨?_, ?_⟩
    · first | trivial | omega | (dsimp only [D] at *; omega) | (simp only [I64, big] at *; omega) | (simp_all; done)
    exact ⟨x_0 + 1, by omega, by omega, ⟨by omega, by rw [hashF_take (by omega)]; exact rhash_next q_1 q_2 q_3 q_4 q_5 q_6, trivial⟩, trivial⟩
  · try simp only [bl, reduceCtorEq] at h1
    rw [List.take_of_length_le (by omega)]
theorem Try.ok_RHash : PureOK Try.prog Try.B.eT 15 [.str] [.int .i64] (fun _ => True) (fun x y => y = (fun s => (hashF s : Int)) x) :=
  pure_fn (X := noExt) (ctx0 Try.tyOK) Try.func15 (by kernel_rfl) (fun x => rhashAnn x) (fun x hw hp => vc_RHash x hw)
set_option maxRecDepth 100000 in
set_option maxHeartbeats 4000000 in
theorem vc_same (e : Err) (n : Int) (hw : wfL [.err, .int .i64] (e, n)) : (fnVCs Try.B [] Try.f11 [] [.err, .int .i64] [.bool] (fun x y => y = (fun x => sameE x.1 x.2) x) (e, n)).holds := by
  refine holds_of (p :=
    (((Err.isNil e) = true → ((n == (0 : Int)) = sameE e n)) ∧ ((Err.isNil e) = false → (((Err.isNo e) = true → (((decide (n > (0 : Int))) = true → ((Err.num e == n) = sameE e n)) ∧ ((decide (n > (0 : Int))) = false → (false = sameE e n)))) ∧ ((Err.isNo e) = false → (false = sameE e n)))))) (by kernel_rfl) ?_
  refine ⟨fun h0 => ?_, fun h0 => ?_⟩
  · try simp only [bl, reduceCtorEq] at h0
    cases e <;> simp_all [Err.isNil, Err.isNo, Err.num, sameE] <;> omega
  · try simp only [bl, reduceCtorEq] at h0
    refine ⟨fun h1 => ?_, fun h1 => ?_⟩
    · try simp only [bl, reduceCtorEq] at h1
      refine ⟨fun h2 => ?_, fun h2 => ?_⟩
      · try simp only [bl, reduceCtorEq] at h2
        cases e <;> simp_all [Err.isNil, Err.isNo, Err.num, sameE] <;> omega
      · try simp only [bl, reduceCtorEq] at h2
        cases e <;> simp_all [Err.isNil, Err.isNo, Err.num, sameE] <;> omega
    · try simp only [bl, reduceCtorEq] at h1
      cases e <;> simp_all [Err.isNil, Err.isNo, Err.num, sameE] <;> omega
theorem Try.ok_same : PureOK Try.prog Try.B.eT 11 [.err, .int .i64] [.bool] (fun _ => True) (fun x y => y = (fun x => sameE x.1 x.2) x) :=
  pure_fn (X := noExt) (ctx0 Try.tyOK) Try.func11 (by kernel_rfl) (fun _ => []) (fun x hw hp => vc_same x.1 x.2 hw)
noncomputable def Try.nameCtx : List (FuncId × (Bool × CSpec)) := [(12, (true, funSpec [.str] [.err] (fun _ => True) (fun s => errNo (nameFault s)))),
  (13, (true, funSpec [.str] [.int .i64] (fun _ => True) (fun s => nameFault s))),
  (14, (true, funSpec [.str] [.int .u32] (fun _ => True) (fun s => (hashF s : Int)))),
  (15, (true, funSpec [.str] [.int .i64] (fun _ => True) (fun s => (hashF s : Int)))),
  (11, (true, funSpec [.err, .int .i64] [.bool] (fun _ => True) (fun x => sameE x.1 x.2)))]
theorem Try.nameCtxOK {X : Ext} : CtxOK Try.prog Try.B X Try.nameCtx :=
  ctx1 (callOK_of_fun Try.ok_Check) (ctx1 (callOK_of_fun Try.ok_NameFault) (ctx1 (callOK_of_fun Try.ok_Hash) (ctx1 (callOK_of_fun Try.ok_RHash) (ctx1 (callOK_of_fun Try.ok_same) (ctx0 Try.tyOK)))))
end Go.Proofs.Ytgokjhhcfemnhaa

