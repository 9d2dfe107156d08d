/- A part of the proof that the law NamesCard holds of the given program: facts that are used there. -/
import Derived.Test.YtgokjhhcfemnhaaDoorPart3
import Derived.Test.YtgokjhhcfemnhaaDoorChecked
set_option linter.unusedSimpArgs false
set_option linter.unusedVariables false
namespace Go.Proofs.YtgokjhhcfemnhaaDoor
open Go.Vg
noncomputable def Tryd.B : Cx := { eT := 23, τ := [(2, (.int .i64)), (3, (.int .i64)), (4, .bool), (5, (.int .u8)), (7, (.prod (.int .i64) (.prod (.int .i64) (.prod .bool (.prod (.int .u8) .unit))))), (9, .str), (12, (.int .u64)), (13, (.prod .str (.prod (.int .u64) .unit))), (18, (.prod .opq .unit)), (21, (.int .i32)), (22, (.slice (.int .i64))), (23, (.int .i64)), (24, (.slice .err)), (26, .err), (27, .err), (31, (.slice .str)), (32, (.slice tSymbol)), (33, (.slice tTie)), (34, tObject), (35, tObject), (51, tSymbol), (52, tSymbol), (53, tTie), (54, tTie), (58, (.slice (.int .u8))), (59, (.prod .opq (.prod (.slice (.int .u8)) .unit))), (60, (.prod .opq (.prod (.slice (.int .u8)) .unit))), (94, (.int .u64)), (106, (.int .u32)), (108, (.int .u64)), (110, (.int .i64)), (118, (.prod (.int .u8) (.prod (.int .u8) .unit))), (119, (.prod (.int .u8) (.prod (.int .u8) .unit))), (126, (.prod .str (.prod .str (.prod .err .unit)))), (127, (.prod .str (.prod .str (.prod .err .unit)))), (133, (.prod .str .unit)), (134, (.prod .str .unit))], arrs := [(93, (24, 5)), (105, (20, 94)), (107, (65, 5)), (117, (256, 5)), (120, (16, 119)), (128, (32, 5)), (129, (64, 5)), (137, (0, 16))], Γ := [], N := 0, eqs := [52, 54], ptrs := [57], mps := [] }
theorem Tryd.tyOK : TyOK Tryd.prog Tryd.B := tyOK_of (n := 16) (by kernel_rfl)
end Go.Proofs.YtgokjhhcfemnhaaDoor
namespace Go.Proofs.YtgokjhhcfemnhaaDoor
open Go.Vg Go.Mrl
/-! The packages 'name' and the document's chapter 1. -/
def checkAnn (s : List UInt8) : Anns := [(0, fun st => { X := Nat, inv := fun i => i ≤ s.length ∧ ∀ j, j < i → badAt j (nthB s j) = false, meas := fun i => s.length - i, slots := fun i => [(15, .s (.one (.d (.int .i64) i)))], objs := fun _ => [], keep := [0, 14], keepObj := [] })]
def faultAnn (s : List UInt8) : Anns := [(0, fun st => { X := Nat, inv := fun i => i ≤ s.length ∧ ∀ j, j < i → badAt j (nthB s j) = false, meas := fun i => s.length - i, slots := fun i => [(3, .s (.one (.d (.int .i64) i)))], objs := fun _ => [], keep := [0], keepObj := [] })]
def hashAnn (s : List UInt8) : Anns := [(0, fun st => { X := Nat, inv := fun i => i ≤ s.length, meas := fun i => s.length - i, slots := fun i => [(8, .s (.one (.d (.int .i64) i))), (3, .s (.one (.d (.int .u32) (hashF (s.take i)))))], objs := fun _ => [], keep := [0, 7], keepObj := [] })]
def rhashAnn (s : List UInt8) : Anns := [(0, fun st => { X := Nat, inv := fun i => i ≤ s.length, meas := fun i => s.length - i, slots := fun i => [(4, .s (.one (.d (.int .i64) i))), (3, .s (.one (.d (.int .i64) (hashF (s.take i)))))], objs := fun _ => [], keep := [0], keepObj := [] })]
set_option maxRecDepth 100000 in
set_option maxHeartbeats 4000000 in
theorem vc_Check (s : List UInt8) (hw : wfL [.str] s) : (fnVCs Tryd.B [] Tryd.f24 (checkAnn s) [.str] [.err] (fun x y => y = (fun s => errNo (nameFault s)) x) s).holds := by
  refine holds_of (p :=
    (((s == @List.nil UInt8) = true → (Err.no (1 : Int) = errNo (nameFault s))) ∧ ((s == @List.nil UInt8) = false → ((List.length s ≤ big) → (((decide ((↑(List.length s) : Int) > (8 : Int))) = true → (Err.no (1 : Int) = errNo (nameFault s))) ∧ ((decide ((↑(List.length s) : Int) > (8 : Int))) = false → ((List.length s ≤ big) →
    (∃ (x : Nat), (x ≤ List.length s ∧ ∀ (j : Nat), j < x → badAt j (nthB s j) = false) ∧ ((0 : Int) = (↑x : Int) ∧ True) ∧ True) ∧ (∀ x_0 : Nat, ((x_0 ≤ List.length s ∧ ∀ (j : Nat), j < x_0 → badAt j (nthB s j) = false) → (((decide ((↑x_0 : Int) < (↑(List.length s) : Int))) = true → ((0 : Int) ≤ (↑x_0 : Int) ∧ (↑x_0 : Int) < (↑(List.length s) : Int)) ∧ (((decide ((↑(UInt8.toNat (nthB s x_0)) : Int) < (97 : Int))) = true → ((((↑x_0 : Int) == (0 : Int)) = true → (Err.no (3 : Int) = errNo (nameFault s))) ∧ (((↑x_0 : Int) == (0 : Int)) = false → (((decide ((↑(UInt8.toNat (nthB s x_0)) : Int) < (48 : Int))) = true → ((((↑(UInt8.toNat (nthB s x_0)) : Int) != (95 : Int)) = true → (Err.no (3 : Int) = errNo (nameFault s))) ∧ (((↑(UInt8.toNat (nthB s x_0)) : Int) != (95 : Int)) = false → ((I64 (↑x_0 : Int)) → ((I64 (1 : Int)) → (I64 ((↑x_0 : Int) + (1 : Int))) ∧
    (∃ (x' : Nat), (x' ≤ List.length s ∧ ∀ (j : Nat), j < x' → badAt j (nthB s j) = false) ∧ List.length s - x' < List.length s - x_0 ∧ ((↑x_0 : Int) + (1 : Int) = (↑x' : Int) ∧ True) ∧ True)))))) ∧ ((decide ((↑(UInt8.toNat (nthB s x_0)) : Int) < (48 : Int))) = false → (((decide ((↑(UInt8.toNat (nthB s x_0)) : Int) > (57 : Int))) = true → ((((↑(UInt8.toNat (nthB s x_0)) : Int) != (95 : Int)) = true → (Err.no (3 : Int) = errNo (nameFault s))) ∧ (((↑(UInt8.toNat (nthB s x_0)) : Int) != (95 : Int)) = false → ((I64 (↑x_0 : Int)) → ((I64 (1 : Int)) → (I64 ((↑x_0 : Int) + (1 : Int))) ∧
    (∃ (x' : Nat), (x' ≤ List.length s ∧ ∀ (j : Nat), j < x' → badAt j (nthB s j) = false) ∧ List.length s - x' < List.length s - x_0 ∧ ((↑x_0 : Int) + (1 : Int) = (↑x' : Int) ∧ True) ∧ True)))))) ∧ ((decide ((↑(UInt8.toNat (nthB s x_0)) : Int) > (57 : Int))) = false → ((I64 (↑x_0 : Int)) → ((I64 (1 : Int)) → (I64 ((↑x_0 : Int) + (1 : Int))) ∧
    (∃ (x' : Nat), (x' ≤ List.length s ∧ ∀ (j : Nat), j < x' → badAt j (nthB s j) = false) ∧ List.length s - x' < List.length s - x_0 ∧ ((↑x_0 : Int) + (1 : Int) = (↑x' : Int) ∧ True) ∧ True)))))))))) ∧ ((decide ((↑(UInt8.toNat (nthB s x_0)) : Int) < (97 : Int))) = false → (((decide ((↑(UInt8.toNat (nthB s x_0)) : Int) > (122 : Int))) = true → ((((↑x_0 : Int) == (0 : Int)) = true → (Err.no (3 : Int) = errNo (nameFault s))) ∧ (((↑x_0 : Int) == (0 : Int)) = false → (((decide ((↑(UInt8.toNat (nthB s x_0)) : Int) < (48 : Int))) = true → ((((↑(UInt8.toNat (nthB s x_0)) : Int) != (95 : Int)) = true → (Err.no (3 : Int) = errNo (nameFault s))) ∧ (((↑(UInt8.toNat (nthB s x_0)) : Int) != (95 : Int)) = false → ((I64 (↑x_0 : Int)) → ((I64 (1 : Int)) → (I64 ((↑x_0 : Int) + (1 : Int))) ∧
    (∃ (x' : Nat), (x' ≤ List.length s ∧ ∀ (j : Nat), j < x' → badAt j (nthB s j) = false) ∧ List.length s - x' < List.length s - x_0 ∧ ((↑x_0 : Int) + (1 : Int) = (↑x' : Int) ∧ True) ∧ True)))))) ∧ ((decide ((↑(UInt8.toNat (nthB s x_0)) : Int) < (48 : Int))) = false → (((decide ((↑(UInt8.toNat (nthB s x_0)) : Int) > (57 : Int))) = true → ((((↑(UInt8.toNat (nthB s x_0)) : Int) != (95 : Int)) = true → (Err.no (3 : Int) = errNo (nameFault s))) ∧ (((↑(UInt8.toNat (nthB s x_0)) : Int) != (95 : Int)) = false → ((I64 (↑x_0 : Int)) → ((I64 (1 : Int)) → (I64 ((↑x_0 : Int) + (1 : Int))) ∧
    (∃ (x' : Nat), (x' ≤ List.length s ∧ ∀ (j : Nat), j < x' → badAt j (nthB s j) = false) ∧ List.length s - x' < List.length s - x_0 ∧ ((↑x_0 : Int) + (1 : Int) = (↑x' : Int) ∧ True) ∧ True)))))) ∧ ((decide ((↑(UInt8.toNat (nthB s x_0)) : Int) > (57 : Int))) = false → ((I64 (↑x_0 : Int)) → ((I64 (1 : Int)) → (I64 ((↑x_0 : Int) + (1 : Int))) ∧
    (∃ (x' : Nat), (x' ≤ List.length s ∧ ∀ (j : Nat), j < x' → badAt j (nthB s j) = false) ∧ List.length s - x' < List.length s - x_0 ∧ ((↑x_0 : Int) + (1 : Int) = (↑x' : Int) ∧ True) ∧ True)))))))))) ∧ ((decide ((↑(UInt8.toNat (nthB s x_0)) : Int) > (122 : Int))) = false → ((I64 (↑x_0 : Int)) → ((I64 (1 : Int)) → (I64 ((↑x_0 : Int) + (1 : Int))) ∧
    (∃ (x' : Nat), (x' ≤ List.length s ∧ ∀ (j : Nat), j < x' → badAt j (nthB s j) = false) ∧ List.length s - x' < List.length s - x_0 ∧ ((↑x_0 : Int) + (1 : Int) = (↑x' : Int) ∧ True) ∧ True)))))))) ∧ ((decide ((↑x_0 : Int) < (↑(List.length s) : Int))) = false → (Err.nil = errNo (nameFault s))))))))))))) (by kernel_rfl) ?_
  refine ⟨fun h0 => ?_, fun h0 => ?_⟩
  · try simp only [bl, reduceCtorEq] at h0
    rw [nameFault_one (by first | omega | simp [h0])]; rfl
  · try simp only [bl, reduceCtorEq] at h0
    intro h1
    refine ⟨fun h2 => ?_, fun h2 => ?_⟩
    · try simp only [bl, reduceCtorEq] at h2
      rw [nameFault_one (by first | omega | simp [h0])]; rfl
    · try simp only [bl, reduceCtorEq] at h2
      intro h3
      refine ⟨?_, ?_⟩
      · exact ⟨0, ⟨by omega, fun j hj => by omega⟩, ⟨rfl, trivial⟩, trivial⟩
      intro x_0 q_0
      refine ⟨fun h4 => ?_, fun h4 => ?_⟩
      · try simp only [bl, reduceCtorEq] at h4
        refine ⟨?_, ?_⟩
        · first | trivial | omega | (dsimp only [D] at *; omega) | (simp only [I64, big] at *; omega) | (simp_all; done)
        refine ⟨fun h5 => ?_, fun h5 => ?_⟩
        · try simp only [bl, reduceCtorEq] at h5
          refine ⟨fun h6 => ?_, fun h6 => ?_⟩
          · try simp only [bl, reduceCtorEq] at h6
            have hl : s.length ≠ 0 := fun e => h0 (List.length_eq_zero_iff.1 e)
            rw [nameFault_three (i := x_0) (by omega) (by omega) (badAt_iff.2 (by omega))]; rfl
          · try simp only [bl, reduceCtorEq] at h6
            refine ⟨fun h7 => ?_, fun h7 => ?_⟩
            · try simp only [bl, reduceCtorEq] at h7
              refine ⟨fun h8 => ?_, fun h8 => ?_⟩
              · try simp only [bl, reduceCtorEq] at h8
                have hl : s.length ≠ 0 := fun e => h0 (List.length_eq_zero_iff.1 e)
                rw [nameFault_three (i := x_0) (by omega) (by omega) (badAt_iff.2 (by omega))]; rfl
              · try simp only [bl, reduceCtorEq] at h8
                intro h9
                intro h10
                refine ⟨?_, ?_⟩
                · first | trivial | omega | (dsimp only [D] at *; omega) | (simp only [I64, big] at *; omega) | (simp_all; done)
                exact ⟨x_0 + 1, ⟨by omega, bad_next q_0.2 (badAt_false.2 (by omega))⟩, by omega, ⟨by omega, trivial⟩, trivial⟩
            · try simp only [bl, reduceCtorEq] at h7
              refine ⟨fun h8 => ?_, fun h8 => ?_⟩
              · try simp only [bl, reduceCtorEq] at h8
                refine ⟨fun h9 => ?_, fun h9 => ?_⟩
                · try simp only [bl, reduceCtorEq] at h9
                  have hl : s.length ≠ 0 := fun e => h0 (List.length_eq_zero_iff.1 e)
                  rw [nameFault_three (i := x_0) (by omega) (by omega) (badAt_iff.2 (by omega))]; rfl
                · try simp only [bl, reduceCtorEq] at h9
                  intro h10
                  intro h11
                  refine ⟨?_, ?_⟩
                  · first | trivial | omega | (dsimp only [D] at *; omega) | (simp only [I64, big] at *; omega) | (simp_all; done)
                  exact ⟨x_0 + 1, ⟨by omega, bad_next q_0.2 (badAt_false.2 (by omega))⟩, by omega, ⟨by omega, trivial⟩, trivial⟩
              · try simp only [bl, reduceCtorEq] at h8
                intro h9
                intro h10
                refine ⟨?_, ?_⟩
                · first | trivial | omega | (dsimp only [D] at *; omega) | (simp only [I64, big] at *; omega) | (simp_all; done)
                exact ⟨x_0 + 1, ⟨by omega, bad_next q_0.2 (badAt_false.2 (by omega))⟩, by omega, ⟨by omega, trivial⟩, trivial⟩
        · try simp only [bl, reduceCtorEq] at h5
          refine ⟨fun h6 => ?_, fun h6 => ?_⟩
          · try simp only [bl, reduceCtorEq] at h6
            refine ⟨fun h7 => ?_, fun h7 => ?_⟩
            · try simp only [bl, reduceCtorEq] at h7
              have hl : s.length ≠ 0 := fun e => h0 (List.length_eq_zero_iff.1 e)
              rw [nameFault_three (i := x_0) (by omega) (by omega) (badAt_iff.2 (by omega))]; rfl
            · try simp only [bl, reduceCtorEq] at h7
              refine ⟨fun h8 => ?_, fun h8 => ?_⟩
              · try simp only [bl, reduceCtorEq] at h8
                refine ⟨fun h9 => ?_, fun h9 => ?_⟩
                · try simp only [bl, reduceCtorEq] at h9
                  have hl : s.length ≠ 0 := fun e => h0 (List.length_eq_zero_iff.1 e)
                  rw [nameFault_three (i := x_0) (by omega) (by omega) (badAt_iff.2 (by omega))]; rfl
                · try simp only [bl, reduceCtorEq] at h9
                  intro h10
                  intro h11
                  refine ⟨?_, ?_⟩
                  · first | trivial | omega | (dsimp only [D] at *; omega) | (simp only [I64, big] at *; omega) | (simp_all; done)
                  exact ⟨x_0 + 1, ⟨by omega, bad_next q_0.2 (badAt_false.2 (by omega))⟩, by omega, ⟨by omega, trivial⟩, trivial⟩
              · try simp only [bl, reduceCtorEq] at h8
                refine ⟨fun h9 => ?_, fun h9 => ?_⟩
                · try simp only [bl, reduceCtorEq] at h9
                  refine ⟨fun h10 => ?_, fun h10 => ?_⟩
                  · try simp only [bl, reduceCtorEq] at h10
                    have hl : s.length ≠ 0 := fun e => h0 (List.length_eq_zero_iff.1 e)
                    rw [nameFault_three (i := x_0) (by omega) (by omega) (badAt_iff.2 (by omega))]; rfl
                  · try simp only [bl, reduceCtorEq] at h10
                    intro h11
                    intro h12
                    refine ⟨?_, ?_⟩
                    · first | trivial | omega | (dsimp only [D] at *; omega) | (simp only [I64, big] at *; omega) | (simp_all; done)
                    exact ⟨x_0 + 1, ⟨by omega, bad_next q_0.2 (badAt_false.2 (by omega))⟩, by omega, ⟨by omega, trivial⟩, trivial⟩
                · try simp only [bl, reduceCtorEq] at h9
                  intro h10
                  intro h11
                  refine ⟨?_, ?_⟩
                  · first | trivial | omega | (dsimp only [D] at *; omega) | (simp only [I64, big] at *; omega) | (simp_all; done)
                  exact ⟨x_0 + 1, ⟨by omega, bad_next q_0.2 (badAt_false.2 (by omega))⟩, by omega, ⟨by omega, trivial⟩, trivial⟩
          · try simp only [bl, reduceCtorEq] at h6
            intro h7
            intro h8
            refine ⟨?_, ?_⟩
            · first | trivial | omega | (dsimp only [D] at *; omega) | (simp only [I64, big] at *; omega) | (simp_all; done)
            exact ⟨x_0 + 1, ⟨by omega, bad_next q_0.2 (badAt_false.2 (by omega))⟩, by omega, ⟨by omega, trivial⟩, trivial⟩
      · try simp only [bl, reduceCtorEq] at h4
        have hl : s.length ≠ 0 := fun e => h0 (List.length_eq_zero_iff.1 e)
        rw [nameFault_zero (by omega) (fun i hi => q_0.2 i (by omega))]; rfl
theorem Tryd.ok_Check : PureOK Tryd.prog Tryd.B.eT 24 [.str] [.err] (fun _ => True) (fun x y => y = (fun s => errNo (nameFault s)) x) :=
  pure_fn (X := noExt) (ctx0 Tryd.tyOK) Tryd.func24 (by kernel_rfl) (fun x => checkAnn x) (fun x hw hp => vc_Check x hw)
set_option maxRecDepth 100000 in
set_option maxHeartbeats 4000000 in
theorem vc_NameFault (s : List UInt8) (hw : wfL [.str] s) : (fnVCs Tryd.B [] Tryd.f18 (faultAnn s) [.str] [.int .i64] (fun x y => y = (fun s => nameFault s) x) s).holds := by
  refine holds_of (p :=
    ((List.length s ≤ big) → (((decide ((↑(List.length s) : Int) < (1 : Int))) = true → ((1 : Int) = nameFault s)) ∧ ((decide ((↑(List.length s) : Int) < (1 : Int))) = false → ((List.length s ≤ big) → (((decide ((↑(List.length s) : Int) > (8 : Int))) = true → ((1 : Int) = nameFault s)) ∧ ((decide ((↑(List.length s) : Int) > (8 : Int))) = false →
    (∃ (x : Nat), (x ≤ List.length s ∧ ∀ (j : Nat), j < x → badAt j (nthB s j) = false) ∧ ((0 : Int) = (↑x : Int) ∧ True) ∧ True) ∧ (∀ x_0 : Nat, ((x_0 ≤ List.length s ∧ ∀ (j : Nat), j < x_0 → badAt j (nthB s j) = false) → ((List.length s ≤ big) → (((decide ((↑x_0 : Int) < (↑(List.length s) : Int))) = true → ((0 : Int) ≤ (↑x_0 : Int) ∧ (↑x_0 : Int) < (↑(List.length s) : Int)) ∧ (((decide ((↑(UInt8.toNat (nthB s x_0)) : Int) ≥ (97 : Int))) = true → ((0 : Int) ≤ (↑x_0 : Int) ∧ (↑x_0 : Int) < (↑(List.length s) : Int)) ∧ ((0 : Int) ≤ (↑x_0 : Int) ∧ (↑x_0 : Int) < (↑(List.length s) : Int)) ∧ (((decide ((↑(UInt8.toNat (nthB s x_0)) : Int) ≥ (48 : Int))) = true → ((0 : Int) ≤ (↑x_0 : Int) ∧ (↑x_0 : Int) < (↑(List.length s) : Int)) ∧ (((decide ((↑(UInt8.toNat (nthB s x_0)) : Int) ≤ (57 : Int))) = true → (((!decide ((↑(UInt8.toNat (nthB s x_0)) : Int) ≤ (122 : Int))) = true → ((((↑x_0 : Int) == (0 : Int)) = true → ((3 : Int) = nameFault s)) ∧ (((↑x_0 : Int) == (0 : Int)) = false → ((I64 (↑x_0 : Int)) → ((I64 (1 : Int)) → (I64 ((↑x_0 : Int) + (1 : Int))) ∧
    (∃ (x' : Nat), (x' ≤ List.length s ∧ ∀ (j : Nat), j < x' → badAt j (nthB s j) = false) ∧ List.length s - x' < List.length s - x_0 ∧ ((↑x_0 : Int) + (1 : Int) = (↑x' : Int) ∧ True) ∧ True)))))) ∧ ((!decide ((↑(UInt8.toNat (nthB s x_0)) : Int) ≤ (122 : Int))) = false → ((I64 (↑x_0 : Int)) → ((I64 (1 : Int)) → (I64 ((↑x_0 : Int) + (1 : Int))) ∧
    (∃ (x' : Nat), (x' ≤ List.length s ∧ ∀ (j : Nat), j < x' → badAt j (nthB s j) = false) ∧ List.length s - x' < List.length s - x_0 ∧ ((↑x_0 : Int) + (1 : Int) = (↑x' : Int) ∧ True) ∧ True)))))) ∧ ((decide ((↑(UInt8.toNat (nthB s x_0)) : Int) ≤ (57 : Int))) = false → ((0 : Int) ≤ (↑x_0 : Int) ∧ (↑x_0 : Int) < (↑(List.length s) : Int)) ∧ (((!decide ((↑(UInt8.toNat (nthB s x_0)) : Int) ≤ (122 : Int))) = true → ((((↑x_0 : Int) == (0 : Int)) = true → ((3 : Int) = nameFault s)) ∧ (((↑x_0 : Int) == (0 : Int)) = false → (((!(↑(UInt8.toNat (nthB s x_0)) : Int) == (95 : Int)) = true → ((3 : Int) = nameFault s)) ∧ ((!(↑(UInt8.toNat (nthB s x_0)) : Int) == (95 : Int)) = false → ((I64 (↑x_0 : Int)) → ((I64 (1 : Int)) → (I64 ((↑x_0 : Int) + (1 : Int))) ∧
    (∃ (x' : Nat), (x' ≤ List.length s ∧ ∀ (j : Nat), j < x' → badAt j (nthB s j) = false) ∧ List.length s - x' < List.length s - x_0 ∧ ((↑x_0 : Int) + (1 : Int) = (↑x' : Int) ∧ True) ∧ True)))))))) ∧ ((!decide ((↑(UInt8.toNat (nthB s x_0)) : Int) ≤ (122 : Int))) = false → ((I64 (↑x_0 : Int)) → ((I64 (1 : Int)) → (I64 ((↑x_0 : Int) + (1 : Int))) ∧
    (∃ (x' : Nat), (x' ≤ List.length s ∧ ∀ (j : Nat), j < x' → badAt j (nthB s j) = false) ∧ List.length s - x' < List.length s - x_0 ∧ ((↑x_0 : Int) + (1 : Int) = (↑x' : Int) ∧ True) ∧ True)))))))) ∧ ((decide ((↑(UInt8.toNat (nthB s x_0)) : Int) ≥ (48 : Int))) = false → ((0 : Int) ≤ (↑x_0 : Int) ∧ (↑x_0 : Int) < (↑(List.length s) : Int)) ∧ (((!decide ((↑(UInt8.toNat (nthB s x_0)) : Int) ≤ (122 : Int))) = true → ((((↑x_0 : Int) == (0 : Int)) = true → ((3 : Int) = nameFault s)) ∧ (((↑x_0 : Int) == (0 : Int)) = false → (((!(↑(UInt8.toNat (nthB s x_0)) : Int) == (95 : Int)) = true → ((3 : Int) = nameFault s)) ∧ ((!(↑(UInt8.toNat (nthB s x_0)) : Int) == (95 : Int)) = false → ((I64 (↑x_0 : Int)) → ((I64 (1 : Int)) → (I64 ((↑x_0 : Int) + (1 : Int))) ∧
    (∃ (x' : Nat), (x' ≤ List.length s ∧ ∀ (j : Nat), j < x' → badAt j (nthB s j) = false) ∧ List.length s - x' < List.length s - x_0 ∧ ((↑x_0 : Int) + (1 : Int) = (↑x' : Int) ∧ True) ∧ True)))))))) ∧ ((!decide ((↑(UInt8.toNat (nthB s x_0)) : Int) ≤ (122 : Int))) = false → ((I64 (↑x_0 : Int)) → ((I64 (1 : Int)) → (I64 ((↑x_0 : Int) + (1 : Int))) ∧
    (∃ (x' : Nat), (x' ≤ List.length s ∧ ∀ (j : Nat), j < x' → badAt j (nthB s j) = false) ∧ List.length s - x' < List.length s - x_0 ∧ ((↑x_0 : Int) + (1 : Int) = (↑x' : Int) ∧ True) ∧ True)))))))) ∧ ((decide ((↑(UInt8.toNat (nthB s x_0)) : Int) ≥ (97 : Int))) = false → ((0 : Int) ≤ (↑x_0 : Int) ∧ (↑x_0 : Int) < (↑(List.length s) : Int)) ∧ (((decide ((↑(UInt8.toNat (nthB s x_0)) : Int) ≥ (48 : Int))) = true → ((0 : Int) ≤ (↑x_0 : Int) ∧ (↑x_0 : Int) < (↑(List.length s) : Int)) ∧ (((decide ((↑(UInt8.toNat (nthB s x_0)) : Int) ≤ (57 : Int))) = true → ((((↑x_0 : Int) == (0 : Int)) = true → ((3 : Int) = nameFault s)) ∧ (((↑x_0 : Int) == (0 : Int)) = false → ((I64 (↑x_0 : Int)) → ((I64 (1 : Int)) → (I64 ((↑x_0 : Int) + (1 : Int))) ∧
    (∃ (x' : Nat), (x' ≤ List.length s ∧ ∀ (j : Nat), j < x' → badAt j (nthB s j) = false) ∧ List.length s - x' < List.length s - x_0 ∧ ((↑x_0 : Int) + (1 : Int) = (↑x' : Int) ∧ True) ∧ True)))))) ∧ ((decide ((↑(UInt8.toNat (nthB s x_0)) : Int) ≤ (57 : Int))) = false → ((0 : Int) ≤ (↑x_0 : Int) ∧ (↑x_0 : Int) < (↑(List.length s) : Int)) ∧ ((((↑x_0 : Int) == (0 : Int)) = true → ((3 : Int) = nameFault s)) ∧ (((↑x_0 : Int) == (0 : Int)) = false → (((!(↑(UInt8.toNat (nthB s x_0)) : Int) == (95 : Int)) = true → ((3 : Int) = nameFault s)) ∧ ((!(↑(UInt8.toNat (nthB s x_0)) : Int) == (95 : Int)) = false → ((I64 (↑x_0 : Int)) → ((I64 (1 : Int)) → (I64 ((↑x_0 : Int) + (1 : Int))) ∧
    (∃ (x' : Nat), (x' ≤ List.length s ∧ ∀ (j : Nat), j < x' → badAt j (nthB s j) = false) ∧ List.length s - x' < List.length s - x_0 ∧ ((↑x_0 : Int) + (1 : Int) = (↑x' : Int) ∧ True) ∧ True)))))))))) ∧ ((decide ((↑(UInt8.toNat (nthB s x_0)) : Int) ≥ (48 : Int))) = false → ((0 : Int) ≤ (↑x_0 : Int) ∧ (↑x_0 : Int) < (↑(List.length s) : Int)) ∧ ((((↑x_0 : Int) == (0 : Int)) = true → ((3 : Int) = nameFault s)) ∧ (((↑x_0 : Int) == (0 : Int)) = false → (((!(↑(UInt8.toNat (nthB s x_0)) : Int) == (95 : Int)) = true → ((3 : Int) = nameFault s)) ∧ ((!(↑(UInt8.toNat (nthB s x_0)) : Int) == (95 : Int)) = false → ((I64 (↑x_0 : Int)) → ((I64 (1 : Int)) → (I64 ((↑x_0 : Int) + (1 : Int))) ∧
    (∃ (x' : Nat), (x' ≤ List.length s ∧ ∀ (j : Nat), j < x' → badAt j (nthB s j) = false) ∧ List.length s - x' < List.length s - x_0 ∧ ((↑x_0 : Int) + (1 : Int) = (↑x' : Int) ∧ True) ∧ True)))))))))))) ∧ ((decide ((↑x_0 : Int) < (↑(List.length s) : Int))) = false → ((0 : Int) = nameFault s))))))))))))) (by kernel_rfl) ?_
  intro h0
  refine ⟨fun h1 => ?_, fun h1 => ?_⟩
  · try simp only [bl, reduceCtorEq] at h1
    rw [nameFault_one (by omega)]
  · try simp only [bl, reduceCtorEq] at h1
    intro h2
    refine ⟨fun h3 => ?_, fun h3 => ?_⟩
    · try simp only [bl, reduceCtorEq] at h3
      rw [nameFault_one (by omega)]
    · try simp only [bl, reduceCtorEq] at h3
      refine ⟨?_, ?_⟩
      · exact ⟨0, ⟨by omega, fun j hj => by omega⟩, ⟨rfl, trivial⟩, trivial⟩
      intro x_0 q_0
      intro h4
      refine ⟨fun h5 => ?_, fun h5 => ?_⟩
      · try simp only [bl, reduceCtorEq] at h5
        refine ⟨?_, ?_⟩
        · first | trivial | omega | (dsimp only [D] at *; omega) | (simp only [I64, big] at *; omega) | (simp_all; done)
        refine ⟨fun h6 => ?_, fun h6 => ?_⟩
        · try simp only [bl, reduceCtorEq] at h6
          refine ⟨?_, ?_⟩
          · first | trivial | omega | (dsimp only [D] at *; omega) | (simp only [I64, big] at *; omega) | (simp_all; done)
          refine ⟨?_, ?_⟩
          · first | trivial | omega | (dsimp only [D] at *; omega) | (simp only [I64, big] at *; omega) | (simp_all; done)
          refine ⟨fun h7 => ?_, fun h7 => ?_⟩
          · try simp only [bl, reduceCtorEq] at h7
            refine ⟨?_, ?_⟩
            · first | trivial | omega | (dsimp only [D] at *; omega) | (simp only [I64, big] at *; omega) | (simp_all; done)
            refine ⟨fun h8 => ?_, fun h8 => ?_⟩
            · try simp only [bl, reduceCtorEq] at h8
              refine ⟨fun h9 => ?_, fun h9 => ?_⟩
              · try simp only [bl, reduceCtorEq] at h9
                refine ⟨fun h10 => ?_, fun h10 => ?_⟩
                · try simp only [bl, reduceCtorEq] at h10
                  rw [nameFault_three (i := x_0) (by omega) (by omega) (badAt_iff.2 (by omega))]
                · try simp only [bl, reduceCtorEq] at h10
                  intro h11
                  intro h12
                  refine ⟨?_, ?_⟩
                  · first | trivial | omega | (dsimp only [D] at *; omega) | (simp only [I64, big] at *; omega) | (simp_all; done)
                  exact ⟨x_0 + 1, ⟨by omega, bad_next q_0.2 (badAt_false.2 (by omega))⟩, by omega, ⟨by omega, trivial⟩, trivial⟩
              · try simp only [bl, reduceCtorEq] at h9
                intro h10
                intro h11
                refine ⟨?_, ?_⟩
                · first | trivial | omega | (dsimp only [D] at *; omega) | (simp only [I64, big] at *; omega) | (simp_all; done)
                exact ⟨x_0 + 1, ⟨by omega, bad_next q_0.2 (badAt_false.2 (by omega))⟩, by omega, ⟨by omega, trivial⟩, trivial⟩
            · try simp only [bl, reduceCtorEq] at h8
              refine ⟨?_, ?_⟩
              · first | trivial | omega | (dsimp only [D] at *; omega) | (simp only [I64, big] at *; omega) | (simp_all; done)
              refine ⟨fun h9 => ?_, fun h9 => ?_⟩
              · try simp only [bl, reduceCtorEq] at h9
                refine ⟨fun h10 => ?_, fun h10 => ?_⟩
                · try simp only [bl, reduceCtorEq] at h10
                  rw [nameFault_three (i := x_0) (by omega) (by omega) (badAt_iff.2 (by omega))]
                · try simp only [bl, reduceCtorEq] at h10
                  refine ⟨fun h11 => ?_, fun h11 => ?_⟩
                  · try simp only [bl, reduceCtorEq] at h11
                    rw [nameFault_three (i := x_0) (by omega) (by omega) (badAt_iff.2 (by omega))]
                  · try simp only [bl, reduceCtorEq] at h11
                    intro h12
                    intro h13
                    refine ⟨?_, ?_⟩
                    · first | trivial | omega | (dsimp only [D] at *; omega) | (simp only [I64, big] at *; omega) | (simp_all; done)
                    exact ⟨x_0 + 1, ⟨by omega, bad_next q_0.2 (badAt_false.2 (by omega))⟩, by omega, ⟨by omega, trivial⟩, trivial⟩
              · try simp only [bl, reduceCtorEq] at h9
                intro h10
                intro h11
                refine ⟨?_, ?_⟩
                · first | trivial | omega | (dsimp only [D] at *; omega) | (simp only [I64, big] at *; omega) | (simp_all; done)
                exact ⟨x_0 + 1, ⟨by omega, bad_next q_0.2 (badAt_false.2 (by omega))⟩, by omega, ⟨by omega, trivial⟩, trivial⟩
          · try simp only [bl, reduceCtorEq] at h7
            refine ⟨?_, ?_⟩
            · first | trivial | omega | (dsimp only [D] at *; omega) | (simp only [I64, big] at *; omega) | (simp_all; done)
            refine ⟨fun h8 => ?_, fun h8 => ?_⟩
            · try simp only [bl, reduceCtorEq] at h8
              refine ⟨fun h9 => ?_, fun h9 => ?_⟩
              · try simp only [bl, reduceCtorEq] at h9
                rw [nameFault_three (i := x_0) (by omega) (by omega) (badAt_iff.2 (by omega))]
              · try simp only [bl, reduceCtorEq] at h9
                refine ⟨fun h10 => ?_, fun h10 => ?_⟩
                · try simp only [bl, reduceCtorEq] at h10
                  rw [nameFault_three (i := x_0) (by omega) (by omega) (badAt_iff.2 (by omega))]
                · try simp only [bl, reduceCtorEq] at h10
                  intro h11
                  intro h12
                  refine ⟨?_, ?_⟩
                  · first | trivial | omega | (dsimp only [D] at *; omega) | (simp only [I64, big] at *; omega) | (simp_all; done)
                  exact ⟨x_0 + 1, ⟨by omega, bad_next q_0.2 (badAt_false.2 (by omega))⟩, by omega, ⟨by omega, trivial⟩, trivial⟩
            · try simp only [bl, reduceCtorEq] at h8
              intro h9
              intro h10
              refine ⟨?_, ?_⟩
              · first | trivial | omega | (dsimp only [D] at *; omega) | (simp only [I64, big] at *; omega) | (simp_all; done)
              exact ⟨x_0 + 1, ⟨by omega, bad_next q_0.2 (badAt_false.2 (by omega))⟩, by omega, ⟨by omega, trivial⟩, trivial⟩
        · try simp only [bl, reduceCtorEq] at h6
          refine ⟨?_, ?_⟩
          · first | trivial | omega | (dsimp only [D] at *; omega) | (simp only [I64, big] at *; omega) | (simp_all; done)
          refine ⟨fun h7 => ?_, fun h7 => ?_⟩
          · try simp only [bl, reduceCtorEq] at h7
            refine ⟨?_, ?_⟩
            · first | trivial | omega | (dsimp only [D] at *; omega) | (simp only [I64, big] at *; omega) | (simp_all; done)
            refine ⟨fun h8 => ?_, fun h8 => ?_⟩
            · try simp only [bl, reduceCtorEq] at h8
              refine ⟨fun h9 => ?_, fun h9 => ?_⟩
              · try simp only [bl, reduceCtorEq] at h9
                rw [nameFault_three (i := x_0) (by omega) (by omega) (badAt_iff.2 (by omega))]
              · try simp only [bl, reduceCtorEq] at h9
                intro h10
                intro h11
                refine ⟨?_, ?_⟩
                · first | trivial | omega | (dsimp only [D] at *; omega) | (simp only [I64, big] at *; omega) | (simp_all; done)
                exact ⟨x_0 + 1, ⟨by omega, bad_next q_0.2 (badAt_false.2 (by omega))⟩, by omega, ⟨by omega, trivial⟩, trivial⟩
            · try simp only [bl, reduceCtorEq] at h8
              refine ⟨?_, ?_⟩
              · first | trivial | omega | (dsimp only [D] at *; omega) | (simp only [I64, big] at *; omega) | (simp_all; done)
              refine ⟨fun h9 => ?_, fun h9 => ?_⟩
              · try simp only [bl, reduceCtorEq] at h9
                rw [nameFault_three (i := x_0) (by omega) (by omega) (badAt_iff.2 (by omega))]
              · try simp only [bl, reduceCtorEq] at h9
                refine ⟨fun h10 => ?_, fun h10 => ?_⟩
                · try simp only [bl, reduceCtorEq] at h10
                  rw [nameFault_three (i := x_0) (by omega) (by omega) (badAt_iff.2 (by omega))]
                · try simp only [bl, reduceCtorEq] at h10
                  intro h11
                  intro h12
                  refine ⟨?_, ?_⟩
                  · first | trivial | omega | (dsimp only [D] at *; omega) | (simp only [I64, big] at *; omega) | (simp_all; done)
                  exact ⟨x_0 + 1, ⟨by omega, bad_next q_0.2 (badAt_false.2 (by omega))⟩, by omega, ⟨by omega, trivial⟩, trivial⟩
          · try simp only [bl, reduceCtorEq] at h7
            refine ⟨?_, ?_⟩
            · first | trivial | omega | (dsimp only [D] at *; omega) | (simp only [I64, big] at *; omega) | (simp_all; done)
            refine ⟨fun h8 => ?_, fun h8 => ?_⟩
            · try simp only [bl, reduceCtorEq] at h8
              rw [nameFault_three (i := x_0) (by omega) (by omega) (badAt_iff.2 (by omega))]
            · try simp only [bl, reduceCtorEq] at h8
              refine ⟨fun h9 => ?_, fun h9 => ?_⟩
              · try simp only [bl, reduceCtorEq] at h9
                rw [nameFault_three (i := x_0) (by omega) (by omega) (badAt_iff.2 (by omega))]
              · try simp only [bl, reduceCtorEq] at h9
                intro h10
                intro h11
                refine ⟨?_, ?_⟩
                · first | trivial | omega | (dsimp only [D] at *; omega) | (simp only [I64, big] at *; omega) | (simp_all; done)
                exact ⟨x_0 + 1, ⟨by omega, bad_next q_0.2 (badAt_false.2 (by omega))⟩, by omega, ⟨by omega, trivial⟩, trivial⟩
      · try simp only [bl, reduceCtorEq] at h5
        rw [nameFault_zero (by omega) (fun i hi => q_0.2 i (by omega))]
theorem Tryd.ok_NameFault : PureOK Tryd.prog Tryd.B.eT 18 [.str] [.int .i64] (fun _ => True) (fun x y => y = (fun s => nameFault s) x) :=
  pure_fn (X := noExt) (ctx0 Tryd.tyOK) Tryd.func18 (by kernel_rfl) (fun x => faultAnn x) (fun x hw hp => vc_NameFault x hw)
set_option maxRecDepth 100000 in
set_option maxHeartbeats 4000000 in
theorem vc_same (e : Err) (n : Int) (hw : wfL [.err, .int .i64] (e, n)) : (fnVCs Tryd.B [] Tryd.f5 [] [.err, .int .i64] [.bool] (fun x y => y = (fun x => sameE x.1 x.2) x) (e, n)).holds := by
  refine holds_of (p :=
    (((Err.isNil e) = true → ((n == (0 : Int)) = sameE e n)) ∧ ((Err.isNil e) = false → (((Err.isNo e) = true → (((decide (n > (0 : Int))) = true → ((Err.num e == n) = sameE e n)) ∧ ((decide (n > (0 : Int))) = false → (false = sameE e n)))) ∧ ((Err.isNo e) = false → (false = sameE e n)))))) (by kernel_rfl) ?_
  refine ⟨fun h0 => ?_, fun h0 => ?_⟩
  · try simp only [bl, reduceCtorEq] at h0
    cases e <;> simp_all [Err.isNil, Err.isNo, Err.num, sameE] <;> omega
  · try simp only [bl, reduceCtorEq] at h0
    refine ⟨fun h1 => ?_, fun h1 => ?_⟩
    · try simp only [bl, reduceCtorEq] at h1
      refine ⟨fun h2 => ?_, fun h2 => ?_⟩
      · try simp only [bl, reduceCtorEq] at h2
        cases e <;> simp_all [Err.isNil, Err.isNo, Err.num, sameE] <;> omega
      · try simp only [bl, reduceCtorEq] at h2
        cases e <;> simp_all [Err.isNil, Err.isNo, Err.num, sameE] <;> omega
    · try simp only [bl, reduceCtorEq] at h1
      cases e <;> simp_all [Err.isNil, Err.isNo, Err.num, sameE] <;> omega
theorem Tryd.ok_same : PureOK Tryd.prog Tryd.B.eT 5 [.err, .int .i64] [.bool] (fun _ => True) (fun x y => y = (fun x => sameE x.1 x.2) x) :=
  pure_fn (X := noExt) (ctx0 Tryd.tyOK) Tryd.func5 (by kernel_rfl) (fun _ => []) (fun x hw hp => vc_same x.1 x.2 hw)
noncomputable def Tryd.nameCtx : List (FuncId × (Bool × CSpec)) := [(24, (true, funSpec [.str] [.err] (fun _ => True) (fun s => errNo (nameFault s)))),
  (18, (true, funSpec [.str] [.int .i64] (fun _ => True) (fun s => nameFault s))),
  (5, (true, funSpec [.err, .int .i64] [.bool] (fun _ => True) (fun x => sameE x.1 x.2)))]
theorem Tryd.nameCtxOK {X : Ext} : CtxOK Tryd.prog Tryd.B X Tryd.nameCtx :=
  ctx1 (callOK_of_fun Tryd.ok_Check) (ctx1 (callOK_of_fun Tryd.ok_NameFault) (ctx1 (callOK_of_fun Tryd.ok_same) (ctx0 Tryd.tyOK)))
end Go.Proofs.YtgokjhhcfemnhaaDoor
namespace Go.Proofs.YtgokjhhcfemnhaaDoor
open Go.Vg Go.Mrl
/-! Lists that are held against each other. -/
def sameNAnn (a : List Int) (b : List Int) : Anns := [(0, fun st => { X := Nat, inv := fun i => i ≤ a.length ∧ ∀ j, j < i → nth (.int .i64) a j = nth (.int .i64) b j, meas := fun i => a.length - i, slots := fun i => [(5, sI i)], keep := [0, 1] })]
set_option maxRecDepth 100000 in
set_option maxHeartbeats 4000000 in
theorem vc_SameNumbers (a : List Int) (b : List Int) (hw : wfL [.slice (.int .i64), .slice (.int .i64)] (a, b)) : (fnVCs Tryd.B [] Tryd.f6 (sameNAnn a b) [.slice (.int .i64), .slice (.int .i64)] [.bool] (fun x y => y = (fun x => sameI x.1 x.2) x) (a, b)).holds := by
  refine holds_of (p :=
    ((List.length a ≤ big) → ((List.length b ≤ big) → ((((↑(List.length a) : Int) != (↑(List.length b) : Int)) = true → (false = sameI a b)) ∧ (((↑(List.length a) : Int) != (↑(List.length b) : Int)) = false →
    (∃ (x : Nat), (x ≤ List.length a ∧ ∀ (j : Nat), j < x → nth (Ty.int IntKind.i64) a j = nth (Ty.int IntKind.i64) b j) ∧ ((0 : Int) = (↑x : Int) ∧ True) ∧ True) ∧ (∀ x_0 : Nat, ((x_0 ≤ List.length a ∧ ∀ (j : Nat), j < x_0 → nth (Ty.int IntKind.i64) a j = nth (Ty.int IntKind.i64) b j) → ((List.length a ≤ big) → (((decide ((↑x_0 : Int) < (↑(List.length a) : Int))) = true → ((0 : Int) ≤ (↑x_0 : Int) ∧ (↑x_0 : Int) < (↑(List.length a) : Int)) ∧ ((0 : Int) ≤ (↑x_0 : Int) ∧ (↑x_0 : Int) < (↑(List.length b) : Int)) ∧ (((nth (Ty.int IntKind.i64) a x_0 != nth (Ty.int IntKind.i64) b x_0) = true → (false = sameI a b)) ∧ ((nth (Ty.int IntKind.i64) a x_0 != nth (Ty.int IntKind.i64) b x_0) = false → ((I64 (↑x_0 : Int)) → ((I64 (1 : Int)) → (I64 ((↑x_0 : Int) + (1 : Int))) ∧
    (∃ (x' : Nat), (x' ≤ List.length a ∧ ∀ (j : Nat), j < x' → nth (Ty.int IntKind.i64) a j = nth (Ty.int IntKind.i64) b j) ∧ List.length a - x' < List.length a - x_0 ∧ ((↑x_0 : Int) + (1 : Int) = (↑x' : Int) ∧ True) ∧ True)))))) ∧ ((decide ((↑x_0 : Int) < (↑(List.length a) : Int))) = false → (true = sameI a b))))))))))) (by kernel_rfl) ?_
  intro h0
  intro h1
  refine ⟨fun h2 => ?_, fun h2 => ?_⟩
  · try simp only [bl, reduceCtorEq] at h2
    exact sameI_len (by assumption)
  · try simp only [bl, reduceCtorEq] at h2
    refine ⟨?_, ?_⟩
    · exact ⟨0, ⟨by omega, fun j hj => by omega⟩, ⟨rfl, trivial⟩, trivial⟩
    intro x_0 q_0
    intro h3
    refine ⟨fun h4 => ?_, fun h4 => ?_⟩
    · try simp only [bl, reduceCtorEq] at h4
      refine ⟨?_, ?_⟩
      · first | trivial | omega | (dsimp only [D] at *; omega) | (simp only [I64, big] at *; omega) | (simp_all; done)
      refine ⟨?_, ?_⟩
      · first | trivial | omega | (dsimp only [D] at *; omega) | (simp only [I64, big] at *; omega) | (simp_all; done)
      refine ⟨fun h5 => ?_, fun h5 => ?_⟩
      · try simp only [bl, reduceCtorEq] at h5
        exact sameI_at (i := x_0) (by assumption)
      · try simp only [bl, reduceCtorEq] at h5
        intro h6
        intro h7
        refine ⟨?_, ?_⟩
        · first | trivial | omega | (dsimp only [D] at *; omega) | (simp only [I64, big] at *; omega) | (simp_all; done)
        exact ⟨x_0 + 1, ⟨by omega, upto_next q_0.2 (by assumption)⟩, by omega, ⟨by omega, trivial⟩, (by repeat' (first | exact trivial | rfl | apply And.intro))⟩
    · try simp only [bl, reduceCtorEq] at h4
      exact sameI_true (by assumption) (fun i hi => q_0.2 i (by omega))
theorem Tryd.ok_SameNumbers : PureOK Tryd.prog Tryd.B.eT 6 [.slice (.int .i64), .slice (.int .i64)] [.bool] (fun _ => True) (fun x y => y = (fun x => sameI x.1 x.2) x) :=
  pure_fn (X := noExt) (ctx0 Tryd.tyOK) Tryd.func6 (by kernel_rfl) (fun x => sameNAnn x.1 x.2) (fun x hw hp => vc_SameNumbers x.1 x.2 hw)
def sameTAnn (a : List (List UInt8)) (b : List (List UInt8)) : Anns := [(0, fun st => { X := Nat, inv := fun i => i ≤ a.length ∧ ∀ j, j < i → nth .str a j = nth .str b j, meas := fun i => a.length - i, slots := fun i => [(5, sI i)], keep := [0, 1] })]
set_option maxRecDepth 100000 in
set_option maxHeartbeats 4000000 in
theorem vc_SameTexts (a : List (List UInt8)) (b : List (List UInt8)) (hw : wfL [.slice .str, .slice .str] (a, b)) : (fnVCs Tryd.B [] Tryd.f36 (sameTAnn a b) [.slice .str, .slice .str] [.bool] (fun x y => y = (fun x => sameS x.1 x.2) x) (a, b)).holds := by
  refine holds_of (p :=
    ((List.length a ≤ big) → ((List.length b ≤ big) → ((((↑(List.length a) : Int) != (↑(List.length b) : Int)) = true → (false = sameS a b)) ∧ (((↑(List.length a) : Int) != (↑(List.length b) : Int)) = false →
    (∃ (x : Nat), (x ≤ List.length a ∧ ∀ (j : Nat), j < x → nth Ty.str a j = nth Ty.str b j) ∧ ((0 : Int) = (↑x : Int) ∧ True) ∧ True) ∧ (∀ x_0 : Nat, ((x_0 ≤ List.length a ∧ ∀ (j : Nat), j < x_0 → nth Ty.str a j = nth Ty.str b j) → ((List.length a ≤ big) → (((decide ((↑x_0 : Int) < (↑(List.length a) : Int))) = true → ((0 : Int) ≤ (↑x_0 : Int) ∧ (↑x_0 : Int) < (↑(List.length a) : Int)) ∧ ((0 : Int) ≤ (↑x_0 : Int) ∧ (↑x_0 : Int) < (↑(List.length b) : Int)) ∧ (((!nth Ty.str a x_0 == nth Ty.str b x_0) = true → (false = sameS a b)) ∧ ((!nth Ty.str a x_0 == nth Ty.str b x_0) = false → ((I64 (↑x_0 : Int)) → ((I64 (1 : Int)) → (I64 ((↑x_0 : Int) + (1 : Int))) ∧
    (∃ (x' : Nat), (x' ≤ List.length a ∧ ∀ (j : Nat), j < x' → nth Ty.str a j = nth Ty.str b j) ∧ List.length a - x' < List.length a - x_0 ∧ ((↑x_0 : Int) + (1 : Int) = (↑x' : Int) ∧ True) ∧ True)))))) ∧ ((decide ((↑x_0 : Int) < (↑(List.length a) : Int))) = false → (true = sameS a b))))))))))) (by kernel_rfl) ?_
  intro h0
  intro h1
  refine ⟨fun h2 => ?_, fun h2 => ?_⟩
  · try simp only [bl, reduceCtorEq] at h2
    exact sameS_len (by assumption)
  · try simp only [bl, reduceCtorEq] at h2
    refine ⟨?_, ?_⟩
    · exact ⟨0, ⟨by omega, fun j hj => by omega⟩, ⟨rfl, trivial⟩, trivial⟩
    intro x_0 q_0
    intro h3
    refine ⟨fun h4 => ?_, fun h4 => ?_⟩
    · try simp only [bl, reduceCtorEq] at h4
      refine ⟨?_, ?_⟩
      · first | trivial | omega | (dsimp only [D] at *; omega) | (simp only [I64, big] at *; omega) | (simp_all; done)
      refine ⟨?_, ?_⟩
      · first | trivial | omega | (dsimp only [D] at *; omega) | (simp only [I64, big] at *; omega) | (simp_all; done)
      refine ⟨fun h5 => ?_, fun h5 => ?_⟩
      · try simp only [bl, reduceCtorEq] at h5
        exact sameS_at (i := x_0) (by assumption)
      · try simp only [bl, reduceCtorEq] at h5
        intro h6
        intro h7
        refine ⟨?_, ?_⟩
        · first | trivial | omega | (dsimp only [D] at *; omega) | (simp only [I64, big] at *; omega) | (simp_all; done)
        exact ⟨x_0 + 1, ⟨by omega, upto_next q_0.2 (by assumption)⟩, by omega, ⟨by omega, trivial⟩, (by repeat' (first | exact trivial | rfl | apply And.intro))⟩
    · try simp only [bl, reduceCtorEq] at h4
      exact sameS_true (by assumption) (fun i hi => q_0.2 i (by omega))
theorem Tryd.ok_SameTexts : PureOK Tryd.prog Tryd.B.eT 36 [.slice .str, .slice .str] [.bool] (fun _ => True) (fun x y => y = (fun x => sameS x.1 x.2) x) :=
  pure_fn (X := noExt) (ctx0 Tryd.tyOK) Tryd.func36 (by kernel_rfl) (fun x => sameTAnn x.1 x.2) (fun x hw hp => vc_SameTexts x.1 x.2 hw)
noncomputable def Tryd.sameCtx : List (FuncId × (Bool × CSpec)) := [(6, (true, funSpec [.slice (.int .i64), .slice (.int .i64)] [.bool] (fun _ => True) (fun x => sameI x.1 x.2))),
  (36, (true, funSpec [.slice .str, .slice .str] [.bool] (fun _ => True) (fun x => sameS x.1 x.2)))]
theorem Tryd.sameCtxOK {X : Ext} : CtxOK Tryd.prog Tryd.B X Tryd.sameCtx :=
  ctx1 (callOK_of_fun Tryd.ok_SameNumbers) (ctx1 (callOK_of_fun Tryd.ok_SameTexts) (ctx0 Tryd.tyOK))
end Go.Proofs.YtgokjhhcfemnhaaDoor
