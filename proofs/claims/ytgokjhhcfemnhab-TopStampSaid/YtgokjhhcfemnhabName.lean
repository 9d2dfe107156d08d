/- A part of the proof that the law TopStamp holds of the given program: facts that are used there. -/
import Derived.Test.YtgokjhhcfemnhabBase
import Derived.Test.YtgokjhhcfemnhabMrl2
set_option linter.unusedSimpArgs false
set_option linter.unusedVariables false
namespace Go.Proofs.Ytgokjhhcfemnhab
open Go.Vg Go.Mrl
/-! The packages 'name' and the document's chapter 1. -/
def checkAnn (s : List UInt8) : Anns := [(0, fun st => { X := Nat, inv := fun i => i ≤ s.length ∧ ∀ j, j < i → badAt j (nthB s j) = false, meas := fun i => s.length - i, slots := fun i => [(15, .s (.one (.d (.int .i64) i)))], objs := fun _ => [], keep := [0, 14], keepObj := [] })]
def faultAnn (s : List UInt8) : Anns := [(0, fun st => { X := Nat, inv := fun i => i ≤ s.length ∧ ∀ j, j < i → badAt j (nthB s j) = false, meas := fun i => s.length - i, slots := fun i => [(3, .s (.one (.d (.int .i64) i)))], objs := fun _ => [], keep := [0], keepObj := [] })]
def hashAnn (s : List UInt8) : Anns := [(0, fun st => { X := Nat, inv := fun i => i ≤ s.length, meas := fun i => s.length - i, slots := fun i => [(8, .s (.one (.d (.int .i64) i))), (3, .s (.one (.d (.int .u32) (hashF (s.take i)))))], objs := fun _ => [], keep := [0, 7], keepObj := [] })]
def rhashAnn (s : List UInt8) : Anns := [(0, fun st => { X := Nat, inv := fun i => i ≤ s.length, meas := fun i => s.length - i, slots := fun i => [(4, .s (.one (.d (.int .i64) i))), (3, .s (.one (.d (.int .i64) (hashF (s.take i)))))], objs := fun _ => [], keep := [0], keepObj := [] })]
set_option maxRecDepth 100000 in
set_option maxHeartbeats 4000000 in
theorem vc_Check (s : List UInt8) (hw : wfL [.str] s) : (fnVCs Try.B [] Try.f44 (checkAnn s) [.str] [.err] (fun x y => y = (fun s => errNo (nameFault s)) x) s).holds := by
  refine holds_of (p :=
    (((s == @List.nil UInt8) = true → (Err.no (1 : Int) = errNo (nameFault s))) ∧ ((s == @List.nil UInt8) = false → ((List.length s ≤ big) → (((decide ((↑(List.length s) : Int) > (8 : Int))) = true → (Err.no (1 : Int) = errNo (nameFault s))) ∧ ((decide ((↑(List.length s) : Int) > (8 : Int))) = false → ((List.length s ≤ big) →
    (∃ (x : Nat), (x ≤ List.length s ∧ ∀ (j : Nat), j < x → badAt j (nthB s j) = false) ∧ ((0 : Int) = (↑x : Int) ∧ True) ∧ True) ∧ (∀ x_0 : Nat, ((x_0 ≤ List.length s ∧ ∀ (j : Nat), j < x_0 → badAt j (nthB s j) = false) → (((decide ((↑x_0 : Int) < (↑(List.length s) : Int))) = true → ((0 : Int) ≤ (↑x_0 : Int) ∧ (↑x_0 : Int) < (↑(List.length s) : Int)) ∧ (((decide ((↑(UInt8.toNat (nthB s x_0)) : Int) < (97 : Int))) = true → ((((↑x_0 : Int) == (0 : Int)) = true → (Err.no (3 : Int) = errNo (nameFault s))) ∧ (((↑x_0 : Int) == (0 : Int)) = false → (((decide ((↑(UInt8.toNat (nthB s x_0)) : Int) < (48 : Int))) = true → ((((↑(UInt8.toNat (nthB s x_0)) : Int) != (95 : Int)) = true → (Err.no (3 : Int) = errNo (nameFault s))) ∧ (((↑(UInt8.toNat (nthB s x_0)) : Int) != (95 : Int)) = false → ((I64 (↑x_0 : Int)) → ((I64 (1 : Int)) → (I64 ((↑x_0 : Int) + (1 : Int))) ∧
    (∃ (x' : Nat), (x' ≤ List.length s ∧ ∀ (j : Nat), j < x' → badAt j (nthB s j) = false) ∧ List.length s - x' < List.length s - x_0 ∧ ((↑x_0 : Int) + (1 : Int) = (↑x' : Int) ∧ True) ∧ True)))))) ∧ ((decide ((↑(UInt8.toNat (nthB s x_0)) : Int) < (48 : Int))) = false → (((decide ((↑(UInt8.toNat (nthB s x_0)) : Int) > (57 : Int))) = true → ((((↑(UInt8.toNat (nthB s x_0)) : Int) != (95 : Int)) = true → (Err.no (3 : Int) = errNo (nameFault s))) ∧ (((↑(UInt8.toNat (nthB s x_0)) : Int) != (95 : Int)) = false → ((I64 (↑x_0 : Int)) → ((I64 (1 : Int)) → (I64 ((↑x_0 : Int) + (1 : Int))) ∧
    (∃ (x' : Nat), (x' ≤ List.length s ∧ ∀ (j : Nat), j < x' → badAt j (nthB s j) = false) ∧ List.length s - x' < List.length s - x_0 ∧ ((↑x_0 : Int) + (1 : Int) = (↑x' : Int) ∧ True) ∧ True)))))) ∧ ((decide ((↑(UInt8.toNat (nthB s x_0)) : Int) > (57 : Int))) = false → ((I64 (↑x_0 : Int)) → ((I64 (1 : Int)) → (I64 ((↑x_0 : Int) + (1 : Int))) ∧
    (∃ (x' : Nat), (x' ≤ List.length s ∧ ∀ (j : Nat), j < x' → badAt j (nthB s j) = false) ∧ List.length s - x' < List.length s - x_0 ∧ ((↑x_0 : Int) + (1 : Int) = (↑x' : Int) ∧ True) ∧ True)))))))))) ∧ ((decide ((↑(UInt8.toNat (nthB s x_0)) : Int) < (97 : Int))) = false → (((decide ((↑(UInt8.toNat (nthB s x_0)) : Int) > (122 : Int))) = true → ((((↑x_0 : Int) == (0 : Int)) = true → (Err.no (3 : Int) = errNo (nameFault s))) ∧ (((↑x_0 : Int) == (0 : Int)) = false → (((decide ((↑(UInt8.toNat (nthB s x_0)) : Int) < (48 : Int))) = true → ((((↑(UInt8.toNat (nthB s x_0)) : Int) != (95 : Int)) = true → (Err.no (3 : Int) = errNo (nameFault s))) ∧ (((↑(UInt8.toNat (nthB s x_0)) : Int) != (95 : Int)) = false → ((I64 (↑x_0 : Int)) → ((I64 (1 : Int)) → (I64 ((↑x_0 : Int) + (1 : Int))) ∧
    (∃ (x' : Nat), (x' ≤ List.length s ∧ ∀ (j : Nat), j < x' → badAt j (nthB s j) = false) ∧ List.length s - x' < List.length s - x_0 ∧ ((↑x_0 : Int) + (1 : Int) = (↑x' : Int) ∧ True) ∧ True)))))) ∧ ((decide ((↑(UInt8.toNat (nthB s x_0)) : Int) < (48 : Int))) = false → (((decide ((↑(UInt8.toNat (nthB s x_0)) : Int) > (57 : Int))) = true → ((((↑(UInt8.toNat (nthB s x_0)) : Int) != (95 : Int)) = true → (Err.no (3 : Int) = errNo (nameFault s))) ∧ (((↑(UInt8.toNat (nthB s x_0)) : Int) != (95 : Int)) = false → ((I64 (↑x_0 : Int)) → ((I64 (1 : Int)) → (I64 ((↑x_0 : Int) + (1 : Int))) ∧
    (∃ (x' : Nat), (x' ≤ List.length s ∧ ∀ (j : Nat), j < x' → badAt j (nthB s j) = false) ∧ List.length s - x' < List.length s - x_0 ∧ ((↑x_0 : Int) + (1 : Int) = (↑x' : Int) ∧ True) ∧ True)))))) ∧ ((decide ((↑(UInt8.toNat (nthB s x_0)) : Int) > (57 : Int))) = false → ((I64 (↑x_0 : Int)) → ((I64 (1 : Int)) → (I64 ((↑x_0 : Int) + (1 : Int))) ∧
    (∃ (x' : Nat), (x' ≤ List.length s ∧ ∀ (j : Nat), j < x' → badAt j (nthB s j) = false) ∧ List.length s - x' < List.length s - x_0 ∧ ((↑x_0 : Int) + (1 : Int) = (↑x' : Int) ∧ True) ∧ True)))))))))) ∧ ((decide ((↑(UInt8.toNat (nthB s x_0)) : Int) > (122 : Int))) = false → ((I64 (↑x_0 : Int)) → ((I64 (1 : Int)) → (I64 ((↑x_0 : Int) + (1 : Int))) ∧
    (∃ (x' : Nat), (x' ≤ List.length s ∧ ∀ (j : Nat), j < x' → badAt j (nthB s j) = false) ∧ List.length s - x' < List.length s - x_0 ∧ ((↑x_0 : Int) + (1 : Int) = (↑x' : Int) ∧ True) ∧ True)))))))) ∧ ((decide ((↑x_0 : Int) < (↑(List.length s) : Int))) = false → (Err.nil = errNo (nameFault s))))))))))))) (by kernel_rfl) ?_
  refine ⟨fun h0 => ?_, fun h0 => ?_⟩
  · try simp only [bl, reduceCtorEq] at h0
    rw [nameFault_one (by first | omega | simp [h0])]; rfl
  · try simp only [bl, reduceCtorEq] at h0
    intro h1
    refine ⟨fun h2 => ?_, fun h2 => ?_⟩
    · try simp only [bl, reduceCtorEq] at h2
      rw [nameFault_one (by first | omega | simp [h0])]; rfl
    · try simp only [bl, reduceCtorEq] at h2
      intro h3
      refine ⟨?_, ?_⟩
      · exact ⟨0, ⟨by omega, fun j hj => by omega⟩, ⟨rfl, trivial⟩, trivial⟩
      intro x_0 q_0
      refine ⟨fun h4 => ?_, fun h4 => ?_⟩
      · try simp only [bl, reduceCtorEq] at h4
        refine ⟨?_, ?_⟩
        · first | trivial | omega | (dsimp only [D] at *; omega) | (simp only [I64, big] at *; omega) | (simp_all; done)
        refine ⟨fun h5 => ?_, fun h5 => ?_⟩
        · try simp only [bl, reduceCtorEq] at h5
          refine ⟨fun h6 => ?_, fun h6 => ?_⟩
          · try simp only [bl, reduceCtorEq] at h6
            have hl : s.length ≠ 0 := fun e => h0 (List.length_eq_zero_iff.1 e)
            rw [nameFault_three (i := x_0) (by omega) (by omega) (badAt_iff.2 (by omega))]; rfl
          · try simp only [bl, reduceCtorEq] at h6
            refine ⟨fun h7 => ?_, fun h7 => ?_⟩
            · try simp only [bl, reduceCtorEq] at h7
              refine ⟨fun h8 => ?_, fun h8 => ?_⟩
              · try simp only [bl, reduceCtorEq] at h8
                have hl : s.length ≠ 0 := fun e => h0 (List.length_eq_zero_iff.1 e)
                rw [nameFault_three (i := x_0) (by omega) (by omega) (badAt_iff.2 (by omega))]; rfl
              · try simp only [bl, reduceCtorEq] at h8
                intro h9
                intro h10
                refine ⟨?_, ?_⟩
                · first | trivial | omega | (dsimp only [D] at *; omega) | (simp only [I64, big] at *; omega) | (simp_all; done)
                exact ⟨x_0 + 1, ⟨by omega, bad_next q_0.2 (badAt_false.2 (by omega))⟩, by omega, ⟨by omega, trivial⟩, trivial⟩
            · try simp only [bl, reduceCtorEq] at h7
              refine ⟨fun h8 => ?_, fun h8 => ?_⟩
              · try simp only [bl, reduceCtorEq] at h8
                refine ⟨fun h9 => ?_, fun h9 => ?_⟩
                · try simp only [bl, reduceCtorEq] at h9
                  have hl : s.length ≠ 0 := fun e => h0 (List.length_eq_zero_iff.1 e)
                  rw [nameFault_three (i := x_0) (by omega) (by omega) (badAt_iff.2 (by omega))]; rfl
                · try simp only [bl, reduceCtorEq] at h9
                  intro h10
                  intro h11
                  refine ⟨?_, ?_⟩
                  · first | trivial | omega | (dsimp only [D] at *; omega) | (simp only [I64, big] at *; omega) | (simp_all; done)
                  exact ⟨x_0 + 1, ⟨by omega, bad_next q_0.2 (badAt_false.2 (by omega))⟩, by omega, ⟨by omega, trivial⟩, trivial⟩
              · try simp only [bl, reduceCtorEq] at h8
                intro h9
                intro h10
                refine ⟨?_, ?_⟩
                · first | trivial | omega | (dsimp only [D] at *; omega) | (simp only [I64, big] at *; omega) | (simp_all; done)
                exact ⟨x_0 + 1, ⟨by omega, bad_next q_0.2 (badAt_false.2 (by omega))⟩, by omega, ⟨by omega, trivial⟩, trivial⟩
        · try simp only [bl, reduceCtorEq] at h5
          refine ⟨fun h6 => ?_, fun h6 => ?_⟩
          · try simp only [bl, reduceCtorEq] at h6
            refine ⟨fun h7 => ?_, fun h7 => ?_⟩
            · try simp only [bl, reduceCtorEq] at h7
              have hl : s.length ≠ 0 := fun e => h0 (List.length_eq_zero_iff.1 e)
              rw [nameFault_three (i := x_0) (by omega) (by omega) (badAt_iff.2 (by omega))]; rfl
            · try simp only [bl, reduceCtorEq] at h7
              refine ⟨fun h8 => ?_, fun h8 => ?_⟩
              · try simp only [bl, reduceCtorEq] at h8
                refine ⟨fun h9 => ?_, fun h9 => ?_⟩
                · try simp only [bl, reduceCtorEq] at h9
                  have hl : s.length ≠ 0 := fun e => h0 (List.length_eq_zero_iff.1 e)
                  rw [nameFault_three (i := x_0) (by omega) (by omega) (badAt_iff.2 (by omega))]; rfl
                · try simp only [bl, reduceCtorEq] at h9
                  intro h10
                  intro h11
                  refine ⟨?_, ?_⟩
                  · first | trivial | omega | (dsimp only [D] at *; omega) | (simp only [I64, big] at *; omega) | (simp_all; done)
                  exact ⟨x_0 + 1, ⟨by omega, bad_next q_0.2 (badAt_false.2 (by omega))⟩, by omega, ⟨by omega, trivial⟩, trivial⟩
              · try simp only [bl, reduceCtorEq] at h8
                refine ⟨fun h9 => ?_, fun h9 => ?_⟩
                · try simp only [bl, reduceCtorEq] at h9
                  refine ⟨fun h10 => ?_, fun h10 => ?_⟩
                  · try simp only [bl, reduceCtorEq] at h10
                    have hl : s.length ≠ 0 := fun e => h0 (List.length_eq_zero_iff.1 e)
                    rw [nameFault_three (i := x_0) (by omega) (by omega) (badAt_iff.2 (by omega))]; rfl
                  · try simp only [bl, reduceCtorEq] at h10
                    intro h11
                    intro h12
                    refine ⟨?_, ?_⟩
                    · first | trivial | omega | (dsimp only [D] at *; omega) | (simp only [I64, big] at *; omega) | (simp_all; done)
                    exact ⟨x_0 + 1, ⟨by omega, bad_next q_0.2 (badAt_false.2 (by omega))⟩, by omega, ⟨by omega, trivial⟩, trivial⟩
                · try simp only [bl, reduceCtorEq] at h9
                  intro h10
                  intro h11
                  refine ⟨?_, ?_⟩
                  · first | trivial | omega | (dsimp only [D] at *; omega) | (simp only [I64, big] at *; omega) | (simp_all; done)
                  exact ⟨x_0 + 1, ⟨by omega, bad_next q_0.2 (badAt_false.2 (by omega))⟩, by omega, ⟨by omega, trivial⟩, trivial⟩
          · try simp only [bl, reduceCtorEq] at h6
            intro h7
            intro h8
            refine ⟨?_, ?_⟩
            · first | trivial | omega | (dsimp only [D] at *; omega) | (simp only [I64, big] at *; omega) | (simp_all; done)
            exact ⟨x_0 + 1, ⟨by omega, bad_next q_0.2 (badAt_false.2 (by omega))⟩, by omega, ⟨by omega, trivial⟩, trivial⟩
      · try simp only [bl, reduceCtorEq] at h4
        have hl : s.length ≠ 0 := fun e => h0 (List.length_eq_zero_iff.1 e)
        rw [nameFault_zero (by omega) (fun i hi => q_0.2 i (by omega))]; rfl
theorem Try.ok_Check : PureOK Try.prog Try.B.eT 44 [.str] [.err] (fun _ => True) (fun x y => y = (fun s => errNo (nameFault s)) x) :=
  pure_fn (X := noExt) (ctx0 Try.tyOK) Try.func44 (by kernel_rfl) (fun x => checkAnn x) (fun x hw hp => vc_Check x hw)
set_option maxRecDepth 100000 in
set_option maxHeartbeats 4000000 in
theorem vc_Hash (s : List UInt8) (hw : wfL [.str] s) : (fnVCs Try.B [] Try.f18 (hashAnn s) [.str] [.int .u32] (fun x y => y = (fun s => (hashF s : Int)) x) s).holds := by
  refine holds_of (p :=
    ((List.length s ≤ big) →
    (∃ (x : Nat), x ≤ List.length s ∧ ((0 : Int) = (↑x : Int) ∧ (0 : Int) = (↑(hashF (List.take x s)) : Int) ∧ True) ∧ True) ∧ (∀ x_0 : Nat, ((x_0 ≤ List.length s) → (((decide ((↑x_0 : Int) < (↑(List.length s) : Int))) = true → ((0 : Int) ≤ (4 : Int)) ∧ (∀ x_1 : Int,
    ((x_1 = IntKind.wrap IntKind.u32 ((↑(hashF (List.take x_0 s)) : Int) * (2 : Int) ^ min (4 : Nat) (IntKind.bits IntKind.u32))) → ((0 : Int) ≤ (↑x_0 : Int) ∧ (↑x_0 : Int) < (↑(List.length s) : Int)) ∧ (∀ x_2 : Int, ((x_2 = IntKind.wrap IntKind.u32 (x_1 + (↑(UInt8.toNat (nthB s x_0)) : Int))) → (∀ x_3 : Int,
    ((x_3 = IntKind.wrap IntKind.u32 (↑(BitVec.toNat (BitVec.ofInt (IntKind.bits IntKind.u32) x_2 &&& BitVec.ofInt (IntKind.bits IntKind.u32) (4026531840 : Int))) : Int)) → ((0 : Int) ≤ (24 : Int)) ∧ (∀ x_4 : Int, ((x_4 = Int.fdiv x_3 ((2 : Int) ^ min (24 : Nat) (IntKind.bits IntKind.u32))) → (∀ x_5 : Int,
    ((x_5 = IntKind.wrap IntKind.u32 (↑(BitVec.toNat (BitVec.ofInt (IntKind.bits IntKind.u32) x_2 ^^^ BitVec.ofInt (IntKind.bits IntKind.u32) x_4)) : Int)) → (∀ x_6 : Int,
    ((x_6 = IntKind.wrap IntKind.u32 (↑(BitVec.toNat (BitVec.ofInt (IntKind.bits IntKind.u32) x_5 &&& ~~~BitVec.ofInt (IntKind.bits IntKind.u32) x_3)) : Int)) → ((I64 (↑x_0 : Int)) → ((I64 (1 : Int)) → (I64 ((↑x_0 : Int) + (1 : Int))) ∧
    (∃ (x' : Nat), x' ≤ List.length s ∧ List.length s - x' < List.length s - x_0 ∧ ((↑x_0 : Int) + (1 : Int) = (↑x' : Int) ∧ x_6 = (↑(hashF (List.take x' s)) : Int) ∧ True) ∧ True)))))))))))))))) ∧ ((decide ((↑x_0 : Int) < (↑(List.length s) : Int))) = false → ((↑(hashF (List.take x_0 s)) : Int) = (↑(hashF s) : Int)))))))) (by kernel_rfl) ?_
  intro h0
  refine ⟨?_, ?_⟩
  · exact ⟨0, by omega, ⟨rfl, rfl, trivial⟩, trivial⟩
  intro x_0 q_0
  refine ⟨fun h1 => ?_, fun h1 => ?_⟩
  · try simp only [bl, reduceCtorEq] at h1
    refine ⟨?_, ?_⟩
    · first | trivial | omega | (dsimp only [D] at *; omega) | (simp only [I64, big] at *; omega) | (simp_all; done)
    intro x_1 q_1
    refine ⟨?_, ?_⟩
    · first | trivial | omega | (dsimp only [D] at *; omega) | (simp only [I64, big] at *; omega) | (simp_all; done)
    intro x_2 q_2
    intro x_3 q_3
    refine ⟨?_, ?_⟩
    · first | trivial | omega | (dsimp only [D] at *; omega) | (simp only [I64, big] at *; omega) | (simp_all; done)
    intro x_4 q_4
    intro x_5 q_5
    intro x_6 q_6
    intro h2
    intro h3
    refine ⟨?_, ?_⟩
    · first | trivial | omega | (dsimp only [D] at *; omega) | (simp only [I64, big] at *; omega) | (simp_all; done)
    exact ⟨x_0 + 1, by omega, by omega, ⟨by omega, by rw [hashF_take (by omega)]; exact hash_next (hashF_lt _) q_1 q_2 q_3 q_4 q_5 q_6, trivial⟩, trivial⟩
  · try simp only [bl, reduceCtorEq] at h1
    rw [List.take_of_length_le (by omega)]
theorem Try.ok_Hash : PureOK Try.prog Try.B.eT 18 [.str] [.int .u32] (fun _ => True) (fun x y => y = (fun s => (hashF s : Int)) x) :=
  pure_fn (X := noExt) (ctx0 Try.tyOK) Try.func18 (by kernel_rfl) (fun x => hashAnn x) (fun x hw hp => vc_Hash x hw)
set_option maxRecDepth 100000 in
set_option maxHeartbeats 4000000 in
theorem vc_number (e : Err) (hw : wfL [.err] e) : (fnVCs Try.B [] Try.f22 [] [.err] [.int .i64] (fun x y => y = (fun e => numE e) x) e).holds := by
  refine holds_of (p :=
    (((Err.isNil e) = true → ((0 : Int) = numE e)) ∧ ((Err.isNil e) = false → (((!Err.isNo e) = true → ((-1 : Int) = numE e)) ∧ ((!Err.isNo e) = false → (Err.num e = numE e)))))) (by kernel_rfl) ?_
  refine ⟨fun h0 => ?_, fun h0 => ?_⟩
  · try simp only [bl, reduceCtorEq] at h0
    cases e <;> simp_all [Err.isNil, Err.isNo, Err.num, numE]
  · try simp only [bl, reduceCtorEq] at h0
    refine ⟨fun h1 => ?_, fun h1 => ?_⟩
    · try simp only [bl, reduceCtorEq] at h1
      cases e <;> simp_all [Err.isNil, Err.isNo, Err.num, numE]
    · try simp only [bl, reduceCtorEq] at h1
      cases e <;> simp_all [Err.isNil, Err.isNo, Err.num, numE]
theorem Try.ok_number : PureOK Try.prog Try.B.eT 22 [.err] [.int .i64] (fun _ => True) (fun x y => y = (fun e => numE e) x) :=
  pure_fn (X := noExt) (ctx0 Try.tyOK) Try.func22 (by kernel_rfl) (fun _ => []) (fun x hw hp => vc_number x hw)
noncomputable def Try.nameCtx : List (FuncId × (Bool × CSpec)) := [(44, (true, funSpec [.str] [.err] (fun _ => True) (fun s => errNo (nameFault s)))),
  (18, (true, funSpec [.str] [.int .u32] (fun _ => True) (fun s => (hashF s : Int)))),
  (22, (true, funSpec [.err] [.int .i64] (fun _ => True) (fun e => numE e)))]
theorem Try.nameCtxOK {X : Ext} : CtxOK Try.prog Try.B X Try.nameCtx :=
  ctx1 (callOK_of_fun Try.ok_Check) (ctx1 (callOK_of_fun Try.ok_Hash) (ctx1 (callOK_of_fun Try.ok_number) (ctx0 Try.tyOK)))
end Go.Proofs.Ytgokjhhcfemnhab

