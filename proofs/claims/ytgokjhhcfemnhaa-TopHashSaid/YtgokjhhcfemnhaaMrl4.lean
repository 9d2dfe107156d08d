/- A part of the proof that the law TopHash holds of the given program: facts that are used there. -/
import Derived.Test.YtgokjhhcfemnhaaMrl3
set_option linter.unusedSimpArgs false
set_option linter.unusedVariables false
namespace Go.Proofs.Ytgokjhhcfemnhaa
open Go.Vg Go.Mrl
/-! The laws of chapter 1. -/
def Try.nameCtx : List (FuncId × (Bool × CSpec)) := [(12, (true, funSpec [.str] [.err] (fun _ => True) (fun s => errNo (nameFault s)))),
  (13, (true, funSpec [.str] [.int .i64] (fun _ => True) (fun s => nameFault s))),
  (14, (true, funSpec [.str] [.int .u32] (fun _ => True) (fun s => (hashF s : Int)))),
  (15, (true, funSpec [.str] [.int .i64] (fun _ => True) (fun s => (hashF s : Int)))),
  (11, (true, funSpec [.err, .int .i64] [.bool] (fun _ => True) (fun x => sameE x.1 x.2)))]
theorem Try.nameCtxOK {X : Ext} : CtxOK Try.prog Try.B X Try.nameCtx :=
  ctx1 (callOK_of_fun Try.ok_Check) (ctx1 (callOK_of_fun Try.ok_NameFault) (ctx1 (callOK_of_fun Try.ok_Hash) (ctx1 (callOK_of_fun Try.ok_RHash) (ctx1 (callOK_of_fun Try.ok_same) (ctx0 Try.tyOK)))))
set_option maxRecDepth 100000 in
theorem vc_named  : (fnVCs Try.B Try.nameCtx Try.f10 [] [] [.bool] (fun _ b => b = true) ()).holds := by
  refine holds_of (p :=
    (True) ∧
      (True) ∧
      (((sameE (errNo (nameFault [(109 : UInt8), (97 : UInt8), (105 : UInt8), (110 : UInt8)])) (0 : Int)) = true →
        (True) ∧
        (((↑(hashF [(109 : UInt8), (97 : UInt8), (105 : UInt8), (110 : UInt8)]) : Int) == (473086 : Int)) = true)) ∧
      ((sameE (errNo (nameFault [(109 : UInt8), (97 : UInt8), (105 : UInt8), (110 : UInt8)])) (0 : Int)) = false →
        (false = true)))) (by kernel_rfl) ?_
  refine ⟨?_, ?_⟩
  · first | exact True.intro | rfl | omega | (simp only [I64, big] at *; omega) | (simp_all; done)
  refine ⟨?_, ?_⟩
  · first | exact True.intro | rfl | omega | (simp only [I64, big] at *; omega) | (simp_all; done)
  refine ⟨fun h0 => ?_, fun h0 => ?_⟩
  ·
    refine ⟨?_, ?_⟩
    · first | exact True.intro | rfl | omega | (simp only [I64, big] at *; omega) | (simp_all; done)
    first | exact True.intro | rfl | omega | (simp only [I64, big] at *; omega) | (simp_all; done)
  · exact absurd h0 (by decide)
theorem Try.ok_named : PureOK Try.prog Try.B.eT 10 [] [.bool] (fun _ => True) (fun _ b => b = true) :=
  pure_fn (X := noExt) Try.nameCtxOK Try.func10 (by kernel_rfl) (fun _ => []) (fun _ _ _ => vc_named)
def Try.nameCtx2 : List (FuncId × (Bool × CSpec)) := (10, (true, funSpec [] [.bool] (fun _ => True) (fun _ => true))) :: Try.nameCtx
set_option maxRecDepth 100000 in
theorem vc_NameSays (s : List UInt8) : (fnVCs Try.B Try.nameCtx2 Try.f3 [] [.str] [.bool] (fun _ b => b = true) s).holds := by
  refine holds_of (p :=
    (True) ∧
      (((!true) = true →
        (true = true)) ∧
      ((!true) = false →
        ((List.length s ≤ big) →
        (((decide ((↑(List.length s) : Int) > (100 : Int))) = true →
          (true = true)) ∧
        ((decide ((↑(List.length s) : Int) > (100 : Int))) = false →
          (True) ∧
          (True) ∧
          (True) ∧
          (((sameE (errNo (nameFault s)) (nameFault s)) = true →
            (True) ∧
            (True) ∧
            (((↑(hashF s) : Int) == (↑(hashF s) : Int)) = true)) ∧
          ((sameE (errNo (nameFault s)) (nameFault s)) = false →
            (false = true))))))))) (by kernel_rfl) ?_
  refine ⟨?_, ?_⟩
  · first | exact True.intro | rfl | omega | (simp only [I64, big] at *; omega) | (simp_all; done)
  refine ⟨fun h0 => ?_, fun h0 => ?_⟩
  · exact absurd h0 (by decide)
  ·
    intro h1
    refine ⟨fun h2 => ?_, fun h2 => ?_⟩
    · try simp only [decide_eq_true_eq, decide_eq_false_iff_not, beq_iff_eq, beq_eq_false_iff_ne, bne_iff_ne, bne_eq_false_iff_eq, Bool.not_eq_true', Bool.not_eq_false', Bool.not_eq_true, Bool.not_eq_false, ne_eq, Bool.and_eq_true, Bool.or_eq_true, Bool.and_eq_false_iff, Bool.or_eq_false_iff, reduceCtorEq, Int.not_lt, Int.not_le] at h2
      first | exact True.intro | rfl | omega | (simp only [I64, big] at *; omega) | (simp_all; done)
    · try simp only [decide_eq_true_eq, decide_eq_false_iff_not, beq_iff_eq, beq_eq_false_iff_ne, bne_iff_ne, bne_eq_false_iff_eq, Bool.not_eq_true', Bool.not_eq_false', Bool.not_eq_true, Bool.not_eq_false, ne_eq, Bool.and_eq_true, Bool.or_eq_true, Bool.and_eq_false_iff, Bool.or_eq_false_iff, reduceCtorEq, Int.not_lt, Int.not_le] at h2
      refine ⟨?_, ?_⟩
      · first | exact True.intro | rfl | omega | (simp only [I64, big] at *; omega) | (simp_all; done)
      refine ⟨?_, ?_⟩
      · first | exact True.intro | rfl | omega | (simp only [I64, big] at *; omega) | (simp_all; done)
      refine ⟨?_, ?_⟩
      · first | exact True.intro | rfl | omega | (simp only [I64, big] at *; omega) | (simp_all; done)
      refine ⟨fun h3 => ?_, fun h3 => ?_⟩
      · try simp only [decide_eq_true_eq, decide_eq_false_iff_not, beq_iff_eq, beq_eq_false_iff_ne, bne_iff_ne, bne_eq_false_iff_eq, Bool.not_eq_true', Bool.not_eq_false', Bool.not_eq_true, Bool.not_eq_false, ne_eq, Bool.and_eq_true, Bool.or_eq_true, Bool.and_eq_false_iff, Bool.or_eq_false_iff, reduceCtorEq, Int.not_lt, Int.not_le] at h3
        refine ⟨?_, ?_⟩
        · first | exact True.intro | rfl | omega | (simp only [I64, big] at *; omega) | (simp_all; done)
        refine ⟨?_, ?_⟩
        · first | exact True.intro | rfl | omega | (simp only [I64, big] at *; omega) | (simp_all; done)
        exact beq_self_eq_true _
      · try simp only [decide_eq_true_eq, decide_eq_false_iff_not, beq_iff_eq, beq_eq_false_iff_ne, bne_iff_ne, bne_eq_false_iff_eq, Bool.not_eq_true', Bool.not_eq_false', Bool.not_eq_true, Bool.not_eq_false, ne_eq, Bool.and_eq_true, Bool.or_eq_true, Bool.and_eq_false_iff, Bool.or_eq_false_iff, reduceCtorEq, Int.not_lt, Int.not_le] at h3
        exact absurd (h3.symm.trans (sameE_errNo (nameFault_nonneg s))) (by decide)
theorem Try.ok_NameSays : PureOK Try.prog Try.B.eT 3 [.str] [.bool] (fun _ => True) (fun _ b => b = true) :=
  pure_fn (X := noExt) (ctx1 (callOK_of_fun Try.ok_named) Try.nameCtxOK) Try.func3 (by kernel_rfl) (fun _ => []) (fun s _ _ => vc_NameSays s)
end Go.Proofs.Ytgokjhhcfemnhaa
