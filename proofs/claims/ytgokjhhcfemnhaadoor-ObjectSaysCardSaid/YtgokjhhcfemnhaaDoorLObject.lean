/- A part of the proof that the law ObjectSaysCard holds of the given program: facts that are used there. -/
import Derived.Test.YtgokjhhcfemnhaaDoorPart6
import Derived.Test.YtgokjhhcfemnhaaDoorRows
import Derived.Test.YtgokjhhcfemnhaaDoorTie
import Derived.Test.YtgokjhhcfemnhaaDoorCards
import Derived.LaidMore
set_option linter.unusedSimpArgs false
set_option linter.unusedVariables false
namespace Go.Proofs.YtgokjhhcfemnhaaDoor
open Go.Vg Go.Mrl
noncomputable def Tryd.objects0Ctx : List (FuncId × (Bool × CSpec)) := [(24, (true, funSpec [.str] [.err] (fun _ => True) (fun s => errNo (nameFault s)))),
  (18, (true, funSpec [.str] [.int .i64] (fun _ => True) (fun s => nameFault s))),
  (5, (true, funSpec [.err, .int .i64] [.bool] (fun _ => True) (fun x => sameE x.1 x.2))),
  (14, (true, funSpec [.str] [tObject, .err] (fun _ => True) (fun s => parseF s)))]
theorem Tryd.objects0CtxOK : CtxOK Tryd.prog Tryd.B Tryd.X Tryd.objects0Ctx :=
  ctx1 (callOK_of_fun Tryd.ok_Check) (ctx1 (callOK_of_fun Tryd.ok_NameFault) (ctx1 (callOK_of_fun Tryd.ok_same) (ctx1 (callOK_of_fun Tryd.ok_ParseO) (ctx0 Tryd.tyOK))))
set_option maxRecDepth 100000 in
set_option maxHeartbeats 4000000 in
theorem vc_objects  (hw : wfL [] ()) : (fnVCs Tryd.B Tryd.objects0Ctx Tryd.f8 [] [] [.bool] (fun x y => y = (fun _ => true) x) ()).holds := by
  refine holds_of (p :=
    (True) ∧ (True) ∧
    (((sameE (errNo (objR [(110 : UInt8), 101, 101, 100, 32, 98, 10, 119, 111, 114, 100, 32, 53, 10, 119, 101, 97, 107, 32, 115, 121, 109, 98, 111, 108, 32, 120, 32, 48, 10, 110, 101, 97, 114, 32, 48, 32, 45, 49, 32, 121, 10]).2) (0 : Int)) = true →
    ((List.length (objR [(110 : UInt8), 101, 101, 100, 32, 98, 10, 119, 111, 114, 100, 32, 53, 10, 119, 101, 97, 107, 32, 115, 121, 109, 98, 111, 108, 32, 120, 32, 48, 10, 110, 101, 97, 114, 32, 48, 32, 45, 49, 32, 121, 10]).1.1 ≤ big) →
    ((((↑(List.length (objR [(110 : UInt8), 101, 101, 100, 32, 98, 10, 119, 111, 114, 100, 32, 53, 10, 119, 101, 97, 107, 32, 115, 121, 109, 98, 111, 108, 32, 120, 32, 48, 10, 110, 101, 97, 114, 32, 48, 32, 45, 49, 32, 121, 10]).1.1) : Int) == (1 : Int)) = true →
    ((List.length (objR [(110 : UInt8), 101, 101, 100, 32, 98, 10, 119, 111, 114, 100, 32, 53, 10, 119, 101, 97, 107, 32, 115, 121, 109, 98, 111, 108, 32, 120, 32, 48, 10, 110, 101, 97, 114, 32, 48, 32, 45, 49, 32, 121, 10]).1.2.2.1 ≤ big) →
    ((((↑(List.length (objR [(110 : UInt8), 101, 101, 100, 32, 98, 10, 119, 111, 114, 100, 32, 53, 10, 119, 101, 97, 107, 32, 115, 121, 109, 98, 111, 108, 32, 120, 32, 48, 10, 110, 101, 97, 114, 32, 48, 32, 45, 49, 32, 121, 10]).1.2.2.1) : Int) == (1 : Int)) = true →
    ((0 : Int) ≤ (0 : Int) ∧ (0 : Int) < (↑(List.length (objR [(110 : UInt8), 101, 101, 100, 32, 98, 10, 119, 111, 114, 100, 32, 53, 10, 119, 101, 97, 107, 32, 115, 121, 109, 98, 111, 108, 32, 120, 32, 48, 10, 110, 101, 97, 114, 32, 48, 32, 45, 49, 32, 121, 10]).1.2.2.1) : Int)) ∧
    ((((nth tSymbol (objR [(110 : UInt8), 101, 101, 100, 32, 98, 10, 119, 111, 114, 100, 32, 53, 10, 119, 101, 97, 107, 32, 115, 121, 109, 98, 111, 108, 32, 120, 32, 48, 10, 110, 101, 97, 114, 32, 48, 32, 45, 49, 32, 121, 10]).1.2.2.1 (0 : Nat)).2.2.1) = true →
    ((List.length (objR [(110 : UInt8), 101, 101, 100, 32, 98, 10, 119, 111, 114, 100, 32, 53, 10, 119, 101, 97, 107, 32, 115, 121, 109, 98, 111, 108, 32, 120, 32, 48, 10, 110, 101, 97, 114, 32, 48, 32, 45, 49, 32, 121, 10]).1.2.2.2.1 ≤ big) →
    ((((↑(List.length (objR [(110 : UInt8), 101, 101, 100, 32, 98, 10, 119, 111, 114, 100, 32, 53, 10, 119, 101, 97, 107, 32, 115, 121, 109, 98, 111, 108, 32, 120, 32, 48, 10, 110, 101, 97, 114, 32, 48, 32, 45, 49, 32, 121, 10]).1.2.2.2.1) : Int) == (1 : Int)) = true →
    ((0 : Int) ≤ (0 : Int) ∧ (0 : Int) < (↑(List.length (objR [(110 : UInt8), 101, 101, 100, 32, 98, 10, 119, 111, 114, 100, 32, 53, 10, 119, 101, 97, 107, 32, 115, 121, 109, 98, 111, 108, 32, 120, 32, 48, 10, 110, 101, 97, 114, 32, 48, 32, 45, 49, 32, 121, 10]).1.2.2.2.1) : Int)) ∧
    (((nth tTie (objR [(110 : UInt8), 101, 101, 100, 32, 98, 10, 119, 111, 114, 100, 32, 53, 10, 119, 101, 97, 107, 32, 115, 121, 109, 98, 111, 108, 32, 120, 32, 48, 10, 110, 101, 97, 114, 32, 48, 32, 45, 49, 32, 121, 10]).1.2.2.2.1 (0 : Nat)).2.1 == (3 : Int)) = true)) ∧
    (((↑(List.length (objR [(110 : UInt8), 101, 101, 100, 32, 98, 10, 119, 111, 114, 100, 32, 53, 10, 119, 101, 97, 107, 32, 115, 121, 109, 98, 111, 108, 32, 120, 32, 48, 10, 110, 101, 97, 114, 32, 48, 32, 45, 49, 32, 121, 10]).1.2.2.2.1) : Int) == (1 : Int)) = false → (false = true))))) ∧
    (((nth tSymbol (objR [(110 : UInt8), 101, 101, 100, 32, 98, 10, 119, 111, 114, 100, 32, 53, 10, 119, 101, 97, 107, 32, 115, 121, 109, 98, 111, 108, 32, 120, 32, 48, 10, 110, 101, 97, 114, 32, 48, 32, 45, 49, 32, 121, 10]).1.2.2.1 (0 : Nat)).2.2.1) = false → (false = true)))) ∧
    (((↑(List.length (objR [(110 : UInt8), 101, 101, 100, 32, 98, 10, 119, 111, 114, 100, 32, 53, 10, 119, 101, 97, 107, 32, 115, 121, 109, 98, 111, 108, 32, 120, 32, 48, 10, 110, 101, 97, 114, 32, 48, 32, 45, 49, 32, 121, 10]).1.2.2.1) : Int) == (1 : Int)) = false → (false = true))))) ∧
    (((↑(List.length (objR [(110 : UInt8), 101, 101, 100, 32, 98, 10, 119, 111, 114, 100, 32, 53, 10, 119, 101, 97, 107, 32, 115, 121, 109, 98, 111, 108, 32, 120, 32, 48, 10, 110, 101, 97, 114, 32, 48, 32, 45, 49, 32, 121, 10]).1.1) : Int) == (1 : Int)) = false → (false = true))))) ∧
    ((sameE (errNo (objR [(110 : UInt8), 101, 101, 100, 32, 98, 10, 119, 111, 114, 100, 32, 53, 10, 119, 101, 97, 107, 32, 115, 121, 109, 98, 111, 108, 32, 120, 32, 48, 10, 110, 101, 97, 114, 32, 48, 32, 45, 49, 32, 121, 10]).2) (0 : Int)) = false → (false = true)))) (by kernel_rfl) ?_
  have hx := obj_x; simp only [lit0] at hx
  refine ⟨trivial, ?_⟩
  refine ⟨trivial, ?_⟩
  refine ⟨fun h0 => ?_, fun h0 => ?_⟩
  · try simp only [bl, reduceCtorEq] at h0
    intro h1
    refine ⟨fun h2 => ?_, fun h2 => ?_⟩
    · try simp only [bl, reduceCtorEq] at h2
      intro h3
      refine ⟨fun h4 => ?_, fun h4 => ?_⟩
      · try simp only [bl, reduceCtorEq] at h4
        refine ⟨?_, ?_⟩
        · first | (rw [hx]; decide) | first | trivial | omega | (dsimp only [D] at *; omega) | (simp only [I64, big] at *; omega) | (simp_all; done)
        refine ⟨fun h5 => ?_, fun h5 => ?_⟩
        · try simp only [bl, reduceCtorEq] at h5
          intro h6
          refine ⟨fun h7 => ?_, fun h7 => ?_⟩
          · try simp only [bl, reduceCtorEq] at h7
            refine ⟨?_, ?_⟩
            · first | (rw [hx]; decide) | first | trivial | omega | (dsimp only [D] at *; omega) | (simp only [I64, big] at *; omega) | (simp_all; done)
            rw [hx]; rfl
          · try simp only [bl, reduceCtorEq] at h7
            rw [hx] at h7; first | (cases h7; done) | exact absurd h7 (by decide) | (simp [nth] at h7; done)
        · try simp only [bl, reduceCtorEq] at h5
          rw [hx] at h5; first | (cases h5; done) | exact absurd h5 (by decide) | (simp [nth] at h5; done)
      · try simp only [bl, reduceCtorEq] at h4
        rw [hx] at h4; first | (cases h4; done) | exact absurd h4 (by decide) | (simp [nth] at h4; done)
    · try simp only [bl, reduceCtorEq] at h2
      rw [hx] at h2; first | (cases h2; done) | exact absurd h2 (by decide) | (simp [nth] at h2; done)
  · try simp only [bl, reduceCtorEq] at h0
    rw [hx] at h0; first | (cases h0; done) | exact absurd h0 (by decide) | (simp [nth] at h0; done)
theorem Tryd.ok_objects : PureOK Tryd.prog Tryd.B.eT Tryd.X 8 [] [.bool] (fun _ => True) (fun x y => y = (fun _ => true) x) :=
  pure_fn (X := Tryd.X) Tryd.objects0CtxOK Tryd.func8 (by kernel_rfl) (fun _ => []) (fun x hw hp => vc_objects  hw)
noncomputable def Tryd.lobjectCtx : List (FuncId × (Bool × CSpec)) := [(24, (true, funSpec [.str] [.err] (fun _ => True) (fun s => errNo (nameFault s)))),
  (18, (true, funSpec [.str] [.int .i64] (fun _ => True) (fun s => nameFault s))),
  (5, (true, funSpec [.err, .int .i64] [.bool] (fun _ => True) (fun x => sameE x.1 x.2))),
  (8, (true, funSpec [] [.bool] (fun _ => True) (fun _ => true))),
  (9, (true, pureSpec [tObject] [.bool] (fun _ => True) (fun o y => y = true → LightO o))),
  (10, (true, funSpec [tObject] [.int .i64] (fun _ => True) (fun o => faultO o))),
  (11, (true, funSpec [tObject] [.str, .err] (fun _ => True) (fun o => textR o))),
  (12, (true, funSpec [tObject] [.err] (fun _ => True) (fun o => errNo (faultO o)))),
  (13, (true, funSpec [tObject] [.str, .int .i64] (fun o => faultO o = 0) (fun o => textN o))),
  (14, (true, funSpec [.str] [tObject, .err] (fun _ => True) (fun s => parseF s))),
  (15, (true, funSpec [.str] [tObject, .int .i64] (fun _ => True) (fun s => objR s))),
  (16, (true, funSpec [tObject, tObject] [.bool] (fun _ => True) (fun x => sameO x.1 x.2)))]
theorem Tryd.lobjectCtxOK : CtxOK Tryd.prog Tryd.B Tryd.X Tryd.lobjectCtx :=
  ctx1 (callOK_of_fun Tryd.ok_Check) (ctx1 (callOK_of_fun Tryd.ok_NameFault) (ctx1 (callOK_of_fun Tryd.ok_same) (ctx1 (callOK_of_fun Tryd.ok_objects) (ctx1 (callOK_of_pure Tryd.ok_LightObject) (ctx1 (callOK_of_fun Tryd.ok_FaultO) (ctx1 (callOK_of_fun Tryd.ok_TextO) (ctx1 (callOK_of_fun Tryd.ok_CheckO) (ctx1 (callOK_of_fun Tryd.ok_RTextO) (ctx1 (callOK_of_fun Tryd.ok_ParseO) (ctx1 (callOK_of_fun Tryd.ok_RObjectOf) (ctx1 (callOK_of_fun Tryd.ok_SameObject) (ctx0 Tryd.tyOK))))))))))))
set_option maxRecDepth 100000 in
set_option maxHeartbeats 4000000 in
theorem vc_ObjectSays (o : D tObject) (s : List UInt8) (hw : wfL [tObject, .str] (o, s)) : (fnVCs Tryd.B Tryd.lobjectCtx Tryd.f4 [] [tObject, .str] [.bool] (fun _ y => y = true) (o, s)).holds := by
  refine holds_of (p :=
    (True) ∧ (((!true) = true → (true = true)) ∧ ((!true) = false → (True) ∧ (∀ x_0 : Bool, ((x_0 = true → LightO o) → (((!x_0) = true → (true = true)) ∧ ((!x_0) = false → ((List.length s ≤ big) → (((decide ((↑(List.length s) : Int) > (1500 : Int))) = true → (true = true)) ∧ ((decide ((↑(List.length s) : Int) > (1500 : Int))) = false → (True) ∧ (True) ∧ (True) ∧ (True) ∧ (((!sameE (errNo (faultO o)) (faultO o)) = true → (false = true)) ∧ ((!sameE (errNo (faultO o)) (faultO o)) = false → (((decide (faultO o > (0 : Int))) = true → (True) ∧ (((!sameE (textR o).2 (faultO o)) = true → (false = true)) ∧ ((!sameE (textR o).2 (faultO o)) = false → (((!(textR o).1 == @List.nil UInt8) = true → (false = true)) ∧ ((!(textR o).1 == @List.nil UInt8) = false → (True) ∧ (True) ∧ (True) ∧ (((sameE (errNo (objR s).2) (objR s).2) = true → (True) ∧ (sameO (objR s).1 (objR s).1 = true)) ∧ ((sameE (errNo (objR s).2) (objR s).2) = false → (false = true)))))))) ∧ ((decide (faultO o > (0 : Int))) = false → (faultO o = (0 : Int)) ∧ (((!(textR o).1 == (textN o).1) = true → (false = true)) ∧ ((!(textR o).1 == (textN o).1) = false → (True) ∧ (((!sameE (textR o).2 (textN o).2) = true → (false = true)) ∧ ((!sameE (textR o).2 (textN o).2) = false → (True) ∧ (True) ∧ (True) ∧ (((sameE (errNo (objR s).2) (objR s).2) = true → (True) ∧ (sameO (objR s).1 (objR s).1 = true)) ∧ ((sameE (errNo (objR s).2) (objR s).2) = false → (false = true))))))))))))))))))))) (by kernel_rfl) ?_
  refine ⟨trivial, ?_⟩
  refine ⟨fun h0 => ?_, fun h0 => ?_⟩
  · exact absurd (show false = true from h0) (by decide)
  ·
    refine ⟨trivial, ?_⟩
    intro x_0 q_0
    refine ⟨fun h1 => ?_, fun h1 => ?_⟩
    · try simp only [bl, reduceCtorEq] at h1
      first | trivial | omega | (dsimp only [D] at *; omega) | (simp only [I64, big] at *; omega) | (simp_all; done)
    · try simp only [bl, reduceCtorEq] at h1
      intro h2
      refine ⟨fun h3 => ?_, fun h3 => ?_⟩
      · try simp only [bl, reduceCtorEq] at h3
        first | trivial | omega | (dsimp only [D] at *; omega) | (simp only [I64, big] at *; omega) | (simp_all; done)
      · try simp only [bl, reduceCtorEq] at h3
        refine ⟨trivial, ?_⟩
        refine ⟨trivial, ?_⟩
        refine ⟨trivial, ?_⟩
        refine ⟨trivial, ?_⟩
        refine ⟨fun h4 => ?_, fun h4 => ?_⟩
        · try simp only [bl, reduceCtorEq] at h4
          first
          | exact Bool.noConfusion ((same_fault o).symm.trans h4)
          | exact Bool.noConfusion ((same_obj s).symm.trans h4)
          | (rw [textR_bad (by omega)] at h4; exact Bool.noConfusion ((same_fault o).symm.trans h4))
          | (rw [textR_bad (by omega)] at h4; exact absurd rfl h4)
          | exact absurd (textR_zero (by assumption)).1 h4
          | exact Bool.noConfusion ((textR_zero (by assumption)).2.symm.trans h4)
        · try simp only [bl, reduceCtorEq] at h4
          refine ⟨fun h5 => ?_, fun h5 => ?_⟩
          · try simp only [bl, reduceCtorEq] at h5
            refine ⟨trivial, ?_⟩
            refine ⟨fun h6 => ?_, fun h6 => ?_⟩
            · try simp only [bl, reduceCtorEq] at h6
              first
              | exact Bool.noConfusion ((same_fault o).symm.trans h6)
              | exact Bool.noConfusion ((same_obj s).symm.trans h6)
              | (rw [textR_bad (by omega)] at h6; exact Bool.noConfusion ((same_fault o).symm.trans h6))
              | (rw [textR_bad (by omega)] at h6; exact absurd rfl h6)
              | exact absurd (textR_zero (by assumption)).1 h6
              | exact Bool.noConfusion ((textR_zero (by assumption)).2.symm.trans h6)
            · try simp only [bl, reduceCtorEq] at h6
              refine ⟨fun h7 => ?_, fun h7 => ?_⟩
              · try simp only [bl, reduceCtorEq] at h7
                first
                | exact Bool.noConfusion ((same_fault o).symm.trans h7)
                | exact Bool.noConfusion ((same_obj s).symm.trans h7)
                | (rw [textR_bad (by omega)] at h7; exact Bool.noConfusion ((same_fault o).symm.trans h7))
                | (rw [textR_bad (by omega)] at h7; exact absurd rfl h7)
                | exact absurd (textR_zero (by assumption)).1 h7
                | exact Bool.noConfusion ((textR_zero (by assumption)).2.symm.trans h7)
              · try simp only [bl, reduceCtorEq] at h7
                refine ⟨trivial, ?_⟩
                refine ⟨trivial, ?_⟩
                refine ⟨trivial, ?_⟩
                refine ⟨fun h8 => ?_, fun h8 => ?_⟩
                · try simp only [bl, reduceCtorEq] at h8
                  refine ⟨trivial, ?_⟩
                  exact sameO_self _
                · try simp only [bl, reduceCtorEq] at h8
                  first
                  | exact Bool.noConfusion ((same_fault o).symm.trans h8)
                  | exact Bool.noConfusion ((same_obj s).symm.trans h8)
                  | (rw [textR_bad (by omega)] at h8; exact Bool.noConfusion ((same_fault o).symm.trans h8))
                  | (rw [textR_bad (by omega)] at h8; exact absurd rfl h8)
                  | exact absurd (textR_zero (by assumption)).1 h8
                  | exact Bool.noConfusion ((textR_zero (by assumption)).2.symm.trans h8)
          · try simp only [bl, reduceCtorEq] at h5
            refine ⟨?_, ?_⟩
            · have := faultO_nonneg o; omega
            refine ⟨fun h6 => ?_, fun h6 => ?_⟩
            · try simp only [bl, reduceCtorEq] at h6
              first
              | exact Bool.noConfusion ((same_fault o).symm.trans h6)
              | exact Bool.noConfusion ((same_obj s).symm.trans h6)
              | (rw [textR_bad (by omega)] at h6; exact Bool.noConfusion ((same_fault o).symm.trans h6))
              | (rw [textR_bad (by omega)] at h6; exact absurd rfl h6)
              | exact absurd (textR_zero (by assumption)).1 h6
              | exact Bool.noConfusion ((textR_zero (by assumption)).2.symm.trans h6)
            · try simp only [bl, reduceCtorEq] at h6
              refine ⟨trivial, ?_⟩
              refine ⟨fun h7 => ?_, fun h7 => ?_⟩
              · try simp only [bl, reduceCtorEq] at h7
                first
                | exact Bool.noConfusion ((same_fault o).symm.trans h7)
                | exact Bool.noConfusion ((same_obj s).symm.trans h7)
                | (rw [textR_bad (by omega)] at h7; exact Bool.noConfusion ((same_fault o).symm.trans h7))
                | (rw [textR_bad (by omega)] at h7; exact absurd rfl h7)
                | exact absurd (textR_zero (by assumption)).1 h7
                | exact Bool.noConfusion ((textR_zero (by assumption)).2.symm.trans h7)
              · try simp only [bl, reduceCtorEq] at h7
                refine ⟨trivial, ?_⟩
                refine ⟨trivial, ?_⟩
                refine ⟨trivial, ?_⟩
                refine ⟨fun h8 => ?_, fun h8 => ?_⟩
                · try simp only [bl, reduceCtorEq] at h8
                  refine ⟨trivial, ?_⟩
                  exact sameO_self _
                · try simp only [bl, reduceCtorEq] at h8
                  first
                  | exact Bool.noConfusion ((same_fault o).symm.trans h8)
                  | exact Bool.noConfusion ((same_obj s).symm.trans h8)
                  | (rw [textR_bad (by omega)] at h8; exact Bool.noConfusion ((same_fault o).symm.trans h8))
                  | (rw [textR_bad (by omega)] at h8; exact absurd rfl h8)
                  | exact absurd (textR_zero (by assumption)).1 h8
                  | exact Bool.noConfusion ((textR_zero (by assumption)).2.symm.trans h8)
theorem Tryd.ok_ObjectSays : PureOK Tryd.prog Tryd.B.eT Tryd.X 4 [tObject, .str] [.bool] (fun _ => True) (fun _ y => y = true) :=
  pure_fn (X := Tryd.X) Tryd.lobjectCtxOK Tryd.func4 (by kernel_rfl) (fun _ => []) (fun x hw hp => vc_ObjectSays x.1 x.2 hw)
open Go.ChangeShapes Go.WideShapes Go.ChangeAt Go.RowKit in
theorem Tryd.vars_of_objectSays {W : World} (hL : laidMetH Tryd.prog Rows.objectSaysRow.laid W) (hsh : W.ShapedOpen Tryd.prog) : Tryd.Vars W := by
  rw [MakeChecks.laidMetH_plain _ _ _ (by kernel_rfl)] at hL
  exact ⟨tab_of_reads (g := 0) (t := 105) (e := 94) (n := 20) (by kernel_rfl) (by kernel_rfl) (by kernel_rfl) (by kernel_rfl) (by kernel_rfl) (by kernel_rfl) ((show (Rows.laid_internal_strconv_uint64pow10 : DataW Unit) = Lib.tabData .u64 Lib.pow10Tab from by kernel_rfl) ▸ Lib.laidMet.reads hL (.tail _ (.tail _ (.head _)))),
    int_of_shape (g := 1) (t := 3) (zero := #[.int .i64 0]) hsh (of_decide_eq_true (by kernel_rfl)) (by kernel_rfl) rfl (by kernel_rfl) (by kernel_rfl) (by kernel_rfl),
    iface_of_reads (g := 4) (t := 27) (by kernel_rfl) (by kernel_rfl) (by kernel_rfl) (Lib.laidMet.reads hL (.tail _ (.tail _ (.tail _ (.tail _ (.tail _ (.head _))))))),
    iface_of_reads (g := 5) (t := 27) (by kernel_rfl) (by kernel_rfl) (by kernel_rfl) (Lib.laidMet.reads hL (.tail _ (.tail _ (.tail _ (.tail _ (.head _))))))⟩
open Go.ChangeShapes Go.WideShapes Go.ChangeAt Go.RowKit in
set_option maxRecDepth 100000 in
theorem objectSays_lifted (os : Os) (started : os.Started) (H : Type) (enc : TypeId × Value → H) :
    ReturnsInHanded {} Tryd.checked os 4 .any (fun w args => (Rows.objectSaysSpec.pre enc Tryd.prog Tryd.f4 [] false w args ∧ laidMetH Tryd.prog Rows.objectSaysRow.laid w) ∧ sizedMet enc Tryd.prog Tryd.f4 (OpenSpec.ofChange Rows.objectSaysSpec) false w args) (Rows.objectSaysSpec.post enc Tryd.prog Tryd.f4 false true false false) := by
  refine lift_shaped (C := Tryd.checked) (X := fun w _ => laidMetH Tryd.prog Rows.objectSaysRow.laid w) (fun _ _ _ hh h => h.of_heap hh) (by kernel_rfl) started (by kernel_rfl) Tryd.func4
    (ChangeSpec.witness_shaped (enc := enc) (C := Tryd.checked) (os := os) (X := fun w _ => laidMetH Tryd.prog Rows.objectSaysRow.laid w) false (World.laidAll Tryd.prog os Rows.objectSaysRow.laid) #[.agg #[.slice none 0 0, .slice none 0 0, .slice none 0 0, .slice none 0 0], .string ⟨#[]⟩] 8 (World.laidAll_os _ _ _) (World.shaped_of_ZipB (by kernel_rfl) (by kernel_rfl)) (by kernel_rfl) (by kernel_rfl) (by kernel_rfl)
      (by rw [MakeChecks.laidMetH_plain _ _ _ (by kernel_rfl)]; exact laidMet_laidAll _ (by kernel_rfl) (by kernel_rfl))) ?_
  intro W base args ds gs before hval hW hL hsh
  exact law_calls (C := Tryd.checked) (n := 16) rfl (by kernel_rfl) (fun ds h => by match ds, h with | [_, _], _ => rfl) (by kernel_rfl) (by kernel_rfl) (by kernel_rfl) (tb := 4) (by kernel_rfl) Tryd.ok_ObjectSays hval hW (Tryd.vars_of_objectSays hL hsh) (fun _ _ => trivial)
open Go.ChangeShapes Go.WideShapes Go.ChangeAt Go.RowKit in
theorem objectSays_said : Rows.ObjectSaysSaid :=
  OpenClaim.holds_of_wide 4 Tryd.f4 rfl rfl rfl rfl rfl rfl rfl ⟨rfl, rfl, rfl, rfl, rfl⟩ rfl rfl rfl rfl rfl (by kernel_rfl) Tryd.func4 (by kernel_rfl)
    (of_decide_eq_true (by kernel_rfl)) (by unfold Func.isWrapper; first | (rw [if_pos (by decide +kernel)]; kernel_rfl) | (rw [if_neg (by decide +kernel)]; exact ⟨rfl, rfl⟩))
    (fun os started H enc _ => objectSays_lifted os started H enc)
theorem objectSays_holds : Rows.ObjectSaysCardSaid :=
  Claim7.holds_tied_plain_at .later [] [.data, .data, .data, .data, .sentinel, .sentinel, .pinned] true (true, "ef8785a8e46de7806839c45da0b5e5d473e64e64fb9a5dcbf5be052d74c8f2a0") true
    objectSays_said (fun _ h => by cases h) (by kernel_rfl) (fun _ h => by cases h) objectSays_row_tie rfl ⟨rfl, rfl⟩ (by kernel_rfl) rfl
    (fun f fn hf hfn => by
      obtain rfl : f = 4 := Option.some.inj ((show Tryd.prog.funcNamed Rows.objectSaysRow.func = some 4 by kernel_rfl).symm.trans hf) |>.symm
      obtain rfl : fn = Tryd.f4 := (Option.some.inj (Tryd.func4.symm.trans hfn)).symm
      exact ⟨by kernel_rfl, fun j t ht => by
        have hall : (Tryd.f4.params.toList.all fun t => !Tryd.prog.wantsStandIn t) = true := by kernel_rfl
        have hm : t ∈ Tryd.f4.params.toList := Array.mem_def.1 (Array.mem_of_getElem? ht)
        exact (by simpa using List.all_eq_true.1 hall t hm : Tryd.prog.wantsStandIn t = false)⟩)
    (by kernel_rfl)
#print axioms objectSays_holds
end Go.Proofs.YtgokjhhcfemnhaaDoor

