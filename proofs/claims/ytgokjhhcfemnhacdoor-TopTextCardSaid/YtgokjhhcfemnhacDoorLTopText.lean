/- A part of the proof that the law TopTextCard holds of the given program: facts that are used there. -/
import Derived.Test.YtgokjhhcfemnhacDoorPart5
import Derived.Test.YtgokjhhcfemnhacDoorRows
import Derived.Test.YtgokjhhcfemnhacDoorTie
import Derived.Test.YtgokjhhcfemnhacDoorCards
import Derived.LaidMore
set_option linter.unusedSimpArgs false
set_option linter.unusedVariables false
namespace Go.Proofs.YtgokjhhcfemnhacDoor
open Go.Vg Go.Mrl
noncomputable def Tryd.ltextCtx : List (FuncId × (Bool × CSpec)) := [(26, (true, funSpec [.str] [.err] (fun _ => True) (fun s => errNo (nameFault s)))),
  (5, (true, funSpec [.str] [tObject, .err] (fun _ => True) (fun s => parseF s))),
  (6, (true, pureSpec [tObject] [.bool] (fun _ => True) (fun o y => y = true → LightO o))),
  (7, (true, funSpec [tObject] [.str, .err] (fun _ => True) (fun o => textR o))),
  (8, (true, funSpec [tObject, tObject] [.bool] (fun _ => True) (fun x => sameO x.1 x.2)))]
theorem Tryd.ltextCtxOK : CtxOK Tryd.prog Tryd.B Tryd.X Tryd.ltextCtx :=
  ctx1 (callOK_of_fun Tryd.ok_Check) (ctx1 (callOK_of_fun Tryd.ok_ParseO) (ctx1 (callOK_of_pure Tryd.ok_LightObject) (ctx1 (callOK_of_fun Tryd.ok_TextO) (ctx1 (callOK_of_fun Tryd.ok_SameObject) (ctx0 Tryd.tyOK)))))
set_option maxRecDepth 100000 in
set_option maxHeartbeats 4000000 in
theorem vc_TopText (o : D tObject) (s : List UInt8) (hw : wfL [tObject, .str] (o, s)) : (fnVCs Tryd.B Tryd.ltextCtx Tryd.f3 [] [tObject, .str] [.bool] (fun _ y => y = true) (o, s)).holds := by
  refine holds_of (p :=
    (True) ∧ (((!Err.isNil (errNo (objR [(119 : UInt8), 111, 114, 100, 32, 49, 10]).2)) = true → (false = true)) ∧ ((!Err.isNil (errNo (objR [(119 : UInt8), 111, 114, 100, 32, 49, 10]).2)) = false → ((List.length (objR [(119 : UInt8), 111, 114, 100, 32, 49, 10]).1.2.1 ≤ big) → ((((↑(List.length (objR [(119 : UInt8), 111, 114, 100, 32, 49, 10]).1.2.1) : Int) != (1 : Int)) = true → (false = true)) ∧ (((↑(List.length (objR [(119 : UInt8), 111, 114, 100, 32, 49, 10]).1.2.1) : Int) != (1 : Int)) = false → (True) ∧ (∀ x_0 : Bool, ((x_0 = true → LightO o) → (((!x_0) = true → (true = true)) ∧ ((!x_0) = false → ((List.length s ≤ big) → (((decide ((↑(List.length s) : Int) > (1300 : Int))) = true → (true = true)) ∧ ((decide ((↑(List.length s) : Int) > (1300 : Int))) = false → (True) ∧ (((Err.isNil (textR o).2) = true → (True) ∧ (((!Err.isNil (errNo (objR (textR o).1).2)) = true → (false = true)) ∧ ((!Err.isNil (errNo (objR (textR o).1).2)) = false → (True) ∧ (((!sameO (objR (textR o).1).1 o) = true → (false = true)) ∧ ((!sameO (objR (textR o).1).1 o) = false → (True) ∧ (((!Err.isNil (errNo (objR s).2)) = true → (true = true)) ∧ ((!Err.isNil (errNo (objR s).2)) = false → (True) ∧ (((Err.isNil (textR (objR s).1).2) = true → (((textR (objR s).1).1 == s) = true)) ∧ ((Err.isNil (textR (objR s).1).2) = false → (false = true)))))))))) ∧ ((Err.isNil (textR o).2) = false → (True) ∧ (((!Err.isNil (errNo (objR s).2)) = true → (true = true)) ∧ ((!Err.isNil (errNo (objR s).2)) = false → (True) ∧ (((Err.isNil (textR (objR s).1).2) = true → (((textR (objR s).1).1 == s) = true)) ∧ ((Err.isNil (textR (objR s).1).2) = false → (false = true)))))))))))))))))))) (by kernel_rfl) ?_
  have hx := obj_w; simp only [litW] at hx
  refine ⟨trivial, ?_⟩
  refine ⟨fun h0 => ?_, fun h0 => ?_⟩
  · try simp only [bl, reduceCtorEq] at h0
    first | (rw [hx] at h0; cases h0; done) | (rw [hx] at h0; exact absurd rfl h0) | (rw [hx] at h0; simp at h0; done) | (rw [obj_back (by assumption)] at h0; cases h0; done) | (rw [obj_back (by assumption), sameO_self] at h0; cases h0; done) | (rw [text_back (by assumption)] at h0; cases h0; done)
  · try simp only [bl, reduceCtorEq] at h0
    intro h1
    refine ⟨fun h2 => ?_, fun h2 => ?_⟩
    · try simp only [bl, reduceCtorEq] at h2
      first | (rw [hx] at h2; cases h2; done) | (rw [hx] at h2; exact absurd rfl h2) | (rw [hx] at h2; simp at h2; done) | (rw [obj_back (by assumption)] at h2; cases h2; done) | (rw [obj_back (by assumption), sameO_self] at h2; cases h2; done) | (rw [text_back (by assumption)] at h2; cases h2; done)
    · try simp only [bl, reduceCtorEq] at h2
      refine ⟨trivial, ?_⟩
      intro x_0 q_0
      refine ⟨fun h3 => ?_, fun h3 => ?_⟩
      · try simp only [bl, reduceCtorEq] at h3
        first | (rw [hx]; decide) | first | trivial | omega | (dsimp only [D] at *; omega) | (simp only [I64, big] at *; omega) | (simp_all; done)
      · try simp only [bl, reduceCtorEq] at h3
        intro h4
        refine ⟨fun h5 => ?_, fun h5 => ?_⟩
        · try simp only [bl, reduceCtorEq] at h5
          first | (rw [hx]; decide) | first | trivial | omega | (dsimp only [D] at *; omega) | (simp only [I64, big] at *; omega) | (simp_all; done)
        · try simp only [bl, reduceCtorEq] at h5
          refine ⟨trivial, ?_⟩
          refine ⟨fun h6 => ?_, fun h6 => ?_⟩
          · try simp only [bl, reduceCtorEq] at h6
            refine ⟨trivial, ?_⟩
            refine ⟨fun h7 => ?_, fun h7 => ?_⟩
            · try simp only [bl, reduceCtorEq] at h7
              first | (rw [hx] at h7; cases h7; done) | (rw [hx] at h7; exact absurd rfl h7) | (rw [hx] at h7; simp at h7; done) | (rw [obj_back (by assumption)] at h7; cases h7; done) | (rw [obj_back (by assumption), sameO_self] at h7; cases h7; done) | (rw [text_back (by assumption)] at h7; cases h7; done)
            · try simp only [bl, reduceCtorEq] at h7
              refine ⟨trivial, ?_⟩
              refine ⟨fun h8 => ?_, fun h8 => ?_⟩
              · try simp only [bl, reduceCtorEq] at h8
                first | (rw [hx] at h8; cases h8; done) | (rw [hx] at h8; exact absurd rfl h8) | (rw [hx] at h8; simp at h8; done) | (rw [obj_back (by assumption)] at h8; cases h8; done) | (rw [obj_back (by assumption), sameO_self] at h8; cases h8; done) | (rw [text_back (by assumption)] at h8; cases h8; done)
              · try simp only [bl, reduceCtorEq] at h8
                refine ⟨trivial, ?_⟩
                refine ⟨fun h9 => ?_, fun h9 => ?_⟩
                · try simp only [bl, reduceCtorEq] at h9
                  first | (rw [hx]; decide) | first | trivial | omega | (dsimp only [D] at *; omega) | (simp only [I64, big] at *; omega) | (simp_all; done)
                · try simp only [bl, reduceCtorEq] at h9
                  refine ⟨trivial, ?_⟩
                  refine ⟨fun h10 => ?_, fun h10 => ?_⟩
                  · try simp only [bl, reduceCtorEq] at h10
                    rw [text_back (by assumption)]; exact beq_self_eq_true s
                  · try simp only [bl, reduceCtorEq] at h10
                    first | (rw [hx] at h10; cases h10; done) | (rw [hx] at h10; exact absurd rfl h10) | (rw [hx] at h10; simp at h10; done) | (rw [obj_back (by assumption)] at h10; cases h10; done) | (rw [obj_back (by assumption), sameO_self] at h10; cases h10; done) | (rw [text_back (by assumption)] at h10; cases h10; done)
          · try simp only [bl, reduceCtorEq] at h6
            refine ⟨trivial, ?_⟩
            refine ⟨fun h7 => ?_, fun h7 => ?_⟩
            · try simp only [bl, reduceCtorEq] at h7
              first | (rw [hx]; decide) | first | trivial | omega | (dsimp only [D] at *; omega) | (simp only [I64, big] at *; omega) | (simp_all; done)
            · try simp only [bl, reduceCtorEq] at h7
              refine ⟨trivial, ?_⟩
              refine ⟨fun h8 => ?_, fun h8 => ?_⟩
              · try simp only [bl, reduceCtorEq] at h8
                rw [text_back (by assumption)]; exact beq_self_eq_true s
              · try simp only [bl, reduceCtorEq] at h8
                first | (rw [hx] at h8; cases h8; done) | (rw [hx] at h8; exact absurd rfl h8) | (rw [hx] at h8; simp at h8; done) | (rw [obj_back (by assumption)] at h8; cases h8; done) | (rw [obj_back (by assumption), sameO_self] at h8; cases h8; done) | (rw [text_back (by assumption)] at h8; cases h8; done)
theorem Tryd.ok_TopText : PureOK Tryd.prog Tryd.B.eT Tryd.X 3 [tObject, .str] [.bool] (fun _ => True) (fun _ y => y = true) :=
  pure_fn (X := Tryd.X) Tryd.ltextCtxOK Tryd.func3 (by kernel_rfl) (fun _ => []) (fun x hw hp => vc_TopText x.1 x.2 hw)
open Go.ChangeShapes Go.WideShapes Go.ChangeAt Go.RowKit in
theorem Tryd.vars_of_topText {W : World} (hL : laidMetH Tryd.prog Rows.topTextRow.laid W) (hsh : W.ShapedOpen Tryd.prog) : Tryd.Vars W := by
  rw [MakeChecks.laidMetH_plain _ _ _ (by kernel_rfl)] at hL
  exact ⟨tab_of_reads (g := 1) (t := 125) (e := 80) (n := 20) (by kernel_rfl) (by kernel_rfl) (by kernel_rfl) (by kernel_rfl) (by kernel_rfl) (by kernel_rfl) ((show (Rows.laid_internal_strconv_uint64pow10 : DataW Unit) = Lib.tabData .u64 Lib.pow10Tab from by kernel_rfl) ▸ Lib.laidMet.reads hL (.tail _ (.tail _ (.head _)))),
    int_of_shape (g := 0) (t := 3) (zero := #[.int .i64 0]) hsh (of_decide_eq_true (by kernel_rfl)) (by kernel_rfl) rfl (by kernel_rfl) (by kernel_rfl) (by kernel_rfl),
    iface_of_reads (g := 4) (t := 29) (by kernel_rfl) (by kernel_rfl) (by kernel_rfl) (Lib.laidMet.reads hL (.tail _ (.tail _ (.tail _ (.tail _ (.tail _ (.head _))))))),
    iface_of_reads (g := 5) (t := 29) (by kernel_rfl) (by kernel_rfl) (by kernel_rfl) (Lib.laidMet.reads hL (.tail _ (.tail _ (.tail _ (.tail _ (.head _))))))⟩
open Go.ChangeShapes Go.WideShapes Go.ChangeAt Go.RowKit in
set_option maxRecDepth 100000 in
theorem topText_lifted (os : Os) (started : os.Started) (H : Type) (enc : TypeId × Value → H) :
    ReturnsInHanded {} Tryd.checked os 3 .any (fun w args => (Rows.topTextSpec.pre enc Tryd.prog Tryd.f3 [] false w args ∧ laidMetH Tryd.prog Rows.topTextRow.laid w) ∧ sizedMet enc Tryd.prog Tryd.f3 (OpenSpec.ofChange Rows.topTextSpec) false w args) (Rows.topTextSpec.post enc Tryd.prog Tryd.f3 false true false false) := by
  refine lift_shaped (C := Tryd.checked) (X := fun w _ => laidMetH Tryd.prog Rows.topTextRow.laid w) (fun _ _ _ hh h => h.of_heap hh) (by kernel_rfl) started (by kernel_rfl) Tryd.func3
    (ChangeSpec.witness_shaped (enc := enc) (C := Tryd.checked) (os := os) (X := fun w _ => laidMetH Tryd.prog Rows.topTextRow.laid w) false (World.laidAll Tryd.prog os Rows.topTextRow.laid) #[.agg #[.slice none 0 0, .slice none 0 0, .slice none 0 0, .slice none 0 0], .string ⟨#[]⟩] 8 (World.laidAll_os _ _ _) (World.shaped_of_ZipB (by kernel_rfl) (by kernel_rfl)) (by kernel_rfl) (by kernel_rfl) (by kernel_rfl)
      (by rw [MakeChecks.laidMetH_plain _ _ _ (by kernel_rfl)]; exact laidMet_laidAll _ (by kernel_rfl) (by kernel_rfl))) ?_
  intro W base args ds gs before hval hW hL hsh
  exact law_calls (C := Tryd.checked) (n := 16) rfl (by kernel_rfl) (fun ds h => by match ds, h with | [_, _], _ => rfl) (by kernel_rfl) (by kernel_rfl) (by kernel_rfl) (tb := 4) (by kernel_rfl) Tryd.ok_TopText hval hW (Tryd.vars_of_topText hL hsh) (fun _ _ => trivial)
open Go.ChangeShapes Go.WideShapes Go.ChangeAt Go.RowKit in
theorem topText_said : Rows.TopTextSaid :=
  OpenClaim.holds_of_wide 3 Tryd.f3 rfl rfl rfl rfl rfl rfl rfl ⟨rfl, rfl, rfl, rfl, rfl⟩ rfl rfl rfl rfl rfl (by kernel_rfl) Tryd.func3 (by kernel_rfl)
    (of_decide_eq_true (by kernel_rfl)) (by unfold Func.isWrapper; first | (rw [if_pos (by decide +kernel)]; kernel_rfl) | (rw [if_neg (by decide +kernel)]; exact ⟨rfl, rfl⟩))
    (fun os started H enc _ => topText_lifted os started H enc)
theorem topText_holds : Rows.TopTextCardSaid :=
  Claim7.holds_tied_plain_at .later [] [.data, .data, .data, .data, .sentinel, .sentinel, .pinned] true (true, "3ae5d83ab2c43b541dce7104a51828822da873c8263d1ff47f10708efe6775d8") true
    topText_said (fun _ h => by cases h) (by kernel_rfl) (fun _ h => by cases h) topText_row_tie rfl ⟨rfl, rfl⟩ (by kernel_rfl) rfl
    (fun f fn hf hfn => by
      obtain rfl : f = 3 := Option.some.inj ((show Tryd.prog.funcNamed Rows.topTextRow.func = some 3 by kernel_rfl).symm.trans hf) |>.symm
      obtain rfl : fn = Tryd.f3 := (Option.some.inj (Tryd.func3.symm.trans hfn)).symm
      exact ⟨by kernel_rfl, fun j t ht => by
        have hall : (Tryd.f3.params.toList.all fun t => !Tryd.prog.wantsStandIn t) = true := by kernel_rfl
        have hm : t ∈ Tryd.f3.params.toList := Array.mem_def.1 (Array.mem_of_getElem? ht)
        exact (by simpa using List.all_eq_true.1 hall t hm : Tryd.prog.wantsStandIn t = false)⟩)
    (by kernel_rfl)
#print axioms topText_holds
end Go.Proofs.YtgokjhhcfemnhacDoor

