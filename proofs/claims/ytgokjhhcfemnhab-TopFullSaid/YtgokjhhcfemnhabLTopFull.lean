/- A part of the proof that the law TopFull holds of the given program: facts that are used there. -/
import Derived.Test.YtgokjhhcfemnhabPlace
import Derived.Test.YtgokjhhcfemnhabRSame
import Derived.Test.YtgokjhhcfemnhabMrl13
import Derived.Test.YtgokjhhcfemnhabMrl14
import Derived.Test.YtgokjhhcfemnhabRows
set_option linter.unusedSimpArgs false
set_option linter.unusedVariables false
namespace Go.Proofs.Ytgokjhhcfemnhab
open Go.Vg Go.Mrl
/-! The law TopFull. -/
noncomputable def Try.lfullCtx : List (FuncId × (Bool × CSpec)) := [(44, (true, funSpec [.str] [.err] (fun _ => True) (fun s => errNo (nameFault s)))),
  (18, (true, funSpec [.str] [.int .u32] (fun _ => True) (fun s => (hashF s : Int)))),
  (22, (true, funSpec [.err] [.int .i64] (fun _ => True) (fun e => numE e))),
  (20, (true, funSpec [.int .i64] [.int .i64] (fun n => 0 ≤ n ∧ n ≤ 1000000) (fun n => roundF n))),
  (21, (true, funSpec [tRange, tRange] [.bool] (fun x => bnd x.1 ∧ bnd x.2) (fun x => apartF x.1 x.2))),
  (36, (true, funSpec [tRange, .slice tRange] [.bool] (fun x => bnd x.1 ∧ ∀ y ∈ x.2, bnd y) (fun x => freeF x.1 x.2))),
  (19, (true, funSpec [.slice (.int .i64), .slice tRange] [.slice (.int .i64), .err] (fun _ => True) (fun x => basesF x))),
  (12, (true, funSpec [.slice (.int .i64), .slice (.int .i64)] [.bool] (fun _ => True) (fun x => sameI x.1 x.2)))]
theorem Try.lfullCtxOK {X : Ext} : CtxOK Try.prog Try.B X Try.lfullCtx :=
  ctx1 (callOK_of_fun Try.ok_Check) (ctx1 (callOK_of_fun Try.ok_Hash) (ctx1 (callOK_of_fun Try.ok_number) (ctx1 (callOK_of_fun Try.ok_Round) (ctx1 (callOK_of_fun Try.ok_Apart) (ctx1 (callOK_of_fun Try.ok_free) (ctx1 (callOK_of_fun Try.ok_Bases) (ctx1 (callOK_of_fun Try.ok_SameNumbers) (ctx0 Try.tyOK))))))))
def tfAnn (s : List Int) : Anns := [
  (0, fun st => { X := Nat, inv := fun i => i ≤ s.length ∧ (∀ j, j < i → 1 ≤ (nth (.int .i64) s j : Int) ∧ (nth (.int .i64) s j : Int) ≤ 40) ∧ 0 ≤ sumTo s i ∧ sumTo s i ≤ 48 * i, meas := fun i => s.length - i, slots := fun i => [(6, sI i), (5, sI (sumTo s i))], keep := [0, 4] })]
set_option maxRecDepth 100000 in
set_option maxHeartbeats 1000000 in
theorem vc_TopFull (s : List Int) (hw : wfL [.slice (.int .i64)] s) : (fnVCs Try.B Try.lfullCtx Try.f8 (tfAnn s) [.slice (.int .i64)] [.bool] (fun _ y => y = true) s).holds := by
  refine holds_of (p :=
    (True) ∧
      (((!Err.isNil Err.nil) = true →
        (false = true)) ∧
      ((!Err.isNil Err.nil) = false →
        (True) ∧
        (((!sameI (@List.nil Int ++ [baseAt (@List.nil (Int × Int × Unit)) (roundF (40 : Int)) (40 : Nat) (0 : Int)] ++ [baseAt (@List.nil (Int × Int × Unit) ++ [(baseAt (@List.nil (Int × Int × Unit)) (roundF (40 : Int)) (40 : Nat) (0 : Int), roundF (40 : Int), ())]) (roundF (40 : Int)) (40 : Nat) (0 : Int)]) [(0 : Int), (48 : Int)]) = true →
          (false = true)) ∧
        ((!sameI (@List.nil Int ++ [baseAt (@List.nil (Int × Int × Unit)) (roundF (40 : Int)) (40 : Nat) (0 : Int)] ++ [baseAt (@List.nil (Int × Int × Unit) ++ [(baseAt (@List.nil (Int × Int × Unit)) (roundF (40 : Int)) (40 : Nat) (0 : Int), roundF (40 : Int), ())]) (roundF (40 : Int)) (40 : Nat) (0 : Int)]) [(0 : Int), (48 : Int)]) = false →
          ((List.length s ≤ big) →
          (((decide ((↑(List.length s) : Int) > (6 : Int))) = true →
            (true = true)) ∧
          ((decide ((↑(List.length s) : Int) > (6 : Int))) = false →
            (∃ (x : Nat), (x ≤ List.length s ∧ (∀ (j : Nat), j < x → (1 : Int) ≤ nth (Ty.int IntKind.i64) s j ∧ nth (Ty.int IntKind.i64) s j ≤ (40 : Int)) ∧ (0 : Int) ≤ sumTo s x ∧ sumTo s x ≤ (48 : Int) * (↑x : Int)) ∧ ((0 : Int) = (↑x : Int) ∧ (0 : Int) = sumTo s x ∧ True) ∧ True) ∧
            (∀ x_0 : Nat,
            ((x_0 ≤ List.length s ∧ (∀ (j : Nat), j < x_0 → (1 : Int) ≤ nth (Ty.int IntKind.i64) s j ∧ nth (Ty.int IntKind.i64) s j ≤ (40 : Int)) ∧ (0 : Int) ≤ sumTo s x_0 ∧ sumTo s x_0 ≤ (48 : Int) * (↑x_0 : Int)) →
            ((List.length s ≤ big) →
            (((decide ((↑x_0 : Int) < (↑(List.length s) : Int))) = true →
              ((0 : Int) ≤ (↑x_0 : Int) ∧ (↑x_0 : Int) < (↑(List.length s) : Int)) ∧
              (((decide (nth (Ty.int IntKind.i64) s x_0 < (1 : Int))) = true →
                (true = true)) ∧
              ((decide (nth (Ty.int IntKind.i64) s x_0 < (1 : Int))) = false →
                ((0 : Int) ≤ (↑x_0 : Int) ∧ (↑x_0 : Int) < (↑(List.length s) : Int)) ∧
                (((decide (nth (Ty.int IntKind.i64) s x_0 > (40 : Int))) = true →
                  (true = true)) ∧
                ((decide (nth (Ty.int IntKind.i64) s x_0 > (40 : Int))) = false →
                  ((0 : Int) ≤ (↑x_0 : Int) ∧ (↑x_0 : Int) < (↑(List.length s) : Int)) ∧
                  ((0 : Int) ≤ nth (Ty.int IntKind.i64) s x_0 ∧ nth (Ty.int IntKind.i64) s x_0 ≤ (1000000 : Int)) ∧
                  ((I64 (sumTo s x_0)) →
                  ((I64 (roundF (nth (Ty.int IntKind.i64) s x_0))) →
                  (I64 (sumTo s x_0 + roundF (nth (Ty.int IntKind.i64) s x_0))) ∧
                  ((I64 (↑x_0 : Int)) →
                  ((I64 (1 : Int)) →
                  (I64 ((↑x_0 : Int) + (1 : Int))) ∧
                  (∃ (x' : Nat), (x' ≤ List.length s ∧ (∀ (j : Nat), j < x' → (1 : Int) ≤ nth (Ty.int IntKind.i64) s j ∧ nth (Ty.int IntKind.i64) s j ≤ (40 : Int)) ∧ (0 : Int) ≤ sumTo s x' ∧ sumTo s x' ≤ (48 : Int) * (↑x' : Int)) ∧ List.length s - x' < List.length s - x_0 ∧ ((↑x_0 : Int) + (1 : Int) = (↑x' : Int) ∧ sumTo s x_0 + roundF (nth (Ty.int IntKind.i64) s x_0) = sumTo s x' ∧ True) ∧ True)))))))))) ∧
            ((decide ((↑x_0 : Int) < (↑(List.length s) : Int))) = false →
              (True) ∧
              (True) ∧
              ((((numE (basesF (s, [])).snd == (8 : Int)) == decide (sumTo s x_0 > (256 : Int))) = true →
                ((Err.isNil (basesF (s, [])).snd == decide (sumTo s x_0 ≤ (256 : Int))) = true)) ∧
              (((numE (basesF (s, [])).snd == (8 : Int)) == decide (sumTo s x_0 > (256 : Int))) = false →
                (false = true)))))))))))))))) (by kernel_rfl) ?_
  refine ⟨?_, ?_⟩
  · first | exact True.intro | rfl | omega | assumption | (dsimp only [D] at *; omega) | (simp only [I64, big] at *; omega) | (simp_all; done)
  refine ⟨fun h0 => ?_, fun h0 => ?_⟩
  · exact absurd (show false = true from h0) (by decide)
  ·
    refine ⟨?_, ?_⟩
    · first | exact True.intro | rfl | omega | assumption | (dsimp only [D] at *; omega) | (simp only [I64, big] at *; omega) | (simp_all; done)
    refine ⟨fun h1 => ?_, fun h1 => ?_⟩
    · exact absurd (show false = true from h1) (by decide)
    ·
      intro h2
      refine ⟨fun h3 => ?_, fun h3 => ?_⟩
      · try simp only [decide_eq_true_eq, decide_eq_false_iff_not, beq_iff_eq, beq_eq_false_iff_ne, bne_iff_ne, bne_eq_false_iff_eq, Bool.not_eq_true', Bool.not_eq_false', Bool.not_eq_true, Bool.not_eq_false, ne_eq, Bool.and_eq_true, Bool.or_eq_true, Bool.and_eq_false_iff, Bool.or_eq_false_iff, reduceCtorEq, Int.not_lt, Int.not_le] at h3
        first | exact True.intro | rfl | omega | assumption | (dsimp only [D] at *; omega) | (simp only [I64, big] at *; omega) | (simp_all; done)
      · try simp only [decide_eq_true_eq, decide_eq_false_iff_not, beq_iff_eq, beq_eq_false_iff_ne, bne_iff_ne, bne_eq_false_iff_eq, Bool.not_eq_true', Bool.not_eq_false', Bool.not_eq_true, Bool.not_eq_false, ne_eq, Bool.and_eq_true, Bool.or_eq_true, Bool.and_eq_false_iff, Bool.or_eq_false_iff, reduceCtorEq, Int.not_lt, Int.not_le] at h3
        refine ⟨?_, ?_⟩
        · exact ⟨0, ⟨by omega, fun j hj => by omega, by simp [sumTo], by simp [sumTo]⟩, ⟨rfl, rfl, trivial⟩, trivial⟩
        intro x_0 q_0
        intro h4
        refine ⟨fun h5 => ?_, fun h5 => ?_⟩
        · try simp only [decide_eq_true_eq, decide_eq_false_iff_not, beq_iff_eq, beq_eq_false_iff_ne, bne_iff_ne, bne_eq_false_iff_eq, Bool.not_eq_true', Bool.not_eq_false', Bool.not_eq_true, Bool.not_eq_false, ne_eq, Bool.and_eq_true, Bool.or_eq_true, Bool.and_eq_false_iff, Bool.or_eq_false_iff, reduceCtorEq, Int.not_lt, Int.not_le] at h5
          refine ⟨?_, ?_⟩
          · first | exact True.intro | rfl | omega | assumption | (dsimp only [D] at *; omega) | (simp only [I64, big] at *; omega) | (simp_all; done)
          refine ⟨fun h6 => ?_, fun h6 => ?_⟩
          · try simp only [decide_eq_true_eq, decide_eq_false_iff_not, beq_iff_eq, beq_eq_false_iff_ne, bne_iff_ne, bne_eq_false_iff_eq, Bool.not_eq_true', Bool.not_eq_false', Bool.not_eq_true, Bool.not_eq_false, ne_eq, Bool.and_eq_true, Bool.or_eq_true, Bool.and_eq_false_iff, Bool.or_eq_false_iff, reduceCtorEq, Int.not_lt, Int.not_le] at h6
            first | exact True.intro | rfl | omega | assumption | (dsimp only [D] at *; omega) | (simp only [I64, big] at *; omega) | (simp_all; done)
          · try simp only [decide_eq_true_eq, decide_eq_false_iff_not, beq_iff_eq, beq_eq_false_iff_ne, bne_iff_ne, bne_eq_false_iff_eq, Bool.not_eq_true', Bool.not_eq_false', Bool.not_eq_true, Bool.not_eq_false, ne_eq, Bool.and_eq_true, Bool.or_eq_true, Bool.and_eq_false_iff, Bool.or_eq_false_iff, reduceCtorEq, Int.not_lt, Int.not_le] at h6
            refine ⟨?_, ?_⟩
            · first | exact True.intro | rfl | omega | assumption | (dsimp only [D] at *; omega) | (simp only [I64, big] at *; omega) | (simp_all; done)
            refine ⟨fun h7 => ?_, fun h7 => ?_⟩
            · try simp only [decide_eq_true_eq, decide_eq_false_iff_not, beq_iff_eq, beq_eq_false_iff_ne, bne_iff_ne, bne_eq_false_iff_eq, Bool.not_eq_true', Bool.not_eq_false', Bool.not_eq_true, Bool.not_eq_false, ne_eq, Bool.and_eq_true, Bool.or_eq_true, Bool.and_eq_false_iff, Bool.or_eq_false_iff, reduceCtorEq, Int.not_lt, Int.not_le] at h7
              first | exact True.intro | rfl | omega | assumption | (dsimp only [D] at *; omega) | (simp only [I64, big] at *; omega) | (simp_all; done)
            · try simp only [decide_eq_true_eq, decide_eq_false_iff_not, beq_iff_eq, beq_eq_false_iff_ne, bne_iff_ne, bne_eq_false_iff_eq, Bool.not_eq_true', Bool.not_eq_false', Bool.not_eq_true, Bool.not_eq_false, ne_eq, Bool.and_eq_true, Bool.or_eq_true, Bool.and_eq_false_iff, Bool.or_eq_false_iff, reduceCtorEq, Int.not_lt, Int.not_le] at h7
              refine ⟨?_, ?_⟩
              · first | exact True.intro | rfl | omega | assumption | (dsimp only [D] at *; omega) | (simp only [I64, big] at *; omega) | (simp_all; done)
              refine ⟨?_, ?_⟩
              · first | exact True.intro | rfl | omega | assumption | (dsimp only [D] at *; omega) | (simp only [I64, big] at *; omega) | (simp_all; done)
              intro h8
              intro h9
              refine ⟨?_, ?_⟩
              · simp only [I64]; have := roundF_near (n := nth (.int .i64) s x_0); (try dsimp only [D] at *); omega
              intro h10
              intro h11
              refine ⟨?_, ?_⟩
              · first | exact True.intro | rfl | omega | assumption | (dsimp only [D] at *; omega) | (simp only [I64, big] at *; omega) | (simp_all; done)
              have hr := roundF_range (n := nth (.int .i64) s x_0) (by (try dsimp only [D]); omega) (by (try dsimp only [D]); omega)
              have e : sumTo s (x_0 + 1) = sumTo s x_0 + roundF (nth (.int .i64) s x_0) := rfl
              exact ⟨x_0 + 1, ⟨by omega, upto1 q_0.2.1 ⟨by (try dsimp only [D]); omega, by (try dsimp only [D]); omega⟩, by omega, by omega⟩, by omega, ⟨by omega, by rw [e], trivial⟩, (by repeat' (first | exact trivial | rfl | apply And.intro))⟩
        · try simp only [decide_eq_true_eq, decide_eq_false_iff_not, beq_iff_eq, beq_eq_false_iff_ne, bne_iff_ne, bne_eq_false_iff_eq, Bool.not_eq_true', Bool.not_eq_false', Bool.not_eq_true, Bool.not_eq_false, ne_eq, Bool.and_eq_true, Bool.or_eq_true, Bool.and_eq_false_iff, Bool.or_eq_false_iff, reduceCtorEq, Int.not_lt, Int.not_le] at h5
          refine ⟨?_, ?_⟩
          · first | exact True.intro | rfl | omega | assumption | (dsimp only [D] at *; omega) | (simp only [I64, big] at *; omega) | (simp_all; done)
          refine ⟨?_, ?_⟩
          · first | exact True.intro | rfl | omega | assumption | (dsimp only [D] at *; omega) | (simp only [I64, big] at *; omega) | (simp_all; done)
          refine ⟨fun h6 => ?_, fun h6 => ?_⟩
          · try simp only [decide_eq_true_eq, decide_eq_false_iff_not, beq_iff_eq, beq_eq_false_iff_ne, bne_iff_ne, bne_eq_false_iff_eq, Bool.not_eq_true', Bool.not_eq_false', Bool.not_eq_true, Bool.not_eq_false, ne_eq, Bool.and_eq_true, Bool.or_eq_true, Bool.and_eq_false_iff, Bool.or_eq_false_iff, reduceCtorEq, Int.not_lt, Int.not_le] at h6
            obtain rfl : x_0 = s.length := by omega
            rw [bases_room (by omega) (fun j hj => q_0.2.1 j hj)]
            by_cases c : sumTo s s.length ≤ 256 <;> simp [c, Err.isNil]
          · try simp only [decide_eq_true_eq, decide_eq_false_iff_not, beq_iff_eq, beq_eq_false_iff_ne, bne_iff_ne, bne_eq_false_iff_eq, Bool.not_eq_true', Bool.not_eq_false', Bool.not_eq_true, Bool.not_eq_false, ne_eq, Bool.and_eq_true, Bool.or_eq_true, Bool.and_eq_false_iff, Bool.or_eq_false_iff, reduceCtorEq, Int.not_lt, Int.not_le] at h6
            obtain rfl : x_0 = s.length := by omega
            have hb := bases_room (s := s) (by omega) (fun j hj => q_0.2.1 j hj)
            by_cases c : sumTo s s.length ≤ 256 <;> simp_all [numE] <;> omega
theorem Try.ok_TopFull : PureOK Try.prog Try.B.eT 8 [.slice (.int .i64)] [.bool] (fun _ => True) (fun _ y => y = true) :=
  pure_fn (X := noExt) Try.lfullCtxOK Try.func8 (by kernel_rfl) (fun x => tfAnn x) (fun x hw hp => vc_TopFull x hw)
open Go.ChangeShapes Go.WideShapes Go.ChangeAt Go.RowKit in
set_option maxRecDepth 100000 in
theorem topFull_lifted (os : Os) (started : os.Started) (H : Type) (enc : TypeId × Value → H) :
    ReturnsInHanded {} Try.checked os 8 .any (Rows.topFullSpec.pre6 enc Try.prog Try.f8 Rows.topFullRow.domain false) (Rows.topFullSpec.post enc Try.prog Try.f8 false true false false) := by
  refine returnsInHanded_of_change (C := Try.checked) (by kernel_rfl) started (by kernel_rfl) Try.func8
    (ChangeSpec.witness6 (enc := enc) (C := Try.checked) false ⟨#[], #[.slice none 0 0], []⟩ 8 (by kernel_rfl) (by kernel_rfl) (by kernel_rfl) (by kernel_rfl)) ?_
  intro W base args ds gs before hval hW hcnd _
  exact law_calls (C := Try.checked) (n := 16) rfl (by kernel_rfl) (fun ds h => by match ds, h with | [_], _ => rfl) (by kernel_rfl) (by kernel_rfl) (by kernel_rfl) (tb := 4) (by kernel_rfl) Try.ok_TopFull hval hW (fun _ _ => trivial)
open Go.ChangeShapes Go.WideShapes Go.ChangeAt Go.RowKit in
theorem topFull_holds : Rows.TopFullSaid :=
  OpenClaim.holds_of_wide 8 Try.f8 rfl rfl rfl rfl rfl rfl rfl ⟨rfl, rfl, rfl, rfl, rfl⟩ rfl rfl rfl rfl rfl (by kernel_rfl) Try.func8 (by kernel_rfl)
    (of_decide_eq_true (by kernel_rfl)) (by unfold Func.isWrapper; first | (rw [if_pos (by decide +kernel)]; kernel_rfl) | (rw [if_neg (by decide +kernel)]; exact ⟨rfl, rfl⟩))
    (fun os started H enc _ => topFull_lifted os started H enc)
#print axioms topFull_holds
end Go.Proofs.Ytgokjhhcfemnhab

