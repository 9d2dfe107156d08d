/- A part of the proof that the law TopHash holds of the given program: facts that are used there. -/
import Derived.Test.YtgokjhhcfemnhaaMrl5
set_option linter.unusedSimpArgs false
set_option linter.unusedVariables false
namespace Go.Proofs.Ytgokjhhcfemnhaa
open Go.Vg Go.Mrl
open Go.ChangeShapes Go.WideShapes Go.ChangeAt Go.RowKit
/-! The law TopHash. -/
set_option maxRecDepth 100000 in
theorem vc_TopHash (s : List UInt8) (c : Int) (hs : s.length ≤ big) (hc : 0 ≤ c ∧ c ≤ 255) : (fnVCs Try.B Try.nameCtx Try.f9 [] [.str, .int .u8] [.bool] (fun _ b => b = true) (s, c)).holds := by
  refine holds_of (p :=
    (True) ∧
      ((((↑(hashF []) : Int) != (0 : Int)) = true →
        (false = true)) ∧
      (((↑(hashF []) : Int) != (0 : Int)) = false →
        (True) ∧
        ((((↑(hashF [(97 : UInt8)]) : Int) != (97 : Int)) = true →
          (false = true)) ∧
        (((↑(hashF [(97 : UInt8)]) : Int) != (97 : Int)) = false →
          ((List.length s ≤ big) →
          (((decide ((↑(List.length s) : Int) > (100 : Int))) = true →
            (true = true)) ∧
          ((decide ((↑(List.length s) : Int) > (100 : Int))) = false →
            (True) ∧
            (List.length [c] ≤ big) ∧
            (List.length s + List.length (bytesOf [c]) ≤ big) ∧
            (True) ∧
            (((decide ((↑(hashF s) : Int) < (268435456 : Int))) = true →
              (((decide ((↑(hashF (s ++ bytesOf [c])) : Int) < (268435456 : Int))) = true →
                (((decide ((↑(hashF s) : Int) ≥ (16777200 : Int))) = true →
                  (true = true)) ∧
                ((decide ((↑(hashF s) : Int) ≥ (16777200 : Int))) = false →
                  (∀ x_0 : Int,
                  ((x_0 = (16 : Int) * (↑(hashF s) : Int)) →
                  (∀ x_1 : Int,
                  ((x_1 = IntKind.wrap IntKind.u32 x_0) →
                  (∀ x_2 : Int,
                  ((x_2 = IntKind.wrap IntKind.u32 (x_1 + c)) →
                  (((↑(hashF (s ++ bytesOf [c])) : Int) == x_2) = true)))))))))) ∧
              ((decide ((↑(hashF (s ++ bytesOf [c])) : Int) < (268435456 : Int))) = false →
                (false = true)))) ∧
            ((decide ((↑(hashF s) : Int) < (268435456 : Int))) = false →
              (false = true))))))))))) (by kernel_rfl) ?_
  refine ⟨?_, ?_⟩
  · first | exact True.intro | rfl | omega | (simp only [I64, big] at *; omega) | (simp_all; done)
  refine ⟨fun h0 => ?_, fun h0 => ?_⟩
  · exact absurd h0 (by decide)
  ·
    refine ⟨?_, ?_⟩
    · first | exact True.intro | rfl | omega | (simp only [I64, big] at *; omega) | (simp_all; done)
    refine ⟨fun h1 => ?_, fun h1 => ?_⟩
    · exact absurd h1 (by decide)
    ·
      intro h2
      refine ⟨fun h3 => ?_, fun h3 => ?_⟩
      · try simp only [decide_eq_true_eq, decide_eq_false_iff_not, beq_iff_eq, beq_eq_false_iff_ne, bne_iff_ne, bne_eq_false_iff_eq, Bool.not_eq_true', Bool.not_eq_false', Bool.not_eq_true, Bool.not_eq_false, ne_eq, Bool.and_eq_true, Bool.or_eq_true, Bool.and_eq_false_iff, Bool.or_eq_false_iff, reduceCtorEq, Int.not_lt, Int.not_le] at h3
        first | exact True.intro | rfl | omega | (simp only [I64, big] at *; omega) | (simp_all; done)
      · try simp only [decide_eq_true_eq, decide_eq_false_iff_not, beq_iff_eq, beq_eq_false_iff_ne, bne_iff_ne, bne_eq_false_iff_eq, Bool.not_eq_true', Bool.not_eq_false', Bool.not_eq_true, Bool.not_eq_false, ne_eq, Bool.and_eq_true, Bool.or_eq_true, Bool.and_eq_false_iff, Bool.or_eq_false_iff, reduceCtorEq, Int.not_lt, Int.not_le] at h3
        refine ⟨?_, ?_⟩
        · first | exact True.intro | rfl | omega | (simp only [I64, big] at *; omega) | (simp_all; done)
        refine ⟨?_, ?_⟩
        · simp [bytesOf]; (try have := big_eq); omega
        refine ⟨?_, ?_⟩
        · simp [bytesOf]; (try have := big_eq); omega
        refine ⟨?_, ?_⟩
        · first | exact True.intro | rfl | omega | (simp only [I64, big] at *; omega) | (simp_all; done)
        refine ⟨fun h4 => ?_, fun h4 => ?_⟩
        · try simp only [decide_eq_true_eq, decide_eq_false_iff_not, beq_iff_eq, beq_eq_false_iff_ne, bne_iff_ne, bne_eq_false_iff_eq, Bool.not_eq_true', Bool.not_eq_false', Bool.not_eq_true, Bool.not_eq_false, ne_eq, Bool.and_eq_true, Bool.or_eq_true, Bool.and_eq_false_iff, Bool.or_eq_false_iff, reduceCtorEq, Int.not_lt, Int.not_le] at h4
          refine ⟨fun h5 => ?_, fun h5 => ?_⟩
          · try simp only [decide_eq_true_eq, decide_eq_false_iff_not, beq_iff_eq, beq_eq_false_iff_ne, bne_iff_ne, bne_eq_false_iff_eq, Bool.not_eq_true', Bool.not_eq_false', Bool.not_eq_true, Bool.not_eq_false, ne_eq, Bool.and_eq_true, Bool.or_eq_true, Bool.and_eq_false_iff, Bool.or_eq_false_iff, reduceCtorEq, Int.not_lt, Int.not_le] at h5
            refine ⟨fun h6 => ?_, fun h6 => ?_⟩
            · try simp only [decide_eq_true_eq, decide_eq_false_iff_not, beq_iff_eq, beq_eq_false_iff_ne, bne_iff_ne, bne_eq_false_iff_eq, Bool.not_eq_true', Bool.not_eq_false', Bool.not_eq_true, Bool.not_eq_false, ne_eq, Bool.and_eq_true, Bool.or_eq_true, Bool.and_eq_false_iff, Bool.or_eq_false_iff, reduceCtorEq, Int.not_lt, Int.not_le] at h6
              first | exact True.intro | rfl | omega | (simp only [I64, big] at *; omega) | (simp_all; done)
            · try simp only [decide_eq_true_eq, decide_eq_false_iff_not, beq_iff_eq, beq_eq_false_iff_ne, bne_iff_ne, bne_eq_false_iff_eq, Bool.not_eq_true', Bool.not_eq_false', Bool.not_eq_true, Bool.not_eq_false, ne_eq, Bool.and_eq_true, Bool.or_eq_true, Bool.and_eq_false_iff, Bool.or_eq_false_iff, reduceCtorEq, Int.not_lt, Int.not_le] at h6
              intro x_0
              intro h7
              intro x_1
              intro h8
              intro x_2
              intro h9
              exact beq_iff_eq.2 (hash_letter hc (by omega) (by rw [h8, h7]) h9)
          · try simp only [decide_eq_true_eq, decide_eq_false_iff_not, beq_iff_eq, beq_eq_false_iff_ne, bne_iff_ne, bne_eq_false_iff_eq, Bool.not_eq_true', Bool.not_eq_false', Bool.not_eq_true, Bool.not_eq_false, ne_eq, Bool.and_eq_true, Bool.or_eq_true, Bool.and_eq_false_iff, Bool.or_eq_false_iff, reduceCtorEq, Int.not_lt, Int.not_le] at h5
            have := hashF_lt (s ++ bytesOf [c]); omega
        · try simp only [decide_eq_true_eq, decide_eq_false_iff_not, beq_iff_eq, beq_eq_false_iff_ne, bne_iff_ne, bne_eq_false_iff_eq, Bool.not_eq_true', Bool.not_eq_false', Bool.not_eq_true, Bool.not_eq_false, ne_eq, Bool.and_eq_true, Bool.or_eq_true, Bool.and_eq_false_iff, Bool.or_eq_false_iff, reduceCtorEq, Int.not_lt, Int.not_le] at h4
          have := hashF_lt s; omega
theorem Try.ok_TopHash : PureOK Try.prog Try.B.eT 9 [.str, .int .u8] [.bool] (fun _ => True) (fun _ b => b = true) :=
  pure_fn (X := noExt) Try.nameCtxOK Try.func9 (by kernel_rfl) (fun _ => []) (fun x h _ => vc_TopHash x.1 x.2 h.1 (u8_range h.2))
set_option maxRecDepth 100000 in
theorem topHash_lifted (os : Os) (started : os.Started) (H : Type) (enc : TypeId × Value → H) :
    ReturnsInHanded {} Try.checked os 9 .any (Rows.topHashSpec.pre6 enc Try.prog Try.f9 Rows.topHashRow.domain false) (Rows.topHashSpec.post enc Try.prog Try.f9 false true false false) := by
  refine returnsInHanded_of_change (C := Try.checked) Try.own started (by kernel_rfl) Try.func9
    (ChangeSpec.witness6 (enc := enc) (C := Try.checked) false ⟨#[], #[.string ⟨#[]⟩, .int .u8 0], []⟩ 8 (by kernel_rfl) (by kernel_rfl) (by kernel_rfl) (by kernel_rfl)) ?_
  intro W base args ds gs before hval hW hcnd _
  exact law_calls (C := Try.checked) (n := 16) rfl Try.laidOut (fun ds h => by match ds, h with | [_, _], _ => rfl) (by kernel_rfl) (by kernel_rfl) (by kernel_rfl) (tb := 4) (by kernel_rfl) Try.ok_TopHash hval hW (fun _ _ => trivial)
theorem topHash_holds : Rows.TopHashSaid :=
  OpenClaim.holds_of_wide 9 Try.f9 rfl rfl rfl rfl rfl rfl rfl ⟨rfl, rfl, rfl, rfl, rfl⟩ rfl rfl rfl rfl rfl (by kernel_rfl) Try.func9 (by kernel_rfl)
    (of_decide_eq_true (by kernel_rfl)) (by unfold Func.isWrapper; first | (rw [if_pos (by decide +kernel)]; kernel_rfl) | (rw [if_neg (by decide +kernel)]; exact ⟨rfl, rfl⟩))
    (fun os started H enc _ => topHash_lifted os started H enc)
#print axioms topHash_holds
end Go.Proofs.Ytgokjhhcfemnhaa
