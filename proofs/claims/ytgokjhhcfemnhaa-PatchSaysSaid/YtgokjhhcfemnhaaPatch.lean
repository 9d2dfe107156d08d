/- A part of the proof that the law PatchSays holds of the given program: facts that are used there. -/
import Derived.Test.YtgokjhhcfemnhaaScope
import Derived.Test.YtgokjhhcfemnhaaRSame
import Derived.Test.YtgokjhhcfemnhaaMrl21
set_option linter.unusedSimpArgs false
set_option linter.unusedVariables false
namespace Go.Proofs.Ytgokjhhcfemnhaa
open Go.Vg Go.Mrl
/-! Package patch, and what the document says of it. -/
set_option maxRecDepth 100000 in
set_option maxHeartbeats 4000000 in
theorem vc_Target (l : List (D tObject)) (b : List Int) (t : D tTie) (hw : wfL [.slice tObject, .slice (.int .i64), tTie] (l, b, t)) (hp : (fun x => MildOs x.1 ∧ x.2.1.length = x.1.length ∧ InB x.2.1) (l, b, t)) : (fnVCs Try.B Try.scopeCtx Try.f75 [] [.slice tObject, .slice (.int .i64), tTie] [.int .i64, .err] (fun x y => y = (fun x => targetF x.1 x.2.1 x.2.2) x) (l, b, t)).holds := by
  refine holds_of (p :=
    (True) ∧ (((decide ((findS (l, t.2.2.2.1)).1 ≥ (0 : Int))) = true → ((0 : Int) ≤ (findS (l, t.2.2.2.1)).1 ∧ (findS (l, t.2.2.2.1)).1 < (↑(List.length b) : Int)) ∧ ((0 : Int) ≤ (findS (l, t.2.2.2.1)).1 ∧ (findS (l, t.2.2.2.1)).1 < (↑(List.length l) : Int)) ∧
    ((0 : Int) ≤ (findS (l, t.2.2.2.1)).2 ∧ (findS (l, t.2.2.2.1)).2 < (↑(List.length (nth tObject l (Int.toNat (findS (l, t.2.2.2.1)).1)).2.2.1) : Int)) ∧ ((I64 (nth (Ty.int IntKind.i64) b (Int.toNat (findS (l, t.2.2.2.1)).1))) →
    ((I64 (nth tSymbol (nth tObject l (Int.toNat (findS (l, t.2.2.2.1)).1)).2.2.1 (Int.toNat (findS (l, t.2.2.2.1)).2)).2.1) →
    (I64 (nth (Ty.int IntKind.i64) b (Int.toNat (findS (l, t.2.2.2.1)).1) + (nth tSymbol (nth tObject l (Int.toNat (findS (l, t.2.2.2.1)).1)).2.2.1 (Int.toNat (findS (l, t.2.2.2.1)).2)).2.1)) ∧
    ((nth (Ty.int IntKind.i64) b (Int.toNat (findS (l, t.2.2.2.1)).1) + (nth tSymbol (nth tObject l (Int.toNat (findS (l, t.2.2.2.1)).1)).2.2.1 (Int.toNat (findS (l, t.2.2.2.1)).2)).2.1, Err.nil) = targetF l b t)))) ∧ ((decide ((findS (l, t.2.2.2.1)).1 ≥ (0 : Int))) = false → (((t.2.2.2.2.1) = true → (((0 : Int), Err.nil) = targetF l b t)) ∧ ((t.2.2.2.2.1) = false → (((0 : Int), Err.no (6 : Int)) = targetF l b t)))))) (by kernel_rfl) ?_
  try dsimp only at hp
  refine ⟨trivial, ?_⟩
  refine ⟨fun h0 => ?_, fun h0 => ?_⟩
  · try simp only [bl, reduceCtorEq] at h0
    refine ⟨?_, ?_⟩
    · have hf := find_in (l := l) (s := t.2.2.2.1) (by omega)
      omega
    refine ⟨?_, ?_⟩
    · have hf := find_in (l := l) (s := t.2.2.2.1) (by omega)
      omega
    refine ⟨?_, ?_⟩
    · have hf := find_in (l := l) (s := t.2.2.2.1) (by omega)
      omega
    intro h1
    intro h2
    refine ⟨?_, ?_⟩
    · have hf := find_in (l := l) (s := t.2.2.2.1) (by omega)
      have hb := base_in (n := l.length) (i := (findS (l, t.2.2.2.1)).1) hp.2.2 hp.2.1 (by omega) hf.1; have hs := sym_in (s := t.2.2.2.1) hp.1 (by omega)
      unfold Small at hs; dsimp only [D] at *; simp only [I64]; omega
    exact (target_sym (by omega)).symm
  · try simp only [bl, reduceCtorEq] at h0
    refine ⟨fun h1 => ?_, fun h1 => ?_⟩
    · try simp only [bl, reduceCtorEq] at h1
      exact (target_weak (by omega) h1).symm
    · try simp only [bl, reduceCtorEq] at h1
      exact (target_loose (by omega) h1).symm
theorem Try.ok_Target : PureOK Try.prog Try.B.eT 75 [.slice tObject, .slice (.int .i64), tTie] [.int .i64, .err] (fun x => MildOs x.1 ∧ x.2.1.length = x.1.length ∧ InB x.2.1) (fun x y => y = (fun x => targetF x.1 x.2.1 x.2.2) x) :=
  pure_fn (X := noExt) Try.scopeCtxOK Try.func75 (by kernel_rfl) (fun _ => []) (fun x hw hp => vc_Target x.1 x.2.1 x.2.2 hw hp)
noncomputable def Try.patch1Ctx : List (FuncId × (Bool × CSpec)) := [(75, (true, funSpec [.slice tObject, .slice (.int .i64), tTie] [.int .i64, .err] (fun x => MildOs x.1 ∧ x.2.1.length = x.1.length ∧ InB x.2.1) (fun x => targetF x.1 x.2.1 x.2.2)))]
theorem Try.patch1CtxOK {X : Ext} : CtxOK Try.prog Try.B X Try.patch1Ctx :=
  ctx1 (callOK_of_fun Try.ok_Target) (ctx0 Try.tyOK)
set_option maxRecDepth 100000 in
set_option maxHeartbeats 4000000 in
theorem vc_One (l : List (D tObject)) (b : List Int) (i : Int) (t : D tTie) (hw : wfL [.slice tObject, .slice (.int .i64), .int .i64, tTie] (l, b, i, t)) (hp : (fun x => MildOs x.1 ∧ x.2.1.length = x.1.length ∧ InB x.2.1 ∧ 0 ≤ x.2.2.1 ∧ x.2.2.1 < x.1.length ∧ Small x.2.2.2.1 ∧ Word x.2.2.2.2.2.1) (l, b, i, t)) : (fnVCs Try.B Try.patch1Ctx Try.f54 [] [.slice tObject, .slice (.int .i64), .int .i64, tTie] [.int .i64, .err] (fun x y => y = (fun x => oneF x.1 x.2.1 x.2.2.1 x.2.2.2) x) (l, b, i, t)).holds := by
  refine holds_of (p :=
    ((0 : Int) ≤ i ∧ i < (↑(List.length b) : Int)) ∧ ((I64 (nth (Ty.int IntKind.i64) b (Int.toNat i))) → ((I64 t.2.2.1) → (I64 (nth (Ty.int IntKind.i64) b (Int.toNat i) + t.2.2.1)) ∧ (((t.2.1 != (1 : Int)) = true → (MildOs l ∧ List.length b = List.length l ∧ InB b) ∧ (((!Err.isNil (targetF l b t).2) = true → (((0 : Int), (targetF l b t).2) = oneF l b i t)) ∧ ((!Err.isNil (targetF l b t).2) = false → ((I64 (targetF l b t).1) → ((I64 t.2.2.1) → (I64 ((targetF l b t).1 + t.2.2.1)) ∧ (((t.2.1 == (3 : Int)) = true → ((0 : Int) ≤ i ∧ i < (↑(List.length b) : Int)) ∧ ((I64 (nth (Ty.int IntKind.i64) b (Int.toNat i))) → ((I64 t.1) → (I64 (nth (Ty.int IntKind.i64) b (Int.toNat i) + t.1)) ∧ ((I64 ((targetF l b t).1 + t.2.2.1)) → ((I64 (nth (Ty.int IntKind.i64) b (Int.toNat i) + t.1)) → (I64 ((targetF l b t).1 + t.2.2.1 - (nth (Ty.int IntKind.i64) b (Int.toNat i) + t.1))) ∧ (((decide ((targetF l b t).1 + t.2.2.1 - (nth (Ty.int IntKind.i64) b (Int.toNat i) + t.1) < (-500 : Int))) = true → (((0 : Int), Err.no (7 : Int)) = oneF l b i t)) ∧ ((decide ((targetF l b t).1 + t.2.2.1 - (nth (Ty.int IntKind.i64) b (Int.toNat i) + t.1) < (-500 : Int))) = false → (((decide ((targetF l b t).1 + t.2.2.1 - (nth (Ty.int IntKind.i64) b (Int.toNat i) + t.1) > (500 : Int))) = true → (((0 : Int), Err.no (7 : Int)) = oneF l b i t)) ∧ ((decide ((targetF l b t).1 + t.2.2.1 - (nth (Ty.int IntKind.i64) b (Int.toNat i) + t.1) > (500 : Int))) = false →
    (((decide ((targetF l b t).1 + t.2.2.1 - (nth (Ty.int IntKind.i64) b (Int.toNat i) + t.1) < (-2147483648 : Int))) = true → (((0 : Int), Err.no (7 : Int)) = oneF l b i t)) ∧
    ((decide ((targetF l b t).1 + t.2.2.1 - (nth (Ty.int IntKind.i64) b (Int.toNat i) + t.1) < (-2147483648 : Int))) = false →
    (((decide ((targetF l b t).1 + t.2.2.1 - (nth (Ty.int IntKind.i64) b (Int.toNat i) + t.1) > (2147483647 : Int))) = true → (((0 : Int), Err.no (7 : Int)) = oneF l b i t)) ∧
    ((decide ((targetF l b t).1 + t.2.2.1 - (nth (Ty.int IntKind.i64) b (Int.toNat i) + t.1) > (2147483647 : Int))) = false →
    (((targetF l b t).1 + t.2.2.1 - (nth (Ty.int IntKind.i64) b (Int.toNat i) + t.1), Err.nil) = oneF l b i t)))))))))))))) ∧ ((t.2.1 == (3 : Int)) = false → (((decide ((targetF l b t).1 + t.2.2.1 < (-2147483648 : Int))) = true → (((0 : Int), Err.no (7 : Int)) = oneF l b i t)) ∧ ((decide ((targetF l b t).1 + t.2.2.1 < (-2147483648 : Int))) = false → (((decide ((targetF l b t).1 + t.2.2.1 > (2147483647 : Int))) = true → (((0 : Int), Err.no (7 : Int)) = oneF l b i t)) ∧ ((decide ((targetF l b t).1 + t.2.2.1 > (2147483647 : Int))) = false → (((targetF l b t).1 + t.2.2.1, Err.nil) = oneF l b i t)))))))))))) ∧ ((t.2.1 != (1 : Int)) = false → (((t.2.1 == (3 : Int)) = true → ((0 : Int) ≤ i ∧ i < (↑(List.length b) : Int)) ∧ ((I64 (nth (Ty.int IntKind.i64) b (Int.toNat i))) → ((I64 t.1) → (I64 (nth (Ty.int IntKind.i64) b (Int.toNat i) + t.1)) ∧ ((I64 (nth (Ty.int IntKind.i64) b (Int.toNat i) + t.2.2.1)) → ((I64 (nth (Ty.int IntKind.i64) b (Int.toNat i) + t.1)) → (I64 (nth (Ty.int IntKind.i64) b (Int.toNat i) + t.2.2.1 - (nth (Ty.int IntKind.i64) b (Int.toNat i) + t.1))) ∧
    (((decide (nth (Ty.int IntKind.i64) b (Int.toNat i) + t.2.2.1 - (nth (Ty.int IntKind.i64) b (Int.toNat i) + t.1) < (-500 : Int))) = true → (((0 : Int), Err.no (7 : Int)) = oneF l b i t)) ∧
    ((decide (nth (Ty.int IntKind.i64) b (Int.toNat i) + t.2.2.1 - (nth (Ty.int IntKind.i64) b (Int.toNat i) + t.1) < (-500 : Int))) = false →
    (((decide (nth (Ty.int IntKind.i64) b (Int.toNat i) + t.2.2.1 - (nth (Ty.int IntKind.i64) b (Int.toNat i) + t.1) > (500 : Int))) = true → (((0 : Int), Err.no (7 : Int)) = oneF l b i t)) ∧
    ((decide (nth (Ty.int IntKind.i64) b (Int.toNat i) + t.2.2.1 - (nth (Ty.int IntKind.i64) b (Int.toNat i) + t.1) > (500 : Int))) = false →
    (((decide (nth (Ty.int IntKind.i64) b (Int.toNat i) + t.2.2.1 - (nth (Ty.int IntKind.i64) b (Int.toNat i) + t.1) < (-2147483648 : Int))) = true → (((0 : Int), Err.no (7 : Int)) = oneF l b i t)) ∧
    ((decide (nth (Ty.int IntKind.i64) b (Int.toNat i) + t.2.2.1 - (nth (Ty.int IntKind.i64) b (Int.toNat i) + t.1) < (-2147483648 : Int))) = false →
    (((decide (nth (Ty.int IntKind.i64) b (Int.toNat i) + t.2.2.1 - (nth (Ty.int IntKind.i64) b (Int.toNat i) + t.1) > (2147483647 : Int))) = true → (((0 : Int), Err.no (7 : Int)) = oneF l b i t)) ∧
    ((decide (nth (Ty.int IntKind.i64) b (Int.toNat i) + t.2.2.1 - (nth (Ty.int IntKind.i64) b (Int.toNat i) + t.1) > (2147483647 : Int))) = false →
    ((nth (Ty.int IntKind.i64) b (Int.toNat i) + t.2.2.1 - (nth (Ty.int IntKind.i64) b (Int.toNat i) + t.1), Err.nil) = oneF l b i t)))))))))))))) ∧ ((t.2.1 == (3 : Int)) = false → (((decide (nth (Ty.int IntKind.i64) b (Int.toNat i) + t.2.2.1 < (-2147483648 : Int))) = true → (((0 : Int), Err.no (7 : Int)) = oneF l b i t)) ∧ ((decide (nth (Ty.int IntKind.i64) b (Int.toNat i) + t.2.2.1 < (-2147483648 : Int))) = false → (((decide (nth (Ty.int IntKind.i64) b (Int.toNat i) + t.2.2.1 > (2147483647 : Int))) = true → (((0 : Int), Err.no (7 : Int)) = oneF l b i t)) ∧ ((decide (nth (Ty.int IntKind.i64) b (Int.toNat i) + t.2.2.1 > (2147483647 : Int))) = false → ((nth (Ty.int IntKind.i64) b (Int.toNat i) + t.2.2.1, Err.nil) = oneF l b i t)))))))))))) (by kernel_rfl) ?_
  try dsimp only at hp
  refine ⟨?_, ?_⟩
  · first | trivial | omega | (dsimp only [D] at *; omega) | (simp only [I64, big] at *; omega) | (simp_all; done)
  intro h0
  intro h1
  refine ⟨?_, ?_⟩
  · have hb := base_in hp.2.2.1 hp.2.1 hp.2.2.2.1 hp.2.2.2.2.1; have ht := target_in t hp.1 hp.2.1 hp.2.2.1; have hs := hp.2.2.2.2.2; unfold Small Word at hs; dsimp only [D] at *
    simp only [I64]; omega
  refine ⟨fun h2 => ?_, fun h2 => ?_⟩
  · try simp only [bl, reduceCtorEq] at h2
    refine ⟨?_, ?_⟩
    · first | trivial | omega | (dsimp only [D] at *; omega) | (simp only [I64, big] at *; omega) | (simp_all; done)
    refine ⟨fun h3 => ?_, fun h3 => ?_⟩
    · try simp only [bl, reduceCtorEq] at h3
      exact (one_bad (by assumption) (by assumption)).symm
    · try simp only [bl, reduceCtorEq] at h3
      intro h4
      intro h5
      refine ⟨?_, ?_⟩
      · have hb := base_in hp.2.2.1 hp.2.1 hp.2.2.2.1 hp.2.2.2.2.1; have ht := target_in t hp.1 hp.2.1 hp.2.2.1; have hs := hp.2.2.2.2.2; unfold Small Word at hs; dsimp only [D] at *
        simp only [I64]; omega
      refine ⟨fun h6 => ?_, fun h6 => ?_⟩
      · try simp only [bl, reduceCtorEq] at h6
        refine ⟨?_, ?_⟩
        · first | trivial | omega | (dsimp only [D] at *; omega) | (simp only [I64, big] at *; omega) | (simp_all; done)
        intro h7
        intro h8
        refine ⟨?_, ?_⟩
        · have hb := base_in hp.2.2.1 hp.2.1 hp.2.2.2.1 hp.2.2.2.2.1; have ht := target_in t hp.1 hp.2.1 hp.2.2.1; have hs := hp.2.2.2.2.2; unfold Small Word at hs; dsimp only [D] at *
          simp only [I64]; omega
        intro h9
        intro h10
        refine ⟨?_, ?_⟩
        · have hb := base_in hp.2.2.1 hp.2.1 hp.2.2.2.1 hp.2.2.2.2.1; have ht := target_in t hp.1 hp.2.1 hp.2.2.1; have hs := hp.2.2.2.2.2; unfold Small Word at hs; dsimp only [D] at *
          simp only [I64]; omega
        refine ⟨fun h11 => ?_, fun h11 => ?_⟩
        · try simp only [bl, reduceCtorEq] at h11
          rw [one_tgt (by assumption) (by assumption), near_far (by assumption) (by dsimp only [D] at *; omega)]
        · try simp only [bl, reduceCtorEq] at h11
          refine ⟨fun h12 => ?_, fun h12 => ?_⟩
          · try simp only [bl, reduceCtorEq] at h12
            rw [one_tgt (by assumption) (by assumption), near_far (by assumption) (by dsimp only [D] at *; omega)]
          · try simp only [bl, reduceCtorEq] at h12
            refine ⟨fun h13 => ?_, fun h13 => ?_⟩
            · try simp only [bl, reduceCtorEq] at h13
              first | trivial | omega | (dsimp only [D] at *; omega) | (simp only [I64, big] at *; omega) | (simp_all; done)
            · try simp only [bl, reduceCtorEq] at h13
              refine ⟨fun h14 => ?_, fun h14 => ?_⟩
              · try simp only [bl, reduceCtorEq] at h14
                first | trivial | omega | (dsimp only [D] at *; omega) | (simp only [I64, big] at *; omega) | (simp_all; done)
              · try simp only [bl, reduceCtorEq] at h14
                rw [one_tgt (by assumption) (by assumption), near_ok (by assumption) rfl (by dsimp only [D] at *; omega)]
      · try simp only [bl, reduceCtorEq] at h6
        refine ⟨fun h7 => ?_, fun h7 => ?_⟩
        · try simp only [bl, reduceCtorEq] at h7
          have hb := base_in hp.2.2.1 hp.2.1 hp.2.2.2.1 hp.2.2.2.2.1; have ht := target_in t hp.1 hp.2.1 hp.2.2.1; have hs := hp.2.2.2.2.2; unfold Small Word at hs; dsimp only [D] at *
          first | omega | (rw [one_tgt (by assumption) (by assumption), word_far (by assumption) (by omega)])
        · try simp only [bl, reduceCtorEq] at h7
          refine ⟨fun h8 => ?_, fun h8 => ?_⟩
          · try simp only [bl, reduceCtorEq] at h8
            have hb := base_in hp.2.2.1 hp.2.1 hp.2.2.2.1 hp.2.2.2.2.1; have ht := target_in t hp.1 hp.2.1 hp.2.2.1; have hs := hp.2.2.2.2.2; unfold Small Word at hs; dsimp only [D] at *
            first | omega | (rw [one_tgt (by assumption) (by assumption), word_far (by assumption) (by omega)])
          · try simp only [bl, reduceCtorEq] at h8
            rw [one_tgt (by assumption) (by assumption), word_ok (by assumption) rfl (by dsimp only [D] at *; omega)]
  · try simp only [bl, reduceCtorEq] at h2
    refine ⟨fun h3 => ?_, fun h3 => ?_⟩
    · try simp only [bl, reduceCtorEq] at h3
      refine ⟨?_, ?_⟩
      · first | trivial | omega | (dsimp only [D] at *; omega) | (simp only [I64, big] at *; omega) | (simp_all; done)
      intro h4
      intro h5
      refine ⟨?_, ?_⟩
      · have hb := base_in hp.2.2.1 hp.2.1 hp.2.2.2.1 hp.2.2.2.2.1; have ht := target_in t hp.1 hp.2.1 hp.2.2.1; have hs := hp.2.2.2.2.2; unfold Small Word at hs; dsimp only [D] at *
        simp only [I64]; omega
      intro h6
      intro h7
      refine ⟨?_, ?_⟩
      · have hb := base_in hp.2.2.1 hp.2.1 hp.2.2.2.1 hp.2.2.2.2.1; have ht := target_in t hp.1 hp.2.1 hp.2.2.1; have hs := hp.2.2.2.2.2; unfold Small Word at hs; dsimp only [D] at *
        simp only [I64]; omega
      refine ⟨fun h8 => ?_, fun h8 => ?_⟩
      · try simp only [bl, reduceCtorEq] at h8
        first | trivial | omega | (dsimp only [D] at *; omega) | (simp only [I64, big] at *; omega) | (simp_all; done)
      · try simp only [bl, reduceCtorEq] at h8
        refine ⟨fun h9 => ?_, fun h9 => ?_⟩
        · try simp only [bl, reduceCtorEq] at h9
          first | trivial | omega | (dsimp only [D] at *; omega) | (simp only [I64, big] at *; omega) | (simp_all; done)
        · try simp only [bl, reduceCtorEq] at h9
          refine ⟨fun h10 => ?_, fun h10 => ?_⟩
          · try simp only [bl, reduceCtorEq] at h10
            first | trivial | omega | (dsimp only [D] at *; omega) | (simp only [I64, big] at *; omega) | (simp_all; done)
          · try simp only [bl, reduceCtorEq] at h10
            refine ⟨fun h11 => ?_, fun h11 => ?_⟩
            · try simp only [bl, reduceCtorEq] at h11
              first | trivial | omega | (dsimp only [D] at *; omega) | (simp only [I64, big] at *; omega) | (simp_all; done)
            · try simp only [bl, reduceCtorEq] at h11
              first | trivial | omega | (dsimp only [D] at *; omega) | (simp only [I64, big] at *; omega) | (simp_all; done)
    · try simp only [bl, reduceCtorEq] at h3
      refine ⟨fun h4 => ?_, fun h4 => ?_⟩
      · try simp only [bl, reduceCtorEq] at h4
        have hb := base_in hp.2.2.1 hp.2.1 hp.2.2.2.1 hp.2.2.2.2.1; have ht := target_in t hp.1 hp.2.1 hp.2.2.1; have hs := hp.2.2.2.2.2; unfold Small Word at hs; dsimp only [D] at *
        first | omega | (rw [one_base (by assumption), word_far (by simp_all) (by omega)])
      · try simp only [bl, reduceCtorEq] at h4
        refine ⟨fun h5 => ?_, fun h5 => ?_⟩
        · try simp only [bl, reduceCtorEq] at h5
          have hb := base_in hp.2.2.1 hp.2.1 hp.2.2.2.1 hp.2.2.2.2.1; have ht := target_in t hp.1 hp.2.1 hp.2.2.1; have hs := hp.2.2.2.2.2; unfold Small Word at hs; dsimp only [D] at *
          first | omega | (rw [one_base (by assumption), word_far (by simp_all) (by omega)])
        · try simp only [bl, reduceCtorEq] at h5
          rw [one_base (by assumption), word_ok (by simp_all) rfl (by dsimp only [D] at *; omega)]
theorem Try.ok_One : PureOK Try.prog Try.B.eT 54 [.slice tObject, .slice (.int .i64), .int .i64, tTie] [.int .i64, .err] (fun x => MildOs x.1 ∧ x.2.1.length = x.1.length ∧ InB x.2.1 ∧ 0 ≤ x.2.2.1 ∧ x.2.2.1 < x.1.length ∧ Small x.2.2.2.1 ∧ Word x.2.2.2.2.2.1) (fun x y => y = (fun x => oneF x.1 x.2.1 x.2.2.1 x.2.2.2) x) :=
  pure_fn (X := noExt) Try.patch1CtxOK Try.func54 (by kernel_rfl) (fun _ => []) (fun x hw hp => vc_One x.1 x.2.1 x.2.2.1 x.2.2.2 hw hp)
noncomputable def Try.patch2Ctx : List (FuncId × (Bool × CSpec)) := [(54, (true, funSpec [.slice tObject, .slice (.int .i64), .int .i64, tTie] [.int .i64, .err] (fun x => MildOs x.1 ∧ x.2.1.length = x.1.length ∧ InB x.2.1 ∧ 0 ≤ x.2.2.1 ∧ x.2.2.1 < x.1.length ∧ Small x.2.2.2.1 ∧ Word x.2.2.2.2.2.1) (fun x => oneF x.1 x.2.1 x.2.2.1 x.2.2.2)))]
theorem Try.patch2CtxOK {X : Ext} : CtxOK Try.prog Try.B X Try.patch2Ctx :=
  ctx1 (callOK_of_fun Try.ok_One) (ctx0 Try.tyOK)
def allAnn (l : List (D tObject)) (b : List Int) : Anns := [
  (0, fun st => { X := Nat, inv := fun i => i ≤ b.length ∧ ∀ j, j < i → 0 ≤ (nth (.int .i64) b j : Int) ∧ (nth (.int .i64) b j : Int) ≤ 256, meas := fun i => b.length - i, slots := fun i => [(23, sI i)], keep := [0, 1, 21, 22] }),
  (2, fun st => { X := Nat × List (D tPatch), inv := fun x => x.1 ≤ l.length ∧ goI l b (l.drop x.1) x.1 x.2 = goI l b l 0 [] ∧ x.2.length ≤ 10 * x.1, meas := fun x => l.length - x.1, slots := fun x => [(37, sI x.1), (8, .s (.one (.app tPatch x.2 (objOf st 8))))], objs := fun x => [(objOf st 8, .tok tPatch x.2)], keep := [0, 1, 35, 36], mods := [objOf st 8] }),
  (4, fun st => { X := Nat × List (D tPatch), inv := fun x => x.1 ≤ (nth tObject l (tmpD (.int .i64) st 37).toNat).2.2.2.1.length ∧ thenI (goI l b (l.drop ((tmpD (.int .i64) st 37).toNat + 1)) ((tmpD (.int .i64) st 37).toNat + 1)) (goK l b (tmpD (.int .i64) st 37).toNat ((nth tObject l (tmpD (.int .i64) st 37).toNat).2.2.2.1.drop x.1) x.2) = goI l b l 0 [] ∧ x.2.length ≤ 10 * (tmpD (.int .i64) st 37).toNat + x.1, meas := fun x => (nth tObject l (tmpD (.int .i64) st 37).toNat).2.2.2.1.length - x.1, slots := fun x => [(45, sI x.1), (8, .s (.one (.app tPatch x.2 (objOf st 8))))], objs := fun x => [(objOf st 8, .tok tPatch x.2)], keep := [0, 1, 9, 10, 35, 36, 37, 38, 39, 40, 41, 42, 43, 44], mods := [objOf st 8] })]
set_option maxRecDepth 100000 in
set_option maxHeartbeats 4000000 in
theorem vc_All (l : List (D tObject)) (b : List Int) (hw : wfL [.slice tObject, .slice (.int .i64)] (l, b)) (hp : (fun x => MildOs x.1) (l, b)) : (fnVCs Try.B Try.patch2Ctx Try.f30 (allAnn l b) [.slice tObject, .slice (.int .i64)] [.slice tPatch, .err] (fun x y => y = (fun x => allF x) x) (l, b)).holds := by
  refine holds_of (p :=
    ((List.length b ≤ big) → ((List.length l ≤ big) → ((((↑(List.length b) : Int) != (↑(List.length l) : Int)) = true → (([], Err.no (3 : Int)) = allF (l, b))) ∧ (((↑(List.length b) : Int) != (↑(List.length l) : Int)) = false → ((List.length b ≤ big) →
    (∃ (x : Nat), (x ≤ List.length b ∧ ∀ (j : Nat), j < x → (0 : Int) ≤ nth (Ty.int IntKind.i64) b j ∧ nth (Ty.int IntKind.i64) b j ≤ (256 : Int)) ∧ ((0 : Int) = (↑x : Int) ∧ True) ∧ True) ∧ (∀ x_0 : Nat,
    ((x_0 ≤ List.length b ∧ ∀ (j : Nat), j < x_0 → (0 : Int) ≤ nth (Ty.int IntKind.i64) b j ∧ nth (Ty.int IntKind.i64) b j ≤ (256 : Int)) → (((decide ((↑x_0 : Int) < (↑(List.length b) : Int))) = true → ((0 : Int) ≤ (↑x_0 : Int) ∧ (↑x_0 : Int) < (↑(List.length b) : Int)) ∧ (((decide (nth (Ty.int IntKind.i64) b x_0 < (0 : Int))) = true → (([], Err.no (1 : Int)) = allF (l, b))) ∧ ((decide (nth (Ty.int IntKind.i64) b x_0 < (0 : Int))) = false → (((decide (nth (Ty.int IntKind.i64) b x_0 > (256 : Int))) = true → (([], Err.no (1 : Int)) = allF (l, b))) ∧ ((decide (nth (Ty.int IntKind.i64) b x_0 > (256 : Int))) = false → ((I64 (↑x_0 : Int)) → ((I64 (1 : Int)) → (I64 ((↑x_0 : Int) + (1 : Int))) ∧
    (∃ (x' : Nat), (x' ≤ List.length b ∧ ∀ (j : Nat), j < x' → (0 : Int) ≤ nth (Ty.int IntKind.i64) b j ∧ nth (Ty.int IntKind.i64) b j ≤ (256 : Int)) ∧ List.length b - x' < List.length b - x_0 ∧ ((↑x_0 : Int) + (1 : Int) = (↑x' : Int) ∧ True) ∧ @List.nil (Int × Int × Int × Unit) = @List.nil (Int × Int × Int × Unit) ∧ True)))))))) ∧ ((decide ((↑x_0 : Int) < (↑(List.length b) : Int))) = false → ((List.length l ≤ big) →
    (∃ (x : Nat × List (Int × Int × Int × Unit)), (x.1 ≤ List.length l ∧ goI l b (List.drop x.1 l) x.1 x.2 = goI l b l (0 : Nat) (@List.nil Pt) ∧ List.length x.2 ≤ (10 : Nat) * x.1) ∧ ((0 : Int) = (↑x.1 : Int) ∧ @List.nil (Int × Int × Int × Unit) = x.2 ∧ True) ∧ @List.nil (Int × Int × Int × Unit) = x.2 ∧ True) ∧ (∀ x_1 : Nat × List (Int × Int × Int × Unit),
    ((x_1.1 ≤ List.length l ∧ goI l b (List.drop x_1.1 l) x_1.1 x_1.2 = goI l b l (0 : Nat) (@List.nil Pt) ∧ List.length x_1.2 ≤ (10 : Nat) * x_1.1) → (((decide ((↑x_1.1 : Int) < (↑(List.length l) : Int))) = true → ((0 : Int) ≤ (↑x_1.1 : Int) ∧ (↑x_1.1 : Int) < (↑(List.length l) : Int)) ∧ ((List.length (nth tObject l x_1.1).2.2.2.1 ≤ big) →
    (∃ (x : Nat × List (Int × Int × Int × Unit)), (x.1 ≤ List.length (nth tObject l x_1.1).2.2.2.1 ∧ thenI (goI l b (List.drop (x_1.1 + (1 : Nat)) l) (x_1.1 + (1 : Nat))) (goK l b x_1.1 (List.drop x.1 (nth tObject l x_1.1).2.2.2.1) x.2) = goI l b l (0 : Nat) (@List.nil Pt) ∧ List.length x.2 ≤ (10 : Nat) * x_1.1 + x.1) ∧ ((0 : Int) = (↑x.1 : Int) ∧ x_1.2 = x.2 ∧ True) ∧ x_1.2 = x.2 ∧ True) ∧ (∀ x_2 : Nat × List (Int × Int × Int × Unit),
    ((x_2.1 ≤ List.length (nth tObject l x_1.1).2.2.2.1 ∧ thenI (goI l b (List.drop (x_1.1 + (1 : Nat)) l) (x_1.1 + (1 : Nat))) (goK l b x_1.1 (List.drop x_2.1 (nth tObject l x_1.1).2.2.2.1) x_2.2) = goI l b l (0 : Nat) (@List.nil Pt) ∧ List.length x_2.2 ≤ (10 : Nat) * x_1.1 + x_2.1) → (((decide ((↑x_2.1 : Int) < (↑(List.length (nth tObject l x_1.1).2.2.2.1) : Int))) = true → ((0 : Int) ≤ (↑x_2.1 : Int) ∧ (↑x_2.1 : Int) < (↑(List.length (nth tObject l x_1.1).2.2.2.1) : Int)) ∧
    (MildOs l ∧ List.length b = List.length l ∧ InB b ∧ (0 : Int) ≤ (↑x_1.1 : Int) ∧ (↑x_1.1 : Int) < (↑(List.length l) : Int) ∧ Small (nth tTie (nth tObject l x_1.1).2.2.2.1 x_2.1).1 ∧ Word (nth tTie (nth tObject l x_1.1).2.2.2.1 x_2.1).2.2.1) ∧ (((!Err.isNil (oneF l b (↑x_1.1 : Int) (nth tTie (nth tObject l x_1.1).2.2.2.1 x_2.1)).2) = true → (([], (oneF l b (↑x_1.1 : Int) (nth tTie (nth tObject l x_1.1).2.2.2.1 x_2.1)).2) = allF (l, b))) ∧ ((!Err.isNil (oneF l b (↑x_1.1 : Int) (nth tTie (nth tObject l x_1.1).2.2.2.1 x_2.1)).2) = false →
    (x_2.2 = x_2.2 ∧ List.length x_2.2 + List.length [((↑x_1.1 : Int), (nth tTie (nth tObject l x_1.1).2.2.2.1 x_2.1).1, (oneF l b (↑x_1.1 : Int) (nth tTie (nth tObject l x_1.1).2.2.2.1 x_2.1)).1, ())] ≤ (1000000000 : Nat)) ∧ ((I64 (↑x_2.1 : Int)) → ((I64 (1 : Int)) → (I64 ((↑x_2.1 : Int) + (1 : Int))) ∧
    (∃ (x' : Nat × List (Int × Int × Int × Unit)), (x'.1 ≤ List.length (nth tObject l x_1.1).2.2.2.1 ∧ thenI (goI l b (List.drop (x_1.1 + (1 : Nat)) l) (x_1.1 + (1 : Nat))) (goK l b x_1.1 (List.drop x'.1 (nth tObject l x_1.1).2.2.2.1) x'.2) = goI l b l (0 : Nat) (@List.nil Pt) ∧ List.length x'.2 ≤ (10 : Nat) * x_1.1 + x'.1) ∧ List.length (nth tObject l x_1.1).2.2.2.1 - x'.1 < List.length (nth tObject l x_1.1).2.2.2.1 - x_2.1 ∧ ((↑x_2.1 : Int) + (1 : Int) = (↑x'.1 : Int) ∧ x_2.2 ++ [((↑x_1.1 : Int), (nth tTie (nth tObject l x_1.1).2.2.2.1 x_2.1).1, (oneF l b (↑x_1.1 : Int) (nth tTie (nth tObject l x_1.1).2.2.2.1 x_2.1)).1, ())] = x'.2 ∧ True) ∧ x_2.2 ++ [((↑x_1.1 : Int), (nth tTie (nth tObject l x_1.1).2.2.2.1 x_2.1).1, (oneF l b (↑x_1.1 : Int) (nth tTie (nth tObject l x_1.1).2.2.2.1 x_2.1)).1, ())] = x'.2 ∧ ((nth tObject l x_1.1).1 = (nth tObject l x_1.1).1 ∧ (nth tObject l x_1.1).2.1 = (nth tObject l x_1.1).2.1 ∧ (nth tObject l x_1.1).2.2.1 = (nth tObject l x_1.1).2.2.1 ∧ (nth tObject l x_1.1).2.2.2.1 = (nth tObject l x_1.1).2.2.2.1 ∧ True) ∧ @List.nil (Int × Int × Int × List UInt8 × Bool × Unit) = @List.nil (Int × Int × Int × List UInt8 × Bool × Unit) ∧ @List.nil (List UInt8 × Int × Bool × Unit) = @List.nil (List UInt8 × Int × Bool × Unit) ∧ @List.nil Int = @List.nil Int ∧ @List.nil (List UInt8) = @List.nil (List UInt8) ∧ @List.nil (Int × Int × Int × Unit) = @List.nil (Int × Int × Int × Unit) ∧ True)))))) ∧ ((decide ((↑x_2.1 : Int) < (↑(List.length (nth tObject l x_1.1).2.2.2.1) : Int))) = false → ((I64 (↑x_1.1 : Int)) → ((I64 (1 : Int)) → (I64 ((↑x_1.1 : Int) + (1 : Int))) ∧
    (∃ (x' : Nat × List (Int × Int × Int × Unit)), (x'.1 ≤ List.length l ∧ goI l b (List.drop x'.1 l) x'.1 x'.2 = goI l b l (0 : Nat) (@List.nil Pt) ∧ List.length x'.2 ≤ (10 : Nat) * x'.1) ∧ List.length l - x'.1 < List.length l - x_1.1 ∧ ((↑x_1.1 : Int) + (1 : Int) = (↑x'.1 : Int) ∧ x_2.2 = x'.2 ∧ True) ∧ x_2.2 = x'.2 ∧ @List.nil (Int × Int × Int × Unit) = @List.nil (Int × Int × Int × Unit) ∧ True))))))))) ∧ ((decide ((↑x_1.1 : Int) < (↑(List.length l) : Int))) = false → ((x_1.2, Err.nil) = allF (l, b))))))))))))))))) (by kernel_rfl) ?_
  try dsimp only at hp
  intro h0
  intro h1
  refine ⟨fun h2 => ?_, fun h2 => ?_⟩
  · try simp only [bl, reduceCtorEq] at h2
    exact (allF_len (by omega)).symm
  · try simp only [bl, reduceCtorEq] at h2
    intro h3
    refine ⟨?_, ?_⟩
    · exact ⟨0, ⟨by omega, fun j hj => by omega⟩, ⟨rfl, trivial⟩, trivial⟩
    intro x_0 q_0
    refine ⟨fun h4 => ?_, fun h4 => ?_⟩
    · try simp only [bl, reduceCtorEq] at h4
      refine ⟨?_, ?_⟩
      · first | trivial | omega | (dsimp only [D] at *; omega) | (simp only [I64, big] at *; omega) | (simp_all; done)
      refine ⟨fun h5 => ?_, fun h5 => ?_⟩
      · try simp only [bl, reduceCtorEq] at h5
        exact (allF_base (i := x_0) (by omega) (by omega) (by dsimp only [D] at *; omega)).symm
      · try simp only [bl, reduceCtorEq] at h5
        refine ⟨fun h6 => ?_, fun h6 => ?_⟩
        · try simp only [bl, reduceCtorEq] at h6
          exact (allF_base (i := x_0) (by omega) (by omega) (by dsimp only [D] at *; omega)).symm
        · try simp only [bl, reduceCtorEq] at h6
          intro h7
          intro h8
          refine ⟨?_, ?_⟩
          · first | trivial | omega | (dsimp only [D] at *; omega) | (simp only [I64, big] at *; omega) | (simp_all; done)
          exact ⟨x_0 + 1, ⟨by omega, upto1 q_0.2 (by dsimp only [D] at *; omega)⟩, by omega, ⟨by omega, trivial⟩, (by repeat' (first | exact trivial | rfl | apply And.intro))⟩
    · try simp only [bl, reduceCtorEq] at h4
      intro h5
      refine ⟨?_, ?_⟩
      · exact ⟨(0, []), ⟨by omega, rfl, by simp⟩, (by repeat' (first | exact trivial | rfl | apply And.intro)), (by repeat' (first | exact trivial | rfl | apply And.intro))⟩
      intro x_1 q_1
      refine ⟨fun h6 => ?_, fun h6 => ?_⟩
      · try simp only [bl, reduceCtorEq] at h6
        refine ⟨?_, ?_⟩
        · first | trivial | omega | (dsimp only [D] at *; omega) | (simp only [I64, big] at *; omega) | (simp_all; done)
        intro h7
        refine ⟨?_, ?_⟩
        · exact ⟨(0, x_1.2), ⟨by omega, by rw [← goI_start (by omega)]; exact q_1.2.1, by simp only; omega⟩, (by repeat' (first | exact trivial | rfl | apply And.intro)), (by repeat' (first | exact trivial | rfl | apply And.intro))⟩
        intro x_2 q_2
        refine ⟨fun h8 => ?_, fun h8 => ?_⟩
        · try simp only [bl, reduceCtorEq] at h8
          refine ⟨?_, ?_⟩
          · first | trivial | omega | (dsimp only [D] at *; omega) | (simp only [I64, big] at *; omega) | (simp_all; done)
          refine ⟨?_, ?_⟩
          · have hlen : b.length = l.length := (by omega); have hib : InB b := fun j hj => q_0.2 j (by omega)
            have hm := hp.2 x_1.1 (by omega); have htk := hm.2.2 x_2.1 (by omega); have hb := base_in (i := (x_1.1 : Int)) hib hlen (by omega) (by omega); unfold Small Word at htk; rw [Int.toNat_natCast] at hb
            exact ⟨hp, hlen, hib, by omega, by omega, htk.1, htk.2⟩
          refine ⟨fun h9 => ?_, fun h9 => ?_⟩
          · try simp only [bl, reduceCtorEq] at h9
            have hlen : b.length = l.length := (by omega); have hib : InB b := fun j hj => q_0.2 j (by omega)
            rw [allF_go hlen hib, ← q_2.2.1, goK_bad (by omega) (by assumption)]
          · try simp only [bl, reduceCtorEq] at h9
            refine ⟨?_, ?_⟩
            · have hlen : b.length = l.length := (by omega); have hib : InB b := fun j hj => q_0.2 j (by omega)
              have hm := hp.2 x_1.1 (by omega); have htk := hm.2.2 x_2.1 (by omega); have hb := base_in (i := (x_1.1 : Int)) hib hlen (by omega) (by omega); unfold Small Word at htk; rw [Int.toNat_natCast] at hb
              have := hm.1; have := hp.1
              exact ⟨rfl, by simp only [List.length_singleton, big]; omega⟩
            intro h10
            intro h11
            refine ⟨?_, ?_⟩
            · first | trivial | omega | (dsimp only [D] at *; omega) | (simp only [I64, big] at *; omega) | (simp_all; done)
            have ho : (oneF l b x_1.1 (nth tTie (nth tObject l x_1.1).2.2.2.1 x_2.1)).2.isNil = true := by assumption
            exact ⟨(x_2.1 + 1, _), ⟨by omega, by rw [← q_2.2.1, goK_ok (k := x_2.1) (by omega) ho], by simp only [List.length_append, List.length_singleton]; omega⟩, by simp only; omega, ⟨by simp only; omega, rfl, trivial⟩, (by repeat' (first | exact trivial | rfl | apply And.intro))⟩
        · try simp only [bl, reduceCtorEq] at h8
          intro h9
          intro h10
          refine ⟨?_, ?_⟩
          · first | trivial | omega | (dsimp only [D] at *; omega) | (simp only [I64, big] at *; omega) | (simp_all; done)
          have hm := hp.2 x_1.1 (by omega)
          exact ⟨(x_1.1 + 1, x_2.2), ⟨by omega, by rw [← q_2.2.1, goK_end (by omega)], by have := hm.1; simp only; omega⟩, by simp only; omega, ⟨by simp only; omega, rfl, trivial⟩, (by repeat' (first | exact trivial | rfl | apply And.intro))⟩
      · try simp only [bl, reduceCtorEq] at h6
        have hlen : b.length = l.length := (by omega); have hib : InB b := fun j hj => q_0.2 j (by omega)
        rw [allF_go hlen hib, ← q_1.2.1, goI_end (by omega)]
theorem Try.ok_All : PureOK Try.prog Try.B.eT 30 [.slice tObject, .slice (.int .i64)] [.slice tPatch, .err] (fun x => MildOs x.1) (fun x y => y = (fun x => allF x) x) :=
  pure_fn (X := noExt) Try.patch2CtxOK Try.func30 (by kernel_rfl) (fun x => allAnn x.1 x.2) (fun x hw hp => vc_All x.1 x.2 hw hp)
def foundAnn (l : List (D tObject)) (s : List UInt8) : Anns := [
  (0, fun st => { X := Nat, inv := fun p => p ≤ 2 ∧ RInv l s p 0 0, meas := fun p => 2 - p, slots := fun p => [(6, sI p)], keep := [0, 1] }),
  (2, fun st => { X := Nat, inv := fun i => i ≤ l.length ∧ RInv l s (tmpD (.int .i64) st 6).toNat i 0, meas := fun i => l.length - i, slots := fun i => [(7, sI i)], keep := [0, 1, 6, 10, 11] }),
  (4, fun st => { X := Nat, inv := fun k => k ≤ (nth tObject l (tmpD (.int .i64) st 7).toNat).2.2.1.length ∧ RInv l s (tmpD (.int .i64) st 6).toNat (tmpD (.int .i64) st 7).toNat k, meas := fun k => (nth tObject l (tmpD (.int .i64) st 7).toNat).2.2.1.length - k, slots := fun k => [(8, sI k)], keep := [0, 1, 6, 7, 10, 11, 14, 15, 16, 17] })]
set_option maxRecDepth 100000 in
set_option maxHeartbeats 4000000 in
theorem vc_Found (l : List (D tObject)) (s : List UInt8) (hw : wfL [.slice tObject, .str] (l, s)) : (fnVCs Try.B [] Try.f55 (foundAnn l s) [.slice tObject, .str] [.int .i64, .int .i64] (fun x y => y = (fun x => findS x) x) (l, s)).holds := by
  refine holds_of (p :=
    (∃ (x : Nat), (x ≤ (2 : Nat) ∧ RInv l s x (0 : Nat) (0 : Nat)) ∧ ((0 : Int) = (↑x : Int) ∧ True) ∧ True) ∧ (∀ x_0 : Nat, ((x_0 ≤ (2 : Nat) ∧ RInv l s x_0 (0 : Nat) (0 : Nat)) → (((decide ((↑x_0 : Int) < (2 : Int))) = true → (∃ (x : Nat), (x ≤ List.length l ∧ RInv l s x_0 x (0 : Nat)) ∧ ((0 : Int) = (↑x : Int) ∧ True) ∧ True) ∧ (∀ x_1 : Nat, ((x_1 ≤ List.length l ∧ RInv l s x_0 x_1 (0 : Nat)) → ((List.length l ≤ big) → (((decide ((↑x_1 : Int) < (↑(List.length l) : Int))) = true →
    (∃ (x : Nat), (x ≤ List.length (nth tObject l x_1).2.2.1 ∧ RInv l s x_0 x_1 x) ∧ ((0 : Int) = (↑x : Int) ∧ True) ∧ True) ∧ (∀ x_2 : Nat, ((x_2 ≤ List.length (nth tObject l x_1).2.2.1 ∧ RInv l s x_0 x_1 x_2) → ((0 : Int) ≤ (↑x_1 : Int) ∧ (↑x_1 : Int) < (↑(List.length l) : Int)) ∧ ((List.length (nth tObject l x_1).2.2.1 ≤ big) → (((decide ((↑x_2 : Int) < (↑(List.length (nth tObject l x_1).2.2.1) : Int))) = true → ((0 : Int) ≤ (↑x_1 : Int) ∧ (↑x_1 : Int) < (↑(List.length l) : Int)) ∧ ((0 : Int) ≤ (↑x_2 : Int) ∧ (↑x_2 : Int) < (↑(List.length (nth tObject l x_1).2.2.1) : Int)) ∧ ((((nth tSymbol (nth tObject l x_1).2.2.1 x_2).1 == s) = true → ((((nth tSymbol (nth tObject l x_1).2.2.1 x_2).2.2.1 == ((↑x_0 : Int) == (1 : Int))) = true → (((↑x_1 : Int), (↑x_2 : Int)) = findS (l, s))) ∧ (((nth tSymbol (nth tObject l x_1).2.2.1 x_2).2.2.1 == ((↑x_0 : Int) == (1 : Int))) = false → ((I64 (↑x_2 : Int)) → ((I64 (1 : Int)) → (I64 ((↑x_2 : Int) + (1 : Int))) ∧
    (∃ (x' : Nat), (x' ≤ List.length (nth tObject l x_1).2.2.1 ∧ RInv l s x_0 x_1 x') ∧ List.length (nth tObject l x_1).2.2.1 - x' < List.length (nth tObject l x_1).2.2.1 - x_2 ∧ ((↑x_2 : Int) + (1 : Int) = (↑x' : Int) ∧ True) ∧ True)))))) ∧ (((nth tSymbol (nth tObject l x_1).2.2.1 x_2).1 == s) = false → ((I64 (↑x_2 : Int)) → ((I64 (1 : Int)) → (I64 ((↑x_2 : Int) + (1 : Int))) ∧
    (∃ (x' : Nat), (x' ≤ List.length (nth tObject l x_1).2.2.1 ∧ RInv l s x_0 x_1 x') ∧ List.length (nth tObject l x_1).2.2.1 - x' < List.length (nth tObject l x_1).2.2.1 - x_2 ∧ ((↑x_2 : Int) + (1 : Int) = (↑x' : Int) ∧ True) ∧ True)))))) ∧ ((decide ((↑x_2 : Int) < (↑(List.length (nth tObject l x_1).2.2.1) : Int))) = false → ((I64 (↑x_1 : Int)) → ((I64 (1 : Int)) → (I64 ((↑x_1 : Int) + (1 : Int))) ∧
    (∃ (x' : Nat), (x' ≤ List.length l ∧ RInv l s x_0 x' (0 : Nat)) ∧ List.length l - x' < List.length l - x_1 ∧ ((↑x_1 : Int) + (1 : Int) = (↑x' : Int) ∧ True) ∧ True))))))))) ∧ ((decide ((↑x_1 : Int) < (↑(List.length l) : Int))) = false → ((I64 (↑x_0 : Int)) → ((I64 (1 : Int)) → (I64 ((↑x_0 : Int) + (1 : Int))) ∧
    (∃ (x' : Nat), (x' ≤ (2 : Nat) ∧ RInv l s x' (0 : Nat) (0 : Nat)) ∧ (2 : Nat) - x' < (2 : Nat) - x_0 ∧ ((↑x_0 : Int) + (1 : Int) = (↑x' : Int) ∧ True) ∧ True))))))))) ∧ ((decide ((↑x_0 : Int) < (2 : Int))) = false → (((-1 : Int), (-1 : Int)) = findS (l, s))))))) (by kernel_rfl) ?_
  refine ⟨?_, ?_⟩
  · exact ⟨0, ⟨by omega, RInv.start l s⟩, ⟨rfl, trivial⟩, trivial⟩
  intro x_0 q_0
  refine ⟨fun h0 => ?_, fun h0 => ?_⟩
  · try simp only [bl, reduceCtorEq] at h0
    refine ⟨?_, ?_⟩
    · first | exact ⟨0, ⟨by omega, q_0.2⟩, ⟨rfl, trivial⟩, trivial⟩ | exact ⟨0, ⟨by omega, q_1.2⟩, ⟨rfl, trivial⟩, trivial⟩
    intro x_1 q_1
    intro h1
    refine ⟨fun h2 => ?_, fun h2 => ?_⟩
    · try simp only [bl, reduceCtorEq] at h2
      refine ⟨?_, ?_⟩
      · first | exact ⟨0, ⟨by omega, q_0.2⟩, ⟨rfl, trivial⟩, trivial⟩ | exact ⟨0, ⟨by omega, q_1.2⟩, ⟨rfl, trivial⟩, trivial⟩
      intro x_2 q_2
      refine ⟨?_, ?_⟩
      · first | trivial | omega | (dsimp only [D] at *; omega) | (simp only [I64, big] at *; omega) | (simp_all; done)
      intro h3
      refine ⟨fun h4 => ?_, fun h4 => ?_⟩
      · try simp only [bl, reduceCtorEq] at h4
        refine ⟨?_, ?_⟩
        · first | trivial | omega | (dsimp only [D] at *; omega) | (simp only [I64, big] at *; omega) | (simp_all; done)
        refine ⟨?_, ?_⟩
        · first | trivial | omega | (dsimp only [D] at *; omega) | (simp only [I64, big] at *; omega) | (simp_all; done)
        refine ⟨fun h5 => ?_, fun h5 => ?_⟩
        · try simp only [bl, reduceCtorEq] at h5
          refine ⟨fun h6 => ?_, fun h6 => ?_⟩
          · try simp only [bl, reduceCtorEq] at h6
            exact (q_2.2.found (by omega) (by omega) (by omega) (by assumption) (by simp_all)).symm
          · try simp only [bl, reduceCtorEq] at h6
            intro h7
            intro h8
            refine ⟨?_, ?_⟩
            · first | trivial | omega | (dsimp only [D] at *; omega) | (simp only [I64, big] at *; omega) | (simp_all; done)
            exact ⟨x_2 + 1, ⟨by omega, q_2.2.next (fun hh => by have h2 := hh.2; cases hw : (nth tSymbol (nth tObject l x_1).2.2.1 x_2).2.2.1 <;> simp_all)⟩, by omega, ⟨by omega, trivial⟩, (by repeat' (first | exact trivial | rfl | apply And.intro))⟩
        · try simp only [bl, reduceCtorEq] at h5
          intro h6
          intro h7
          refine ⟨?_, ?_⟩
          · first | trivial | omega | (dsimp only [D] at *; omega) | (simp only [I64, big] at *; omega) | (simp_all; done)
          exact ⟨x_2 + 1, ⟨by omega, q_2.2.next (by simp_all)⟩, by omega, ⟨by omega, trivial⟩, (by repeat' (first | exact trivial | rfl | apply And.intro))⟩
      · try simp only [bl, reduceCtorEq] at h4
        intro h5
        intro h6
        refine ⟨?_, ?_⟩
        · first | trivial | omega | (dsimp only [D] at *; omega) | (simp only [I64, big] at *; omega) | (simp_all; done)
        exact ⟨x_1 + 1, ⟨by omega, q_2.2.row (by omega)⟩, by omega, ⟨by omega, trivial⟩, (by repeat' (first | exact trivial | rfl | apply And.intro))⟩
    · try simp only [bl, reduceCtorEq] at h2
      intro h3
      intro h4
      refine ⟨?_, ?_⟩
      · first | trivial | omega | (dsimp only [D] at *; omega) | (simp only [I64, big] at *; omega) | (simp_all; done)
      exact ⟨x_0 + 1, ⟨by omega, q_1.2.pass (by omega)⟩, by omega, ⟨by omega, trivial⟩, (by repeat' (first | exact trivial | rfl | apply And.intro))⟩
  · try simp only [bl, reduceCtorEq] at h0
    exact (q_0.2.done (by omega)).symm
theorem Try.ok_Found : PureOK Try.prog Try.B.eT 55 [.slice tObject, .str] [.int .i64, .int .i64] (fun _ => True) (fun x y => y = (fun x => findS x) x) :=
  pure_fn (X := noExt) (ctx0 Try.tyOK) Try.func55 (by kernel_rfl) (fun x => foundAnn x.1 x.2) (fun x hw hp => vc_Found x.1 x.2 hw)
set_option maxRecDepth 100000 in
set_option maxHeartbeats 4000000 in
theorem vc_WordMay (n : Int) (hw : wfL [.int .i64] n) : (fnVCs Try.B [] Try.f53 [] [.int .i64] [.bool] (fun x y => y = (fun n => decide (-2147483648 ≤ n) && decide (n ≤ 2147483647)) x) n).holds := by
  refine holds_of (p :=
    (((decide (n ≥ (-2147483648 : Int))) = true → (decide (n ≤ (2147483647 : Int)) = (decide ((-2147483648 : Int) ≤ n) && decide (n ≤ (2147483647 : Int))))) ∧ ((decide (n ≥ (-2147483648 : Int))) = false → (false = (decide ((-2147483648 : Int) ≤ n) && decide (n ≤ (2147483647 : Int))))))) (by kernel_rfl) ?_
  refine ⟨fun h0 => ?_, fun h0 => ?_⟩
  · try simp only [bl, reduceCtorEq] at h0
    first | (simp; done) | (rw [Bool.eq_iff_iff]; simp; omega) | first | trivial | omega | (dsimp only [D] at *; omega) | (simp only [I64, big] at *; omega) | (simp_all; done)
  · try simp only [bl, reduceCtorEq] at h0
    first | (simp; done) | (rw [Bool.eq_iff_iff]; simp; omega) | first | trivial | omega | (dsimp only [D] at *; omega) | (simp only [I64, big] at *; omega) | (simp_all; done)
theorem Try.ok_WordMay : PureOK Try.prog Try.B.eT 53 [.int .i64] [.bool] (fun _ => True) (fun x y => y = (fun n => decide (-2147483648 ≤ n) && decide (n ≤ 2147483647)) x) :=
  pure_fn (X := noExt) (ctx0 Try.tyOK) Try.func53 (by kernel_rfl) (fun _ => []) (fun x hw hp => vc_WordMay x hw)
noncomputable def Try.rpatchCtx : List (FuncId × (Bool × CSpec)) := [(55, (true, funSpec [.slice tObject, .str] [.int .i64, .int .i64] (fun _ => True) (fun x => findS x))),
  (53, (true, funSpec [.int .i64] [.bool] (fun _ => True) (fun n => decide (-2147483648 ≤ n) && decide (n ≤ 2147483647))))]
theorem Try.rpatchCtxOK {X : Ext} : CtxOK Try.prog Try.B X Try.rpatchCtx :=
  ctx1 (callOK_of_fun Try.ok_Found) (ctx1 (callOK_of_fun Try.ok_WordMay) (ctx0 Try.tyOK))
def rpatchAnn (l : List (D tObject)) (b : List Int) : Anns := [
  (0, fun st => { X := Nat, inv := fun i => i ≤ b.length ∧ ∀ j, j < i → 0 ≤ (nth (.int .i64) b j : Int) ∧ (nth (.int .i64) b j : Int) ≤ 256, meas := fun i => b.length - i, slots := fun i => [(6, sI i)], keep := [0, 1] }),
  (2, fun st => { X := Nat × List (D tPatch), inv := fun x => x.1 ≤ l.length ∧ goI l b (l.drop x.1) x.1 x.2 = goI l b l 0 [] ∧ x.2.length ≤ 10 * x.1, meas := fun x => l.length - x.1, slots := fun x => [(8, sI x.1), (7, .s (.one (.app tPatch x.2 (objOf st 7))))], objs := fun x => [(objOf st 7, .tok tPatch x.2)], keep := [0, 1], mods := [objOf st 7] }),
  (4, fun st => { X := Nat × List (D tPatch), inv := fun x => x.1 ≤ (nth tObject l (tmpD (.int .i64) st 8).toNat).2.2.2.1.length ∧ thenI (goI l b (l.drop ((tmpD (.int .i64) st 8).toNat + 1)) ((tmpD (.int .i64) st 8).toNat + 1)) (goK l b (tmpD (.int .i64) st 8).toNat ((nth tObject l (tmpD (.int .i64) st 8).toNat).2.2.2.1.drop x.1) x.2) = goI l b l 0 [] ∧ x.2.length ≤ 10 * (tmpD (.int .i64) st 8).toNat + x.1, meas := fun x => (nth tObject l (tmpD (.int .i64) st 8).toNat).2.2.2.1.length - x.1, slots := fun x => [(9, sI x.1), (7, .s (.one (.app tPatch x.2 (objOf st 7))))], objs := fun x => [(objOf st 7, .tok tPatch x.2)], keep := [0, 1, 8, 38, 39, 40, 41], mods := [objOf st 7] })]
set_option maxRecDepth 100000 in
set_option maxHeartbeats 4000000 in
theorem vc_RPatches (l : List (D tObject)) (b : List Int) (hw : wfL [.slice tObject, .slice (.int .i64)] (l, b)) (hp : (fun x => MildOs x.1) (l, b)) : (fnVCs Try.B Try.rpatchCtx Try.f31 (rpatchAnn l b) [.slice tObject, .slice (.int .i64)] [.slice tPatch, .int .i64] (fun x y => y = (fun x => ((allF x).1, numE (allF x).2)) x) (l, b)).holds := by
  refine holds_of (p :=
    ((List.length b ≤ big) → ((List.length l ≤ big) → ((((↑(List.length b) : Int) != (↑(List.length l) : Int)) = true → (([], (3 : Int)) = ((allF (l, b)).1, numE (allF (l, b)).2))) ∧ (((↑(List.length b) : Int) != (↑(List.length l) : Int)) = false →
    (∃ (x : Nat), (x ≤ List.length b ∧ ∀ (j : Nat), j < x → (0 : Int) ≤ nth (Ty.int IntKind.i64) b j ∧ nth (Ty.int IntKind.i64) b j ≤ (256 : Int)) ∧ ((0 : Int) = (↑x : Int) ∧ True) ∧ True) ∧ (∀ x_0 : Nat,
    ((x_0 ≤ List.length b ∧ ∀ (j : Nat), j < x_0 → (0 : Int) ≤ nth (Ty.int IntKind.i64) b j ∧ nth (Ty.int IntKind.i64) b j ≤ (256 : Int)) → ((List.length b ≤ big) → (((decide ((↑x_0 : Int) < (↑(List.length b) : Int))) = true → ((0 : Int) ≤ (↑x_0 : Int) ∧ (↑x_0 : Int) < (↑(List.length b) : Int)) ∧ (((decide (nth (Ty.int IntKind.i64) b x_0 < (0 : Int))) = true → (([], (1 : Int)) = ((allF (l, b)).1, numE (allF (l, b)).2))) ∧ ((decide (nth (Ty.int IntKind.i64) b x_0 < (0 : Int))) = false → ((0 : Int) ≤ (↑x_0 : Int) ∧ (↑x_0 : Int) < (↑(List.length b) : Int)) ∧ (((decide (nth (Ty.int IntKind.i64) b x_0 > (256 : Int))) = true → (([], (1 : Int)) = ((allF (l, b)).1, numE (allF (l, b)).2))) ∧ ((decide (nth (Ty.int IntKind.i64) b x_0 > (256 : Int))) = false → ((I64 (↑x_0 : Int)) → ((I64 (1 : Int)) → (I64 ((↑x_0 : Int) + (1 : Int))) ∧
    (∃ (x' : Nat), (x' ≤ List.length b ∧ ∀ (j : Nat), j < x' → (0 : Int) ≤ nth (Ty.int IntKind.i64) b j ∧ nth (Ty.int IntKind.i64) b j ≤ (256 : Int)) ∧ List.length b - x' < List.length b - x_0 ∧ ((↑x_0 : Int) + (1 : Int) = (↑x' : Int) ∧ True) ∧ @List.nil (Int × Int × Int × Unit) = @List.nil (Int × Int × Int × Unit) ∧ True)))))))) ∧ ((decide ((↑x_0 : Int) < (↑(List.length b) : Int))) = false →
    (∃ (x : Nat × List (Int × Int × Int × Unit)), (x.1 ≤ List.length l ∧ goI l b (List.drop x.1 l) x.1 x.2 = goI l b l (0 : Nat) (@List.nil Pt) ∧ List.length x.2 ≤ (10 : Nat) * x.1) ∧ ((0 : Int) = (↑x.1 : Int) ∧ @List.nil (Int × Int × Int × Unit) = x.2 ∧ True) ∧ @List.nil (Int × Int × Int × Unit) = x.2 ∧ True) ∧ (∀ x_1 : Nat × List (Int × Int × Int × Unit),
    ((x_1.1 ≤ List.length l ∧ goI l b (List.drop x_1.1 l) x_1.1 x_1.2 = goI l b l (0 : Nat) (@List.nil Pt) ∧ List.length x_1.2 ≤ (10 : Nat) * x_1.1) → ((List.length l ≤ big) → (((decide ((↑x_1.1 : Int) < (↑(List.length l) : Int))) = true →
    (∃ (x : Nat × List (Int × Int × Int × Unit)), (x.1 ≤ List.length (nth tObject l x_1.1).2.2.2.1 ∧ thenI (goI l b (List.drop (x_1.1 + (1 : Nat)) l) (x_1.1 + (1 : Nat))) (goK l b x_1.1 (List.drop x.1 (nth tObject l x_1.1).2.2.2.1) x.2) = goI l b l (0 : Nat) (@List.nil Pt) ∧ List.length x.2 ≤ (10 : Nat) * x_1.1 + x.1) ∧ ((0 : Int) = (↑x.1 : Int) ∧ x_1.2 = x.2 ∧ True) ∧ x_1.2 = x.2 ∧ True) ∧ (∀ x_2 : Nat × List (Int × Int × Int × Unit),
    ((x_2.1 ≤ List.length (nth tObject l x_1.1).2.2.2.1 ∧ thenI (goI l b (List.drop (x_1.1 + (1 : Nat)) l) (x_1.1 + (1 : Nat))) (goK l b x_1.1 (List.drop x_2.1 (nth tObject l x_1.1).2.2.2.1) x_2.2) = goI l b l (0 : Nat) (@List.nil Pt) ∧ List.length x_2.2 ≤ (10 : Nat) * x_1.1 + x_2.1) → ((0 : Int) ≤ (↑x_1.1 : Int) ∧ (↑x_1.1 : Int) < (↑(List.length l) : Int)) ∧ ((List.length (nth tObject l x_1.1).2.2.2.1 ≤ big) → (((decide ((↑x_2.1 : Int) < (↑(List.length (nth tObject l x_1.1).2.2.2.1) : Int))) = true → ((0 : Int) ≤ (↑x_1.1 : Int) ∧ (↑x_1.1 : Int) < (↑(List.length l) : Int)) ∧ ((0 : Int) ≤ (↑x_2.1 : Int) ∧ (↑x_2.1 : Int) < (↑(List.length (nth tObject l x_1.1).2.2.2.1) : Int)) ∧ ((((nth tTie (nth tObject l x_1.1).2.2.2.1 x_2.1).2.1 == (1 : Int)) = true → ((0 : Int) ≤ (↑x_1.1 : Int) ∧ (↑x_1.1 : Int) < (↑(List.length b) : Int)) ∧ ((I64 (nth tTie (nth tObject l x_1.1).2.2.2.1 x_2.1).2.2.1) → ((I64 (nth (Ty.int IntKind.i64) b x_1.1)) → (I64 ((nth tTie (nth tObject l x_1.1).2.2.2.1 x_2.1).2.2.1 + nth (Ty.int IntKind.i64) b x_1.1)) ∧ ((((nth tTie (nth tObject l x_1.1).2.2.2.1 x_2.1).2.1 == (3 : Int)) = true → ((0 : Int) ≤ (↑x_1.1 : Int) ∧ (↑x_1.1 : Int) < (↑(List.length b) : Int)) ∧ ((I64 ((nth tTie (nth tObject l x_1.1).2.2.2.1 x_2.1).2.2.1 + nth (Ty.int IntKind.i64) b x_1.1)) → ((I64 (nth (Ty.int IntKind.i64) b x_1.1)) →
    (I64 ((nth tTie (nth tObject l x_1.1).2.2.2.1 x_2.1).2.2.1 + nth (Ty.int IntKind.i64) b x_1.1 - nth (Ty.int IntKind.i64) b x_1.1)) ∧
    ((I64 ((nth tTie (nth tObject l x_1.1).2.2.2.1 x_2.1).2.2.1 + nth (Ty.int IntKind.i64) b x_1.1 - nth (Ty.int IntKind.i64) b x_1.1)) → ((I64 (nth tTie (nth tObject l x_1.1).2.2.2.1 x_2.1).1) →
    (I64 ((nth tTie (nth tObject l x_1.1).2.2.2.1 x_2.1).2.2.1 + nth (Ty.int IntKind.i64) b x_1.1 - nth (Ty.int IntKind.i64) b x_1.1 - (nth tTie (nth tObject l x_1.1).2.2.2.1 x_2.1).1)) ∧
    (((decide ((nth tTie (nth tObject l x_1.1).2.2.2.1 x_2.1).2.2.1 + nth (Ty.int IntKind.i64) b x_1.1 - nth (Ty.int IntKind.i64) b x_1.1 - (nth tTie (nth tObject l x_1.1).2.2.2.1 x_2.1).1 < (-500 : Int))) = true → (([], (7 : Int)) = ((allF (l, b)).1, numE (allF (l, b)).2))) ∧
    ((decide ((nth tTie (nth tObject l x_1.1).2.2.2.1 x_2.1).2.2.1 + nth (Ty.int IntKind.i64) b x_1.1 - nth (Ty.int IntKind.i64) b x_1.1 - (nth tTie (nth tObject l x_1.1).2.2.2.1 x_2.1).1 < (-500 : Int))) = false →
    (((decide ((nth tTie (nth tObject l x_1.1).2.2.2.1 x_2.1).2.2.1 + nth (Ty.int IntKind.i64) b x_1.1 - nth (Ty.int IntKind.i64) b x_1.1 - (nth tTie (nth tObject l x_1.1).2.2.2.1 x_2.1).1 > (500 : Int))) = true → (([], (7 : Int)) = ((allF (l, b)).1, numE (allF (l, b)).2))) ∧
    ((decide ((nth tTie (nth tObject l x_1.1).2.2.2.1 x_2.1).2.2.1 + nth (Ty.int IntKind.i64) b x_1.1 - nth (Ty.int IntKind.i64) b x_1.1 - (nth tTie (nth tObject l x_1.1).2.2.2.1 x_2.1).1 > (500 : Int))) = false → (True) ∧
    (((!(decide ((-2147483648 : Int) ≤ (nth tTie (nth tObject l x_1.1).2.2.2.1 x_2.1).2.2.1 + nth (Ty.int IntKind.i64) b x_1.1 - nth (Ty.int IntKind.i64) b x_1.1 - (nth tTie (nth tObject l x_1.1).2.2.2.1 x_2.1).1) && decide ((nth tTie (nth tObject l x_1.1).2.2.2.1 x_2.1).2.2.1 + nth (Ty.int IntKind.i64) b x_1.1 - nth (Ty.int IntKind.i64) b x_1.1 - (nth tTie (nth tObject l x_1.1).2.2.2.1 x_2.1).1 ≤ (2147483647 : Int)))) = true → (([], (7 : Int)) = ((allF (l, b)).1, numE (allF (l, b)).2))) ∧
    ((!(decide ((-2147483648 : Int) ≤ (nth tTie (nth tObject l x_1.1).2.2.2.1 x_2.1).2.2.1 + nth (Ty.int IntKind.i64) b x_1.1 - nth (Ty.int IntKind.i64) b x_1.1 - (nth tTie (nth tObject l x_1.1).2.2.2.1 x_2.1).1) && decide ((nth tTie (nth tObject l x_1.1).2.2.2.1 x_2.1).2.2.1 + nth (Ty.int IntKind.i64) b x_1.1 - nth (Ty.int IntKind.i64) b x_1.1 - (nth tTie (nth tObject l x_1.1).2.2.2.1 x_2.1).1 ≤ (2147483647 : Int)))) = false →
    (x_2.2 = x_2.2 ∧ List.length x_2.2 + List.length [((↑x_1.1 : Int), (nth tTie (nth tObject l x_1.1).2.2.2.1 x_2.1).1, (nth tTie (nth tObject l x_1.1).2.2.2.1 x_2.1).2.2.1 + nth (Ty.int IntKind.i64) b x_1.1 - nth (Ty.int IntKind.i64) b x_1.1 - (nth tTie (nth tObject l x_1.1).2.2.2.1 x_2.1).1, ())] ≤ (1000000000 : Nat)) ∧ ((I64 (↑x_2.1 : Int)) → ((I64 (1 : Int)) → (I64 ((↑x_2.1 : Int) + (1 : Int))) ∧
    (∃ (x' : Nat × List (Int × Int × Int × Unit)), (x'.1 ≤ List.length (nth tObject l x_1.1).2.2.2.1 ∧ thenI (goI l b (List.drop (x_1.1 + (1 : Nat)) l) (x_1.1 + (1 : Nat))) (goK l b x_1.1 (List.drop x'.1 (nth tObject l x_1.1).2.2.2.1) x'.2) = goI l b l (0 : Nat) (@List.nil Pt) ∧ List.length x'.2 ≤ (10 : Nat) * x_1.1 + x'.1) ∧ List.length (nth tObject l x_1.1).2.2.2.1 - x'.1 < List.length (nth tObject l x_1.1).2.2.2.1 - x_2.1 ∧ ((↑x_2.1 : Int) + (1 : Int) = (↑x'.1 : Int) ∧ x_2.2 ++ [((↑x_1.1 : Int), (nth tTie (nth tObject l x_1.1).2.2.2.1 x_2.1).1, (nth tTie (nth tObject l x_1.1).2.2.2.1 x_2.1).2.2.1 + nth (Ty.int IntKind.i64) b x_1.1 - nth (Ty.int IntKind.i64) b x_1.1 - (nth tTie (nth tObject l x_1.1).2.2.2.1 x_2.1).1, ())] = x'.2 ∧ True) ∧ x_2.2 ++ [((↑x_1.1 : Int), (nth tTie (nth tObject l x_1.1).2.2.2.1 x_2.1).1, (nth tTie (nth tObject l x_1.1).2.2.2.1 x_2.1).2.2.1 + nth (Ty.int IntKind.i64) b x_1.1 - nth (Ty.int IntKind.i64) b x_1.1 - (nth tTie (nth tObject l x_1.1).2.2.2.1 x_2.1).1, ())] = x'.2 ∧ @List.nil (Int × Int × Int × Unit) = @List.nil (Int × Int × Int × Unit) ∧ True)))))))))))))) ∧ (((nth tTie (nth tObject l x_1.1).2.2.2.1 x_2.1).2.1 == (3 : Int)) = false → (True) ∧
    (((!(decide ((-2147483648 : Int) ≤ (nth tTie (nth tObject l x_1.1).2.2.2.1 x_2.1).2.2.1 + nth (Ty.int IntKind.i64) b x_1.1) && decide ((nth tTie (nth tObject l x_1.1).2.2.2.1 x_2.1).2.2.1 + nth (Ty.int IntKind.i64) b x_1.1 ≤ (2147483647 : Int)))) = true → (([], (7 : Int)) = ((allF (l, b)).1, numE (allF (l, b)).2))) ∧
    ((!(decide ((-2147483648 : Int) ≤ (nth tTie (nth tObject l x_1.1).2.2.2.1 x_2.1).2.2.1 + nth (Ty.int IntKind.i64) b x_1.1) && decide ((nth tTie (nth tObject l x_1.1).2.2.2.1 x_2.1).2.2.1 + nth (Ty.int IntKind.i64) b x_1.1 ≤ (2147483647 : Int)))) = false →
    (x_2.2 = x_2.2 ∧ List.length x_2.2 + List.length [((↑x_1.1 : Int), (nth tTie (nth tObject l x_1.1).2.2.2.1 x_2.1).1, (nth tTie (nth tObject l x_1.1).2.2.2.1 x_2.1).2.2.1 + nth (Ty.int IntKind.i64) b x_1.1, ())] ≤ (1000000000 : Nat)) ∧ ((I64 (↑x_2.1 : Int)) → ((I64 (1 : Int)) → (I64 ((↑x_2.1 : Int) + (1 : Int))) ∧
    (∃ (x' : Nat × List (Int × Int × Int × Unit)), (x'.1 ≤ List.length (nth tObject l x_1.1).2.2.2.1 ∧ thenI (goI l b (List.drop (x_1.1 + (1 : Nat)) l) (x_1.1 + (1 : Nat))) (goK l b x_1.1 (List.drop x'.1 (nth tObject l x_1.1).2.2.2.1) x'.2) = goI l b l (0 : Nat) (@List.nil Pt) ∧ List.length x'.2 ≤ (10 : Nat) * x_1.1 + x'.1) ∧ List.length (nth tObject l x_1.1).2.2.2.1 - x'.1 < List.length (nth tObject l x_1.1).2.2.2.1 - x_2.1 ∧ ((↑x_2.1 : Int) + (1 : Int) = (↑x'.1 : Int) ∧ x_2.2 ++ [((↑x_1.1 : Int), (nth tTie (nth tObject l x_1.1).2.2.2.1 x_2.1).1, (nth tTie (nth tObject l x_1.1).2.2.2.1 x_2.1).2.2.1 + nth (Ty.int IntKind.i64) b x_1.1, ())] = x'.2 ∧ True) ∧ x_2.2 ++ [((↑x_1.1 : Int), (nth tTie (nth tObject l x_1.1).2.2.2.1 x_2.1).1, (nth tTie (nth tObject l x_1.1).2.2.2.1 x_2.1).2.2.1 + nth (Ty.int IntKind.i64) b x_1.1, ())] = x'.2 ∧ @List.nil (Int × Int × Int × Unit) = @List.nil (Int × Int × Int × Unit) ∧ True)))))))))) ∧ (((nth tTie (nth tObject l x_1.1).2.2.2.1 x_2.1).2.1 == (1 : Int)) = false → (True) ∧ (((decide ((findS (l, (nth tTie (nth tObject l x_1.1).2.2.2.1 x_2.1).2.2.2.1)).1 < (0 : Int))) = true → (((!(nth tTie (nth tObject l x_1.1).2.2.2.1 x_2.1).2.2.2.2.1) = true → (([], (6 : Int)) = ((allF (l, b)).1, numE (allF (l, b)).2))) ∧ ((!(nth tTie (nth tObject l x_1.1).2.2.2.1 x_2.1).2.2.2.2.1) = false → (((decide ((findS (l, (nth tTie (nth tObject l x_1.1).2.2.2.1 x_2.1).2.2.2.1)).1 ≥ (0 : Int))) = true →
    ((0 : Int) ≤ (findS (l, (nth tTie (nth tObject l x_1.1).2.2.2.1 x_2.1).2.2.2.1)).1 ∧ (findS (l, (nth tTie (nth tObject l x_1.1).2.2.2.1 x_2.1).2.2.2.1)).1 < (↑(List.length b) : Int)) ∧ ((I64 (nth tTie (nth tObject l x_1.1).2.2.2.1 x_2.1).2.2.1) → ((I64 (nth (Ty.int IntKind.i64) b (Int.toNat (findS (l, (nth tTie (nth tObject l x_1.1).2.2.2.1 x_2.1).2.2.2.1)).1))) →
    (I64 ((nth tTie (nth tObject l x_1.1).2.2.2.1 x_2.1).2.2.1 + nth (Ty.int IntKind.i64) b (Int.toNat (findS (l, (nth tTie (nth tObject l x_1.1).2.2.2.1 x_2.1).2.2.2.1)).1))) ∧
    ((0 : Int) ≤ (findS (l, (nth tTie (nth tObject l x_1.1).2.2.2.1 x_2.1).2.2.2.1)).1 ∧ (findS (l, (nth tTie (nth tObject l x_1.1).2.2.2.1 x_2.1).2.2.2.1)).1 < (↑(List.length l) : Int)) ∧
    ((0 : Int) ≤ (findS (l, (nth tTie (nth tObject l x_1.1).2.2.2.1 x_2.1).2.2.2.1)).2 ∧ (findS (l, (nth tTie (nth tObject l x_1.1).2.2.2.1 x_2.1).2.2.2.1)).2 < (↑(List.length (nth tObject l (Int.toNat (findS (l, (nth tTie (nth tObject l x_1.1).2.2.2.1 x_2.1).2.2.2.1)).1)).2.2.1) : Int)) ∧
    ((I64 ((nth tTie (nth tObject l x_1.1).2.2.2.1 x_2.1).2.2.1 + nth (Ty.int IntKind.i64) b (Int.toNat (findS (l, (nth tTie (nth tObject l x_1.1).2.2.2.1 x_2.1).2.2.2.1)).1))) →
    ((I64 (nth tSymbol (nth tObject l (Int.toNat (findS (l, (nth tTie (nth tObject l x_1.1).2.2.2.1 x_2.1).2.2.2.1)).1)).2.2.1 (Int.toNat (findS (l, (nth tTie (nth tObject l x_1.1).2.2.2.1 x_2.1).2.2.2.1)).2)).2.1) →
    (I64 ((nth tTie (nth tObject l x_1.1).2.2.2.1 x_2.1).2.2.1 + nth (Ty.int IntKind.i64) b (Int.toNat (findS (l, (nth tTie (nth tObject l x_1.1).2.2.2.1 x_2.1).2.2.2.1)).1) + (nth tSymbol (nth tObject l (Int.toNat (findS (l, (nth tTie (nth tObject l x_1.1).2.2.2.1 x_2.1).2.2.2.1)).1)).2.2.1 (Int.toNat (findS (l, (nth tTie (nth tObject l x_1.1).2.2.2.1 x_2.1).2.2.2.1)).2)).2.1)) ∧ ((((nth tTie (nth tObject l x_1.1).2.2.2.1 x_2.1).2.1 == (3 : Int)) = true → ((0 : Int) ≤ (↑x_1.1 : Int) ∧ (↑x_1.1 : Int) < (↑(List.length b) : Int)) ∧
    ((I64 ((nth tTie (nth tObject l x_1.1).2.2.2.1 x_2.1).2.2.1 + nth (Ty.int IntKind.i64) b (Int.toNat (findS (l, (nth tTie (nth tObject l x_1.1).2.2.2.1 x_2.1).2.2.2.1)).1) + (nth tSymbol (nth tObject l (Int.toNat (findS (l, (nth tTie (nth tObject l x_1.1).2.2.2.1 x_2.1).2.2.2.1)).1)).2.2.1 (Int.toNat (findS (l, (nth tTie (nth tObject l x_1.1).2.2.2.1 x_2.1).2.2.2.1)).2)).2.1)) → ((I64 (nth (Ty.int IntKind.i64) b x_1.1)) →
    (I64 ((nth tTie (nth tObject l x_1.1).2.2.2.1 x_2.1).2.2.1 + nth (Ty.int IntKind.i64) b (Int.toNat (findS (l, (nth tTie (nth tObject l x_1.1).2.2.2.1 x_2.1).2.2.2.1)).1) + (nth tSymbol (nth tObject l (Int.toNat (findS (l, (nth tTie (nth tObject l x_1.1).2.2.2.1 x_2.1).2.2.2.1)).1)).2.2.1 (Int.toNat (findS (l, (nth tTie (nth tObject l x_1.1).2.2.2.1 x_2.1).2.2.2.1)).2)).2.1 - nth (Ty.int IntKind.i64) b x_1.1)) ∧
    ((I64 ((nth tTie (nth tObject l x_1.1).2.2.2.1 x_2.1).2.2.1 + nth (Ty.int IntKind.i64) b (Int.toNat (findS (l, (nth tTie (nth tObject l x_1.1).2.2.2.1 x_2.1).2.2.2.1)).1) + (nth tSymbol (nth tObject l (Int.toNat (findS (l, (nth tTie (nth tObject l x_1.1).2.2.2.1 x_2.1).2.2.2.1)).1)).2.2.1 (Int.toNat (findS (l, (nth tTie (nth tObject l x_1.1).2.2.2.1 x_2.1).2.2.2.1)).2)).2.1 - nth (Ty.int IntKind.i64) b x_1.1)) → ((I64 (nth tTie (nth tObject l x_1.1).2.2.2.1 x_2.1).1) →
    (I64 ((nth tTie (nth tObject l x_1.1).2.2.2.1 x_2.1).2.2.1 + nth (Ty.int IntKind.i64) b (Int.toNat (findS (l, (nth tTie (nth tObject l x_1.1).2.2.2.1 x_2.1).2.2.2.1)).1) + (nth tSymbol (nth tObject l (Int.toNat (findS (l, (nth tTie (nth tObject l x_1.1).2.2.2.1 x_2.1).2.2.2.1)).1)).2.2.1 (Int.toNat (findS (l, (nth tTie (nth tObject l x_1.1).2.2.2.1 x_2.1).2.2.2.1)).2)).2.1 - nth (Ty.int IntKind.i64) b x_1.1 - (nth tTie (nth tObject l x_1.1).2.2.2.1 x_2.1).1)) ∧
    (((decide ((nth tTie (nth tObject l x_1.1).2.2.2.1 x_2.1).2.2.1 + nth (Ty.int IntKind.i64) b (Int.toNat (findS (l, (nth tTie (nth tObject l x_1.1).2.2.2.1 x_2.1).2.2.2.1)).1) + (nth tSymbol (nth tObject l (Int.toNat (findS (l, (nth tTie (nth tObject l x_1.1).2.2.2.1 x_2.1).2.2.2.1)).1)).2.2.1 (Int.toNat (findS (l, (nth tTie (nth tObject l x_1.1).2.2.2.1 x_2.1).2.2.2.1)).2)).2.1 - nth (Ty.int IntKind.i64) b x_1.1 - (nth tTie (nth tObject l x_1.1).2.2.2.1 x_2.1).1 < (-500 : Int))) = true → (([], (7 : Int)) = ((allF (l, b)).1, numE (allF (l, b)).2))) ∧
    ((decide ((nth tTie (nth tObject l x_1.1).2.2.2.1 x_2.1).2.2.1 + nth (Ty.int IntKind.i64) b (Int.toNat (findS (l, (nth tTie (nth tObject l x_1.1).2.2.2.1 x_2.1).2.2.2.1)).1) + (nth tSymbol (nth tObject l (Int.toNat (findS (l, (nth tTie (nth tObject l x_1.1).2.2.2.1 x_2.1).2.2.2.1)).1)).2.2.1 (Int.toNat (findS (l, (nth tTie (nth tObject l x_1.1).2.2.2.1 x_2.1).2.2.2.1)).2)).2.1 - nth (Ty.int IntKind.i64) b x_1.1 - (nth tTie (nth tObject l x_1.1).2.2.2.1 x_2.1).1 < (-500 : Int))) = false →
    (((decide ((nth tTie (nth tObject l x_1.1).2.2.2.1 x_2.1).2.2.1 + nth (Ty.int IntKind.i64) b (Int.toNat (findS (l, (nth tTie (nth tObject l x_1.1).2.2.2.1 x_2.1).2.2.2.1)).1) + (nth tSymbol (nth tObject l (Int.toNat (findS (l, (nth tTie (nth tObject l x_1.1).2.2.2.1 x_2.1).2.2.2.1)).1)).2.2.1 (Int.toNat (findS (l, (nth tTie (nth tObject l x_1.1).2.2.2.1 x_2.1).2.2.2.1)).2)).2.1 - nth (Ty.int IntKind.i64) b x_1.1 - (nth tTie (nth tObject l x_1.1).2.2.2.1 x_2.1).1 > (500 : Int))) = true → (([], (7 : Int)) = ((allF (l, b)).1, numE (allF (l, b)).2))) ∧
    ((decide ((nth tTie (nth tObject l x_1.1).2.2.2.1 x_2.1).2.2.1 + nth (Ty.int IntKind.i64) b (Int.toNat (findS (l, (nth tTie (nth tObject l x_1.1).2.2.2.1 x_2.1).2.2.2.1)).1) + (nth tSymbol (nth tObject l (Int.toNat (findS (l, (nth tTie (nth tObject l x_1.1).2.2.2.1 x_2.1).2.2.2.1)).1)).2.2.1 (Int.toNat (findS (l, (nth tTie (nth tObject l x_1.1).2.2.2.1 x_2.1).2.2.2.1)).2)).2.1 - nth (Ty.int IntKind.i64) b x_1.1 - (nth tTie (nth tObject l x_1.1).2.2.2.1 x_2.1).1 > (500 : Int))) = false → (True) ∧
    (((!(decide ((-2147483648 : Int) ≤ (nth tTie (nth tObject l x_1.1).2.2.2.1 x_2.1).2.2.1 + nth (Ty.int IntKind.i64) b (Int.toNat (findS (l, (nth tTie (nth tObject l x_1.1).2.2.2.1 x_2.1).2.2.2.1)).1) + (nth tSymbol (nth tObject l (Int.toNat (findS (l, (nth tTie (nth tObject l x_1.1).2.2.2.1 x_2.1).2.2.2.1)).1)).2.2.1 (Int.toNat (findS (l, (nth tTie (nth tObject l x_1.1).2.2.2.1 x_2.1).2.2.2.1)).2)).2.1 - nth (Ty.int IntKind.i64) b x_1.1 - (nth tTie (nth tObject l x_1.1).2.2.2.1 x_2.1).1) && decide ((nth tTie (nth tObject l x_1.1).2.2.2.1 x_2.1).2.2.1 + nth (Ty.int IntKind.i64) b (Int.toNat (findS (l, (nth tTie (nth tObject l x_1.1).2.2.2.1 x_2.1).2.2.2.1)).1) + (nth tSymbol (nth tObject l (Int.toNat (findS (l, (nth tTie (nth tObject l x_1.1).2.2.2.1 x_2.1).2.2.2.1)).1)).2.2.1 (Int.toNat (findS (l, (nth tTie (nth tObject l x_1.1).2.2.2.1 x_2.1).2.2.2.1)).2)).2.1 - nth (Ty.int IntKind.i64) b x_1.1 - (nth tTie (nth tObject l x_1.1).2.2.2.1 x_2.1).1 ≤ (2147483647 : Int)))) = true → (([], (7 : Int)) = ((allF (l, b)).1, numE (allF (l, b)).2))) ∧
    ((!(decide ((-2147483648 : Int) ≤ (nth tTie (nth tObject l x_1.1).2.2.2.1 x_2.1).2.2.1 + nth (Ty.int IntKind.i64) b (Int.toNat (findS (l, (nth tTie (nth tObject l x_1.1).2.2.2.1 x_2.1).2.2.2.1)).1) + (nth tSymbol (nth tObject l (Int.toNat (findS (l, (nth tTie (nth tObject l x_1.1).2.2.2.1 x_2.1).2.2.2.1)).1)).2.2.1 (Int.toNat (findS (l, (nth tTie (nth tObject l x_1.1).2.2.2.1 x_2.1).2.2.2.1)).2)).2.1 - nth (Ty.int IntKind.i64) b x_1.1 - (nth tTie (nth tObject l x_1.1).2.2.2.1 x_2.1).1) && decide ((nth tTie (nth tObject l x_1.1).2.2.2.1 x_2.1).2.2.1 + nth (Ty.int IntKind.i64) b (Int.toNat (findS (l, (nth tTie (nth tObject l x_1.1).2.2.2.1 x_2.1).2.2.2.1)).1) + (nth tSymbol (nth tObject l (Int.toNat (findS (l, (nth tTie (nth tObject l x_1.1).2.2.2.1 x_2.1).2.2.2.1)).1)).2.2.1 (Int.toNat (findS (l, (nth tTie (nth tObject l x_1.1).2.2.2.1 x_2.1).2.2.2.1)).2)).2.1 - nth (Ty.int IntKind.i64) b x_1.1 - (nth tTie (nth tObject l x_1.1).2.2.2.1 x_2.1).1 ≤ (2147483647 : Int)))) = false →
    (x_2.2 = x_2.2 ∧ List.length x_2.2 + List.length [((↑x_1.1 : Int), (nth tTie (nth tObject l x_1.1).2.2.2.1 x_2.1).1, (nth tTie (nth tObject l x_1.1).2.2.2.1 x_2.1).2.2.1 + nth (Ty.int IntKind.i64) b (Int.toNat (findS (l, (nth tTie (nth tObject l x_1.1).2.2.2.1 x_2.1).2.2.2.1)).1) + (nth tSymbol (nth tObject l (Int.toNat (findS (l, (nth tTie (nth tObject l x_1.1).2.2.2.1 x_2.1).2.2.2.1)).1)).2.2.1 (Int.toNat (findS (l, (nth tTie (nth tObject l x_1.1).2.2.2.1 x_2.1).2.2.2.1)).2)).2.1 - nth (Ty.int IntKind.i64) b x_1.1 - (nth tTie (nth tObject l x_1.1).2.2.2.1 x_2.1).1, ())] ≤ (1000000000 : Nat)) ∧ ((I64 (↑x_2.1 : Int)) → ((I64 (1 : Int)) → (I64 ((↑x_2.1 : Int) + (1 : Int))) ∧
    (∃ (x' : Nat × List (Int × Int × Int × Unit)), (x'.1 ≤ List.length (nth tObject l x_1.1).2.2.2.1 ∧ thenI (goI l b (List.drop (x_1.1 + (1 : Nat)) l) (x_1.1 + (1 : Nat))) (goK l b x_1.1 (List.drop x'.1 (nth tObject l x_1.1).2.2.2.1) x'.2) = goI l b l (0 : Nat) (@List.nil Pt) ∧ List.length x'.2 ≤ (10 : Nat) * x_1.1 + x'.1) ∧ List.length (nth tObject l x_1.1).2.2.2.1 - x'.1 < List.length (nth tObject l x_1.1).2.2.2.1 - x_2.1 ∧ ((↑x_2.1 : Int) + (1 : Int) = (↑x'.1 : Int) ∧ x_2.2 ++ [((↑x_1.1 : Int), (nth tTie (nth tObject l x_1.1).2.2.2.1 x_2.1).1, (nth tTie (nth tObject l x_1.1).2.2.2.1 x_2.1).2.2.1 + nth (Ty.int IntKind.i64) b (Int.toNat (findS (l, (nth tTie (nth tObject l x_1.1).2.2.2.1 x_2.1).2.2.2.1)).1) + (nth tSymbol (nth tObject l (Int.toNat (findS (l, (nth tTie (nth tObject l x_1.1).2.2.2.1 x_2.1).2.2.2.1)).1)).2.2.1 (Int.toNat (findS (l, (nth tTie (nth tObject l x_1.1).2.2.2.1 x_2.1).2.2.2.1)).2)).2.1 - nth (Ty.int IntKind.i64) b x_1.1 - (nth tTie (nth tObject l x_1.1).2.2.2.1 x_2.1).1, ())] = x'.2 ∧ True) ∧ x_2.2 ++ [((↑x_1.1 : Int), (nth tTie (nth tObject l x_1.1).2.2.2.1 x_2.1).1, (nth tTie (nth tObject l x_1.1).2.2.2.1 x_2.1).2.2.1 + nth (Ty.int IntKind.i64) b (Int.toNat (findS (l, (nth tTie (nth tObject l x_1.1).2.2.2.1 x_2.1).2.2.2.1)).1) + (nth tSymbol (nth tObject l (Int.toNat (findS (l, (nth tTie (nth tObject l x_1.1).2.2.2.1 x_2.1).2.2.2.1)).1)).2.2.1 (Int.toNat (findS (l, (nth tTie (nth tObject l x_1.1).2.2.2.1 x_2.1).2.2.2.1)).2)).2.1 - nth (Ty.int IntKind.i64) b x_1.1 - (nth tTie (nth tObject l x_1.1).2.2.2.1 x_2.1).1, ())] = x'.2 ∧ @List.nil (Int × Int × Int × Unit) = @List.nil (Int × Int × Int × Unit) ∧ True)))))))))))))) ∧ (((nth tTie (nth tObject l x_1.1).2.2.2.1 x_2.1).2.1 == (3 : Int)) = false → (True) ∧
    (((!(decide ((-2147483648 : Int) ≤ (nth tTie (nth tObject l x_1.1).2.2.2.1 x_2.1).2.2.1 + nth (Ty.int IntKind.i64) b (Int.toNat (findS (l, (nth tTie (nth tObject l x_1.1).2.2.2.1 x_2.1).2.2.2.1)).1) + (nth tSymbol (nth tObject l (Int.toNat (findS (l, (nth tTie (nth tObject l x_1.1).2.2.2.1 x_2.1).2.2.2.1)).1)).2.2.1 (Int.toNat (findS (l, (nth tTie (nth tObject l x_1.1).2.2.2.1 x_2.1).2.2.2.1)).2)).2.1) && decide ((nth tTie (nth tObject l x_1.1).2.2.2.1 x_2.1).2.2.1 + nth (Ty.int IntKind.i64) b (Int.toNat (findS (l, (nth tTie (nth tObject l x_1.1).2.2.2.1 x_2.1).2.2.2.1)).1) + (nth tSymbol (nth tObject l (Int.toNat (findS (l, (nth tTie (nth tObject l x_1.1).2.2.2.1 x_2.1).2.2.2.1)).1)).2.2.1 (Int.toNat (findS (l, (nth tTie (nth tObject l x_1.1).2.2.2.1 x_2.1).2.2.2.1)).2)).2.1 ≤ (2147483647 : Int)))) = true → (([], (7 : Int)) = ((allF (l, b)).1, numE (allF (l, b)).2))) ∧
    ((!(decide ((-2147483648 : Int) ≤ (nth tTie (nth tObject l x_1.1).2.2.2.1 x_2.1).2.2.1 + nth (Ty.int IntKind.i64) b (Int.toNat (findS (l, (nth tTie (nth tObject l x_1.1).2.2.2.1 x_2.1).2.2.2.1)).1) + (nth tSymbol (nth tObject l (Int.toNat (findS (l, (nth tTie (nth tObject l x_1.1).2.2.2.1 x_2.1).2.2.2.1)).1)).2.2.1 (Int.toNat (findS (l, (nth tTie (nth tObject l x_1.1).2.2.2.1 x_2.1).2.2.2.1)).2)).2.1) && decide ((nth tTie (nth tObject l x_1.1).2.2.2.1 x_2.1).2.2.1 + nth (Ty.int IntKind.i64) b (Int.toNat (findS (l, (nth tTie (nth tObject l x_1.1).2.2.2.1 x_2.1).2.2.2.1)).1) + (nth tSymbol (nth tObject l (Int.toNat (findS (l, (nth tTie (nth tObject l x_1.1).2.2.2.1 x_2.1).2.2.2.1)).1)).2.2.1 (Int.toNat (findS (l, (nth tTie (nth tObject l x_1.1).2.2.2.1 x_2.1).2.2.2.1)).2)).2.1 ≤ (2147483647 : Int)))) = false →
    (x_2.2 = x_2.2 ∧ List.length x_2.2 + List.length [((↑x_1.1 : Int), (nth tTie (nth tObject l x_1.1).2.2.2.1 x_2.1).1, (nth tTie (nth tObject l x_1.1).2.2.2.1 x_2.1).2.2.1 + nth (Ty.int IntKind.i64) b (Int.toNat (findS (l, (nth tTie (nth tObject l x_1.1).2.2.2.1 x_2.1).2.2.2.1)).1) + (nth tSymbol (nth tObject l (Int.toNat (findS (l, (nth tTie (nth tObject l x_1.1).2.2.2.1 x_2.1).2.2.2.1)).1)).2.2.1 (Int.toNat (findS (l, (nth tTie (nth tObject l x_1.1).2.2.2.1 x_2.1).2.2.2.1)).2)).2.1, ())] ≤ (1000000000 : Nat)) ∧ ((I64 (↑x_2.1 : Int)) → ((I64 (1 : Int)) → (I64 ((↑x_2.1 : Int) + (1 : Int))) ∧
    (∃ (x' : Nat × List (Int × Int × Int × Unit)), (x'.1 ≤ List.length (nth tObject l x_1.1).2.2.2.1 ∧ thenI (goI l b (List.drop (x_1.1 + (1 : Nat)) l) (x_1.1 + (1 : Nat))) (goK l b x_1.1 (List.drop x'.1 (nth tObject l x_1.1).2.2.2.1) x'.2) = goI l b l (0 : Nat) (@List.nil Pt) ∧ List.length x'.2 ≤ (10 : Nat) * x_1.1 + x'.1) ∧ List.length (nth tObject l x_1.1).2.2.2.1 - x'.1 < List.length (nth tObject l x_1.1).2.2.2.1 - x_2.1 ∧ ((↑x_2.1 : Int) + (1 : Int) = (↑x'.1 : Int) ∧ x_2.2 ++ [((↑x_1.1 : Int), (nth tTie (nth tObject l x_1.1).2.2.2.1 x_2.1).1, (nth tTie (nth tObject l x_1.1).2.2.2.1 x_2.1).2.2.1 + nth (Ty.int IntKind.i64) b (Int.toNat (findS (l, (nth tTie (nth tObject l x_1.1).2.2.2.1 x_2.1).2.2.2.1)).1) + (nth tSymbol (nth tObject l (Int.toNat (findS (l, (nth tTie (nth tObject l x_1.1).2.2.2.1 x_2.1).2.2.2.1)).1)).2.2.1 (Int.toNat (findS (l, (nth tTie (nth tObject l x_1.1).2.2.2.1 x_2.1).2.2.2.1)).2)).2.1, ())] = x'.2 ∧ True) ∧ x_2.2 ++ [((↑x_1.1 : Int), (nth tTie (nth tObject l x_1.1).2.2.2.1 x_2.1).1, (nth tTie (nth tObject l x_1.1).2.2.2.1 x_2.1).2.2.1 + nth (Ty.int IntKind.i64) b (Int.toNat (findS (l, (nth tTie (nth tObject l x_1.1).2.2.2.1 x_2.1).2.2.2.1)).1) + (nth tSymbol (nth tObject l (Int.toNat (findS (l, (nth tTie (nth tObject l x_1.1).2.2.2.1 x_2.1).2.2.2.1)).1)).2.2.1 (Int.toNat (findS (l, (nth tTie (nth tObject l x_1.1).2.2.2.1 x_2.1).2.2.2.1)).2)).2.1, ())] = x'.2 ∧ @List.nil (Int × Int × Int × Unit) = @List.nil (Int × Int × Int × Unit) ∧ True)))))))))))) ∧ ((decide ((findS (l, (nth tTie (nth tObject l x_1.1).2.2.2.1 x_2.1).2.2.2.1)).1 ≥ (0 : Int))) = false → ((((nth tTie (nth tObject l x_1.1).2.2.2.1 x_2.1).2.1 == (3 : Int)) = true → ((0 : Int) ≤ (↑x_1.1 : Int) ∧ (↑x_1.1 : Int) < (↑(List.length b) : Int)) ∧ ((I64 (nth tTie (nth tObject l x_1.1).2.2.2.1 x_2.1).2.2.1) → ((I64 (nth (Ty.int IntKind.i64) b x_1.1)) → (I64 ((nth tTie (nth tObject l x_1.1).2.2.2.1 x_2.1).2.2.1 - nth (Ty.int IntKind.i64) b x_1.1)) ∧ ((I64 ((nth tTie (nth tObject l x_1.1).2.2.2.1 x_2.1).2.2.1 - nth (Ty.int IntKind.i64) b x_1.1)) → ((I64 (nth tTie (nth tObject l x_1.1).2.2.2.1 x_2.1).1) →
    (I64 ((nth tTie (nth tObject l x_1.1).2.2.2.1 x_2.1).2.2.1 - nth (Ty.int IntKind.i64) b x_1.1 - (nth tTie (nth tObject l x_1.1).2.2.2.1 x_2.1).1)) ∧
    (((decide ((nth tTie (nth tObject l x_1.1).2.2.2.1 x_2.1).2.2.1 - nth (Ty.int IntKind.i64) b x_1.1 - (nth tTie (nth tObject l x_1.1).2.2.2.1 x_2.1).1 < (-500 : Int))) = true → (([], (7 : Int)) = ((allF (l, b)).1, numE (allF (l, b)).2))) ∧
    ((decide ((nth tTie (nth tObject l x_1.1).2.2.2.1 x_2.1).2.2.1 - nth (Ty.int IntKind.i64) b x_1.1 - (nth tTie (nth tObject l x_1.1).2.2.2.1 x_2.1).1 < (-500 : Int))) = false →
    (((decide ((nth tTie (nth tObject l x_1.1).2.2.2.1 x_2.1).2.2.1 - nth (Ty.int IntKind.i64) b x_1.1 - (nth tTie (nth tObject l x_1.1).2.2.2.1 x_2.1).1 > (500 : Int))) = true → (([], (7 : Int)) = ((allF (l, b)).1, numE (allF (l, b)).2))) ∧
    ((decide ((nth tTie (nth tObject l x_1.1).2.2.2.1 x_2.1).2.2.1 - nth (Ty.int IntKind.i64) b x_1.1 - (nth tTie (nth tObject l x_1.1).2.2.2.1 x_2.1).1 > (500 : Int))) = false → (True) ∧
    (((!(decide ((-2147483648 : Int) ≤ (nth tTie (nth tObject l x_1.1).2.2.2.1 x_2.1).2.2.1 - nth (Ty.int IntKind.i64) b x_1.1 - (nth tTie (nth tObject l x_1.1).2.2.2.1 x_2.1).1) && decide ((nth tTie (nth tObject l x_1.1).2.2.2.1 x_2.1).2.2.1 - nth (Ty.int IntKind.i64) b x_1.1 - (nth tTie (nth tObject l x_1.1).2.2.2.1 x_2.1).1 ≤ (2147483647 : Int)))) = true → (([], (7 : Int)) = ((allF (l, b)).1, numE (allF (l, b)).2))) ∧
    ((!(decide ((-2147483648 : Int) ≤ (nth tTie (nth tObject l x_1.1).2.2.2.1 x_2.1).2.2.1 - nth (Ty.int IntKind.i64) b x_1.1 - (nth tTie (nth tObject l x_1.1).2.2.2.1 x_2.1).1) && decide ((nth tTie (nth tObject l x_1.1).2.2.2.1 x_2.1).2.2.1 - nth (Ty.int IntKind.i64) b x_1.1 - (nth tTie (nth tObject l x_1.1).2.2.2.1 x_2.1).1 ≤ (2147483647 : Int)))) = false →
    (x_2.2 = x_2.2 ∧ List.length x_2.2 + List.length [((↑x_1.1 : Int), (nth tTie (nth tObject l x_1.1).2.2.2.1 x_2.1).1, (nth tTie (nth tObject l x_1.1).2.2.2.1 x_2.1).2.2.1 - nth (Ty.int IntKind.i64) b x_1.1 - (nth tTie (nth tObject l x_1.1).2.2.2.1 x_2.1).1, ())] ≤ (1000000000 : Nat)) ∧ ((I64 (↑x_2.1 : Int)) → ((I64 (1 : Int)) → (I64 ((↑x_2.1 : Int) + (1 : Int))) ∧
    (∃ (x' : Nat × List (Int × Int × Int × Unit)), (x'.1 ≤ List.length (nth tObject l x_1.1).2.2.2.1 ∧ thenI (goI l b (List.drop (x_1.1 + (1 : Nat)) l) (x_1.1 + (1 : Nat))) (goK l b x_1.1 (List.drop x'.1 (nth tObject l x_1.1).2.2.2.1) x'.2) = goI l b l (0 : Nat) (@List.nil Pt) ∧ List.length x'.2 ≤ (10 : Nat) * x_1.1 + x'.1) ∧ List.length (nth tObject l x_1.1).2.2.2.1 - x'.1 < List.length (nth tObject l x_1.1).2.2.2.1 - x_2.1 ∧ ((↑x_2.1 : Int) + (1 : Int) = (↑x'.1 : Int) ∧ x_2.2 ++ [((↑x_1.1 : Int), (nth tTie (nth tObject l x_1.1).2.2.2.1 x_2.1).1, (nth tTie (nth tObject l x_1.1).2.2.2.1 x_2.1).2.2.1 - nth (Ty.int IntKind.i64) b x_1.1 - (nth tTie (nth tObject l x_1.1).2.2.2.1 x_2.1).1, ())] = x'.2 ∧ True) ∧ x_2.2 ++ [((↑x_1.1 : Int), (nth tTie (nth tObject l x_1.1).2.2.2.1 x_2.1).1, (nth tTie (nth tObject l x_1.1).2.2.2.1 x_2.1).2.2.1 - nth (Ty.int IntKind.i64) b x_1.1 - (nth tTie (nth tObject l x_1.1).2.2.2.1 x_2.1).1, ())] = x'.2 ∧ @List.nil (Int × Int × Int × Unit) = @List.nil (Int × Int × Int × Unit) ∧ True)))))))))))))) ∧ (((nth tTie (nth tObject l x_1.1).2.2.2.1 x_2.1).2.1 == (3 : Int)) = false → (True) ∧
    (((!(decide ((-2147483648 : Int) ≤ (nth tTie (nth tObject l x_1.1).2.2.2.1 x_2.1).2.2.1) && decide ((nth tTie (nth tObject l x_1.1).2.2.2.1 x_2.1).2.2.1 ≤ (2147483647 : Int)))) = true → (([], (7 : Int)) = ((allF (l, b)).1, numE (allF (l, b)).2))) ∧
    ((!(decide ((-2147483648 : Int) ≤ (nth tTie (nth tObject l x_1.1).2.2.2.1 x_2.1).2.2.1) && decide ((nth tTie (nth tObject l x_1.1).2.2.2.1 x_2.1).2.2.1 ≤ (2147483647 : Int)))) = false →
    (x_2.2 = x_2.2 ∧ List.length x_2.2 + List.length [((↑x_1.1 : Int), (nth tTie (nth tObject l x_1.1).2.2.2.1 x_2.1).1, (nth tTie (nth tObject l x_1.1).2.2.2.1 x_2.1).2.2.1, ())] ≤ (1000000000 : Nat)) ∧ ((I64 (↑x_2.1 : Int)) → ((I64 (1 : Int)) → (I64 ((↑x_2.1 : Int) + (1 : Int))) ∧
    (∃ (x' : Nat × List (Int × Int × Int × Unit)), (x'.1 ≤ List.length (nth tObject l x_1.1).2.2.2.1 ∧ thenI (goI l b (List.drop (x_1.1 + (1 : Nat)) l) (x_1.1 + (1 : Nat))) (goK l b x_1.1 (List.drop x'.1 (nth tObject l x_1.1).2.2.2.1) x'.2) = goI l b l (0 : Nat) (@List.nil Pt) ∧ List.length x'.2 ≤ (10 : Nat) * x_1.1 + x'.1) ∧ List.length (nth tObject l x_1.1).2.2.2.1 - x'.1 < List.length (nth tObject l x_1.1).2.2.2.1 - x_2.1 ∧ ((↑x_2.1 : Int) + (1 : Int) = (↑x'.1 : Int) ∧ x_2.2 ++ [((↑x_1.1 : Int), (nth tTie (nth tObject l x_1.1).2.2.2.1 x_2.1).1, (nth tTie (nth tObject l x_1.1).2.2.2.1 x_2.1).2.2.1, ())] = x'.2 ∧ True) ∧ x_2.2 ++ [((↑x_1.1 : Int), (nth tTie (nth tObject l x_1.1).2.2.2.1 x_2.1).1, (nth tTie (nth tObject l x_1.1).2.2.2.1 x_2.1).2.2.1, ())] = x'.2 ∧ @List.nil (Int × Int × Int × Unit) = @List.nil (Int × Int × Int × Unit) ∧ True)))))))))))) ∧ ((decide ((findS (l, (nth tTie (nth tObject l x_1.1).2.2.2.1 x_2.1).2.2.2.1)).1 < (0 : Int))) = false → (((decide ((findS (l, (nth tTie (nth tObject l x_1.1).2.2.2.1 x_2.1).2.2.2.1)).1 ≥ (0 : Int))) = true →
    ((0 : Int) ≤ (findS (l, (nth tTie (nth tObject l x_1.1).2.2.2.1 x_2.1).2.2.2.1)).1 ∧ (findS (l, (nth tTie (nth tObject l x_1.1).2.2.2.1 x_2.1).2.2.2.1)).1 < (↑(List.length b) : Int)) ∧ ((I64 (nth tTie (nth tObject l x_1.1).2.2.2.1 x_2.1).2.2.1) → ((I64 (nth (Ty.int IntKind.i64) b (Int.toNat (findS (l, (nth tTie (nth tObject l x_1.1).2.2.2.1 x_2.1).2.2.2.1)).1))) →
    (I64 ((nth tTie (nth tObject l x_1.1).2.2.2.1 x_2.1).2.2.1 + nth (Ty.int IntKind.i64) b (Int.toNat (findS (l, (nth tTie (nth tObject l x_1.1).2.2.2.1 x_2.1).2.2.2.1)).1))) ∧
    ((0 : Int) ≤ (findS (l, (nth tTie (nth tObject l x_1.1).2.2.2.1 x_2.1).2.2.2.1)).1 ∧ (findS (l, (nth tTie (nth tObject l x_1.1).2.2.2.1 x_2.1).2.2.2.1)).1 < (↑(List.length l) : Int)) ∧
    ((0 : Int) ≤ (findS (l, (nth tTie (nth tObject l x_1.1).2.2.2.1 x_2.1).2.2.2.1)).2 ∧ (findS (l, (nth tTie (nth tObject l x_1.1).2.2.2.1 x_2.1).2.2.2.1)).2 < (↑(List.length (nth tObject l (Int.toNat (findS (l, (nth tTie (nth tObject l x_1.1).2.2.2.1 x_2.1).2.2.2.1)).1)).2.2.1) : Int)) ∧
    ((I64 ((nth tTie (nth tObject l x_1.1).2.2.2.1 x_2.1).2.2.1 + nth (Ty.int IntKind.i64) b (Int.toNat (findS (l, (nth tTie (nth tObject l x_1.1).2.2.2.1 x_2.1).2.2.2.1)).1))) →
    ((I64 (nth tSymbol (nth tObject l (Int.toNat (findS (l, (nth tTie (nth tObject l x_1.1).2.2.2.1 x_2.1).2.2.2.1)).1)).2.2.1 (Int.toNat (findS (l, (nth tTie (nth tObject l x_1.1).2.2.2.1 x_2.1).2.2.2.1)).2)).2.1) →
    (I64 ((nth tTie (nth tObject l x_1.1).2.2.2.1 x_2.1).2.2.1 + nth (Ty.int IntKind.i64) b (Int.toNat (findS (l, (nth tTie (nth tObject l x_1.1).2.2.2.1 x_2.1).2.2.2.1)).1) + (nth tSymbol (nth tObject l (Int.toNat (findS (l, (nth tTie (nth tObject l x_1.1).2.2.2.1 x_2.1).2.2.2.1)).1)).2.2.1 (Int.toNat (findS (l, (nth tTie (nth tObject l x_1.1).2.2.2.1 x_2.1).2.2.2.1)).2)).2.1)) ∧ ((((nth tTie (nth tObject l x_1.1).2.2.2.1 x_2.1).2.1 == (3 : Int)) = true → ((0 : Int) ≤ (↑x_1.1 : Int) ∧ (↑x_1.1 : Int) < (↑(List.length b) : Int)) ∧
    ((I64 ((nth tTie (nth tObject l x_1.1).2.2.2.1 x_2.1).2.2.1 + nth (Ty.int IntKind.i64) b (Int.toNat (findS (l, (nth tTie (nth tObject l x_1.1).2.2.2.1 x_2.1).2.2.2.1)).1) + (nth tSymbol (nth tObject l (Int.toNat (findS (l, (nth tTie (nth tObject l x_1.1).2.2.2.1 x_2.1).2.2.2.1)).1)).2.2.1 (Int.toNat (findS (l, (nth tTie (nth tObject l x_1.1).2.2.2.1 x_2.1).2.2.2.1)).2)).2.1)) → ((I64 (nth (Ty.int IntKind.i64) b x_1.1)) →
    (I64 ((nth tTie (nth tObject l x_1.1).2.2.2.1 x_2.1).2.2.1 + nth (Ty.int IntKind.i64) b (Int.toNat (findS (l, (nth tTie (nth tObject l x_1.1).2.2.2.1 x_2.1).2.2.2.1)).1) + (nth tSymbol (nth tObject l (Int.toNat (findS (l, (nth tTie (nth tObject l x_1.1).2.2.2.1 x_2.1).2.2.2.1)).1)).2.2.1 (Int.toNat (findS (l, (nth tTie (nth tObject l x_1.1).2.2.2.1 x_2.1).2.2.2.1)).2)).2.1 - nth (Ty.int IntKind.i64) b x_1.1)) ∧
    ((I64 ((nth tTie (nth tObject l x_1.1).2.2.2.1 x_2.1).2.2.1 + nth (Ty.int IntKind.i64) b (Int.toNat (findS (l, (nth tTie (nth tObject l x_1.1).2.2.2.1 x_2.1).2.2.2.1)).1) + (nth tSymbol (nth tObject l (Int.toNat (findS (l, (nth tTie (nth tObject l x_1.1).2.2.2.1 x_2.1).2.2.2.1)).1)).2.2.1 (Int.toNat (findS (l, (nth tTie (nth tObject l x_1.1).2.2.2.1 x_2.1).2.2.2.1)).2)).2.1 - nth (Ty.int IntKind.i64) b x_1.1)) → ((I64 (nth tTie (nth tObject l x_1.1).2.2.2.1 x_2.1).1) →
    (I64 ((nth tTie (nth tObject l x_1.1).2.2.2.1 x_2.1).2.2.1 + nth (Ty.int IntKind.i64) b (Int.toNat (findS (l, (nth tTie (nth tObject l x_1.1).2.2.2.1 x_2.1).2.2.2.1)).1) + (nth tSymbol (nth tObject l (Int.toNat (findS (l, (nth tTie (nth tObject l x_1.1).2.2.2.1 x_2.1).2.2.2.1)).1)).2.2.1 (Int.toNat (findS (l, (nth tTie (nth tObject l x_1.1).2.2.2.1 x_2.1).2.2.2.1)).2)).2.1 - nth (Ty.int IntKind.i64) b x_1.1 - (nth tTie (nth tObject l x_1.1).2.2.2.1 x_2.1).1)) ∧
    (((decide ((nth tTie (nth tObject l x_1.1).2.2.2.1 x_2.1).2.2.1 + nth (Ty.int IntKind.i64) b (Int.toNat (findS (l, (nth tTie (nth tObject l x_1.1).2.2.2.1 x_2.1).2.2.2.1)).1) + (nth tSymbol (nth tObject l (Int.toNat (findS (l, (nth tTie (nth tObject l x_1.1).2.2.2.1 x_2.1).2.2.2.1)).1)).2.2.1 (Int.toNat (findS (l, (nth tTie (nth tObject l x_1.1).2.2.2.1 x_2.1).2.2.2.1)).2)).2.1 - nth (Ty.int IntKind.i64) b x_1.1 - (nth tTie (nth tObject l x_1.1).2.2.2.1 x_2.1).1 < (-500 : Int))) = true → (([], (7 : Int)) = ((allF (l, b)).1, numE (allF (l, b)).2))) ∧
    ((decide ((nth tTie (nth tObject l x_1.1).2.2.2.1 x_2.1).2.2.1 + nth (Ty.int IntKind.i64) b (Int.toNat (findS (l, (nth tTie (nth tObject l x_1.1).2.2.2.1 x_2.1).2.2.2.1)).1) + (nth tSymbol (nth tObject l (Int.toNat (findS (l, (nth tTie (nth tObject l x_1.1).2.2.2.1 x_2.1).2.2.2.1)).1)).2.2.1 (Int.toNat (findS (l, (nth tTie (nth tObject l x_1.1).2.2.2.1 x_2.1).2.2.2.1)).2)).2.1 - nth (Ty.int IntKind.i64) b x_1.1 - (nth tTie (nth tObject l x_1.1).2.2.2.1 x_2.1).1 < (-500 : Int))) = false →
    (((decide ((nth tTie (nth tObject l x_1.1).2.2.2.1 x_2.1).2.2.1 + nth (Ty.int IntKind.i64) b (Int.toNat (findS (l, (nth tTie (nth tObject l x_1.1).2.2.2.1 x_2.1).2.2.2.1)).1) + (nth tSymbol (nth tObject l (Int.toNat (findS (l, (nth tTie (nth tObject l x_1.1).2.2.2.1 x_2.1).2.2.2.1)).1)).2.2.1 (Int.toNat (findS (l, (nth tTie (nth tObject l x_1.1).2.2.2.1 x_2.1).2.2.2.1)).2)).2.1 - nth (Ty.int IntKind.i64) b x_1.1 - (nth tTie (nth tObject l x_1.1).2.2.2.1 x_2.1).1 > (500 : Int))) = true → (([], (7 : Int)) = ((allF (l, b)).1, numE (allF (l, b)).2))) ∧
    ((decide ((nth tTie (nth tObject l x_1.1).2.2.2.1 x_2.1).2.2.1 + nth (Ty.int IntKind.i64) b (Int.toNat (findS (l, (nth tTie (nth tObject l x_1.1).2.2.2.1 x_2.1).2.2.2.1)).1) + (nth tSymbol (nth tObject l (Int.toNat (findS (l, (nth tTie (nth tObject l x_1.1).2.2.2.1 x_2.1).2.2.2.1)).1)).2.2.1 (Int.toNat (findS (l, (nth tTie (nth tObject l x_1.1).2.2.2.1 x_2.1).2.2.2.1)).2)).2.1 - nth (Ty.int IntKind.i64) b x_1.1 - (nth tTie (nth tObject l x_1.1).2.2.2.1 x_2.1).1 > (500 : Int))) = false → (True) ∧
    (((!(decide ((-2147483648 : Int) ≤ (nth tTie (nth tObject l x_1.1).2.2.2.1 x_2.1).2.2.1 + nth (Ty.int IntKind.i64) b (Int.toNat (findS (l, (nth tTie (nth tObject l x_1.1).2.2.2.1 x_2.1).2.2.2.1)).1) + (nth tSymbol (nth tObject l (Int.toNat (findS (l, (nth tTie (nth tObject l x_1.1).2.2.2.1 x_2.1).2.2.2.1)).1)).2.2.1 (Int.toNat (findS (l, (nth tTie (nth tObject l x_1.1).2.2.2.1 x_2.1).2.2.2.1)).2)).2.1 - nth (Ty.int IntKind.i64) b x_1.1 - (nth tTie (nth tObject l x_1.1).2.2.2.1 x_2.1).1) && decide ((nth tTie (nth tObject l x_1.1).2.2.2.1 x_2.1).2.2.1 + nth (Ty.int IntKind.i64) b (Int.toNat (findS (l, (nth tTie (nth tObject l x_1.1).2.2.2.1 x_2.1).2.2.2.1)).1) + (nth tSymbol (nth tObject l (Int.toNat (findS (l, (nth tTie (nth tObject l x_1.1).2.2.2.1 x_2.1).2.2.2.1)).1)).2.2.1 (Int.toNat (findS (l, (nth tTie (nth tObject l x_1.1).2.2.2.1 x_2.1).2.2.2.1)).2)).2.1 - nth (Ty.int IntKind.i64) b x_1.1 - (nth tTie (nth tObject l x_1.1).2.2.2.1 x_2.1).1 ≤ (2147483647 : Int)))) = true → (([], (7 : Int)) = ((allF (l, b)).1, numE (allF (l, b)).2))) ∧
    ((!(decide ((-2147483648 : Int) ≤ (nth tTie (nth tObject l x_1.1).2.2.2.1 x_2.1).2.2.1 + nth (Ty.int IntKind.i64) b (Int.toNat (findS (l, (nth tTie (nth tObject l x_1.1).2.2.2.1 x_2.1).2.2.2.1)).1) + (nth tSymbol (nth tObject l (Int.toNat (findS (l, (nth tTie (nth tObject l x_1.1).2.2.2.1 x_2.1).2.2.2.1)).1)).2.2.1 (Int.toNat (findS (l, (nth tTie (nth tObject l x_1.1).2.2.2.1 x_2.1).2.2.2.1)).2)).2.1 - nth (Ty.int IntKind.i64) b x_1.1 - (nth tTie (nth tObject l x_1.1).2.2.2.1 x_2.1).1) && decide ((nth tTie (nth tObject l x_1.1).2.2.2.1 x_2.1).2.2.1 + nth (Ty.int IntKind.i64) b (Int.toNat (findS (l, (nth tTie (nth tObject l x_1.1).2.2.2.1 x_2.1).2.2.2.1)).1) + (nth tSymbol (nth tObject l (Int.toNat (findS (l, (nth tTie (nth tObject l x_1.1).2.2.2.1 x_2.1).2.2.2.1)).1)).2.2.1 (Int.toNat (findS (l, (nth tTie (nth tObject l x_1.1).2.2.2.1 x_2.1).2.2.2.1)).2)).2.1 - nth (Ty.int IntKind.i64) b x_1.1 - (nth tTie (nth tObject l x_1.1).2.2.2.1 x_2.1).1 ≤ (2147483647 : Int)))) = false →
    (x_2.2 = x_2.2 ∧ List.length x_2.2 + List.length [((↑x_1.1 : Int), (nth tTie (nth tObject l x_1.1).2.2.2.1 x_2.1).1, (nth tTie (nth tObject l x_1.1).2.2.2.1 x_2.1).2.2.1 + nth (Ty.int IntKind.i64) b (Int.toNat (findS (l, (nth tTie (nth tObject l x_1.1).2.2.2.1 x_2.1).2.2.2.1)).1) + (nth tSymbol (nth tObject l (Int.toNat (findS (l, (nth tTie (nth tObject l x_1.1).2.2.2.1 x_2.1).2.2.2.1)).1)).2.2.1 (Int.toNat (findS (l, (nth tTie (nth tObject l x_1.1).2.2.2.1 x_2.1).2.2.2.1)).2)).2.1 - nth (Ty.int IntKind.i64) b x_1.1 - (nth tTie (nth tObject l x_1.1).2.2.2.1 x_2.1).1, ())] ≤ (1000000000 : Nat)) ∧ ((I64 (↑x_2.1 : Int)) → ((I64 (1 : Int)) → (I64 ((↑x_2.1 : Int) + (1 : Int))) ∧
    (∃ (x' : Nat × List (Int × Int × Int × Unit)), (x'.1 ≤ List.length (nth tObject l x_1.1).2.2.2.1 ∧ thenI (goI l b (List.drop (x_1.1 + (1 : Nat)) l) (x_1.1 + (1 : Nat))) (goK l b x_1.1 (List.drop x'.1 (nth tObject l x_1.1).2.2.2.1) x'.2) = goI l b l (0 : Nat) (@List.nil Pt) ∧ List.length x'.2 ≤ (10 : Nat) * x_1.1 + x'.1) ∧ List.length (nth tObject l x_1.1).2.2.2.1 - x'.1 < List.length (nth tObject l x_1.1).2.2.2.1 - x_2.1 ∧ ((↑x_2.1 : Int) + (1 : Int) = (↑x'.1 : Int) ∧ x_2.2 ++ [((↑x_1.1 : Int), (nth tTie (nth tObject l x_1.1).2.2.2.1 x_2.1).1, (nth tTie (nth tObject l x_1.1).2.2.2.1 x_2.1).2.2.1 + nth (Ty.int IntKind.i64) b (Int.toNat (findS (l, (nth tTie (nth tObject l x_1.1).2.2.2.1 x_2.1).2.2.2.1)).1) + (nth tSymbol (nth tObject l (Int.toNat (findS (l, (nth tTie (nth tObject l x_1.1).2.2.2.1 x_2.1).2.2.2.1)).1)).2.2.1 (Int.toNat (findS (l, (nth tTie (nth tObject l x_1.1).2.2.2.1 x_2.1).2.2.2.1)).2)).2.1 - nth (Ty.int IntKind.i64) b x_1.1 - (nth tTie (nth tObject l x_1.1).2.2.2.1 x_2.1).1, ())] = x'.2 ∧ True) ∧ x_2.2 ++ [((↑x_1.1 : Int), (nth tTie (nth tObject l x_1.1).2.2.2.1 x_2.1).1, (nth tTie (nth tObject l x_1.1).2.2.2.1 x_2.1).2.2.1 + nth (Ty.int IntKind.i64) b (Int.toNat (findS (l, (nth tTie (nth tObject l x_1.1).2.2.2.1 x_2.1).2.2.2.1)).1) + (nth tSymbol (nth tObject l (Int.toNat (findS (l, (nth tTie (nth tObject l x_1.1).2.2.2.1 x_2.1).2.2.2.1)).1)).2.2.1 (Int.toNat (findS (l, (nth tTie (nth tObject l x_1.1).2.2.2.1 x_2.1).2.2.2.1)).2)).2.1 - nth (Ty.int IntKind.i64) b x_1.1 - (nth tTie (nth tObject l x_1.1).2.2.2.1 x_2.1).1, ())] = x'.2 ∧ @List.nil (Int × Int × Int × Unit) = @List.nil (Int × Int × Int × Unit) ∧ True)))))))))))))) ∧ (((nth tTie (nth tObject l x_1.1).2.2.2.1 x_2.1).2.1 == (3 : Int)) = false → (True) ∧
    (((!(decide ((-2147483648 : Int) ≤ (nth tTie (nth tObject l x_1.1).2.2.2.1 x_2.1).2.2.1 + nth (Ty.int IntKind.i64) b (Int.toNat (findS (l, (nth tTie (nth tObject l x_1.1).2.2.2.1 x_2.1).2.2.2.1)).1) + (nth tSymbol (nth tObject l (Int.toNat (findS (l, (nth tTie (nth tObject l x_1.1).2.2.2.1 x_2.1).2.2.2.1)).1)).2.2.1 (Int.toNat (findS (l, (nth tTie (nth tObject l x_1.1).2.2.2.1 x_2.1).2.2.2.1)).2)).2.1) && decide ((nth tTie (nth tObject l x_1.1).2.2.2.1 x_2.1).2.2.1 + nth (Ty.int IntKind.i64) b (Int.toNat (findS (l, (nth tTie (nth tObject l x_1.1).2.2.2.1 x_2.1).2.2.2.1)).1) + (nth tSymbol (nth tObject l (Int.toNat (findS (l, (nth tTie (nth tObject l x_1.1).2.2.2.1 x_2.1).2.2.2.1)).1)).2.2.1 (Int.toNat (findS (l, (nth tTie (nth tObject l x_1.1).2.2.2.1 x_2.1).2.2.2.1)).2)).2.1 ≤ (2147483647 : Int)))) = true → (([], (7 : Int)) = ((allF (l, b)).1, numE (allF (l, b)).2))) ∧
    ((!(decide ((-2147483648 : Int) ≤ (nth tTie (nth tObject l x_1.1).2.2.2.1 x_2.1).2.2.1 + nth (Ty.int IntKind.i64) b (Int.toNat (findS (l, (nth tTie (nth tObject l x_1.1).2.2.2.1 x_2.1).2.2.2.1)).1) + (nth tSymbol (nth tObject l (Int.toNat (findS (l, (nth tTie (nth tObject l x_1.1).2.2.2.1 x_2.1).2.2.2.1)).1)).2.2.1 (Int.toNat (findS (l, (nth tTie (nth tObject l x_1.1).2.2.2.1 x_2.1).2.2.2.1)).2)).2.1) && decide ((nth tTie (nth tObject l x_1.1).2.2.2.1 x_2.1).2.2.1 + nth (Ty.int IntKind.i64) b (Int.toNat (findS (l, (nth tTie (nth tObject l x_1.1).2.2.2.1 x_2.1).2.2.2.1)).1) + (nth tSymbol (nth tObject l (Int.toNat (findS (l, (nth tTie (nth tObject l x_1.1).2.2.2.1 x_2.1).2.2.2.1)).1)).2.2.1 (Int.toNat (findS (l, (nth tTie (nth tObject l x_1.1).2.2.2.1 x_2.1).2.2.2.1)).2)).2.1 ≤ (2147483647 : Int)))) = false →
    (x_2.2 = x_2.2 ∧ List.length x_2.2 + List.length [((↑x_1.1 : Int), (nth tTie (nth tObject l x_1.1).2.2.2.1 x_2.1).1, (nth tTie (nth tObject l x_1.1).2.2.2.1 x_2.1).2.2.1 + nth (Ty.int IntKind.i64) b (Int.toNat (findS (l, (nth tTie (nth tObject l x_1.1).2.2.2.1 x_2.1).2.2.2.1)).1) + (nth tSymbol (nth tObject l (Int.toNat (findS (l, (nth tTie (nth tObject l x_1.1).2.2.2.1 x_2.1).2.2.2.1)).1)).2.2.1 (Int.toNat (findS (l, (nth tTie (nth tObject l x_1.1).2.2.2.1 x_2.1).2.2.2.1)).2)).2.1, ())] ≤ (1000000000 : Nat)) ∧ ((I64 (↑x_2.1 : Int)) → ((I64 (1 : Int)) → (I64 ((↑x_2.1 : Int) + (1 : Int))) ∧
    (∃ (x' : Nat × List (Int × Int × Int × Unit)), (x'.1 ≤ List.length (nth tObject l x_1.1).2.2.2.1 ∧ thenI (goI l b (List.drop (x_1.1 + (1 : Nat)) l) (x_1.1 + (1 : Nat))) (goK l b x_1.1 (List.drop x'.1 (nth tObject l x_1.1).2.2.2.1) x'.2) = goI l b l (0 : Nat) (@List.nil Pt) ∧ List.length x'.2 ≤ (10 : Nat) * x_1.1 + x'.1) ∧ List.length (nth tObject l x_1.1).2.2.2.1 - x'.1 < List.length (nth tObject l x_1.1).2.2.2.1 - x_2.1 ∧ ((↑x_2.1 : Int) + (1 : Int) = (↑x'.1 : Int) ∧ x_2.2 ++ [((↑x_1.1 : Int), (nth tTie (nth tObject l x_1.1).2.2.2.1 x_2.1).1, (nth tTie (nth tObject l x_1.1).2.2.2.1 x_2.1).2.2.1 + nth (Ty.int IntKind.i64) b (Int.toNat (findS (l, (nth tTie (nth tObject l x_1.1).2.2.2.1 x_2.1).2.2.2.1)).1) + (nth tSymbol (nth tObject l (Int.toNat (findS (l, (nth tTie (nth tObject l x_1.1).2.2.2.1 x_2.1).2.2.2.1)).1)).2.2.1 (Int.toNat (findS (l, (nth tTie (nth tObject l x_1.1).2.2.2.1 x_2.1).2.2.2.1)).2)).2.1, ())] = x'.2 ∧ True) ∧ x_2.2 ++ [((↑x_1.1 : Int), (nth tTie (nth tObject l x_1.1).2.2.2.1 x_2.1).1, (nth tTie (nth tObject l x_1.1).2.2.2.1 x_2.1).2.2.1 + nth (Ty.int IntKind.i64) b (Int.toNat (findS (l, (nth tTie (nth tObject l x_1.1).2.2.2.1 x_2.1).2.2.2.1)).1) + (nth tSymbol (nth tObject l (Int.toNat (findS (l, (nth tTie (nth tObject l x_1.1).2.2.2.1 x_2.1).2.2.2.1)).1)).2.2.1 (Int.toNat (findS (l, (nth tTie (nth tObject l x_1.1).2.2.2.1 x_2.1).2.2.2.1)).2)).2.1, ())] = x'.2 ∧ @List.nil (Int × Int × Int × Unit) = @List.nil (Int × Int × Int × Unit) ∧ True)))))))))))) ∧ ((decide ((findS (l, (nth tTie (nth tObject l x_1.1).2.2.2.1 x_2.1).2.2.2.1)).1 ≥ (0 : Int))) = false → ((((nth tTie (nth tObject l x_1.1).2.2.2.1 x_2.1).2.1 == (3 : Int)) = true → ((0 : Int) ≤ (↑x_1.1 : Int) ∧ (↑x_1.1 : Int) < (↑(List.length b) : Int)) ∧ ((I64 (nth tTie (nth tObject l x_1.1).2.2.2.1 x_2.1).2.2.1) → ((I64 (nth (Ty.int IntKind.i64) b x_1.1)) → (I64 ((nth tTie (nth tObject l x_1.1).2.2.2.1 x_2.1).2.2.1 - nth (Ty.int IntKind.i64) b x_1.1)) ∧ ((I64 ((nth tTie (nth tObject l x_1.1).2.2.2.1 x_2.1).2.2.1 - nth (Ty.int IntKind.i64) b x_1.1)) → ((I64 (nth tTie (nth tObject l x_1.1).2.2.2.1 x_2.1).1) →
    (I64 ((nth tTie (nth tObject l x_1.1).2.2.2.1 x_2.1).2.2.1 - nth (Ty.int IntKind.i64) b x_1.1 - (nth tTie (nth tObject l x_1.1).2.2.2.1 x_2.1).1)) ∧
    (((decide ((nth tTie (nth tObject l x_1.1).2.2.2.1 x_2.1).2.2.1 - nth (Ty.int IntKind.i64) b x_1.1 - (nth tTie (nth tObject l x_1.1).2.2.2.1 x_2.1).1 < (-500 : Int))) = true → (([], (7 : Int)) = ((allF (l, b)).1, numE (allF (l, b)).2))) ∧
    ((decide ((nth tTie (nth tObject l x_1.1).2.2.2.1 x_2.1).2.2.1 - nth (Ty.int IntKind.i64) b x_1.1 - (nth tTie (nth tObject l x_1.1).2.2.2.1 x_2.1).1 < (-500 : Int))) = false →
    (((decide ((nth tTie (nth tObject l x_1.1).2.2.2.1 x_2.1).2.2.1 - nth (Ty.int IntKind.i64) b x_1.1 - (nth tTie (nth tObject l x_1.1).2.2.2.1 x_2.1).1 > (500 : Int))) = true → (([], (7 : Int)) = ((allF (l, b)).1, numE (allF (l, b)).2))) ∧
    ((decide ((nth tTie (nth tObject l x_1.1).2.2.2.1 x_2.1).2.2.1 - nth (Ty.int IntKind.i64) b x_1.1 - (nth tTie (nth tObject l x_1.1).2.2.2.1 x_2.1).1 > (500 : Int))) = false → (True) ∧
    (((!(decide ((-2147483648 : Int) ≤ (nth tTie (nth tObject l x_1.1).2.2.2.1 x_2.1).2.2.1 - nth (Ty.int IntKind.i64) b x_1.1 - (nth tTie (nth tObject l x_1.1).2.2.2.1 x_2.1).1) && decide ((nth tTie (nth tObject l x_1.1).2.2.2.1 x_2.1).2.2.1 - nth (Ty.int IntKind.i64) b x_1.1 - (nth tTie (nth tObject l x_1.1).2.2.2.1 x_2.1).1 ≤ (2147483647 : Int)))) = true → (([], (7 : Int)) = ((allF (l, b)).1, numE (allF (l, b)).2))) ∧
    ((!(decide ((-2147483648 : Int) ≤ (nth tTie (nth tObject l x_1.1).2.2.2.1 x_2.1).2.2.1 - nth (Ty.int IntKind.i64) b x_1.1 - (nth tTie (nth tObject l x_1.1).2.2.2.1 x_2.1).1) && decide ((nth tTie (nth tObject l x_1.1).2.2.2.1 x_2.1).2.2.1 - nth (Ty.int IntKind.i64) b x_1.1 - (nth tTie (nth tObject l x_1.1).2.2.2.1 x_2.1).1 ≤ (2147483647 : Int)))) = false →
    (x_2.2 = x_2.2 ∧ List.length x_2.2 + List.length [((↑x_1.1 : Int), (nth tTie (nth tObject l x_1.1).2.2.2.1 x_2.1).1, (nth tTie (nth tObject l x_1.1).2.2.2.1 x_2.1).2.2.1 - nth (Ty.int IntKind.i64) b x_1.1 - (nth tTie (nth tObject l x_1.1).2.2.2.1 x_2.1).1, ())] ≤ (1000000000 : Nat)) ∧ ((I64 (↑x_2.1 : Int)) → ((I64 (1 : Int)) → (I64 ((↑x_2.1 : Int) + (1 : Int))) ∧
    (∃ (x' : Nat × List (Int × Int × Int × Unit)), (x'.1 ≤ List.length (nth tObject l x_1.1).2.2.2.1 ∧ thenI (goI l b (List.drop (x_1.1 + (1 : Nat)) l) (x_1.1 + (1 : Nat))) (goK l b x_1.1 (List.drop x'.1 (nth tObject l x_1.1).2.2.2.1) x'.2) = goI l b l (0 : Nat) (@List.nil Pt) ∧ List.length x'.2 ≤ (10 : Nat) * x_1.1 + x'.1) ∧ List.length (nth tObject l x_1.1).2.2.2.1 - x'.1 < List.length (nth tObject l x_1.1).2.2.2.1 - x_2.1 ∧ ((↑x_2.1 : Int) + (1 : Int) = (↑x'.1 : Int) ∧ x_2.2 ++ [((↑x_1.1 : Int), (nth tTie (nth tObject l x_1.1).2.2.2.1 x_2.1).1, (nth tTie (nth tObject l x_1.1).2.2.2.1 x_2.1).2.2.1 - nth (Ty.int IntKind.i64) b x_1.1 - (nth tTie (nth tObject l x_1.1).2.2.2.1 x_2.1).1, ())] = x'.2 ∧ True) ∧ x_2.2 ++ [((↑x_1.1 : Int), (nth tTie (nth tObject l x_1.1).2.2.2.1 x_2.1).1, (nth tTie (nth tObject l x_1.1).2.2.2.1 x_2.1).2.2.1 - nth (Ty.int IntKind.i64) b x_1.1 - (nth tTie (nth tObject l x_1.1).2.2.2.1 x_2.1).1, ())] = x'.2 ∧ @List.nil (Int × Int × Int × Unit) = @List.nil (Int × Int × Int × Unit) ∧ True)))))))))))))) ∧ (((nth tTie (nth tObject l x_1.1).2.2.2.1 x_2.1).2.1 == (3 : Int)) = false → (True) ∧
    (((!(decide ((-2147483648 : Int) ≤ (nth tTie (nth tObject l x_1.1).2.2.2.1 x_2.1).2.2.1) && decide ((nth tTie (nth tObject l x_1.1).2.2.2.1 x_2.1).2.2.1 ≤ (2147483647 : Int)))) = true → (([], (7 : Int)) = ((allF (l, b)).1, numE (allF (l, b)).2))) ∧
    ((!(decide ((-2147483648 : Int) ≤ (nth tTie (nth tObject l x_1.1).2.2.2.1 x_2.1).2.2.1) && decide ((nth tTie (nth tObject l x_1.1).2.2.2.1 x_2.1).2.2.1 ≤ (2147483647 : Int)))) = false →
    (x_2.2 = x_2.2 ∧ List.length x_2.2 + List.length [((↑x_1.1 : Int), (nth tTie (nth tObject l x_1.1).2.2.2.1 x_2.1).1, (nth tTie (nth tObject l x_1.1).2.2.2.1 x_2.1).2.2.1, ())] ≤ (1000000000 : Nat)) ∧ ((I64 (↑x_2.1 : Int)) → ((I64 (1 : Int)) → (I64 ((↑x_2.1 : Int) + (1 : Int))) ∧
    (∃ (x' : Nat × List (Int × Int × Int × Unit)), (x'.1 ≤ List.length (nth tObject l x_1.1).2.2.2.1 ∧ thenI (goI l b (List.drop (x_1.1 + (1 : Nat)) l) (x_1.1 + (1 : Nat))) (goK l b x_1.1 (List.drop x'.1 (nth tObject l x_1.1).2.2.2.1) x'.2) = goI l b l (0 : Nat) (@List.nil Pt) ∧ List.length x'.2 ≤ (10 : Nat) * x_1.1 + x'.1) ∧ List.length (nth tObject l x_1.1).2.2.2.1 - x'.1 < List.length (nth tObject l x_1.1).2.2.2.1 - x_2.1 ∧ ((↑x_2.1 : Int) + (1 : Int) = (↑x'.1 : Int) ∧ x_2.2 ++ [((↑x_1.1 : Int), (nth tTie (nth tObject l x_1.1).2.2.2.1 x_2.1).1, (nth tTie (nth tObject l x_1.1).2.2.2.1 x_2.1).2.2.1, ())] = x'.2 ∧ True) ∧ x_2.2 ++ [((↑x_1.1 : Int), (nth tTie (nth tObject l x_1.1).2.2.2.1 x_2.1).1, (nth tTie (nth tObject l x_1.1).2.2.2.1 x_2.1).2.2.1, ())] = x'.2 ∧ @List.nil (Int × Int × Int × Unit) = @List.nil (Int × Int × Int × Unit) ∧ True)))))))))))))) ∧ ((decide ((↑x_2.1 : Int) < (↑(List.length (nth tObject l x_1.1).2.2.2.1) : Int))) = false → ((I64 (↑x_1.1 : Int)) → ((I64 (1 : Int)) → (I64 ((↑x_1.1 : Int) + (1 : Int))) ∧
    (∃ (x' : Nat × List (Int × Int × Int × Unit)), (x'.1 ≤ List.length l ∧ goI l b (List.drop x'.1 l) x'.1 x'.2 = goI l b l (0 : Nat) (@List.nil Pt) ∧ List.length x'.2 ≤ (10 : Nat) * x'.1) ∧ List.length l - x'.1 < List.length l - x_1.1 ∧ ((↑x_1.1 : Int) + (1 : Int) = (↑x'.1 : Int) ∧ x_2.2 = x'.2 ∧ True) ∧ x_2.2 = x'.2 ∧ @List.nil (Int × Int × Int × Unit) = @List.nil (Int × Int × Int × Unit) ∧ True))))))))) ∧ ((decide ((↑x_1.1 : Int) < (↑(List.length l) : Int))) = false → ((x_1.2, (0 : Int)) = ((allF (l, b)).1, numE (allF (l, b)).2))))))))))))))))) (by kernel_rfl) ?_
  try dsimp only at hp
  intro h0
  intro h1
  refine ⟨fun h2 => ?_, fun h2 => ?_⟩
  · try simp only [bl, reduceCtorEq] at h2
    rw [allF_len (by omega)]; rfl
  · try simp only [bl, reduceCtorEq] at h2
    refine ⟨?_, ?_⟩
    · exact ⟨0, ⟨by omega, fun j hj => by omega⟩, ⟨rfl, trivial⟩, trivial⟩
    intro x_0 q_0
    intro h3
    refine ⟨fun h4 => ?_, fun h4 => ?_⟩
    · try simp only [bl, reduceCtorEq] at h4
      refine ⟨?_, ?_⟩
      · first | trivial | omega | (dsimp only [D] at *; omega) | (simp only [I64, big] at *; omega) | (simp_all; done)
      refine ⟨fun h5 => ?_, fun h5 => ?_⟩
      · try simp only [bl, reduceCtorEq] at h5
        rw [allF_base (i := x_0) (by omega) (by omega) (by dsimp only [D] at *; omega)]; rfl
      · try simp only [bl, reduceCtorEq] at h5
        refine ⟨?_, ?_⟩
        · first | trivial | omega | (dsimp only [D] at *; omega) | (simp only [I64, big] at *; omega) | (simp_all; done)
        refine ⟨fun h6 => ?_, fun h6 => ?_⟩
        · try simp only [bl, reduceCtorEq] at h6
          rw [allF_base (i := x_0) (by omega) (by omega) (by dsimp only [D] at *; omega)]; rfl
        · try simp only [bl, reduceCtorEq] at h6
          intro h7
          intro h8
          refine ⟨?_, ?_⟩
          · first | trivial | omega | (dsimp only [D] at *; omega) | (simp only [I64, big] at *; omega) | (simp_all; done)
          exact ⟨x_0 + 1, ⟨by omega, upto1 q_0.2 (by dsimp only [D] at *; omega)⟩, by omega, ⟨by omega, trivial⟩, (by repeat' (first | exact trivial | rfl | apply And.intro))⟩
    · try simp only [bl, reduceCtorEq] at h4
      refine ⟨?_, ?_⟩
      · exact ⟨(0, []), ⟨by omega, rfl, by simp⟩, (by repeat' (first | exact trivial | rfl | apply And.intro)), (by repeat' (first | exact trivial | rfl | apply And.intro))⟩
      intro x_1 q_1
      intro h5
      refine ⟨fun h6 => ?_, fun h6 => ?_⟩
      · try simp only [bl, reduceCtorEq] at h6
        refine ⟨?_, ?_⟩
        · exact ⟨(0, x_1.2), ⟨by omega, by rw [← goI_start (by omega)]; exact q_1.2.1, by simp only; omega⟩, (by repeat' (first | exact trivial | rfl | apply And.intro)), (by repeat' (first | exact trivial | rfl | apply And.intro))⟩
        intro x_2 q_2
        refine ⟨?_, ?_⟩
        · first | trivial | omega | (dsimp only [D] at *; omega) | (simp only [I64, big] at *; omega) | (simp_all; done)
        intro h7
        refine ⟨fun h8 => ?_, fun h8 => ?_⟩
        · try simp only [bl, reduceCtorEq] at h8
          refine ⟨?_, ?_⟩
          · first | trivial | omega | (dsimp only [D] at *; omega) | (simp only [I64, big] at *; omega) | (simp_all; done)
          refine ⟨?_, ?_⟩
          · first | trivial | omega | (dsimp only [D] at *; omega) | (simp only [I64, big] at *; omega) | (simp_all; done)
          refine ⟨fun h9 => ?_, fun h9 => ?_⟩
          · try simp only [bl, reduceCtorEq] at h9
            refine ⟨?_, ?_⟩
            · first | trivial | omega | (dsimp only [D] at *; omega) | (simp only [I64, big] at *; omega) | (simp_all; done)
            intro h10
            intro h11
            refine ⟨?_, ?_⟩
            · have hlen : b.length = l.length := (by omega); have hib : InB b := fun j hj => q_0.2 j (by omega)
              have hm := hp.2 x_1.1 (by omega); have htk := hm.2.2 x_2.1 (by omega); have hb := base_in (i := (x_1.1 : Int)) hib hlen (by omega) (by omega); unfold Small Word at htk; rw [Int.toNat_natCast] at hb
              dsimp only [D] at *; simp only [I64]; omega
            refine ⟨fun h12 => ?_, fun h12 => ?_⟩
            · try simp only [bl, reduceCtorEq] at h12
              refine ⟨?_, ?_⟩
              · first | trivial | omega | (dsimp only [D] at *; omega) | (simp only [I64, big] at *; omega) | (simp_all; done)
              intro h13
              intro h14
              refine ⟨?_, ?_⟩
              · have hlen : b.length = l.length := (by omega); have hib : InB b := fun j hj => q_0.2 j (by omega)
                have hm := hp.2 x_1.1 (by omega); have htk := hm.2.2 x_2.1 (by omega); have hb := base_in (i := (x_1.1 : Int)) hib hlen (by omega) (by omega); unfold Small Word at htk; rw [Int.toNat_natCast] at hb
                dsimp only [D] at *; simp only [I64]; omega
              intro h15
              intro h16
              refine ⟨?_, ?_⟩
              · have hlen : b.length = l.length := (by omega); have hib : InB b := fun j hj => q_0.2 j (by omega)
                have hm := hp.2 x_1.1 (by omega); have htk := hm.2.2 x_2.1 (by omega); have hb := base_in (i := (x_1.1 : Int)) hib hlen (by omega) (by omega); unfold Small Word at htk; rw [Int.toNat_natCast] at hb
                dsimp only [D] at *; simp only [I64]; omega
              refine ⟨fun h17 => ?_, fun h17 => ?_⟩
              · try simp only [bl, reduceCtorEq] at h17
                first | trivial | omega | (dsimp only [D] at *; omega) | (simp only [I64, big] at *; omega) | (simp_all; done)
              · try simp only [bl, reduceCtorEq] at h17
                refine ⟨fun h18 => ?_, fun h18 => ?_⟩
                · try simp only [bl, reduceCtorEq] at h18
                  first | trivial | omega | (dsimp only [D] at *; omega) | (simp only [I64, big] at *; omega) | (simp_all; done)
                · try simp only [bl, reduceCtorEq] at h18
                  refine ⟨trivial, ?_⟩
                  refine ⟨fun h19 => ?_, fun h19 => ?_⟩
                  · try simp only [bl, reduceCtorEq] at h19
                    first | trivial | omega | (dsimp only [D] at *; omega) | (simp only [I64, big] at *; omega) | (simp_all; done)
                  · try simp only [bl, reduceCtorEq] at h19
                    refine ⟨?_, ?_⟩
                    · first | trivial | omega | (dsimp only [D] at *; omega) | (simp only [I64, big] at *; omega) | (simp_all; done)
                    intro h20
                    intro h21
                    refine ⟨?_, ?_⟩
                    · first | trivial | omega | (dsimp only [D] at *; omega) | (simp only [I64, big] at *; omega) | (simp_all; done)
                    first | trivial | omega | (dsimp only [D] at *; omega) | (simp only [I64, big] at *; omega) | (simp_all; done)
            · try simp only [bl, reduceCtorEq] at h12
              refine ⟨trivial, ?_⟩
              refine ⟨fun h13 => ?_, fun h13 => ?_⟩
              · try simp only [bl, reduceCtorEq] at h13
                have hlen : b.length = l.length := (by omega); have hib : InB b := fun j hj => q_0.2 j (by omega)
                have ho := one_base (l := l) (b := b) (i := (x_1.1 : Int)) (t := (nth tTie (nth tObject l x_1.1).2.2.2.1 x_2.1)) (by assumption)
                rw [word_far (by first | assumption | (simp_all; done)) (by simp only [Int.toNat_natCast]; dsimp only [D] at *; omega)] at ho
                have e : allF (l, b) = ([], (oneF l b x_1.1 (nth tTie (nth tObject l x_1.1).2.2.2.1 x_2.1)).2) := (by rw [allF_go hlen hib, ← q_2.2.1, goK_bad (by omega) (by rw [ho]; rfl)])
                rw [e, ho]; rfl
              · try simp only [bl, reduceCtorEq] at h13
                refine ⟨?_, ?_⟩
                · have hm := hp.2 x_1.1 (by omega); have := hm.1; have := hp.1; exact ⟨rfl, by simp only [List.length_singleton, big]; omega⟩
                intro h14
                intro h15
                refine ⟨?_, ?_⟩
                · first | trivial | omega | (dsimp only [D] at *; omega) | (simp only [I64, big] at *; omega) | (simp_all; done)
                have hlen : b.length = l.length := (by omega); have hib : InB b := fun j hj => q_0.2 j (by omega)
                have ho := one_base (l := l) (b := b) (i := (x_1.1 : Int)) (t := (nth tTie (nth tObject l x_1.1).2.2.2.1 x_2.1)) (by assumption)
                rw [word_ok (by first | assumption | (simp_all; done)) rfl (by simp only [Int.toNat_natCast]; dsimp only [D] at *; omega)] at ho
                exact ⟨(x_2.1 + 1, x_2.2 ++ [((x_1.1 : Int), (nth tTie (nth tObject l x_1.1).2.2.2.1 x_2.1).1, (oneF l b x_1.1 (nth tTie (nth tObject l x_1.1).2.2.2.1 x_2.1)).1, ())]), ⟨by omega, by rw [← q_2.2.1, goK_ok (k := x_2.1) (by omega) (by rw [ho]; rfl)], by simp only [List.length_append, List.length_singleton]; omega⟩, by simp only; omega, ⟨by simp only; omega, snoc_eq (by rw [ho]; simp only [Int.toNat_natCast]; dsimp only [D] at *; omega), trivial⟩, snoc_eq (by rw [ho]; simp only [Int.toNat_natCast]; dsimp only [D] at *; omega), (by repeat' (first | exact trivial | rfl | apply And.intro))⟩
          · try simp only [bl, reduceCtorEq] at h9
            refine ⟨trivial, ?_⟩
            refine ⟨fun h10 => ?_, fun h10 => ?_⟩
            · try simp only [bl, reduceCtorEq] at h10
              refine ⟨fun h11 => ?_, fun h11 => ?_⟩
              · try simp only [bl, reduceCtorEq] at h11
                have hlen : b.length = l.length := (by omega); have hib : InB b := fun j hj => q_0.2 j (by omega)
                have ht := target_loose (l := l) (b := b) (t := (nth tTie (nth tObject l x_1.1).2.2.2.1 x_2.1)) (by assumption) (by assumption); have ho := one_bad (l := l) (b := b) (i := (x_1.1 : Int)) (t := (nth tTie (nth tObject l x_1.1).2.2.2.1 x_2.1)) (by assumption) (by rw [ht]; rfl); rw [ht] at ho
                have e : allF (l, b) = ([], (oneF l b x_1.1 (nth tTie (nth tObject l x_1.1).2.2.2.1 x_2.1)).2) := (by rw [allF_go hlen hib, ← q_2.2.1, goK_bad (by omega) (by rw [ho]; rfl)])
                rw [e, ho]; rfl
              · try simp only [bl, reduceCtorEq] at h11
                refine ⟨fun h12 => ?_, fun h12 => ?_⟩
                · try simp only [bl, reduceCtorEq] at h12
                  refine ⟨?_, ?_⟩
                  · first | trivial | omega | (dsimp only [D] at *; omega) | (simp only [I64, big] at *; omega) | (simp_all; done)
                  intro h13
                  intro h14
                  refine ⟨?_, ?_⟩
                  · first | trivial | omega | (dsimp only [D] at *; omega) | (simp only [I64, big] at *; omega) | (simp_all; done)
                  refine ⟨?_, ?_⟩
                  · first | trivial | omega | (dsimp only [D] at *; omega) | (simp only [I64, big] at *; omega) | (simp_all; done)
                  refine ⟨?_, ?_⟩
                  · first | trivial | omega | (dsimp only [D] at *; omega) | (simp only [I64, big] at *; omega) | (simp_all; done)
                  intro h15
                  intro h16
                  refine ⟨?_, ?_⟩
                  · first | trivial | omega | (dsimp only [D] at *; omega) | (simp only [I64, big] at *; omega) | (simp_all; done)
                  refine ⟨fun h17 => ?_, fun h17 => ?_⟩
                  · try simp only [bl, reduceCtorEq] at h17
                    refine ⟨?_, ?_⟩
                    · first | trivial | omega | (dsimp only [D] at *; omega) | (simp only [I64, big] at *; omega) | (simp_all; done)
                    intro h18
                    intro h19
                    refine ⟨?_, ?_⟩
                    · first | trivial | omega | (dsimp only [D] at *; omega) | (simp only [I64, big] at *; omega) | (simp_all; done)
                    intro h20
                    intro h21
                    refine ⟨?_, ?_⟩
                    · first | trivial | omega | (dsimp only [D] at *; omega) | (simp only [I64, big] at *; omega) | (simp_all; done)
                    refine ⟨fun h22 => ?_, fun h22 => ?_⟩
                    · try simp only [bl, reduceCtorEq] at h22
                      first | trivial | omega | (dsimp only [D] at *; omega) | (simp only [I64, big] at *; omega) | (simp_all; done)
                    · try simp only [bl, reduceCtorEq] at h22
                      refine ⟨fun h23 => ?_, fun h23 => ?_⟩
                      · try simp only [bl, reduceCtorEq] at h23
                        first | trivial | omega | (dsimp only [D] at *; omega) | (simp only [I64, big] at *; omega) | (simp_all; done)
                      · try simp only [bl, reduceCtorEq] at h23
                        refine ⟨trivial, ?_⟩
                        refine ⟨fun h24 => ?_, fun h24 => ?_⟩
                        · try simp only [bl, reduceCtorEq] at h24
                          first | trivial | omega | (dsimp only [D] at *; omega) | (simp only [I64, big] at *; omega) | (simp_all; done)
                        · try simp only [bl, reduceCtorEq] at h24
                          refine ⟨?_, ?_⟩
                          · first | trivial | omega | (dsimp only [D] at *; omega) | (simp only [I64, big] at *; omega) | (simp_all; done)
                          intro h25
                          intro h26
                          refine ⟨?_, ?_⟩
                          · first | trivial | omega | (dsimp only [D] at *; omega) | (simp only [I64, big] at *; omega) | (simp_all; done)
                          first | trivial | omega | (dsimp only [D] at *; omega) | (simp only [I64, big] at *; omega) | (simp_all; done)
                  · try simp only [bl, reduceCtorEq] at h17
                    refine ⟨trivial, ?_⟩
                    refine ⟨fun h18 => ?_, fun h18 => ?_⟩
                    · try simp only [bl, reduceCtorEq] at h18
                      first | trivial | omega | (dsimp only [D] at *; omega) | (simp only [I64, big] at *; omega) | (simp_all; done)
                    · try simp only [bl, reduceCtorEq] at h18
                      refine ⟨?_, ?_⟩
                      · first | trivial | omega | (dsimp only [D] at *; omega) | (simp only [I64, big] at *; omega) | (simp_all; done)
                      intro h19
                      intro h20
                      refine ⟨?_, ?_⟩
                      · first | trivial | omega | (dsimp only [D] at *; omega) | (simp only [I64, big] at *; omega) | (simp_all; done)
                      first | trivial | omega | (dsimp only [D] at *; omega) | (simp only [I64, big] at *; omega) | (simp_all; done)
                · try simp only [bl, reduceCtorEq] at h12
                  refine ⟨fun h13 => ?_, fun h13 => ?_⟩
                  · try simp only [bl, reduceCtorEq] at h13
                    refine ⟨?_, ?_⟩
                    · first | trivial | omega | (dsimp only [D] at *; omega) | (simp only [I64, big] at *; omega) | (simp_all; done)
                    intro h14
                    intro h15
                    refine ⟨?_, ?_⟩
                    · have hlen : b.length = l.length := (by omega); have hib : InB b := fun j hj => q_0.2 j (by omega)
                      have hm := hp.2 x_1.1 (by omega); have htk := hm.2.2 x_2.1 (by omega); have hb := base_in (i := (x_1.1 : Int)) hib hlen (by omega) (by omega); unfold Small Word at htk; rw [Int.toNat_natCast] at hb
                      dsimp only [D] at *; simp only [I64]; omega
                    intro h16
                    intro h17
                    refine ⟨?_, ?_⟩
                    · have hlen : b.length = l.length := (by omega); have hib : InB b := fun j hj => q_0.2 j (by omega)
                      have hm := hp.2 x_1.1 (by omega); have htk := hm.2.2 x_2.1 (by omega); have hb := base_in (i := (x_1.1 : Int)) hib hlen (by omega) (by omega); unfold Small Word at htk; rw [Int.toNat_natCast] at hb
                      dsimp only [D] at *; simp only [I64]; omega
                    refine ⟨fun h18 => ?_, fun h18 => ?_⟩
                    · try simp only [bl, reduceCtorEq] at h18
                      have hlen : b.length = l.length := (by omega); have hib : InB b := fun j hj => q_0.2 j (by omega)
                      have ht := target_weak (l := l) (b := b) (t := (nth tTie (nth tObject l x_1.1).2.2.2.1 x_2.1)) (by assumption) (by assumption); have ho := one_tgt (l := l) (b := b) (i := (x_1.1 : Int)) (t := (nth tTie (nth tObject l x_1.1).2.2.2.1 x_2.1)) (by assumption) (by rw [ht]; rfl); rw [ht] at ho
                      rw [near_far (by assumption) (by simp only [Int.toNat_natCast]; dsimp only [D] at *; omega)] at ho
                      have e : allF (l, b) = ([], (oneF l b x_1.1 (nth tTie (nth tObject l x_1.1).2.2.2.1 x_2.1)).2) := (by rw [allF_go hlen hib, ← q_2.2.1, goK_bad (by omega) (by rw [ho]; rfl)])
                      rw [e, ho]; rfl
                    · try simp only [bl, reduceCtorEq] at h18
                      refine ⟨fun h19 => ?_, fun h19 => ?_⟩
                      · try simp only [bl, reduceCtorEq] at h19
                        have hlen : b.length = l.length := (by omega); have hib : InB b := fun j hj => q_0.2 j (by omega)
                        have ht := target_weak (l := l) (b := b) (t := (nth tTie (nth tObject l x_1.1).2.2.2.1 x_2.1)) (by assumption) (by assumption); have ho := one_tgt (l := l) (b := b) (i := (x_1.1 : Int)) (t := (nth tTie (nth tObject l x_1.1).2.2.2.1 x_2.1)) (by assumption) (by rw [ht]; rfl); rw [ht] at ho
                        rw [near_far (by assumption) (by simp only [Int.toNat_natCast]; dsimp only [D] at *; omega)] at ho
                        have e : allF (l, b) = ([], (oneF l b x_1.1 (nth tTie (nth tObject l x_1.1).2.2.2.1 x_2.1)).2) := (by rw [allF_go hlen hib, ← q_2.2.1, goK_bad (by omega) (by rw [ho]; rfl)])
                        rw [e, ho]; rfl
                      · try simp only [bl, reduceCtorEq] at h19
                        refine ⟨trivial, ?_⟩
                        refine ⟨fun h20 => ?_, fun h20 => ?_⟩
                        · try simp only [bl, reduceCtorEq] at h20
                          first | trivial | omega | (dsimp only [D] at *; omega) | (simp only [I64, big] at *; omega) | (simp_all; done)
                        · try simp only [bl, reduceCtorEq] at h20
                          refine ⟨?_, ?_⟩
                          · have hm := hp.2 x_1.1 (by omega); have := hm.1; have := hp.1; exact ⟨rfl, by simp only [List.length_singleton, big]; omega⟩
                          intro h21
                          intro h22
                          refine ⟨?_, ?_⟩
                          · first | trivial | omega | (dsimp only [D] at *; omega) | (simp only [I64, big] at *; omega) | (simp_all; done)
                          have hlen : b.length = l.length := (by omega); have hib : InB b := fun j hj => q_0.2 j (by omega)
                          have ht := target_weak (l := l) (b := b) (t := (nth tTie (nth tObject l x_1.1).2.2.2.1 x_2.1)) (by assumption) (by assumption); have ho := one_tgt (l := l) (b := b) (i := (x_1.1 : Int)) (t := (nth tTie (nth tObject l x_1.1).2.2.2.1 x_2.1)) (by assumption) (by rw [ht]; rfl); rw [ht] at ho
                          rw [near_ok (by assumption) rfl (by simp only [Int.toNat_natCast]; dsimp only [D] at *; omega)] at ho
                          exact ⟨(x_2.1 + 1, x_2.2 ++ [((x_1.1 : Int), (nth tTie (nth tObject l x_1.1).2.2.2.1 x_2.1).1, (oneF l b x_1.1 (nth tTie (nth tObject l x_1.1).2.2.2.1 x_2.1)).1, ())]), ⟨by omega, by rw [← q_2.2.1, goK_ok (k := x_2.1) (by omega) (by rw [ho]; rfl)], by simp only [List.length_append, List.length_singleton]; omega⟩, by simp only; omega, ⟨by simp only; omega, snoc_eq (by rw [ho]; simp only [Int.toNat_natCast]; dsimp only [D] at *; omega), trivial⟩, snoc_eq (by rw [ho]; simp only [Int.toNat_natCast]; dsimp only [D] at *; omega), (by repeat' (first | exact trivial | rfl | apply And.intro))⟩
                  · try simp only [bl, reduceCtorEq] at h13
                    refine ⟨trivial, ?_⟩
                    refine ⟨fun h14 => ?_, fun h14 => ?_⟩
                    · try simp only [bl, reduceCtorEq] at h14
                      have hlen : b.length = l.length := (by omega); have hib : InB b := fun j hj => q_0.2 j (by omega)
                      have ht := target_weak (l := l) (b := b) (t := (nth tTie (nth tObject l x_1.1).2.2.2.1 x_2.1)) (by assumption) (by assumption); have ho := one_tgt (l := l) (b := b) (i := (x_1.1 : Int)) (t := (nth tTie (nth tObject l x_1.1).2.2.2.1 x_2.1)) (by assumption) (by rw [ht]; rfl); rw [ht] at ho
                      rw [word_far (by first | assumption | (simp_all; done)) (by simp only [Int.toNat_natCast]; dsimp only [D] at *; omega)] at ho
                      have e : allF (l, b) = ([], (oneF l b x_1.1 (nth tTie (nth tObject l x_1.1).2.2.2.1 x_2.1)).2) := (by rw [allF_go hlen hib, ← q_2.2.1, goK_bad (by omega) (by rw [ho]; rfl)])
                      rw [e, ho]; rfl
                    · try simp only [bl, reduceCtorEq] at h14
                      refine ⟨?_, ?_⟩
                      · have hm := hp.2 x_1.1 (by omega); have := hm.1; have := hp.1; exact ⟨rfl, by simp only [List.length_singleton, big]; omega⟩
                      intro h15
                      intro h16
                      refine ⟨?_, ?_⟩
                      · first | trivial | omega | (dsimp only [D] at *; omega) | (simp only [I64, big] at *; omega) | (simp_all; done)
                      have hlen : b.length = l.length := (by omega); have hib : InB b := fun j hj => q_0.2 j (by omega)
                      have ht := target_weak (l := l) (b := b) (t := (nth tTie (nth tObject l x_1.1).2.2.2.1 x_2.1)) (by assumption) (by assumption); have ho := one_tgt (l := l) (b := b) (i := (x_1.1 : Int)) (t := (nth tTie (nth tObject l x_1.1).2.2.2.1 x_2.1)) (by assumption) (by rw [ht]; rfl); rw [ht] at ho
                      rw [word_ok (by first | assumption | (simp_all; done)) rfl (by simp only [Int.toNat_natCast]; dsimp only [D] at *; omega)] at ho
                      exact ⟨(x_2.1 + 1, x_2.2 ++ [((x_1.1 : Int), (nth tTie (nth tObject l x_1.1).2.2.2.1 x_2.1).1, (oneF l b x_1.1 (nth tTie (nth tObject l x_1.1).2.2.2.1 x_2.1)).1, ())]), ⟨by omega, by rw [← q_2.2.1, goK_ok (k := x_2.1) (by omega) (by rw [ho]; rfl)], by simp only [List.length_append, List.length_singleton]; omega⟩, by simp only; omega, ⟨by simp only; omega, snoc_eq (by rw [ho]; simp only [Int.toNat_natCast]; dsimp only [D] at *; omega), trivial⟩, snoc_eq (by rw [ho]; simp only [Int.toNat_natCast]; dsimp only [D] at *; omega), (by repeat' (first | exact trivial | rfl | apply And.intro))⟩
            · try simp only [bl, reduceCtorEq] at h10
              refine ⟨fun h11 => ?_, fun h11 => ?_⟩
              · try simp only [bl, reduceCtorEq] at h11
                refine ⟨?_, ?_⟩
                · have hlen : b.length = l.length := (by omega); have hib : InB b := fun j hj => q_0.2 j (by omega)
                  have hf := find_in (l := l) (s := (nth tTie (nth tObject l x_1.1).2.2.2.1 x_2.1).2.2.2.1) (by omega); have hbf := base_in (i := (findS (l, (nth tTie (nth tObject l x_1.1).2.2.2.1 x_2.1).2.2.2.1)).1) hib hlen (by omega) (by omega); have hsf := sym_in (l := l) (s := (nth tTie (nth tObject l x_1.1).2.2.2.1 x_2.1).2.2.2.1) hp (by omega); unfold Small at hsf; dsimp only [D] at *
                  omega
                intro h12
                intro h13
                refine ⟨?_, ?_⟩
                · have hlen : b.length = l.length := (by omega); have hib : InB b := fun j hj => q_0.2 j (by omega)
                  have hm := hp.2 x_1.1 (by omega); have htk := hm.2.2 x_2.1 (by omega); have hb := base_in (i := (x_1.1 : Int)) hib hlen (by omega) (by omega); unfold Small Word at htk; rw [Int.toNat_natCast] at hb
                  have hf := find_in (l := l) (s := (nth tTie (nth tObject l x_1.1).2.2.2.1 x_2.1).2.2.2.1) (by omega); have hbf := base_in (i := (findS (l, (nth tTie (nth tObject l x_1.1).2.2.2.1 x_2.1).2.2.2.1)).1) hib hlen (by omega) (by omega); have hsf := sym_in (l := l) (s := (nth tTie (nth tObject l x_1.1).2.2.2.1 x_2.1).2.2.2.1) hp (by omega); unfold Small at hsf; dsimp only [D] at *
                  simp only [I64]; omega
                refine ⟨?_, ?_⟩
                · have hlen : b.length = l.length := (by omega); have hib : InB b := fun j hj => q_0.2 j (by omega)
                  have hf := find_in (l := l) (s := (nth tTie (nth tObject l x_1.1).2.2.2.1 x_2.1).2.2.2.1) (by omega); have hbf := base_in (i := (findS (l, (nth tTie (nth tObject l x_1.1).2.2.2.1 x_2.1).2.2.2.1)).1) hib hlen (by omega) (by omega); have hsf := sym_in (l := l) (s := (nth tTie (nth tObject l x_1.1).2.2.2.1 x_2.1).2.2.2.1) hp (by omega); unfold Small at hsf; dsimp only [D] at *
                  omega
                refine ⟨?_, ?_⟩
                · have hlen : b.length = l.length := (by omega); have hib : InB b := fun j hj => q_0.2 j (by omega)
                  have hf := find_in (l := l) (s := (nth tTie (nth tObject l x_1.1).2.2.2.1 x_2.1).2.2.2.1) (by omega); have hbf := base_in (i := (findS (l, (nth tTie (nth tObject l x_1.1).2.2.2.1 x_2.1).2.2.2.1)).1) hib hlen (by omega) (by omega); have hsf := sym_in (l := l) (s := (nth tTie (nth tObject l x_1.1).2.2.2.1 x_2.1).2.2.2.1) hp (by omega); unfold Small at hsf; dsimp only [D] at *
                  omega
                intro h14
                intro h15
                refine ⟨?_, ?_⟩
                · have hlen : b.length = l.length := (by omega); have hib : InB b := fun j hj => q_0.2 j (by omega)
                  have hm := hp.2 x_1.1 (by omega); have htk := hm.2.2 x_2.1 (by omega); have hb := base_in (i := (x_1.1 : Int)) hib hlen (by omega) (by omega); unfold Small Word at htk; rw [Int.toNat_natCast] at hb
                  have hf := find_in (l := l) (s := (nth tTie (nth tObject l x_1.1).2.2.2.1 x_2.1).2.2.2.1) (by omega); have hbf := base_in (i := (findS (l, (nth tTie (nth tObject l x_1.1).2.2.2.1 x_2.1).2.2.2.1)).1) hib hlen (by omega) (by omega); have hsf := sym_in (l := l) (s := (nth tTie (nth tObject l x_1.1).2.2.2.1 x_2.1).2.2.2.1) hp (by omega); unfold Small at hsf; dsimp only [D] at *
                  simp only [I64]; omega
                refine ⟨fun h16 => ?_, fun h16 => ?_⟩
                · try simp only [bl, reduceCtorEq] at h16
                  refine ⟨?_, ?_⟩
                  · first | trivial | omega | (dsimp only [D] at *; omega) | (simp only [I64, big] at *; omega) | (simp_all; done)
                  intro h17
                  intro h18
                  refine ⟨?_, ?_⟩
                  · have hlen : b.length = l.length := (by omega); have hib : InB b := fun j hj => q_0.2 j (by omega)
                    have hm := hp.2 x_1.1 (by omega); have htk := hm.2.2 x_2.1 (by omega); have hb := base_in (i := (x_1.1 : Int)) hib hlen (by omega) (by omega); unfold Small Word at htk; rw [Int.toNat_natCast] at hb
                    have hf := find_in (l := l) (s := (nth tTie (nth tObject l x_1.1).2.2.2.1 x_2.1).2.2.2.1) (by omega); have hbf := base_in (i := (findS (l, (nth tTie (nth tObject l x_1.1).2.2.2.1 x_2.1).2.2.2.1)).1) hib hlen (by omega) (by omega); have hsf := sym_in (l := l) (s := (nth tTie (nth tObject l x_1.1).2.2.2.1 x_2.1).2.2.2.1) hp (by omega); unfold Small at hsf; dsimp only [D] at *
                    simp only [I64]; omega
                  intro h19
                  intro h20
                  refine ⟨?_, ?_⟩
                  · have hlen : b.length = l.length := (by omega); have hib : InB b := fun j hj => q_0.2 j (by omega)
                    have hm := hp.2 x_1.1 (by omega); have htk := hm.2.2 x_2.1 (by omega); have hb := base_in (i := (x_1.1 : Int)) hib hlen (by omega) (by omega); unfold Small Word at htk; rw [Int.toNat_natCast] at hb
                    have hf := find_in (l := l) (s := (nth tTie (nth tObject l x_1.1).2.2.2.1 x_2.1).2.2.2.1) (by omega); have hbf := base_in (i := (findS (l, (nth tTie (nth tObject l x_1.1).2.2.2.1 x_2.1).2.2.2.1)).1) hib hlen (by omega) (by omega); have hsf := sym_in (l := l) (s := (nth tTie (nth tObject l x_1.1).2.2.2.1 x_2.1).2.2.2.1) hp (by omega); unfold Small at hsf; dsimp only [D] at *
                    simp only [I64]; omega
                  refine ⟨fun h21 => ?_, fun h21 => ?_⟩
                  · try simp only [bl, reduceCtorEq] at h21
                    have hlen : b.length = l.length := (by omega); have hib : InB b := fun j hj => q_0.2 j (by omega)
                    have ht := target_sym (l := l) (b := b) (t := (nth tTie (nth tObject l x_1.1).2.2.2.1 x_2.1)) (by assumption); have ho := one_tgt (l := l) (b := b) (i := (x_1.1 : Int)) (t := (nth tTie (nth tObject l x_1.1).2.2.2.1 x_2.1)) (by assumption) (by rw [ht]; rfl); rw [ht] at ho
                    rw [near_far (by assumption) (by simp only [Int.toNat_natCast]; dsimp only [D] at *; omega)] at ho
                    have e : allF (l, b) = ([], (oneF l b x_1.1 (nth tTie (nth tObject l x_1.1).2.2.2.1 x_2.1)).2) := (by rw [allF_go hlen hib, ← q_2.2.1, goK_bad (by omega) (by rw [ho]; rfl)])
                    rw [e, ho]; rfl
                  · try simp only [bl, reduceCtorEq] at h21
                    refine ⟨fun h22 => ?_, fun h22 => ?_⟩
                    · try simp only [bl, reduceCtorEq] at h22
                      have hlen : b.length = l.length := (by omega); have hib : InB b := fun j hj => q_0.2 j (by omega)
                      have ht := target_sym (l := l) (b := b) (t := (nth tTie (nth tObject l x_1.1).2.2.2.1 x_2.1)) (by assumption); have ho := one_tgt (l := l) (b := b) (i := (x_1.1 : Int)) (t := (nth tTie (nth tObject l x_1.1).2.2.2.1 x_2.1)) (by assumption) (by rw [ht]; rfl); rw [ht] at ho
                      rw [near_far (by assumption) (by simp only [Int.toNat_natCast]; dsimp only [D] at *; omega)] at ho
                      have e : allF (l, b) = ([], (oneF l b x_1.1 (nth tTie (nth tObject l x_1.1).2.2.2.1 x_2.1)).2) := (by rw [allF_go hlen hib, ← q_2.2.1, goK_bad (by omega) (by rw [ho]; rfl)])
                      rw [e, ho]; rfl
                    · try simp only [bl, reduceCtorEq] at h22
                      refine ⟨trivial, ?_⟩
                      refine ⟨fun h23 => ?_, fun h23 => ?_⟩
                      · try simp only [bl, reduceCtorEq] at h23
                        first | trivial | omega | (dsimp only [D] at *; omega) | (simp only [I64, big] at *; omega) | (simp_all; done)
                      · try simp only [bl, reduceCtorEq] at h23
                        refine ⟨?_, ?_⟩
                        · have hm := hp.2 x_1.1 (by omega); have := hm.1; have := hp.1; exact ⟨rfl, by simp only [List.length_singleton, big]; omega⟩
                        intro h24
                        intro h25
                        refine ⟨?_, ?_⟩
                        · first | trivial | omega | (dsimp only [D] at *; omega) | (simp only [I64, big] at *; omega) | (simp_all; done)
                        have hlen : b.length = l.length := (by omega); have hib : InB b := fun j hj => q_0.2 j (by omega)
                        have ht := target_sym (l := l) (b := b) (t := (nth tTie (nth tObject l x_1.1).2.2.2.1 x_2.1)) (by assumption); have ho := one_tgt (l := l) (b := b) (i := (x_1.1 : Int)) (t := (nth tTie (nth tObject l x_1.1).2.2.2.1 x_2.1)) (by assumption) (by rw [ht]; rfl); rw [ht] at ho
                        rw [near_ok (by assumption) rfl (by simp only [Int.toNat_natCast]; dsimp only [D] at *; omega)] at ho
                        exact ⟨(x_2.1 + 1, x_2.2 ++ [((x_1.1 : Int), (nth tTie (nth tObject l x_1.1).2.2.2.1 x_2.1).1, (oneF l b x_1.1 (nth tTie (nth tObject l x_1.1).2.2.2.1 x_2.1)).1, ())]), ⟨by omega, by rw [← q_2.2.1, goK_ok (k := x_2.1) (by omega) (by rw [ho]; rfl)], by simp only [List.length_append, List.length_singleton]; omega⟩, by simp only; omega, ⟨by simp only; omega, snoc_eq (by rw [ho]; simp only [Int.toNat_natCast]; dsimp only [D] at *; omega), trivial⟩, snoc_eq (by rw [ho]; simp only [Int.toNat_natCast]; dsimp only [D] at *; omega), (by repeat' (first | exact trivial | rfl | apply And.intro))⟩
                · try simp only [bl, reduceCtorEq] at h16
                  refine ⟨trivial, ?_⟩
                  refine ⟨fun h17 => ?_, fun h17 => ?_⟩
                  · try simp only [bl, reduceCtorEq] at h17
                    have hlen : b.length = l.length := (by omega); have hib : InB b := fun j hj => q_0.2 j (by omega)
                    have ht := target_sym (l := l) (b := b) (t := (nth tTie (nth tObject l x_1.1).2.2.2.1 x_2.1)) (by assumption); have ho := one_tgt (l := l) (b := b) (i := (x_1.1 : Int)) (t := (nth tTie (nth tObject l x_1.1).2.2.2.1 x_2.1)) (by assumption) (by rw [ht]; rfl); rw [ht] at ho
                    rw [word_far (by first | assumption | (simp_all; done)) (by simp only [Int.toNat_natCast]; dsimp only [D] at *; omega)] at ho
                    have e : allF (l, b) = ([], (oneF l b x_1.1 (nth tTie (nth tObject l x_1.1).2.2.2.1 x_2.1)).2) := (by rw [allF_go hlen hib, ← q_2.2.1, goK_bad (by omega) (by rw [ho]; rfl)])
                    rw [e, ho]; rfl
                  · try simp only [bl, reduceCtorEq] at h17
                    refine ⟨?_, ?_⟩
                    · have hm := hp.2 x_1.1 (by omega); have := hm.1; have := hp.1; exact ⟨rfl, by simp only [List.length_singleton, big]; omega⟩
                    intro h18
                    intro h19
                    refine ⟨?_, ?_⟩
                    · first | trivial | omega | (dsimp only [D] at *; omega) | (simp only [I64, big] at *; omega) | (simp_all; done)
                    have hlen : b.length = l.length := (by omega); have hib : InB b := fun j hj => q_0.2 j (by omega)
                    have ht := target_sym (l := l) (b := b) (t := (nth tTie (nth tObject l x_1.1).2.2.2.1 x_2.1)) (by assumption); have ho := one_tgt (l := l) (b := b) (i := (x_1.1 : Int)) (t := (nth tTie (nth tObject l x_1.1).2.2.2.1 x_2.1)) (by assumption) (by rw [ht]; rfl); rw [ht] at ho
                    rw [word_ok (by first | assumption | (simp_all; done)) rfl (by simp only [Int.toNat_natCast]; dsimp only [D] at *; omega)] at ho
                    exact ⟨(x_2.1 + 1, x_2.2 ++ [((x_1.1 : Int), (nth tTie (nth tObject l x_1.1).2.2.2.1 x_2.1).1, (oneF l b x_1.1 (nth tTie (nth tObject l x_1.1).2.2.2.1 x_2.1)).1, ())]), ⟨by omega, by rw [← q_2.2.1, goK_ok (k := x_2.1) (by omega) (by rw [ho]; rfl)], by simp only [List.length_append, List.length_singleton]; omega⟩, by simp only; omega, ⟨by simp only; omega, snoc_eq (by rw [ho]; simp only [Int.toNat_natCast]; dsimp only [D] at *; omega), trivial⟩, snoc_eq (by rw [ho]; simp only [Int.toNat_natCast]; dsimp only [D] at *; omega), (by repeat' (first | exact trivial | rfl | apply And.intro))⟩
              · try simp only [bl, reduceCtorEq] at h11
                refine ⟨fun h12 => ?_, fun h12 => ?_⟩
                · try simp only [bl, reduceCtorEq] at h12
                  refine ⟨?_, ?_⟩
                  · first | trivial | omega | (dsimp only [D] at *; omega) | (simp only [I64, big] at *; omega) | (simp_all; done)
                  intro h13
                  intro h14
                  refine ⟨?_, ?_⟩
                  · first | trivial | omega | (dsimp only [D] at *; omega) | (simp only [I64, big] at *; omega) | (simp_all; done)
                  intro h15
                  intro h16
                  refine ⟨?_, ?_⟩
                  · first | trivial | omega | (dsimp only [D] at *; omega) | (simp only [I64, big] at *; omega) | (simp_all; done)
                  refine ⟨fun h17 => ?_, fun h17 => ?_⟩
                  · try simp only [bl, reduceCtorEq] at h17
                    first | trivial | omega | (dsimp only [D] at *; omega) | (simp only [I64, big] at *; omega) | (simp_all; done)
                  · try simp only [bl, reduceCtorEq] at h17
                    refine ⟨fun h18 => ?_, fun h18 => ?_⟩
                    · try simp only [bl, reduceCtorEq] at h18
                      first | trivial | omega | (dsimp only [D] at *; omega) | (simp only [I64, big] at *; omega) | (simp_all; done)
                    · try simp only [bl, reduceCtorEq] at h18
                      refine ⟨trivial, ?_⟩
                      refine ⟨fun h19 => ?_, fun h19 => ?_⟩
                      · try simp only [bl, reduceCtorEq] at h19
                        first | trivial | omega | (dsimp only [D] at *; omega) | (simp only [I64, big] at *; omega) | (simp_all; done)
                      · try simp only [bl, reduceCtorEq] at h19
                        refine ⟨?_, ?_⟩
                        · first | trivial | omega | (dsimp only [D] at *; omega) | (simp only [I64, big] at *; omega) | (simp_all; done)
                        intro h20
                        intro h21
                        refine ⟨?_, ?_⟩
                        · first | trivial | omega | (dsimp only [D] at *; omega) | (simp only [I64, big] at *; omega) | (simp_all; done)
                        first | trivial | omega | (dsimp only [D] at *; omega) | (simp only [I64, big] at *; omega) | (simp_all; done)
                · try simp only [bl, reduceCtorEq] at h12
                  refine ⟨trivial, ?_⟩
                  refine ⟨fun h13 => ?_, fun h13 => ?_⟩
                  · try simp only [bl, reduceCtorEq] at h13
                    first | trivial | omega | (dsimp only [D] at *; omega) | (simp only [I64, big] at *; omega) | (simp_all; done)
                  · try simp only [bl, reduceCtorEq] at h13
                    refine ⟨?_, ?_⟩
                    · first | trivial | omega | (dsimp only [D] at *; omega) | (simp only [I64, big] at *; omega) | (simp_all; done)
                    intro h14
                    intro h15
                    refine ⟨?_, ?_⟩
                    · first | trivial | omega | (dsimp only [D] at *; omega) | (simp only [I64, big] at *; omega) | (simp_all; done)
                    first | trivial | omega | (dsimp only [D] at *; omega) | (simp only [I64, big] at *; omega) | (simp_all; done)
        · try simp only [bl, reduceCtorEq] at h8
          intro h9
          intro h10
          refine ⟨?_, ?_⟩
          · first | trivial | omega | (dsimp only [D] at *; omega) | (simp only [I64, big] at *; omega) | (simp_all; done)
          have hm := hp.2 x_1.1 (by omega)
          exact ⟨(x_1.1 + 1, x_2.2), ⟨by omega, by rw [← q_2.2.1, goK_end (by omega)], by have := hm.1; simp only; omega⟩, by simp only; omega, ⟨by simp only; omega, rfl, trivial⟩, (by repeat' (first | exact trivial | rfl | apply And.intro))⟩
      · try simp only [bl, reduceCtorEq] at h6
        have hlen : b.length = l.length := (by omega); have hib : InB b := fun j hj => q_0.2 j (by omega)
        rw [allF_go hlen hib, ← q_1.2.1, goI_end (by omega)]; rfl
theorem Try.ok_RPatches : PureOK Try.prog Try.B.eT 31 [.slice tObject, .slice (.int .i64)] [.slice tPatch, .int .i64] (fun x => MildOs x.1) (fun x y => y = (fun x => ((allF x).1, numE (allF x).2)) x) :=
  pure_fn (X := noExt) Try.rpatchCtxOK Try.func31 (by kernel_rfl) (fun x => rpatchAnn x.1 x.2) (fun x hw hp => vc_RPatches x.1 x.2 hw hp)
def samePAnn (a : List (D tPatch)) (b : List (D tPatch)) : Anns := [(0, fun st => { X := Nat, inv := fun i => i ≤ a.length ∧ ∀ j, j < i → nth tPatch a j = nth tPatch b j, meas := fun i => a.length - i, slots := fun i => [(5, sI i)], keep := [0, 1] })]
set_option maxRecDepth 100000 in
set_option maxHeartbeats 4000000 in
theorem vc_SamePatches (a : List (D tPatch)) (b : List (D tPatch)) (hw : wfL [.slice tPatch, .slice tPatch] (a, b)) : (fnVCs Try.B [] Try.f32 (samePAnn a b) [.slice tPatch, .slice tPatch] [.bool] (fun x y => y = (fun x => sameP x.1 x.2) x) (a, b)).holds := by
  refine holds_of (p :=
    ((List.length a ≤ big) → ((List.length b ≤ big) → ((((↑(List.length a) : Int) != (↑(List.length b) : Int)) = true → (false = sameP a b)) ∧ (((↑(List.length a) : Int) != (↑(List.length b) : Int)) = false →
    (∃ (x : Nat), (x ≤ List.length a ∧ ∀ (j : Nat), j < x → nth tPatch a j = nth tPatch b j) ∧ ((0 : Int) = (↑x : Int) ∧ True) ∧ True) ∧ (∀ x_0 : Nat, ((x_0 ≤ List.length a ∧ ∀ (j : Nat), j < x_0 → nth tPatch a j = nth tPatch b j) → ((List.length a ≤ big) → (((decide ((↑x_0 : Int) < (↑(List.length a) : Int))) = true → ((0 : Int) ≤ (↑x_0 : Int) ∧ (↑x_0 : Int) < (↑(List.length a) : Int)) ∧ ((0 : Int) ≤ (↑x_0 : Int) ∧ (↑x_0 : Int) < (↑(List.length b) : Int)) ∧
    (((!(decide ((nth tPatch a x_0).1 = (nth tPatch b x_0).1) && (decide ((nth tPatch a x_0).2.1 = (nth tPatch b x_0).2.1) && (decide ((nth tPatch a x_0).2.2.1 = (nth tPatch b x_0).2.2.1) && true)))) = true → (false = sameP a b)) ∧
    ((!(decide ((nth tPatch a x_0).1 = (nth tPatch b x_0).1) && (decide ((nth tPatch a x_0).2.1 = (nth tPatch b x_0).2.1) && (decide ((nth tPatch a x_0).2.2.1 = (nth tPatch b x_0).2.2.1) && true)))) = false → ((I64 (↑x_0 : Int)) → ((I64 (1 : Int)) → (I64 ((↑x_0 : Int) + (1 : Int))) ∧
    (∃ (x' : Nat), (x' ≤ List.length a ∧ ∀ (j : Nat), j < x' → nth tPatch a j = nth tPatch b j) ∧ List.length a - x' < List.length a - x_0 ∧ ((↑x_0 : Int) + (1 : Int) = (↑x' : Int) ∧ True) ∧ True)))))) ∧ ((decide ((↑x_0 : Int) < (↑(List.length a) : Int))) = false → (true = sameP a b))))))))))) (by kernel_rfl) ?_
  intro h0
  intro h1
  refine ⟨fun h2 => ?_, fun h2 => ?_⟩
  · try simp only [bl, reduceCtorEq] at h2
    exact sameP_len (by assumption)
  · try simp only [bl, reduceCtorEq] at h2
    refine ⟨?_, ?_⟩
    · exact ⟨0, ⟨by omega, fun j hj => by omega⟩, ⟨rfl, trivial⟩, trivial⟩
    intro x_0 q_0
    intro h3
    refine ⟨fun h4 => ?_, fun h4 => ?_⟩
    · try simp only [bl, reduceCtorEq] at h4
      refine ⟨?_, ?_⟩
      · first | trivial | omega | (dsimp only [D] at *; omega) | (simp only [I64, big] at *; omega) | (simp_all; done)
      refine ⟨?_, ?_⟩
      · first | trivial | omega | (dsimp only [D] at *; omega) | (simp only [I64, big] at *; omega) | (simp_all; done)
      refine ⟨fun h5 => ?_, fun h5 => ?_⟩
      · try simp only [bl, reduceCtorEq] at h5
        exact sameP_at (i := x_0) (fun e => by rw [e] at h5; simp at h5)
      · try simp only [bl, reduceCtorEq] at h5
        intro h6
        intro h7
        refine ⟨?_, ?_⟩
        · first | trivial | omega | (dsimp only [D] at *; omega) | (simp only [I64, big] at *; omega) | (simp_all; done)
        have h := h5; simp at h; exact ⟨x_0 + 1, ⟨by omega, upto_next q_0.2 (Prod.ext h.1 (Prod.ext h.2.1 (Prod.ext h.2.2 rfl)))⟩, by omega, ⟨by omega, trivial⟩, (by repeat' (first | exact trivial | rfl | apply And.intro))⟩
    · try simp only [bl, reduceCtorEq] at h4
      exact sameP_true (by assumption) (fun i hi => q_0.2 i (by omega))
theorem Try.ok_SamePatches : PureOK Try.prog Try.B.eT 32 [.slice tPatch, .slice tPatch] [.bool] (fun _ => True) (fun x y => y = (fun x => sameP x.1 x.2) x) :=
  pure_fn (X := noExt) (ctx0 Try.tyOK) Try.func32 (by kernel_rfl) (fun x => samePAnn x.1 x.2) (fun x hw hp => vc_SamePatches x.1 x.2 hw)
noncomputable def Try.patchCtx : List (FuncId × (Bool × CSpec)) := [(12, (true, funSpec [.str] [.err] (fun _ => True) (fun s => errNo (nameFault s)))),
  (13, (true, funSpec [.str] [.int .i64] (fun _ => True) (fun s => nameFault s))),
  (14, (true, funSpec [.str] [.int .u32] (fun _ => True) (fun s => (hashF s : Int)))),
  (15, (true, funSpec [.str] [.int .i64] (fun _ => True) (fun s => (hashF s : Int)))),
  (11, (true, funSpec [.err, .int .i64] [.bool] (fun _ => True) (fun x => sameE x.1 x.2))),
  (52, (true, pureSpec [tObject] [.bool] (fun _ => True) (fun o y => y = true → LightO o))),
  (28, (true, pureSpec [.slice tObject] [.bool] (fun _ => True) (fun l y => y = true → LightOs l))),
  (79, (true, funSpec [.slice tObject, .str] [.int .i64, .int .i64] (fun _ => True) (fun x => findS x))),
  (26, (true, funSpec [.slice (.int .i64), .slice (.int .i64)] [.bool] (fun _ => True) (fun x => sameI x.1 x.2))),
  (71, (true, funSpec [.slice .str, .slice .str] [.bool] (fun _ => True) (fun x => sameS x.1 x.2))),
  (30, (true, funSpec [.slice tObject, .slice (.int .i64)] [.slice tPatch, .err] (fun x => MildOs x.1) (fun x => allF x))),
  (55, (true, funSpec [.slice tObject, .str] [.int .i64, .int .i64] (fun _ => True) (fun x => findS x))),
  (31, (true, funSpec [.slice tObject, .slice (.int .i64)] [.slice tPatch, .int .i64] (fun x => MildOs x.1) (fun x => ((allF x).1, numE (allF x).2)))),
  (32, (true, funSpec [.slice tPatch, .slice tPatch] [.bool] (fun _ => True) (fun x => sameP x.1 x.2))),
  (53, (true, funSpec [.int .i64] [.bool] (fun _ => True) (fun n => decide (-2147483648 ≤ n) && decide (n ≤ 2147483647))))]
theorem Try.patchCtxOK {X : Ext} : CtxOK Try.prog Try.B X Try.patchCtx :=
  ctx1 (callOK_of_fun Try.ok_Check) (ctx1 (callOK_of_fun Try.ok_NameFault) (ctx1 (callOK_of_fun Try.ok_Hash) (ctx1 (callOK_of_fun Try.ok_RHash) (ctx1 (callOK_of_fun Try.ok_same) (ctx1 (callOK_of_pure Try.ok_LightObject) (ctx1 (callOK_of_pure Try.ok_LightObjects) (ctx1 (callOK_of_fun Try.ok_FindS) (ctx1 (callOK_of_fun Try.ok_SameNumbers) (ctx1 (callOK_of_fun Try.ok_SameTexts) (ctx1 (callOK_of_fun Try.ok_All) (ctx1 (callOK_of_fun Try.ok_Found) (ctx1 (callOK_of_fun Try.ok_RPatches) (ctx1 (callOK_of_fun Try.ok_SamePatches) (ctx1 (callOK_of_fun Try.ok_WordMay) (ctx0 Try.tyOK)))))))))))))))
end Go.Proofs.Ytgokjhhcfemnhaa

