/- A part of the proof that the law TopPatch holds of the given program: facts that are used there. -/
import Derived.Test.YtgokjhhcfemnhabName
import Derived.Test.YtgokjhhcfemnhabMrl20
import Derived.Test.YtgokjhhcfemnhabMrl13
set_option linter.unusedSimpArgs false
set_option linter.unusedVariables false
namespace Go.Proofs.Ytgokjhhcfemnhab
open Go.Vg Go.Mrl
/-! Patches are put on words. -/
def putAnn (w : List (List Int)) (l : List (D tPatch)) : Anns := [
  (200000, fun st => { X := Nat, inv := fun i => i ≤ w.length, meas := fun i => w.length - i, slots := fun i => [(13, sI i)], obs := [.ext 0 tWords], refs := [(6, 0)], pd := fun i => (w.take i, ()), keep := [1, 4, 5, 11, 12] }),
  (2, fun st => { X := Nat, inv := fun k => k ≤ l.length ∧ ∀ j, j < k → okP w (nth tPatch l j), meas := fun k => l.length - k, slots := fun k => [(25, sI k)], objs := fun k => [(objOf st 6, .ext 0 tWords (putL w (l.take k)))], keep := [6, 23, 24], mods := [objOf st 6] })]
set_option maxRecDepth 100000 in
set_option maxHeartbeats 4000000 in
theorem vc_Put (w : List (List Int)) (l : List (D tPatch)) (hw : wfL [tWords, .slice tPatch] (w, l)) (hp : (fun x => x.1.length ≤ 100000 ∧ ∀ i, i < x.1.length → (nth tRow x.1 i).length ≤ 100000000) (w, l)) : (fnVCs (hintB Try.B [6]) [] Try.f11 (putAnn w l) [tWords, .slice tPatch] [tWords, .err] (fun x y => y = (fun x => putF x) x) (w, l)).holds := by
  refine holds_of (p :=
    ((List.length w ≤ big) →
    (((∃ (x' : Nat), x' ≤ List.length w ∧ True ∧ ((0 : Int) = (↑x' : Int) ∧ True) ∧ (@List.nil (List Int) = @List.nil (List Int) ∧ True) ∧ (!false && true) = true ∧ ([], ()) = (List.take x' w, ()))) ∧ ((∀ x_0 : Nat, ((x_0 ≤ List.length w) → (((decide ((↑x_0 : Int) < (↑(List.length w) : Int))) = true → ((0 : Int) ≤ (↑x_0 : Int) ∧ (↑x_0 : Int) < (↑(List.length w) : Int)) ∧ (List.length (nth (Ty.slice (Ty.int IntKind.i64)) w x_0) ≤ (1000000000 : Nat)) ∧
    ((0 : Nat) < List.length [nth (Ty.slice (Ty.int IntKind.i64)) w x_0] ∧ List.length (List.take x_0 w) + List.length [nth (Ty.slice (Ty.int IntKind.i64)) w x_0] ≤ (1000000000 : Nat)) ∧ ((I64 (↑x_0 : Int)) → ((I64 (1 : Int)) → (I64 ((↑x_0 : Int) + (1 : Int))) ∧
    (∃ (x' : Nat), x' ≤ List.length w ∧ List.length w - x' < List.length w - x_0 ∧ ((↑x_0 : Int) + (1 : Int) = (↑x' : Int) ∧ True) ∧ (@List.nil (List Int) = @List.nil (List Int) ∧ True) ∧ (!false && true) = true ∧ (List.take x_0 w ++ [nth (Ty.slice (Ty.int IntKind.i64)) w x_0], ()) = (List.take x' w, ()))))) ∧ ((decide ((↑x_0 : Int) < (↑(List.length w) : Int))) = false → ((List.length l ≤ big) →
    (∃ (x : Nat), (x ≤ List.length l ∧ ∀ (j : Nat), j < x → okP w (nth tPatch l j)) ∧ ((0 : Int) = (↑x : Int) ∧ True) ∧ List.take x_0 w = putL w (List.take x l) ∧ True) ∧ (∀ x_1 : Nat, ((x_1 ≤ List.length l ∧ ∀ (j : Nat), j < x_1 → okP w (nth tPatch l j)) → (((decide ((↑x_1 : Int) < (↑(List.length l) : Int))) = true → ((0 : Int) ≤ (↑x_1 : Int) ∧ (↑x_1 : Int) < (↑(List.length l) : Int)) ∧ (((decide ((nth tPatch l x_1).1 < (0 : Int))) = true → (([], Err.no (1 : Int)) = putF (w, l))) ∧ ((decide ((nth tPatch l x_1).1 < (0 : Int))) = false → ((List.length (putL w (List.take x_1 l)) ≤ big) → (((decide ((nth tPatch l x_1).1 ≥ (↑(List.length (putL w (List.take x_1 l))) : Int))) = true → (([], Err.no (1 : Int)) = putF (w, l))) ∧ ((decide ((nth tPatch l x_1).1 ≥ (↑(List.length (putL w (List.take x_1 l))) : Int))) = false → (((decide ((nth tPatch l x_1).2.1 < (0 : Int))) = true → (([], Err.no (1 : Int)) = putF (w, l))) ∧ ((decide ((nth tPatch l x_1).2.1 < (0 : Int))) = false → ((0 : Int) ≤ (nth tPatch l x_1).1 ∧ (nth tPatch l x_1).1 < (↑(List.length (putL w (List.take x_1 l))) : Int)) ∧ (Int.toNat (nth tPatch l x_1).1 < List.length (putL w (List.take x_1 l))) ∧ (Int.toNat (nth tPatch l x_1).1 < List.length (putL w (List.take x_1 l))) ∧ ((List.length (nth tRow (putL w (List.take x_1 l)) (Int.toNat (nth tPatch l x_1).1)) ≤ big) →
    (((decide ((nth tPatch l x_1).2.1 ≥ (↑(List.length (nth tRow (putL w (List.take x_1 l)) (Int.toNat (nth tPatch l x_1).1))) : Int))) = true → (([], Err.no (1 : Int)) = putF (w, l))) ∧
    ((decide ((nth tPatch l x_1).2.1 ≥ (↑(List.length (nth tRow (putL w (List.take x_1 l)) (Int.toNat (nth tPatch l x_1).1))) : Int))) = false → ((0 : Int) ≤ (nth tPatch l x_1).1 ∧ (nth tPatch l x_1).1 < (↑(List.length (putL w (List.take x_1 l))) : Int)) ∧ (Int.toNat (nth tPatch l x_1).1 < List.length (putL w (List.take x_1 l))) ∧
    (Int.toNat (nth tPatch l x_1).1 < List.length (putL w (List.take x_1 l)) ∧ (0 : Int) ≤ (nth tPatch l x_1).2.1 ∧ (nth tPatch l x_1).2.1 < (↑(List.length (nth tRow (putL w (List.take x_1 l)) (Int.toNat (nth tPatch l x_1).1))) : Int)) ∧
    (Int.toNat (nth tPatch l x_1).1 < List.length (putL w (List.take x_1 l)) ∧ Int.toNat (nth tPatch l x_1).2.1 < List.length (nth tRow (putL w (List.take x_1 l)) (Int.toNat (nth tPatch l x_1).1))) ∧ ((I64 (↑x_1 : Int)) → ((I64 (1 : Int)) → (I64 ((↑x_1 : Int) + (1 : Int))) ∧
    (∃ (x' : Nat), (x' ≤ List.length l ∧ ∀ (j : Nat), j < x' → okP w (nth tPatch l j)) ∧ List.length l - x' < List.length l - x_1 ∧ ((↑x_1 : Int) + (1 : Int) = (↑x' : Int) ∧ True) ∧ List.set (putL w (List.take x_1 l)) (Int.toNat (nth tPatch l x_1).1) (List.set (nth tRow (putL w (List.take x_1 l)) (Int.toNat (nth tPatch l x_1).1)) (Int.toNat (nth tPatch l x_1).2.1) (nth tPatch l x_1).2.2.1) = putL w (List.take x' l) ∧ @List.nil (List Int) = @List.nil (List Int) ∧ True)))))))))))))) ∧ ((decide ((↑x_1 : Int) < (↑(List.length l) : Int))) = false → ((putL w (List.take x_1 l), Err.nil) = putF (w, l))))))))))))))) (by kernel_rfl) ?_
  try dsimp only at hp
  intro h0
  refine ⟨?_, ?_⟩
  ·
    exact ⟨0, by omega, trivial, ⟨rfl, trivial⟩, ⟨rfl, trivial⟩, rfl, rfl⟩
  ·
    intro x_0 q_0
    refine ⟨fun h1 => ?_, fun h1 => ?_⟩
    · try simp only [bl, reduceCtorEq] at h1
      refine ⟨?_, ?_⟩
      · first | trivial | omega | (dsimp only [D] at *; omega) | (simp only [I64, big] at *; omega) | (simp_all; done)
      refine ⟨?_, ?_⟩
      · have := hp.2 x_0 (by omega); show List.length (nth tRow w x_0) ≤ 1000000000; omega
      refine ⟨?_, ?_⟩
      · have := hp.1; simp only [List.length_singleton, List.length_take, big]; omega
      intro h2
      intro h3
      refine ⟨?_, ?_⟩
      · first | trivial | omega | (dsimp only [D] at *; omega) | (simp only [I64, big] at *; omega) | (simp_all; done)
      exact ⟨x_0 + 1, by omega, by omega, ⟨by omega, trivial⟩, ⟨rfl, trivial⟩, rfl, by rw [take_snoc (t := tRow) (by omega)]⟩
    · try simp only [bl, reduceCtorEq] at h1
      intro h2
      refine ⟨?_, ?_⟩
      · exact ⟨0, ⟨by omega, fun j hj => by omega⟩, ⟨rfl, trivial⟩, by rw [List.take_of_length_le (by omega)]; rfl, trivial⟩
      intro x_1 q_1
      refine ⟨fun h3 => ?_, fun h3 => ?_⟩
      · try simp only [bl, reduceCtorEq] at h3
        refine ⟨?_, ?_⟩
        · first | trivial | omega | (dsimp only [D] at *; omega) | (simp only [I64, big] at *; omega) | (simp_all; done)
        refine ⟨fun h4 => ?_, fun h4 => ?_⟩
        · try simp only [bl, reduceCtorEq] at h4
          have hr := putL_rows (l.take x_1) w (nth tPatch l x_1).1.toNat; have hll := putL_length (l.take x_1) w
          exact (putF_bad (i := x_1) (by omega) (by unfold okP; dsimp only [D] at *; omega)).symm
        · try simp only [bl, reduceCtorEq] at h4
          intro h5
          refine ⟨fun h6 => ?_, fun h6 => ?_⟩
          · try simp only [bl, reduceCtorEq] at h6
            have hr := putL_rows (l.take x_1) w (nth tPatch l x_1).1.toNat; have hll := putL_length (l.take x_1) w
            exact (putF_bad (i := x_1) (by omega) (by unfold okP; dsimp only [D] at *; omega)).symm
          · try simp only [bl, reduceCtorEq] at h6
            refine ⟨fun h7 => ?_, fun h7 => ?_⟩
            · try simp only [bl, reduceCtorEq] at h7
              have hr := putL_rows (l.take x_1) w (nth tPatch l x_1).1.toNat; have hll := putL_length (l.take x_1) w
              exact (putF_bad (i := x_1) (by omega) (by unfold okP; dsimp only [D] at *; omega)).symm
            · try simp only [bl, reduceCtorEq] at h7
              refine ⟨?_, ?_⟩
              · have hr := putL_rows (l.take x_1) w (nth tPatch l x_1).1.toNat; have hll := putL_length (l.take x_1) w
                first | omega | (dsimp only [D] at *; omega)
              refine ⟨?_, ?_⟩
              · have hr := putL_rows (l.take x_1) w (nth tPatch l x_1).1.toNat; have hll := putL_length (l.take x_1) w
                first | omega | (dsimp only [D] at *; omega)
              refine ⟨?_, ?_⟩
              · have hr := putL_rows (l.take x_1) w (nth tPatch l x_1).1.toNat; have hll := putL_length (l.take x_1) w
                first | omega | (dsimp only [D] at *; omega)
              intro h8
              refine ⟨fun h9 => ?_, fun h9 => ?_⟩
              · try simp only [bl, reduceCtorEq] at h9
                have hr := putL_rows (l.take x_1) w (nth tPatch l x_1).1.toNat; have hll := putL_length (l.take x_1) w
                exact (putF_bad (i := x_1) (by omega) (by unfold okP; dsimp only [D] at *; omega)).symm
              · try simp only [bl, reduceCtorEq] at h9
                refine ⟨?_, ?_⟩
                · have hr := putL_rows (l.take x_1) w (nth tPatch l x_1).1.toNat; have hll := putL_length (l.take x_1) w
                  first | omega | (dsimp only [D] at *; omega)
                refine ⟨?_, ?_⟩
                · have hr := putL_rows (l.take x_1) w (nth tPatch l x_1).1.toNat; have hll := putL_length (l.take x_1) w
                  first | omega | (dsimp only [D] at *; omega)
                refine ⟨?_, ?_⟩
                · have hr := putL_rows (l.take x_1) w (nth tPatch l x_1).1.toNat; have hll := putL_length (l.take x_1) w
                  first | omega | (dsimp only [D] at *; omega)
                refine ⟨?_, ?_⟩
                · have hr := putL_rows (l.take x_1) w (nth tPatch l x_1).1.toNat; have hll := putL_length (l.take x_1) w
                  first | omega | (dsimp only [D] at *; omega)
                intro h10
                intro h11
                refine ⟨?_, ?_⟩
                · first | trivial | omega | (dsimp only [D] at *; omega) | (simp only [I64, big] at *; omega) | (simp_all; done)
                have hr := putL_rows (l.take x_1) w (nth tPatch l x_1).1.toNat; have hll := putL_length (l.take x_1) w
                exact ⟨x_1 + 1, ⟨by omega, upto1 q_1.2 (by unfold okP; dsimp only [D] at *; omega)⟩, by omega, ⟨by omega, trivial⟩, putL_next (by omega), (by repeat' (first | exact trivial | rfl | apply And.intro))⟩
      · try simp only [bl, reduceCtorEq] at h3
        rw [putF_ok fun i hi => q_1.2 i (by omega), List.take_of_length_le (by omega)]
theorem Try.ok_Put : PureOK Try.prog Try.B.eT 11 [tWords, .slice tPatch] [tWords, .err] (fun x => x.1.length ≤ 100000 ∧ ∀ i, i < x.1.length → (nth tRow x.1 i).length ≤ 100000000) (fun x y => y = (fun x => putF x) x) :=
  pure_fn (B := (hintB Try.B [6])) (X := noExt) (CtxOK.hint (l := [6]) (ctx0 Try.tyOK)) Try.func11 (by kernel_rfl) (fun x => putAnn x.1 x.2) (fun x hw hp => vc_Put x.1 x.2 hw hp)
noncomputable def Try.putCtx : List (FuncId × (Bool × CSpec)) := [(11, (true, funSpec [tWords, .slice tPatch] [tWords, .err] (fun x => x.1.length ≤ 100000 ∧ ∀ i, i < x.1.length → (nth tRow x.1 i).length ≤ 100000000) (fun x => putF x)))]
theorem Try.putCtxOK {X : Ext} : CtxOK Try.prog Try.B X Try.putCtx :=
  ctx1 (callOK_of_fun Try.ok_Put) (ctx0 Try.tyOK)
end Go.Proofs.Ytgokjhhcfemnhab

