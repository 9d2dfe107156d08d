/- A part of the proof that the law PlaceSays holds of the given program: facts that are used there. -/
import Derived.Test.YtgokjhhcfemnhaaPlace
set_option linter.unusedSimpArgs false
set_option linter.unusedVariables false
namespace Go.Proofs.Ytgokjhhcfemnhaa
open Go.Vg Go.Mrl
/-! The document's chapter 6. -/
set_option maxRecDepth 100000 in
set_option maxHeartbeats 1000000 in
theorem vc_RPages (n : Int) (hw : wfL [.int .i64] n) (hp : (fun n => 0 ≤ n ∧ n ≤ 1000000) n) : (fnVCs Try.B [] Try.f23 [] [.int .i64] [.int .i64] (fun x y => y = (fun n => roundF n) x) n).holds := by
  refine holds_of (p :=
    ((16 : Int) ≠ (0 : Int)) ∧
      (∀ x_0 : Int,
      ((x_0 = Int.tmod n (16 : Int)) →
      (((decide (x_0 > (0 : Int))) = true →
        ((I64 n) →
        ((I64 (16 : Int)) →
        (I64 (n + (16 : Int))) ∧
        ((16 : Int) ≠ (0 : Int)) ∧
        (∀ x_1 : Int,
        ((x_1 = Int.tmod n (16 : Int)) →
        ((I64 (n + (16 : Int))) →
        ((I64 x_1) →
        (I64 (n + (16 : Int) - x_1)) ∧
        (n + (16 : Int) - x_1 = roundF n)))))))) ∧
      ((decide (x_0 > (0 : Int))) = false →
        (n = roundF n)))))) (by kernel_rfl) ?_
  try dsimp only at hp
  refine ⟨?_, ?_⟩
  · first | omega | (simp only [I64] at *; omega) | (subst_vars; simp only [Int.tmod_eq_emod_of_nonneg hp.1] at *; (try unfold roundF); (try simp only [I64]); omega)
  intro x_0 q_0
  refine ⟨fun h0 => ?_, fun h0 => ?_⟩
  · try simp only [decide_eq_true_eq, decide_eq_false_iff_not, beq_iff_eq, beq_eq_false_iff_ne, bne_iff_ne, bne_eq_false_iff_eq, Bool.not_eq_true', Bool.not_eq_false', Bool.not_eq_true, Bool.not_eq_false, ne_eq, Bool.and_eq_true, Bool.or_eq_true, Bool.and_eq_false_iff, Bool.or_eq_false_iff, reduceCtorEq, Int.not_lt, Int.not_le] at h0
    intro h1
    intro h2
    refine ⟨?_, ?_⟩
    · first | omega | (simp only [I64] at *; omega) | (subst_vars; simp only [Int.tmod_eq_emod_of_nonneg hp.1] at *; (try unfold roundF); (try simp only [I64]); omega)
    refine ⟨?_, ?_⟩
    · first | omega | (simp only [I64] at *; omega) | (subst_vars; simp only [Int.tmod_eq_emod_of_nonneg hp.1] at *; (try unfold roundF); (try simp only [I64]); omega)
    intro x_1 q_1
    intro h3
    intro h4
    refine ⟨?_, ?_⟩
    · first | omega | (simp only [I64] at *; omega) | (subst_vars; simp only [Int.tmod_eq_emod_of_nonneg hp.1] at *; (try unfold roundF); (try simp only [I64]); omega)
    first | omega | (simp only [I64] at *; omega) | (subst_vars; simp only [Int.tmod_eq_emod_of_nonneg hp.1] at *; (try unfold roundF); (try simp only [I64]); omega)
  · try simp only [decide_eq_true_eq, decide_eq_false_iff_not, beq_iff_eq, beq_eq_false_iff_ne, bne_iff_ne, bne_eq_false_iff_eq, Bool.not_eq_true', Bool.not_eq_false', Bool.not_eq_true, Bool.not_eq_false, ne_eq, Bool.and_eq_true, Bool.or_eq_true, Bool.and_eq_false_iff, Bool.or_eq_false_iff, reduceCtorEq, Int.not_lt, Int.not_le] at h0
    first | omega | (simp only [I64] at *; omega) | (subst_vars; simp only [Int.tmod_eq_emod_of_nonneg hp.1] at *; (try unfold roundF); (try simp only [I64]); omega)
theorem Try.ok_RPages : PureOK Try.prog Try.B.eT 23 [.int .i64] [.int .i64] (fun n => 0 ≤ n ∧ n ≤ 1000000) (fun x y => y = (fun n => roundF n) x) :=
  pure_fn (X := noExt) (ctx0 Try.tyOK) Try.func23 (by kernel_rfl) (fun _ => []) (fun x hw hp => vc_RPages x hw hp)
def rapartAnn (a : Int × Int × Unit) (b : Int × Int × Unit) : Anns := [(0, fun st => { X := Nat, inv := fun k => k ≤ a.2.1.toNat ∧ ∀ q : Nat, q < k → ¬ (b.1 ≤ a.1 + q ∧ a.1 + q < b.1 + b.2.1), meas := fun k => a.2.1.toNat - k, slots := fun k => [(5, sI (a.1 + k))], keep := [2, 3] })]
set_option maxRecDepth 100000 in
set_option maxHeartbeats 1000000 in
theorem vc_RApart (a : Int × Int × Unit) (b : Int × Int × Unit) (hw : wfL [tRange, tRange] (a, b)) (hp : (fun x => bnd x.1 ∧ bnd x.2) (a, b)) : (fnVCs Try.B [] Try.f21 (rapartAnn a b) [tRange, tRange] [.bool] (fun x y => y = (fun x => apartF x.1 x.2) x) (a, b)).holds := by
  refine holds_of (p :=
    (∃ (x : Nat), (x ≤ Int.toNat a.snd.fst ∧ ∀ (q : Nat), q < x → ¬(b.fst ≤ a.fst + (↑q : Int) ∧ a.fst + (↑q : Int) < b.fst + b.snd.fst)) ∧ (a.fst = a.fst + (↑x : Int) ∧ True) ∧ True) ∧
      (∀ x_0 : Nat,
      ((x_0 ≤ Int.toNat a.snd.fst ∧ ∀ (q : Nat), q < x_0 → ¬(b.fst ≤ a.fst + (↑q : Int) ∧ a.fst + (↑q : Int) < b.fst + b.snd.fst)) →
      ((I64 a.fst) →
      ((I64 a.snd.fst) →
      (I64 (a.fst + a.snd.fst)) ∧
      (((decide (a.fst + (↑x_0 : Int) < a.fst + a.snd.fst)) = true →
        (((decide (a.fst + (↑x_0 : Int) ≥ b.fst)) = true →
          ((I64 b.fst) →
          ((I64 b.snd.fst) →
          (I64 (b.fst + b.snd.fst)) ∧
          (((decide (a.fst + (↑x_0 : Int) < b.fst + b.snd.fst)) = true →
            (false = apartF a b)) ∧
          ((decide (a.fst + (↑x_0 : Int) < b.fst + b.snd.fst)) = false →
            ((I64 (a.fst + (↑x_0 : Int))) →
            ((I64 (1 : Int)) →
            (I64 (a.fst + (↑x_0 : Int) + (1 : Int))) ∧
            (∃ (x' : Nat), (x' ≤ Int.toNat a.snd.fst ∧ ∀ (q : Nat), q < x' → ¬(b.fst ≤ a.fst + (↑q : Int) ∧ a.fst + (↑q : Int) < b.fst + b.snd.fst)) ∧ Int.toNat a.snd.fst - x' < Int.toNat a.snd.fst - x_0 ∧ (a.fst + (↑x_0 : Int) + (1 : Int) = a.fst + (↑x' : Int) ∧ True) ∧ (b.fst = b.fst ∧ b.snd.fst = b.snd.fst ∧ True) ∧ (a.fst = a.fst ∧ a.snd.fst = a.snd.fst ∧ True) ∧ True)))))))) ∧
        ((decide (a.fst + (↑x_0 : Int) ≥ b.fst)) = false →
          ((I64 (a.fst + (↑x_0 : Int))) →
          ((I64 (1 : Int)) →
          (I64 (a.fst + (↑x_0 : Int) + (1 : Int))) ∧
          (∃ (x' : Nat), (x' ≤ Int.toNat a.snd.fst ∧ ∀ (q : Nat), q < x' → ¬(b.fst ≤ a.fst + (↑q : Int) ∧ a.fst + (↑q : Int) < b.fst + b.snd.fst)) ∧ Int.toNat a.snd.fst - x' < Int.toNat a.snd.fst - x_0 ∧ (a.fst + (↑x_0 : Int) + (1 : Int) = a.fst + (↑x' : Int) ∧ True) ∧ (b.fst = b.fst ∧ b.snd.fst = b.snd.fst ∧ True) ∧ (a.fst = a.fst ∧ a.snd.fst = a.snd.fst ∧ True) ∧ True)))))) ∧
      ((decide (a.fst + (↑x_0 : Int) < a.fst + a.snd.fst)) = false →
        (true = apartF a b)))))))) (by kernel_rfl) ?_
  try dsimp only at hp
  simp only [bnd] at hp
  refine ⟨?_, ?_⟩
  · exact ⟨0, ⟨by omega, fun q hq => by omega⟩, ⟨by omega, trivial⟩, trivial⟩
  intro x_0 q_0
  intro h0
  intro h1
  refine ⟨?_, ?_⟩
  · first | omega | (simp only [I64] at *; omega)
  refine ⟨fun h2 => ?_, fun h2 => ?_⟩
  · try simp only [decide_eq_true_eq, decide_eq_false_iff_not, beq_iff_eq, beq_eq_false_iff_ne, bne_iff_ne, bne_eq_false_iff_eq, Bool.not_eq_true', Bool.not_eq_false', Bool.not_eq_true, Bool.not_eq_false, ne_eq, Bool.and_eq_true, Bool.or_eq_true, Bool.and_eq_false_iff, Bool.or_eq_false_iff, reduceCtorEq, Int.not_lt, Int.not_le] at h2
    refine ⟨fun h3 => ?_, fun h3 => ?_⟩
    · try simp only [decide_eq_true_eq, decide_eq_false_iff_not, beq_iff_eq, beq_eq_false_iff_ne, bne_iff_ne, bne_eq_false_iff_eq, Bool.not_eq_true', Bool.not_eq_false', Bool.not_eq_true, Bool.not_eq_false, ne_eq, Bool.and_eq_true, Bool.or_eq_true, Bool.and_eq_false_iff, Bool.or_eq_false_iff, reduceCtorEq, Int.not_lt, Int.not_le] at h3
      intro h4
      intro h5
      refine ⟨?_, ?_⟩
      · first | omega | (simp only [I64] at *; omega)
      refine ⟨fun h6 => ?_, fun h6 => ?_⟩
      · try simp only [decide_eq_true_eq, decide_eq_false_iff_not, beq_iff_eq, beq_eq_false_iff_ne, bne_iff_ne, bne_eq_false_iff_eq, Bool.not_eq_true', Bool.not_eq_false', Bool.not_eq_true, Bool.not_eq_false, ne_eq, Bool.and_eq_true, Bool.or_eq_true, Bool.and_eq_false_iff, Bool.or_eq_false_iff, reduceCtorEq, Int.not_lt, Int.not_le] at h6
        symm; rw [apartF_false]; omega
      · try simp only [decide_eq_true_eq, decide_eq_false_iff_not, beq_iff_eq, beq_eq_false_iff_ne, bne_iff_ne, bne_eq_false_iff_eq, Bool.not_eq_true', Bool.not_eq_false', Bool.not_eq_true, Bool.not_eq_false, ne_eq, Bool.and_eq_true, Bool.or_eq_true, Bool.and_eq_false_iff, Bool.or_eq_false_iff, reduceCtorEq, Int.not_lt, Int.not_le] at h6
        intro h7
        intro h8
        refine ⟨?_, ?_⟩
        · first | omega | (simp only [I64] at *; omega)
        exact ⟨x_0 + 1, ⟨by omega, fun q hq => by by_cases e : q = x_0; (subst e; omega); exact q_0.2 q (by omega)⟩, by omega, ⟨by omega, trivial⟩, (by repeat' (first | exact trivial | rfl | apply And.intro))⟩
    · try simp only [decide_eq_true_eq, decide_eq_false_iff_not, beq_iff_eq, beq_eq_false_iff_ne, bne_iff_ne, bne_eq_false_iff_eq, Bool.not_eq_true', Bool.not_eq_false', Bool.not_eq_true, Bool.not_eq_false, ne_eq, Bool.and_eq_true, Bool.or_eq_true, Bool.and_eq_false_iff, Bool.or_eq_false_iff, reduceCtorEq, Int.not_lt, Int.not_le] at h3
      intro h4
      intro h5
      refine ⟨?_, ?_⟩
      · first | omega | (simp only [I64] at *; omega)
      exact ⟨x_0 + 1, ⟨by omega, fun q hq => by by_cases e : q = x_0; (subst e; omega); exact q_0.2 q (by omega)⟩, by omega, ⟨by omega, trivial⟩, (by repeat' (first | exact trivial | rfl | apply And.intro))⟩
  · try simp only [decide_eq_true_eq, decide_eq_false_iff_not, beq_iff_eq, beq_eq_false_iff_ne, bne_iff_ne, bne_eq_false_iff_eq, Bool.not_eq_true', Bool.not_eq_false', Bool.not_eq_true, Bool.not_eq_false, ne_eq, Bool.and_eq_true, Bool.or_eq_true, Bool.and_eq_false_iff, Bool.or_eq_false_iff, reduceCtorEq, Int.not_lt, Int.not_le] at h2
    symm; rw [apartF_true]
    by_cases h1 : a.2.1 ≤ 0; exact .inl h1
    by_cases h2 : b.2.1 ≤ 0; exact .inr (.inl h2)
    by_cases h3 : a.1 + a.2.1 ≤ b.1; exact .inr (.inr (.inl h3))
    refine .inr (.inr (.inr ?_))
    by_cases h4 : a.1 ≤ b.1
    · have := q_0.2 (b.1 - a.1).toNat (by omega); omega
    · have := q_0.2 0 (by omega); omega
theorem Try.ok_RApart : PureOK Try.prog Try.B.eT 21 [tRange, tRange] [.bool] (fun x => bnd x.1 ∧ bnd x.2) (fun x y => y = (fun x => apartF x.1 x.2) x) :=
  pure_fn (X := noExt) (ctx0 Try.tyOK) Try.func21 (by kernel_rfl) (fun x => rapartAnn x.1 x.2) (fun x hw hp => vc_RApart x.1 x.2 hw hp)
noncomputable def Try.rplaceCtx : List (FuncId × (Bool × CSpec)) := [(23, (true, funSpec [.int .i64] [.int .i64] (fun n => 0 ≤ n ∧ n ≤ 1000000) (fun n => roundF n)))]
theorem Try.rplaceCtxOK {X : Ext} : CtxOK Try.prog Try.B X Try.rplaceCtx :=
  ctx1 (callOK_of_fun Try.ok_RPages) (ctx0 Try.tyOK)
def rbasesAnn (s : List Int) (l : List (D tRange)) : Anns := [
  (0, fun st => { X := Nat, inv := fun i => i ≤ s.length ∧ ∀ j, j < i → 1 ≤ (nth (.int .i64) s j : Int) ∧ (nth (.int .i64) s j : Int) ≤ 40, meas := fun i => s.length - i, slots := fun i => [(6, sI i)], keep := [0, 1] }),
  (2, fun st => { X := Nat, inv := fun i => i ≤ l.length ∧ ∀ j, j < i → okR (nth tRange l j), meas := fun i => l.length - i, slots := fun i => [(7, sI i)], keep := [0, 1] }),
  (4, fun st => { X := Nat, inv := fun i => i ≤ l.length, meas := fun i => l.length - i, slots := fun i => [(10, sI i)], objs := fun i => [(objOf st 9, .arr .bool (usedT (l.take i)))], keep := [0, 1, 4, 5, 9], mods := [objOf st 9] }),
  (6, fun st => { X := Nat, inv := fun k => (k : Int) ≤ (nth tRange l (tmpD (.int .i64) st 10).toNat).2.1, meas := fun k => 300 - k, slots := fun k => [(11, sI k)], objs := fun k => [(objOf st 9, .arr .bool (markU (rowOf .bool st (objOf st 9)) (nth tRange l (tmpD (.int .i64) st 10).toNat).1 k))], keep := [0, 1, 4, 5, 9, 10, 73, 74, 75, 76], mods := [objOf st 9] }),
  (8, fun st => { X := Nat × List (D tRange) × List Int, inv := fun x => x.1 ≤ s.length ∧ goBases x.2.1 (s.drop x.1) x.2.2 = goBases l s [] ∧ (∀ y ∈ x.2.1, okR y) ∧ x.2.1.length = l.length + x.1 ∧ x.2.2.length = x.1, meas := fun x => s.length - x.1, slots := fun x => [(13, sI x.1), (12, .s (.one (.app (.int .i64) x.2.2 (objOf st 12))))], objs := fun x => [(objOf st 9, .arr .bool (usedT x.2.1)), (objOf st 12, .tok (.int .i64) x.2.2)], keep := [0, 9], mods := [objOf st 9, objOf st 12] }),
  (10, fun st => { X := Nat, inv := fun j => j ≤ 32 ∧ baseU (rowOf .bool st (objOf st 9)) (tmpD (.int .i64) st 14) (40 - j) (16 * (j : Int)) = baseU (rowOf .bool st (objOf st 9)) (tmpD (.int .i64) st 14) 40 0, meas := fun j => 40 - j, slots := fun j => [(15, sI (16 * (j : Int)))], keep := [0, 4, 5, 9, 12, 13, 14, 96, 97, 98, 99, 102, 103, 104, 105, 106] }),
  (12, fun st => { X := Nat, inv := fun k => (k : Int) ≤ tmpD (.int .i64) st 14, meas := fun k => 300 - k, slots := fun k => [(17, sI k), (16, sB (freeU (rowOf .bool st (objOf st 9)) (tmpD (.int .i64) st 15) k))], keep := [0, 4, 5, 9, 12, 13, 14, 15, 96, 97, 98, 99, 102, 103, 104, 105, 106] }),
  (14, fun st => { X := Nat, inv := fun k => (k : Int) ≤ tmpD (.int .i64) st 14, meas := fun k => 300 - k, slots := fun k => [(18, sI k)], objs := fun k => [(objOf st 9, .arr .bool (markU (rowOf .bool st (objOf st 9)) (tmpD (.int .i64) st 15) k))], keep := [0, 4, 5, 9, 12, 13, 14, 15, 16, 17, 96, 97, 98, 99, 102, 103, 104, 105, 106, 107, 108, 109, 110, 111, 112, 113, 114, 115, 116, 117, 118, 119, 120, 121, 122, 123, 124, 125, 126, 127, 128, 129, 130, 131, 132, 133], mods := [objOf st 9] })]
set_option maxRecDepth 100000 in
set_option maxHeartbeats 1000000 in
theorem vc_RBases (s : List Int) (l : List (D tRange)) (hw : wfL [.slice (.int .i64), .slice tRange] (s, l)) : (fnVCs Try.B Try.rplaceCtx Try.f25 (rbasesAnn s l) [.slice (.int .i64), .slice tRange] [.slice (.int .i64), .int .i64] (fun x y => y = (fun x => rbasesF x) x) (s, l)).holds := by
  refine holds_of (p :=
    ((List.length s ≤ big) →
      (((decide ((↑(List.length s) : Int) > (6 : Int))) = true →
        (([], (2 : Int)) = rbasesF (s, l))) ∧
      ((decide ((↑(List.length s) : Int) > (6 : Int))) = false →
        ((List.length l ≤ big) →
        (((decide ((↑(List.length l) : Int) > (20 : Int))) = true →
          (([], (2 : Int)) = rbasesF (s, l))) ∧
        ((decide ((↑(List.length l) : Int) > (20 : Int))) = false →
          (∃ (x : Nat), (x ≤ List.length s ∧ ∀ (j : Nat), j < x → (1 : Int) ≤ nth (Ty.int IntKind.i64) s j ∧ nth (Ty.int IntKind.i64) s j ≤ (40 : Int)) ∧ ((0 : Int) = (↑x : Int) ∧ True) ∧ True) ∧
          (∀ x_0 : Nat,
          ((x_0 ≤ List.length s ∧ ∀ (j : Nat), j < x_0 → (1 : Int) ≤ nth (Ty.int IntKind.i64) s j ∧ nth (Ty.int IntKind.i64) s j ≤ (40 : Int)) →
          ((List.length s ≤ big) →
          (((decide ((↑x_0 : Int) < (↑(List.length s) : Int))) = true →
            ((0 : Int) ≤ (↑x_0 : Int) ∧ (↑x_0 : Int) < (↑(List.length s) : Int)) ∧
            (((decide (nth (Ty.int IntKind.i64) s x_0 < (1 : Int))) = true →
              (([], (1 : Int)) = rbasesF (s, l))) ∧
            ((decide (nth (Ty.int IntKind.i64) s x_0 < (1 : Int))) = false →
              ((0 : Int) ≤ (↑x_0 : Int) ∧ (↑x_0 : Int) < (↑(List.length s) : Int)) ∧
              (((decide (nth (Ty.int IntKind.i64) s x_0 > (40 : Int))) = true →
                (([], (1 : Int)) = rbasesF (s, l))) ∧
              ((decide (nth (Ty.int IntKind.i64) s x_0 > (40 : Int))) = false →
                ((I64 (↑x_0 : Int)) →
                ((I64 (1 : Int)) →
                (I64 ((↑x_0 : Int) + (1 : Int))) ∧
                (∃ (x' : Nat), (x' ≤ List.length s ∧ ∀ (j : Nat), j < x' → (1 : Int) ≤ nth (Ty.int IntKind.i64) s j ∧ nth (Ty.int IntKind.i64) s j ≤ (40 : Int)) ∧ List.length s - x' < List.length s - x_0 ∧ ((↑x_0 : Int) + (1 : Int) = (↑x' : Int) ∧ True) ∧ @List.nil Int = @List.nil Int ∧ True)))))))) ∧
          ((decide ((↑x_0 : Int) < (↑(List.length s) : Int))) = false →
            (∃ (x : Nat), (x ≤ List.length l ∧ ∀ (j : Nat), j < x → okR (nth tRange l j)) ∧ ((0 : Int) = (↑x : Int) ∧ True) ∧ True) ∧
            (∀ x_1 : Nat,
            ((x_1 ≤ List.length l ∧ ∀ (j : Nat), j < x_1 → okR (nth tRange l j)) →
            ((List.length l ≤ big) →
            (((decide ((↑x_1 : Int) < (↑(List.length l) : Int))) = true →
              ((0 : Int) ≤ (↑x_1 : Int) ∧ (↑x_1 : Int) < (↑(List.length l) : Int)) ∧
              (((decide ((nth tRange l x_1).fst < (0 : Int))) = true →
                (([], (1 : Int)) = rbasesF (s, l))) ∧
              ((decide ((nth tRange l x_1).fst < (0 : Int))) = false →
                (((decide ((nth tRange l x_1).fst > (256 : Int))) = true →
                  (([], (1 : Int)) = rbasesF (s, l))) ∧
                ((decide ((nth tRange l x_1).fst > (256 : Int))) = false →
                  (((decide ((nth tRange l x_1).snd.fst < (0 : Int))) = true →
                    (([], (1 : Int)) = rbasesF (s, l))) ∧
                  ((decide ((nth tRange l x_1).snd.fst < (0 : Int))) = false →
                    (((decide ((nth tRange l x_1).snd.fst > (256 : Int))) = true →
                      (([], (1 : Int)) = rbasesF (s, l))) ∧
                    ((decide ((nth tRange l x_1).snd.fst > (256 : Int))) = false →
                      ((I64 (↑x_1 : Int)) →
                      ((I64 (1 : Int)) →
                      (I64 ((↑x_1 : Int) + (1 : Int))) ∧
                      (∃ (x' : Nat), (x' ≤ List.length l ∧ ∀ (j : Nat), j < x' → okR (nth tRange l j)) ∧ List.length l - x' < List.length l - x_1 ∧ ((↑x_1 : Int) + (1 : Int) = (↑x' : Int) ∧ True) ∧ @List.nil Int = @List.nil Int ∧ True)))))))))))) ∧
            ((decide ((↑x_1 : Int) < (↑(List.length l) : Int))) = false →
              (∃ (x : Nat), x ≤ List.length l ∧ ((0 : Int) = (↑x : Int) ∧ True) ∧ List.replicate (600 : Nat) (zeroD Ty.bool) = usedT (List.take x l) ∧ True) ∧
              (∀ x_2 : Nat,
              ((x_2 ≤ List.length l) →
              ((List.length l ≤ big) →
              (((decide ((↑x_2 : Int) < (↑(List.length l) : Int))) = true →
                (∃ (x : Nat), (↑x : Int) ≤ (nth tRange l x_2).snd.fst ∧ ((0 : Int) = (↑x : Int) ∧ True) ∧ usedT (List.take x_2 l) = markU (usedT (List.take x_2 l)) (nth tRange l x_2).fst x ∧ True) ∧
                (∀ x_3 : Nat,
                (((↑x_3 : Int) ≤ (nth tRange l x_2).snd.fst) →
                ((0 : Int) ≤ (↑x_2 : Int) ∧ (↑x_2 : Int) < (↑(List.length l) : Int)) ∧
                (((decide ((↑x_3 : Int) < (nth tRange l x_2).snd.fst)) = true →
                  ((0 : Int) ≤ (↑x_2 : Int) ∧ (↑x_2 : Int) < (↑(List.length l) : Int)) ∧
                  ((I64 (nth tRange l x_2).fst) →
                  ((I64 (↑x_3 : Int)) →
                  (I64 ((nth tRange l x_2).fst + (↑x_3 : Int))) ∧
                  ((0 : Int) ≤ (nth tRange l x_2).fst + (↑x_3 : Int) ∧ (nth tRange l x_2).fst + (↑x_3 : Int) < (↑(600 : Nat) : Int) ∧ (nth tRange l x_2).fst + (↑x_3 : Int) < (↑(List.length (markU (usedT (List.take x_2 l)) (nth tRange l x_2).fst x_3)) : Int)) ∧
                  (Int.toNat ((nth tRange l x_2).fst + (↑x_3 : Int)) < List.length (markU (usedT (List.take x_2 l)) (nth tRange l x_2).fst x_3)) ∧
                  ((I64 (↑x_3 : Int)) →
                  ((I64 (1 : Int)) →
                  (I64 ((↑x_3 : Int) + (1 : Int))) ∧
                  (∃ (x' : Nat), (↑x' : Int) ≤ (nth tRange l x_2).snd.fst ∧ (300 : Nat) - x' < (300 : Nat) - x_3 ∧ ((↑x_3 : Int) + (1 : Int) = (↑x' : Int) ∧ True) ∧ List.set (markU (usedT (List.take x_2 l)) (nth tRange l x_2).fst x_3) (Int.toNat ((nth tRange l x_2).fst + (↑x_3 : Int))) true = markU (usedT (List.take x_2 l)) (nth tRange l x_2).fst x' ∧ @List.nil Int = @List.nil Int ∧ True)))))) ∧
                ((decide ((↑x_3 : Int) < (nth tRange l x_2).snd.fst)) = false →
                  ((I64 (↑x_2 : Int)) →
                  ((I64 (1 : Int)) →
                  (I64 ((↑x_2 : Int) + (1 : Int))) ∧
                  (∃ (x' : Nat), x' ≤ List.length l ∧ List.length l - x' < List.length l - x_2 ∧ ((↑x_2 : Int) + (1 : Int) = (↑x' : Int) ∧ True) ∧ markU (usedT (List.take x_2 l)) (nth tRange l x_2).fst x_3 = usedT (List.take x' l) ∧ @List.nil Int = @List.nil Int ∧ True)))))))) ∧
              ((decide ((↑x_2 : Int) < (↑(List.length l) : Int))) = false →
                (∃ (x : Nat × List (Int × Int × Unit) × List Int), (x.fst ≤ List.length s ∧ goBases x.snd.fst (List.drop x.fst s) x.snd.snd = goBases l s (@List.nil Int) ∧ (∀ (y : Int × Int × Unit), y ∈ x.snd.fst → okR y) ∧ List.length x.snd.fst = List.length l + x.fst ∧ List.length x.snd.snd = x.fst) ∧ ((0 : Int) = (↑x.fst : Int) ∧ @List.nil Int = x.snd.snd ∧ True) ∧ usedT (List.take x_2 l) = usedT x.snd.fst ∧ @List.nil Int = x.snd.snd ∧ True) ∧
                (∀ x_3 : Nat × List (Int × Int × Unit) × List Int,
                ((x_3.fst ≤ List.length s ∧ goBases x_3.snd.fst (List.drop x_3.fst s) x_3.snd.snd = goBases l s (@List.nil Int) ∧ (∀ (y : Int × Int × Unit), y ∈ x_3.snd.fst → okR y) ∧ List.length x_3.snd.fst = List.length l + x_3.fst ∧ List.length x_3.snd.snd = x_3.fst) →
                ((List.length s ≤ big) →
                (((decide ((↑x_3.fst : Int) < (↑(List.length s) : Int))) = true →
                  ((0 : Int) ≤ (↑x_3.fst : Int) ∧ (↑x_3.fst : Int) < (↑(List.length s) : Int)) ∧
                  ((0 : Int) ≤ nth (Ty.int IntKind.i64) s x_3.fst ∧ nth (Ty.int IntKind.i64) s x_3.fst ≤ (1000000 : Int)) ∧
                  (∃ (x : Nat), (x ≤ (32 : Nat) ∧ baseU (usedT x_3.snd.fst) (roundF (nth (Ty.int IntKind.i64) s x_3.fst)) ((40 : Nat) - x) ((16 : Int) * (↑x : Int)) = baseU (usedT x_3.snd.fst) (roundF (nth (Ty.int IntKind.i64) s x_3.fst)) (40 : Nat) (0 : Int)) ∧ ((0 : Int) = (16 : Int) * (↑x : Int) ∧ True) ∧ True) ∧
                  (∀ x_4 : Nat,
                  ((x_4 ≤ (32 : Nat) ∧ baseU (usedT x_3.snd.fst) (roundF (nth (Ty.int IntKind.i64) s x_3.fst)) ((40 : Nat) - x_4) ((16 : Int) * (↑x_4 : Int)) = baseU (usedT x_3.snd.fst) (roundF (nth (Ty.int IntKind.i64) s x_3.fst)) (40 : Nat) (0 : Int)) →
                  (∃ (x : Nat), (↑x : Int) ≤ roundF (nth (Ty.int IntKind.i64) s x_3.fst) ∧ ((0 : Int) = (↑x : Int) ∧ true = freeU (usedT x_3.snd.fst) ((16 : Int) * (↑x_4 : Int)) x ∧ True) ∧ True) ∧
                  (∀ x_5 : Nat,
                  (((↑x_5 : Int) ≤ roundF (nth (Ty.int IntKind.i64) s x_3.fst)) →
                  (((decide ((↑x_5 : Int) < roundF (nth (Ty.int IntKind.i64) s x_3.fst))) = true →
                    (((freeU (usedT x_3.snd.fst) ((16 : Int) * (↑x_4 : Int)) x_5) = true →
                      ((I64 ((16 : Int) * (↑x_4 : Int))) →
                      ((I64 (↑x_5 : Int)) →
                      (I64 ((16 : Int) * (↑x_4 : Int) + (↑x_5 : Int))) ∧
                      (((decide ((16 : Int) * (↑x_4 : Int) + (↑x_5 : Int) ≥ (600 : Int))) = true →
                        ((I64 (↑x_5 : Int)) →
                        ((I64 (1 : Int)) →
                        (I64 ((↑x_5 : Int) + (1 : Int))) ∧
                        (∃ (x' : Nat), (↑x' : Int) ≤ roundF (nth (Ty.int IntKind.i64) s x_3.fst) ∧ (300 : Nat) - x' < (300 : Nat) - x_5 ∧ ((↑x_5 : Int) + (1 : Int) = (↑x' : Int) ∧ true = freeU (usedT x_3.snd.fst) ((16 : Int) * (↑x_4 : Int)) x' ∧ True) ∧ usedT x_3.snd.fst = usedT x_3.snd.fst ∧ x_3.snd.snd = x_3.snd.snd ∧ @List.nil Int = @List.nil Int ∧ True)))) ∧
                      ((decide ((16 : Int) * (↑x_4 : Int) + (↑x_5 : Int) ≥ (600 : Int))) = false →
                        ((I64 ((16 : Int) * (↑x_4 : Int))) →
                        ((I64 (↑x_5 : Int)) →
                        (I64 ((16 : Int) * (↑x_4 : Int) + (↑x_5 : Int))) ∧
                        ((0 : Int) ≤ (16 : Int) * (↑x_4 : Int) + (↑x_5 : Int) ∧ (16 : Int) * (↑x_4 : Int) + (↑x_5 : Int) < (↑(600 : Nat) : Int) ∧ (16 : Int) * (↑x_4 : Int) + (↑x_5 : Int) < (↑(List.length (usedT x_3.snd.fst)) : Int)) ∧
                        (Int.toNat ((16 : Int) * (↑x_4 : Int) + (↑x_5 : Int)) < List.length (usedT x_3.snd.fst)) ∧
                        ((I64 (↑x_5 : Int)) →
                        ((I64 (1 : Int)) →
                        (I64 ((↑x_5 : Int) + (1 : Int))) ∧
                        (∃ (x' : Nat), (↑x' : Int) ≤ roundF (nth (Ty.int IntKind.i64) s x_3.fst) ∧ (300 : Nat) - x' < (300 : Nat) - x_5 ∧ ((↑x_5 : Int) + (1 : Int) = (↑x' : Int) ∧ (!nth Ty.bool (usedT x_3.snd.fst) (Int.toNat ((16 : Int) * (↑x_4 : Int) + (↑x_5 : Int)))) = freeU (usedT x_3.snd.fst) ((16 : Int) * (↑x_4 : Int)) x' ∧ True) ∧ usedT x_3.snd.fst = usedT x_3.snd.fst ∧ x_3.snd.snd = x_3.snd.snd ∧ @List.nil Int = @List.nil Int ∧ True)))))))))) ∧
                    ((freeU (usedT x_3.snd.fst) ((16 : Int) * (↑x_4 : Int)) x_5) = false →
                      (((freeU (usedT x_3.snd.fst) ((16 : Int) * (↑x_4 : Int)) x_5) = true →
                        ((I64 ((16 : Int) * (↑x_4 : Int))) →
                        ((I64 (roundF (nth (Ty.int IntKind.i64) s x_3.fst))) →
                        (I64 ((16 : Int) * (↑x_4 : Int) + roundF (nth (Ty.int IntKind.i64) s x_3.fst))) ∧
                        (((decide ((16 : Int) * (↑x_4 : Int) + roundF (nth (Ty.int IntKind.i64) s x_3.fst) > (256 : Int))) = true →
                          (([], (8 : Int)) = rbasesF (s, l))) ∧
                        ((decide ((16 : Int) * (↑x_4 : Int) + roundF (nth (Ty.int IntKind.i64) s x_3.fst) > (256 : Int))) = false →
                          (∃ (x : Nat), (↑x : Int) ≤ roundF (nth (Ty.int IntKind.i64) s x_3.fst) ∧ ((0 : Int) = (↑x : Int) ∧ True) ∧ usedT x_3.snd.fst = markU (usedT x_3.snd.fst) ((16 : Int) * (↑x_4 : Int)) x ∧ True) ∧
                          (∀ x_6 : Nat,
                          (((↑x_6 : Int) ≤ roundF (nth (Ty.int IntKind.i64) s x_3.fst)) →
                          (((decide ((↑x_6 : Int) < roundF (nth (Ty.int IntKind.i64) s x_3.fst))) = true →
                            ((I64 ((16 : Int) * (↑x_4 : Int))) →
                            ((I64 (↑x_6 : Int)) →
                            (I64 ((16 : Int) * (↑x_4 : Int) + (↑x_6 : Int))) ∧
                            ((0 : Int) ≤ (16 : Int) * (↑x_4 : Int) + (↑x_6 : Int) ∧ (16 : Int) * (↑x_4 : Int) + (↑x_6 : Int) < (↑(600 : Nat) : Int) ∧ (16 : Int) * (↑x_4 : Int) + (↑x_6 : Int) < (↑(List.length (markU (usedT x_3.snd.fst) ((16 : Int) * (↑x_4 : Int)) x_6)) : Int)) ∧
                            (Int.toNat ((16 : Int) * (↑x_4 : Int) + (↑x_6 : Int)) < List.length (markU (usedT x_3.snd.fst) ((16 : Int) * (↑x_4 : Int)) x_6)) ∧
                            ((I64 (↑x_6 : Int)) →
                            ((I64 (1 : Int)) →
                            (I64 ((↑x_6 : Int) + (1 : Int))) ∧
                            (∃ (x' : Nat), (↑x' : Int) ≤ roundF (nth (Ty.int IntKind.i64) s x_3.fst) ∧ (300 : Nat) - x' < (300 : Nat) - x_6 ∧ ((↑x_6 : Int) + (1 : Int) = (↑x' : Int) ∧ True) ∧ List.set (markU (usedT x_3.snd.fst) ((16 : Int) * (↑x_4 : Int)) x_6) (Int.toNat ((16 : Int) * (↑x_4 : Int) + (↑x_6 : Int))) true = markU (usedT x_3.snd.fst) ((16 : Int) * (↑x_4 : Int)) x' ∧ x_3.snd.snd = x_3.snd.snd ∧ @List.nil Int = @List.nil Int ∧ True)))))) ∧
                          ((decide ((↑x_6 : Int) < roundF (nth (Ty.int IntKind.i64) s x_3.fst))) = false →
                            (x_3.snd.snd = x_3.snd.snd ∧ List.length x_3.snd.snd + List.length [(16 : Int) * (↑x_4 : Int)] ≤ (1000000000 : Nat)) ∧
                            ((I64 (↑x_3.fst : Int)) →
                            ((I64 (1 : Int)) →
                            (I64 ((↑x_3.fst : Int) + (1 : Int))) ∧
                            (∃ (x' : Nat × List (Int × Int × Unit) × List Int), (x'.fst ≤ List.length s ∧ goBases x'.snd.fst (List.drop x'.fst s) x'.snd.snd = goBases l s (@List.nil Int) ∧ (∀ (y : Int × Int × Unit), y ∈ x'.snd.fst → okR y) ∧ List.length x'.snd.fst = List.length l + x'.fst ∧ List.length x'.snd.snd = x'.fst) ∧ List.length s - x'.fst < List.length s - x_3.fst ∧ ((↑x_3.fst : Int) + (1 : Int) = (↑x'.fst : Int) ∧ x_3.snd.snd ++ [(16 : Int) * (↑x_4 : Int)] = x'.snd.snd ∧ True) ∧ markU (usedT x_3.snd.fst) ((16 : Int) * (↑x_4 : Int)) x_6 = usedT x'.snd.fst ∧ x_3.snd.snd ++ [(16 : Int) * (↑x_4 : Int)] = x'.snd.snd ∧ @List.nil Int = @List.nil Int ∧ True)))))))))))) ∧
                      ((freeU (usedT x_3.snd.fst) ((16 : Int) * (↑x_4 : Int)) x_5) = false →
                        ((I64 ((16 : Int) * (↑x_4 : Int))) →
                        ((I64 (16 : Int)) →
                        (I64 ((16 : Int) * (↑x_4 : Int) + (16 : Int))) ∧
                        (∃ (x' : Nat), (x' ≤ (32 : Nat) ∧ baseU (usedT x_3.snd.fst) (roundF (nth (Ty.int IntKind.i64) s x_3.fst)) ((40 : Nat) - x') ((16 : Int) * (↑x' : Int)) = baseU (usedT x_3.snd.fst) (roundF (nth (Ty.int IntKind.i64) s x_3.fst)) (40 : Nat) (0 : Int)) ∧ (40 : Nat) - x' < (40 : Nat) - x_4 ∧ ((16 : Int) * (↑x_4 : Int) + (16 : Int) = (16 : Int) * (↑x' : Int) ∧ True) ∧ usedT x_3.snd.fst = usedT x_3.snd.fst ∧ x_3.snd.snd = x_3.snd.snd ∧ @List.nil Int = @List.nil Int ∧ True)))))))) ∧
                  ((decide ((↑x_5 : Int) < roundF (nth (Ty.int IntKind.i64) s x_3.fst))) = false →
                    (((freeU (usedT x_3.snd.fst) ((16 : Int) * (↑x_4 : Int)) x_5) = true →
                      ((I64 ((16 : Int) * (↑x_4 : Int))) →
                      ((I64 (roundF (nth (Ty.int IntKind.i64) s x_3.fst))) →
                      (I64 ((16 : Int) * (↑x_4 : Int) + roundF (nth (Ty.int IntKind.i64) s x_3.fst))) ∧
                      (((decide ((16 : Int) * (↑x_4 : Int) + roundF (nth (Ty.int IntKind.i64) s x_3.fst) > (256 : Int))) = true →
                        (([], (8 : Int)) = rbasesF (s, l))) ∧
                      ((decide ((16 : Int) * (↑x_4 : Int) + roundF (nth (Ty.int IntKind.i64) s x_3.fst) > (256 : Int))) = false →
                        (∃ (x : Nat), (↑x : Int) ≤ roundF (nth (Ty.int IntKind.i64) s x_3.fst) ∧ ((0 : Int) = (↑x : Int) ∧ True) ∧ usedT x_3.snd.fst = markU (usedT x_3.snd.fst) ((16 : Int) * (↑x_4 : Int)) x ∧ True) ∧
                        (∀ x_6 : Nat,
                        (((↑x_6 : Int) ≤ roundF (nth (Ty.int IntKind.i64) s x_3.fst)) →
                        (((decide ((↑x_6 : Int) < roundF (nth (Ty.int IntKind.i64) s x_3.fst))) = true →
                          ((I64 ((16 : Int) * (↑x_4 : Int))) →
                          ((I64 (↑x_6 : Int)) →
                          (I64 ((16 : Int) * (↑x_4 : Int) + (↑x_6 : Int))) ∧
                          ((0 : Int) ≤ (16 : Int) * (↑x_4 : Int) + (↑x_6 : Int) ∧ (16 : Int) * (↑x_4 : Int) + (↑x_6 : Int) < (↑(600 : Nat) : Int) ∧ (16 : Int) * (↑x_4 : Int) + (↑x_6 : Int) < (↑(List.length (markU (usedT x_3.snd.fst) ((16 : Int) * (↑x_4 : Int)) x_6)) : Int)) ∧
                          (Int.toNat ((16 : Int) * (↑x_4 : Int) + (↑x_6 : Int)) < List.length (markU (usedT x_3.snd.fst) ((16 : Int) * (↑x_4 : Int)) x_6)) ∧
                          ((I64 (↑x_6 : Int)) →
                          ((I64 (1 : Int)) →
                          (I64 ((↑x_6 : Int) + (1 : Int))) ∧
                          (∃ (x' : Nat), (↑x' : Int) ≤ roundF (nth (Ty.int IntKind.i64) s x_3.fst) ∧ (300 : Nat) - x' < (300 : Nat) - x_6 ∧ ((↑x_6 : Int) + (1 : Int) = (↑x' : Int) ∧ True) ∧ List.set (markU (usedT x_3.snd.fst) ((16 : Int) * (↑x_4 : Int)) x_6) (Int.toNat ((16 : Int) * (↑x_4 : Int) + (↑x_6 : Int))) true = markU (usedT x_3.snd.fst) ((16 : Int) * (↑x_4 : Int)) x' ∧ x_3.snd.snd = x_3.snd.snd ∧ @List.nil Int = @List.nil Int ∧ True)))))) ∧
                        ((decide ((↑x_6 : Int) < roundF (nth (Ty.int IntKind.i64) s x_3.fst))) = false →
                          (x_3.snd.snd = x_3.snd.snd ∧ List.length x_3.snd.snd + List.length [(16 : Int) * (↑x_4 : Int)] ≤ (1000000000 : Nat)) ∧
                          ((I64 (↑x_3.fst : Int)) →
                          ((I64 (1 : Int)) →
                          (I64 ((↑x_3.fst : Int) + (1 : Int))) ∧
                          (∃ (x' : Nat × List (Int × Int × Unit) × List Int), (x'.fst ≤ List.length s ∧ goBases x'.snd.fst (List.drop x'.fst s) x'.snd.snd = goBases l s (@List.nil Int) ∧ (∀ (y : Int × Int × Unit), y ∈ x'.snd.fst → okR y) ∧ List.length x'.snd.fst = List.length l + x'.fst ∧ List.length x'.snd.snd = x'.fst) ∧ List.length s - x'.fst < List.length s - x_3.fst ∧ ((↑x_3.fst : Int) + (1 : Int) = (↑x'.fst : Int) ∧ x_3.snd.snd ++ [(16 : Int) * (↑x_4 : Int)] = x'.snd.snd ∧ True) ∧ markU (usedT x_3.snd.fst) ((16 : Int) * (↑x_4 : Int)) x_6 = usedT x'.snd.fst ∧ x_3.snd.snd ++ [(16 : Int) * (↑x_4 : Int)] = x'.snd.snd ∧ @List.nil Int = @List.nil Int ∧ True)))))))))))) ∧
                    ((freeU (usedT x_3.snd.fst) ((16 : Int) * (↑x_4 : Int)) x_5) = false →
                      ((I64 ((16 : Int) * (↑x_4 : Int))) →
                      ((I64 (16 : Int)) →
                      (I64 ((16 : Int) * (↑x_4 : Int) + (16 : Int))) ∧
                      (∃ (x' : Nat), (x' ≤ (32 : Nat) ∧ baseU (usedT x_3.snd.fst) (roundF (nth (Ty.int IntKind.i64) s x_3.fst)) ((40 : Nat) - x') ((16 : Int) * (↑x' : Int)) = baseU (usedT x_3.snd.fst) (roundF (nth (Ty.int IntKind.i64) s x_3.fst)) (40 : Nat) (0 : Int)) ∧ (40 : Nat) - x' < (40 : Nat) - x_4 ∧ ((16 : Int) * (↑x_4 : Int) + (16 : Int) = (16 : Int) * (↑x' : Int) ∧ True) ∧ usedT x_3.snd.fst = usedT x_3.snd.fst ∧ x_3.snd.snd = x_3.snd.snd ∧ @List.nil Int = @List.nil Int ∧ True)))))))))))) ∧
                ((decide ((↑x_3.fst : Int) < (↑(List.length s) : Int))) = false →
                  ((x_3.snd.snd, (0 : Int)) = rbasesF (s, l))))))))))))))))))))))))))))) (by kernel_rfl) ?_
  intro h0
  refine ⟨fun h1 => ?_, fun h1 => ?_⟩
  · try simp only [decide_eq_true_eq, decide_eq_false_iff_not, beq_iff_eq, beq_eq_false_iff_ne, bne_iff_ne, bne_eq_false_iff_eq, Bool.not_eq_true', Bool.not_eq_false', Bool.not_eq_true, Bool.not_eq_false, ne_eq, Bool.and_eq_true, Bool.or_eq_true, Bool.and_eq_false_iff, Bool.or_eq_false_iff, reduceCtorEq, Int.not_lt, Int.not_le] at h1
    unfold rbasesF; rw [basesF_many (by omega)]; rfl
  · try simp only [decide_eq_true_eq, decide_eq_false_iff_not, beq_iff_eq, beq_eq_false_iff_ne, bne_iff_ne, bne_eq_false_iff_eq, Bool.not_eq_true', Bool.not_eq_false', Bool.not_eq_true, Bool.not_eq_false, ne_eq, Bool.and_eq_true, Bool.or_eq_true, Bool.and_eq_false_iff, Bool.or_eq_false_iff, reduceCtorEq, Int.not_lt, Int.not_le] at h1
    intro h2
    refine ⟨fun h3 => ?_, fun h3 => ?_⟩
    · try simp only [decide_eq_true_eq, decide_eq_false_iff_not, beq_iff_eq, beq_eq_false_iff_ne, bne_iff_ne, bne_eq_false_iff_eq, Bool.not_eq_true', Bool.not_eq_false', Bool.not_eq_true, Bool.not_eq_false, ne_eq, Bool.and_eq_true, Bool.or_eq_true, Bool.and_eq_false_iff, Bool.or_eq_false_iff, reduceCtorEq, Int.not_lt, Int.not_le] at h3
      unfold rbasesF; rw [basesF_many (by omega)]; rfl
    · try simp only [decide_eq_true_eq, decide_eq_false_iff_not, beq_iff_eq, beq_eq_false_iff_ne, bne_iff_ne, bne_eq_false_iff_eq, Bool.not_eq_true', Bool.not_eq_false', Bool.not_eq_true, Bool.not_eq_false, ne_eq, Bool.and_eq_true, Bool.or_eq_true, Bool.and_eq_false_iff, Bool.or_eq_false_iff, reduceCtorEq, Int.not_lt, Int.not_le] at h3
      refine ⟨?_, ?_⟩
      · refine ⟨0, ?_⟩; (repeat' (first | exact trivial | rfl | omega | assumption | apply And.intro))
      intro x_0 q_0
      intro h4
      refine ⟨fun h5 => ?_, fun h5 => ?_⟩
      · try simp only [decide_eq_true_eq, decide_eq_false_iff_not, beq_iff_eq, beq_eq_false_iff_ne, bne_iff_ne, bne_eq_false_iff_eq, Bool.not_eq_true', Bool.not_eq_false', Bool.not_eq_true, Bool.not_eq_false, ne_eq, Bool.and_eq_true, Bool.or_eq_true, Bool.and_eq_false_iff, Bool.or_eq_false_iff, reduceCtorEq, Int.not_lt, Int.not_le] at h5
        refine ⟨?_, ?_⟩
        · first | exact True.intro | rfl | omega | assumption | (dsimp only [D] at *; omega) | (simp only [I64, big] at *; omega) | (simp_all; done)
        refine ⟨fun h6 => ?_, fun h6 => ?_⟩
        · try simp only [decide_eq_true_eq, decide_eq_false_iff_not, beq_iff_eq, beq_eq_false_iff_ne, bne_iff_ne, bne_eq_false_iff_eq, Bool.not_eq_true', Bool.not_eq_false', Bool.not_eq_true, Bool.not_eq_false, ne_eq, Bool.and_eq_true, Bool.or_eq_true, Bool.and_eq_false_iff, Bool.or_eq_false_iff, reduceCtorEq, Int.not_lt, Int.not_le] at h6
          (try dsimp only [D] at *); unfold rbasesF; rw [basesF_size (by omega) (i := x_0) (by omega) (by (try dsimp only [D]); omega)]; rfl
        · try simp only [decide_eq_true_eq, decide_eq_false_iff_not, beq_iff_eq, beq_eq_false_iff_ne, bne_iff_ne, bne_eq_false_iff_eq, Bool.not_eq_true', Bool.not_eq_false', Bool.not_eq_true, Bool.not_eq_false, ne_eq, Bool.and_eq_true, Bool.or_eq_true, Bool.and_eq_false_iff, Bool.or_eq_false_iff, reduceCtorEq, Int.not_lt, Int.not_le] at h6
          refine ⟨?_, ?_⟩
          · first | exact True.intro | rfl | omega | assumption | (dsimp only [D] at *; omega) | (simp only [I64, big] at *; omega) | (simp_all; done)
          refine ⟨fun h7 => ?_, fun h7 => ?_⟩
          · try simp only [decide_eq_true_eq, decide_eq_false_iff_not, beq_iff_eq, beq_eq_false_iff_ne, bne_iff_ne, bne_eq_false_iff_eq, Bool.not_eq_true', Bool.not_eq_false', Bool.not_eq_true, Bool.not_eq_false, ne_eq, Bool.and_eq_true, Bool.or_eq_true, Bool.and_eq_false_iff, Bool.or_eq_false_iff, reduceCtorEq, Int.not_lt, Int.not_le] at h7
            (try dsimp only [D] at *); unfold rbasesF; rw [basesF_size (by omega) (i := x_0) (by omega) (by (try dsimp only [D]); omega)]; rfl
          · try simp only [decide_eq_true_eq, decide_eq_false_iff_not, beq_iff_eq, beq_eq_false_iff_ne, bne_iff_ne, bne_eq_false_iff_eq, Bool.not_eq_true', Bool.not_eq_false', Bool.not_eq_true, Bool.not_eq_false, ne_eq, Bool.and_eq_true, Bool.or_eq_true, Bool.and_eq_false_iff, Bool.or_eq_false_iff, reduceCtorEq, Int.not_lt, Int.not_le] at h7
            intro h8
            intro h9
            refine ⟨?_, ?_⟩
            · first | exact True.intro | rfl | omega | assumption | (dsimp only [D] at *; omega) | (simp only [I64, big] at *; omega) | (simp_all; done)
            (try dsimp only [D] at *); exact ⟨x_0 + 1, ⟨by omega, fun j hj => by by_cases e : j = x_0; (subst e; (try dsimp only [D]); omega); exact q_0.2 j (by omega)⟩, by omega, ⟨by omega, trivial⟩, (by repeat' (first | exact trivial | rfl | apply And.intro))⟩
      · try simp only [decide_eq_true_eq, decide_eq_false_iff_not, beq_iff_eq, beq_eq_false_iff_ne, bne_iff_ne, bne_eq_false_iff_eq, Bool.not_eq_true', Bool.not_eq_false', Bool.not_eq_true, Bool.not_eq_false, ne_eq, Bool.and_eq_true, Bool.or_eq_true, Bool.and_eq_false_iff, Bool.or_eq_false_iff, reduceCtorEq, Int.not_lt, Int.not_le] at h5
        refine ⟨?_, ?_⟩
        · refine ⟨0, ?_⟩; (repeat' (first | exact trivial | rfl | omega | assumption | apply And.intro))
        intro x_1 q_1
        intro h6
        refine ⟨fun h7 => ?_, fun h7 => ?_⟩
        · try simp only [decide_eq_true_eq, decide_eq_false_iff_not, beq_iff_eq, beq_eq_false_iff_ne, bne_iff_ne, bne_eq_false_iff_eq, Bool.not_eq_true', Bool.not_eq_false', Bool.not_eq_true, Bool.not_eq_false, ne_eq, Bool.and_eq_true, Bool.or_eq_true, Bool.and_eq_false_iff, Bool.or_eq_false_iff, reduceCtorEq, Int.not_lt, Int.not_le] at h7
          refine ⟨?_, ?_⟩
          · first | exact True.intro | rfl | omega | assumption | (dsimp only [D] at *; omega) | (simp only [I64, big] at *; omega) | (simp_all; done)
          refine ⟨fun h8 => ?_, fun h8 => ?_⟩
          · try simp only [decide_eq_true_eq, decide_eq_false_iff_not, beq_iff_eq, beq_eq_false_iff_ne, bne_iff_ne, bne_eq_false_iff_eq, Bool.not_eq_true', Bool.not_eq_false', Bool.not_eq_true, Bool.not_eq_false, ne_eq, Bool.and_eq_true, Bool.or_eq_true, Bool.and_eq_false_iff, Bool.or_eq_false_iff, reduceCtorEq, Int.not_lt, Int.not_le] at h8
            (try dsimp only [D] at *); unfold rbasesF; rw [basesF_taken (by omega) (i := x_1) (by omega) (by unfold okR; (try dsimp only [D]); omega)]; rfl
          · try simp only [decide_eq_true_eq, decide_eq_false_iff_not, beq_iff_eq, beq_eq_false_iff_ne, bne_iff_ne, bne_eq_false_iff_eq, Bool.not_eq_true', Bool.not_eq_false', Bool.not_eq_true, Bool.not_eq_false, ne_eq, Bool.and_eq_true, Bool.or_eq_true, Bool.and_eq_false_iff, Bool.or_eq_false_iff, reduceCtorEq, Int.not_lt, Int.not_le] at h8
            refine ⟨fun h9 => ?_, fun h9 => ?_⟩
            · try simp only [decide_eq_true_eq, decide_eq_false_iff_not, beq_iff_eq, beq_eq_false_iff_ne, bne_iff_ne, bne_eq_false_iff_eq, Bool.not_eq_true', Bool.not_eq_false', Bool.not_eq_true, Bool.not_eq_false, ne_eq, Bool.and_eq_true, Bool.or_eq_true, Bool.and_eq_false_iff, Bool.or_eq_false_iff, reduceCtorEq, Int.not_lt, Int.not_le] at h9
              (try dsimp only [D] at *); unfold rbasesF; rw [basesF_taken (by omega) (i := x_1) (by omega) (by unfold okR; (try dsimp only [D]); omega)]; rfl
            · try simp only [decide_eq_true_eq, decide_eq_false_iff_not, beq_iff_eq, beq_eq_false_iff_ne, bne_iff_ne, bne_eq_false_iff_eq, Bool.not_eq_true', Bool.not_eq_false', Bool.not_eq_true, Bool.not_eq_false, ne_eq, Bool.and_eq_true, Bool.or_eq_true, Bool.and_eq_false_iff, Bool.or_eq_false_iff, reduceCtorEq, Int.not_lt, Int.not_le] at h9
              refine ⟨fun h10 => ?_, fun h10 => ?_⟩
              · try simp only [decide_eq_true_eq, decide_eq_false_iff_not, beq_iff_eq, beq_eq_false_iff_ne, bne_iff_ne, bne_eq_false_iff_eq, Bool.not_eq_true', Bool.not_eq_false', Bool.not_eq_true, Bool.not_eq_false, ne_eq, Bool.and_eq_true, Bool.or_eq_true, Bool.and_eq_false_iff, Bool.or_eq_false_iff, reduceCtorEq, Int.not_lt, Int.not_le] at h10
                (try dsimp only [D] at *); unfold rbasesF; rw [basesF_taken (by omega) (i := x_1) (by omega) (by unfold okR; (try dsimp only [D]); omega)]; rfl
              · try simp only [decide_eq_true_eq, decide_eq_false_iff_not, beq_iff_eq, beq_eq_false_iff_ne, bne_iff_ne, bne_eq_false_iff_eq, Bool.not_eq_true', Bool.not_eq_false', Bool.not_eq_true, Bool.not_eq_false, ne_eq, Bool.and_eq_true, Bool.or_eq_true, Bool.and_eq_false_iff, Bool.or_eq_false_iff, reduceCtorEq, Int.not_lt, Int.not_le] at h10
                refine ⟨fun h11 => ?_, fun h11 => ?_⟩
                · try simp only [decide_eq_true_eq, decide_eq_false_iff_not, beq_iff_eq, beq_eq_false_iff_ne, bne_iff_ne, bne_eq_false_iff_eq, Bool.not_eq_true', Bool.not_eq_false', Bool.not_eq_true, Bool.not_eq_false, ne_eq, Bool.and_eq_true, Bool.or_eq_true, Bool.and_eq_false_iff, Bool.or_eq_false_iff, reduceCtorEq, Int.not_lt, Int.not_le] at h11
                  (try dsimp only [D] at *); unfold rbasesF; rw [basesF_taken (by omega) (i := x_1) (by omega) (by unfold okR; (try dsimp only [D]); omega)]; rfl
                · try simp only [decide_eq_true_eq, decide_eq_false_iff_not, beq_iff_eq, beq_eq_false_iff_ne, bne_iff_ne, bne_eq_false_iff_eq, Bool.not_eq_true', Bool.not_eq_false', Bool.not_eq_true, Bool.not_eq_false, ne_eq, Bool.and_eq_true, Bool.or_eq_true, Bool.and_eq_false_iff, Bool.or_eq_false_iff, reduceCtorEq, Int.not_lt, Int.not_le] at h11
                  intro h12
                  intro h13
                  refine ⟨?_, ?_⟩
                  · first | exact True.intro | rfl | omega | assumption | (dsimp only [D] at *; omega) | (simp only [I64, big] at *; omega) | (simp_all; done)
                  (try dsimp only [D] at *); exact ⟨x_1 + 1, ⟨by omega, fun j hj => by by_cases e : j = x_1; (subst e; unfold okR; (try dsimp only [D]); omega); exact q_1.2 j (by omega)⟩, by omega, ⟨by omega, trivial⟩, (by repeat' (first | exact trivial | rfl | apply And.intro))⟩
        · try simp only [decide_eq_true_eq, decide_eq_false_iff_not, beq_iff_eq, beq_eq_false_iff_ne, bne_iff_ne, bne_eq_false_iff_eq, Bool.not_eq_true', Bool.not_eq_false', Bool.not_eq_true, Bool.not_eq_false, ne_eq, Bool.and_eq_true, Bool.or_eq_true, Bool.and_eq_false_iff, Bool.or_eq_false_iff, reduceCtorEq, Int.not_lt, Int.not_le] at h7
          refine ⟨?_, ?_⟩
          · refine ⟨0, ?_⟩; (repeat' (first | exact trivial | rfl | omega | assumption | apply And.intro))
          intro x_2 q_2
          intro h8
          refine ⟨fun h9 => ?_, fun h9 => ?_⟩
          · try simp only [decide_eq_true_eq, decide_eq_false_iff_not, beq_iff_eq, beq_eq_false_iff_ne, bne_iff_ne, bne_eq_false_iff_eq, Bool.not_eq_true', Bool.not_eq_false', Bool.not_eq_true, Bool.not_eq_false, ne_eq, Bool.and_eq_true, Bool.or_eq_true, Bool.and_eq_false_iff, Bool.or_eq_false_iff, reduceCtorEq, Int.not_lt, Int.not_le] at h9
            refine ⟨?_, ?_⟩
            · have ok := q_1.2 x_2 (by omega); unfold okR at ok; (try dsimp only [D] at *)
              exact ⟨0, by omega, ⟨rfl, trivial⟩, (markU_zero (usedT_length _)).symm, trivial⟩
            intro x_3 q_3
            refine ⟨?_, ?_⟩
            · first | exact True.intro | rfl | omega | assumption | (dsimp only [D] at *; omega) | (simp only [I64, big] at *; omega) | (simp_all; done)
            refine ⟨fun h10 => ?_, fun h10 => ?_⟩
            · try simp only [decide_eq_true_eq, decide_eq_false_iff_not, beq_iff_eq, beq_eq_false_iff_ne, bne_iff_ne, bne_eq_false_iff_eq, Bool.not_eq_true', Bool.not_eq_false', Bool.not_eq_true, Bool.not_eq_false, ne_eq, Bool.and_eq_true, Bool.or_eq_true, Bool.and_eq_false_iff, Bool.or_eq_false_iff, reduceCtorEq, Int.not_lt, Int.not_le] at h10
              refine ⟨?_, ?_⟩
              · first | exact True.intro | rfl | omega | assumption | (dsimp only [D] at *; omega) | (simp only [I64, big] at *; omega) | (simp_all; done)
              intro h11
              intro h12
              refine ⟨?_, ?_⟩
              · have ok := q_1.2 x_2 (by omega); unfold okR at ok; (try dsimp only [D] at *)
                simp only [I64]; omega
              refine ⟨?_, ?_⟩
              · have ok := q_1.2 x_2 (by omega); unfold okR at ok; (try dsimp only [D] at *)
                rw [markU_length]; omega
              refine ⟨?_, ?_⟩
              · have ok := q_1.2 x_2 (by omega); unfold okR at ok; (try dsimp only [D] at *)
                rw [markU_length]; omega
              intro h13
              intro h14
              refine ⟨?_, ?_⟩
              · have ok := q_1.2 x_2 (by omega); unfold okR at ok; (try dsimp only [D] at *)
                simp only [I64]; omega
              have ok := q_1.2 x_2 (by omega); unfold okR at ok; (try dsimp only [D] at *)
              exact ⟨x_3 + 1, by omega, by omega, ⟨by omega, trivial⟩, markU_set (by omega) (by omega), (by repeat' (first | exact trivial | rfl | apply And.intro))⟩
            · try simp only [decide_eq_true_eq, decide_eq_false_iff_not, beq_iff_eq, beq_eq_false_iff_ne, bne_iff_ne, bne_eq_false_iff_eq, Bool.not_eq_true', Bool.not_eq_false', Bool.not_eq_true, Bool.not_eq_false, ne_eq, Bool.and_eq_true, Bool.or_eq_true, Bool.and_eq_false_iff, Bool.or_eq_false_iff, reduceCtorEq, Int.not_lt, Int.not_le] at h10
              intro h11
              intro h12
              refine ⟨?_, ?_⟩
              · first | exact True.intro | rfl | omega | assumption | (dsimp only [D] at *; omega) | (simp only [I64, big] at *; omega) | (simp_all; done)
              (try dsimp only [D] at *); exact ⟨x_2 + 1, by omega, by omega, ⟨by omega, trivial⟩, markU_take (by omega) (by (try dsimp only [D]); omega), (by repeat' (first | exact trivial | rfl | apply And.intro))⟩
          · try simp only [decide_eq_true_eq, decide_eq_false_iff_not, beq_iff_eq, beq_eq_false_iff_ne, bne_iff_ne, bne_eq_false_iff_eq, Bool.not_eq_true', Bool.not_eq_false', Bool.not_eq_true, Bool.not_eq_false, ne_eq, Bool.and_eq_true, Bool.or_eq_true, Bool.and_eq_false_iff, Bool.or_eq_false_iff, reduceCtorEq, Int.not_lt, Int.not_le] at h9
            refine ⟨?_, ?_⟩
            · exact ⟨(0, l, []), ⟨Nat.zero_le _, rfl, (fun y (hy : y ∈ l) => by obtain ⟨i, hi, e⟩ := mem_nth (t := tRange) hy; rw [← e]; exact q_1.2 i (by omega)), rfl, rfl⟩, (by repeat' (first | exact trivial | rfl | apply And.intro)), by rw [List.take_of_length_le (by omega)], (by repeat' (first | exact trivial | rfl | apply And.intro))⟩
            intro x_3 q_3
            intro h10
            refine ⟨fun h11 => ?_, fun h11 => ?_⟩
            · try simp only [decide_eq_true_eq, decide_eq_false_iff_not, beq_iff_eq, beq_eq_false_iff_ne, bne_iff_ne, bne_eq_false_iff_eq, Bool.not_eq_true', Bool.not_eq_false', Bool.not_eq_true, Bool.not_eq_false, ne_eq, Bool.and_eq_true, Bool.or_eq_true, Bool.and_eq_false_iff, Bool.or_eq_false_iff, reduceCtorEq, Int.not_lt, Int.not_le] at h11
              refine ⟨?_, ?_⟩
              · first | exact True.intro | rfl | omega | assumption | (dsimp only [D] at *; omega) | (simp only [I64, big] at *; omega) | (simp_all; done)
              refine ⟨?_, ?_⟩
              · have := q_0.2 x_3.1 (by omega); (try dsimp only [D] at *); omega
              refine ⟨?_, ?_⟩
              · refine ⟨0, ?_⟩; (repeat' (first | exact trivial | rfl | omega | assumption | apply And.intro))
              intro x_4 q_4
              refine ⟨?_, ?_⟩
              · have hs := q_0.2 x_3.1 (by omega); have hr := roundF_range hs.1 hs.2
                exact ⟨0, by omega, ⟨rfl, rfl, trivial⟩, trivial⟩
              intro x_5 q_5
              refine ⟨fun h12 => ?_, fun h12 => ?_⟩
              · try simp only [decide_eq_true_eq, decide_eq_false_iff_not, beq_iff_eq, beq_eq_false_iff_ne, bne_iff_ne, bne_eq_false_iff_eq, Bool.not_eq_true', Bool.not_eq_false', Bool.not_eq_true, Bool.not_eq_false, ne_eq, Bool.and_eq_true, Bool.or_eq_true, Bool.and_eq_false_iff, Bool.or_eq_false_iff, reduceCtorEq, Int.not_lt, Int.not_le] at h12
                refine ⟨fun h13 => ?_, fun h13 => ?_⟩
                · try simp only [decide_eq_true_eq, decide_eq_false_iff_not, beq_iff_eq, beq_eq_false_iff_ne, bne_iff_ne, bne_eq_false_iff_eq, Bool.not_eq_true', Bool.not_eq_false', Bool.not_eq_true, Bool.not_eq_false, ne_eq, Bool.and_eq_true, Bool.or_eq_true, Bool.and_eq_false_iff, Bool.or_eq_false_iff, reduceCtorEq, Int.not_lt, Int.not_le] at h13
                  intro h14
                  intro h15
                  refine ⟨?_, ?_⟩
                  · have hs := q_0.2 x_3.1 (by omega); have hr := roundF_range hs.1 hs.2
                    simp only [I64]; omega
                  refine ⟨fun h16 => ?_, fun h16 => ?_⟩
                  · try simp only [decide_eq_true_eq, decide_eq_false_iff_not, beq_iff_eq, beq_eq_false_iff_ne, bne_iff_ne, bne_eq_false_iff_eq, Bool.not_eq_true', Bool.not_eq_false', Bool.not_eq_true, Bool.not_eq_false, ne_eq, Bool.and_eq_true, Bool.or_eq_true, Bool.and_eq_false_iff, Bool.or_eq_false_iff, reduceCtorEq, Int.not_lt, Int.not_le] at h16
                    intro h17
                    intro h18
                    refine ⟨?_, ?_⟩
                    · have hs := q_0.2 x_3.1 (by omega); have hr := roundF_range hs.1 hs.2
                      simp only [I64]; omega
                    have hs := q_0.2 x_3.1 (by omega); have hr := roundF_range hs.1 hs.2
                    exact ⟨x_5 + 1, by omega, by omega, ⟨by omega, freeU_next1 h13 (by omega), trivial⟩, (by repeat' (first | exact trivial | rfl | apply And.intro))⟩
                  · try simp only [decide_eq_true_eq, decide_eq_false_iff_not, beq_iff_eq, beq_eq_false_iff_ne, bne_iff_ne, bne_eq_false_iff_eq, Bool.not_eq_true', Bool.not_eq_false', Bool.not_eq_true, Bool.not_eq_false, ne_eq, Bool.and_eq_true, Bool.or_eq_true, Bool.and_eq_false_iff, Bool.or_eq_false_iff, reduceCtorEq, Int.not_lt, Int.not_le] at h16
                    intro h17
                    intro h18
                    refine ⟨?_, ?_⟩
                    · have hs := q_0.2 x_3.1 (by omega); have hr := roundF_range hs.1 hs.2
                      simp only [I64]; omega
                    refine ⟨?_, ?_⟩
                    · have hs := q_0.2 x_3.1 (by omega); have hr := roundF_range hs.1 hs.2
                      rw [usedT_length]; omega
                    refine ⟨?_, ?_⟩
                    · have hs := q_0.2 x_3.1 (by omega); have hr := roundF_range hs.1 hs.2
                      rw [usedT_length]; omega
                    intro h19
                    intro h20
                    refine ⟨?_, ?_⟩
                    · have hs := q_0.2 x_3.1 (by omega); have hr := roundF_range hs.1 hs.2
                      simp only [I64]; omega
                    have hs := q_0.2 x_3.1 (by omega); have hr := roundF_range hs.1 hs.2
                    exact ⟨x_5 + 1, by omega, by omega, ⟨by omega, freeU_next2 h13 (by omega), trivial⟩, (by repeat' (first | exact trivial | rfl | apply And.intro))⟩
                · try simp only [decide_eq_true_eq, decide_eq_false_iff_not, beq_iff_eq, beq_eq_false_iff_ne, bne_iff_ne, bne_eq_false_iff_eq, Bool.not_eq_true', Bool.not_eq_false', Bool.not_eq_true, Bool.not_eq_false, ne_eq, Bool.and_eq_true, Bool.or_eq_true, Bool.and_eq_false_iff, Bool.or_eq_false_iff, reduceCtorEq, Int.not_lt, Int.not_le] at h13
                  refine ⟨fun h14 => ?_, fun h14 => ?_⟩
                  · try simp only [decide_eq_true_eq, decide_eq_false_iff_not, beq_iff_eq, beq_eq_false_iff_ne, bne_iff_ne, bne_eq_false_iff_eq, Bool.not_eq_true', Bool.not_eq_false', Bool.not_eq_true, Bool.not_eq_false, ne_eq, Bool.and_eq_true, Bool.or_eq_true, Bool.and_eq_false_iff, Bool.or_eq_false_iff, reduceCtorEq, Int.not_lt, Int.not_le] at h14
                    intro h15
                    intro h16
                    refine ⟨?_, ?_⟩
                    · exact absurd (h14.symm.trans h13) (by decide)
                    refine ⟨fun h17 => ?_, fun h17 => ?_⟩
                    · try simp only [decide_eq_true_eq, decide_eq_false_iff_not, beq_iff_eq, beq_eq_false_iff_ne, bne_iff_ne, bne_eq_false_iff_eq, Bool.not_eq_true', Bool.not_eq_false', Bool.not_eq_true, Bool.not_eq_false, ne_eq, Bool.and_eq_true, Bool.or_eq_true, Bool.and_eq_false_iff, Bool.or_eq_false_iff, reduceCtorEq, Int.not_lt, Int.not_le] at h17
                      exact absurd (h14.symm.trans h13) (by decide)
                    · try simp only [decide_eq_true_eq, decide_eq_false_iff_not, beq_iff_eq, beq_eq_false_iff_ne, bne_iff_ne, bne_eq_false_iff_eq, Bool.not_eq_true', Bool.not_eq_false', Bool.not_eq_true, Bool.not_eq_false, ne_eq, Bool.and_eq_true, Bool.or_eq_true, Bool.and_eq_false_iff, Bool.or_eq_false_iff, reduceCtorEq, Int.not_lt, Int.not_le] at h17
                      refine ⟨?_, ?_⟩
                      · exact absurd (h14.symm.trans h13) (by decide)
                      intro x_6 q_6
                      refine ⟨fun h18 => ?_, fun h18 => ?_⟩
                      · try simp only [decide_eq_true_eq, decide_eq_false_iff_not, beq_iff_eq, beq_eq_false_iff_ne, bne_iff_ne, bne_eq_false_iff_eq, Bool.not_eq_true', Bool.not_eq_false', Bool.not_eq_true, Bool.not_eq_false, ne_eq, Bool.and_eq_true, Bool.or_eq_true, Bool.and_eq_false_iff, Bool.or_eq_false_iff, reduceCtorEq, Int.not_lt, Int.not_le] at h18
                        intro h19
                        intro h20
                        refine ⟨?_, ?_⟩
                        · exact absurd (h14.symm.trans h13) (by decide)
                        refine ⟨?_, ?_⟩
                        · exact absurd (h14.symm.trans h13) (by decide)
                        refine ⟨?_, ?_⟩
                        · exact absurd (h14.symm.trans h13) (by decide)
                        intro h21
                        intro h22
                        refine ⟨?_, ?_⟩
                        · exact absurd (h14.symm.trans h13) (by decide)
                        exact absurd (h14.symm.trans h13) (by decide)
                      · try simp only [decide_eq_true_eq, decide_eq_false_iff_not, beq_iff_eq, beq_eq_false_iff_ne, bne_iff_ne, bne_eq_false_iff_eq, Bool.not_eq_true', Bool.not_eq_false', Bool.not_eq_true, Bool.not_eq_false, ne_eq, Bool.and_eq_true, Bool.or_eq_true, Bool.and_eq_false_iff, Bool.or_eq_false_iff, reduceCtorEq, Int.not_lt, Int.not_le] at h18
                        refine ⟨?_, ?_⟩
                        · exact absurd (h14.symm.trans h13) (by decide)
                        intro h19
                        intro h20
                        refine ⟨?_, ?_⟩
                        · exact absurd (h14.symm.trans h13) (by decide)
                        exact absurd (h14.symm.trans h13) (by decide)
                  · try simp only [decide_eq_true_eq, decide_eq_false_iff_not, beq_iff_eq, beq_eq_false_iff_ne, bne_iff_ne, bne_eq_false_iff_eq, Bool.not_eq_true', Bool.not_eq_false', Bool.not_eq_true, Bool.not_eq_false, ne_eq, Bool.and_eq_true, Bool.or_eq_true, Bool.and_eq_false_iff, Bool.or_eq_false_iff, reduceCtorEq, Int.not_lt, Int.not_le] at h14
                    intro h15
                    intro h16
                    refine ⟨?_, ?_⟩
                    · have hs := q_0.2 x_3.1 (by omega); have hr := roundF_range hs.1 hs.2
                      simp only [I64]; omega
                    have hs := q_0.2 x_3.1 (by omega); have hr := roundF_range hs.1 hs.2
                    have hfu : freeU (usedT x_3.2.1) (16 * (x_4 : Int)) (roundF (nth (.int .i64) s x_3.1)).toNat = false := freeU_mono (by omega) h13
                    have hn := free_near q_3.2.2.1 ((freeU_used q_3.2.2.1 (by omega) (by omega)).symm.trans hfu)
                    exact ⟨x_4 + 1, ⟨by omega, by rw [← q_4.2, show 40 - x_4 = (40 - (x_4 + 1)) + 1 by omega, baseU_go hfu, show 16 * ((x_4 + 1 : Nat) : Int) = 16 * (x_4 : Int) + 16 by omega]⟩, by omega, ⟨by omega, trivial⟩, (by repeat' (first | exact trivial | rfl | apply And.intro))⟩
              · try simp only [decide_eq_true_eq, decide_eq_false_iff_not, beq_iff_eq, beq_eq_false_iff_ne, bne_iff_ne, bne_eq_false_iff_eq, Bool.not_eq_true', Bool.not_eq_false', Bool.not_eq_true, Bool.not_eq_false, ne_eq, Bool.and_eq_true, Bool.or_eq_true, Bool.and_eq_false_iff, Bool.or_eq_false_iff, reduceCtorEq, Int.not_lt, Int.not_le] at h12
                refine ⟨fun h13 => ?_, fun h13 => ?_⟩
                · try simp only [decide_eq_true_eq, decide_eq_false_iff_not, beq_iff_eq, beq_eq_false_iff_ne, bne_iff_ne, bne_eq_false_iff_eq, Bool.not_eq_true', Bool.not_eq_false', Bool.not_eq_true, Bool.not_eq_false, ne_eq, Bool.and_eq_true, Bool.or_eq_true, Bool.and_eq_false_iff, Bool.or_eq_false_iff, reduceCtorEq, Int.not_lt, Int.not_le] at h13
                  intro h14
                  intro h15
                  refine ⟨?_, ?_⟩
                  · have hs := q_0.2 x_3.1 (by omega); have hr := roundF_range hs.1 hs.2
                    simp only [I64]; omega
                  refine ⟨fun h16 => ?_, fun h16 => ?_⟩
                  · try simp only [decide_eq_true_eq, decide_eq_false_iff_not, beq_iff_eq, beq_eq_false_iff_ne, bne_iff_ne, bne_eq_false_iff_eq, Bool.not_eq_true', Bool.not_eq_false', Bool.not_eq_true, Bool.not_eq_false, ne_eq, Bool.and_eq_true, Bool.or_eq_true, Bool.and_eq_false_iff, Bool.or_eq_false_iff, reduceCtorEq, Int.not_lt, Int.not_le] at h16
                    have hs := q_0.2 x_3.1 (by omega); have hr := roundF_range hs.1 hs.2; have e5 : x_5 = Int.toNat (roundF (nth (.int .i64) s x_3.1)) := (by omega); rw [e5] at h13; have hb := q_4.2.symm.trans (baseU_stop h13); rw [baseU_used q_3.2.2.1 (by omega) _ _ (by omega)] at hb
                    unfold rbasesF; rw [basesF_ok (by omega) (fun j hj => q_0.2 j (by omega)) (fun j hj => q_1.2 j (by omega)), ← q_3.2.1, goBases_step (by omega), if_pos (by rw [hb]; omega)]; rfl
                  · try simp only [decide_eq_true_eq, decide_eq_false_iff_not, beq_iff_eq, beq_eq_false_iff_ne, bne_iff_ne, bne_eq_false_iff_eq, Bool.not_eq_true', Bool.not_eq_false', Bool.not_eq_true, Bool.not_eq_false, ne_eq, Bool.and_eq_true, Bool.or_eq_true, Bool.and_eq_false_iff, Bool.or_eq_false_iff, reduceCtorEq, Int.not_lt, Int.not_le] at h16
                    refine ⟨?_, ?_⟩
                    · have hs := q_0.2 x_3.1 (by omega); have hr := roundF_range hs.1 hs.2
                      exact ⟨0, by omega, ⟨rfl, trivial⟩, (markU_zero (usedT_length _)).symm, trivial⟩
                    intro x_6 q_6
                    refine ⟨fun h17 => ?_, fun h17 => ?_⟩
                    · try simp only [decide_eq_true_eq, decide_eq_false_iff_not, beq_iff_eq, beq_eq_false_iff_ne, bne_iff_ne, bne_eq_false_iff_eq, Bool.not_eq_true', Bool.not_eq_false', Bool.not_eq_true, Bool.not_eq_false, ne_eq, Bool.and_eq_true, Bool.or_eq_true, Bool.and_eq_false_iff, Bool.or_eq_false_iff, reduceCtorEq, Int.not_lt, Int.not_le] at h17
                      intro h18
                      intro h19
                      refine ⟨?_, ?_⟩
                      · have hs := q_0.2 x_3.1 (by omega); have hr := roundF_range hs.1 hs.2
                        simp only [I64]; omega
                      refine ⟨?_, ?_⟩
                      · have hs := q_0.2 x_3.1 (by omega); have hr := roundF_range hs.1 hs.2
                        rw [markU_length]; omega
                      refine ⟨?_, ?_⟩
                      · have hs := q_0.2 x_3.1 (by omega); have hr := roundF_range hs.1 hs.2
                        rw [markU_length]; omega
                      intro h20
                      intro h21
                      refine ⟨?_, ?_⟩
                      · have hs := q_0.2 x_3.1 (by omega); have hr := roundF_range hs.1 hs.2
                        simp only [I64]; omega
                      have hs := q_0.2 x_3.1 (by omega); have hr := roundF_range hs.1 hs.2
                      exact ⟨x_6 + 1, by omega, by omega, ⟨by omega, trivial⟩, markU_set (by omega) (by omega), (by repeat' (first | exact trivial | rfl | apply And.intro))⟩
                    · try simp only [decide_eq_true_eq, decide_eq_false_iff_not, beq_iff_eq, beq_eq_false_iff_ne, bne_iff_ne, bne_eq_false_iff_eq, Bool.not_eq_true', Bool.not_eq_false', Bool.not_eq_true, Bool.not_eq_false, ne_eq, Bool.and_eq_true, Bool.or_eq_true, Bool.and_eq_false_iff, Bool.or_eq_false_iff, reduceCtorEq, Int.not_lt, Int.not_le] at h17
                      refine ⟨?_, ?_⟩
                      · simp only [List.length_singleton, true_and]; omega
                      intro h18
                      intro h19
                      refine ⟨?_, ?_⟩
                      · have hs := q_0.2 x_3.1 (by omega); have hr := roundF_range hs.1 hs.2
                        simp only [I64]; omega
                      have hs := q_0.2 x_3.1 (by omega); have hr := roundF_range hs.1 hs.2; have e5 : x_5 = Int.toNat (roundF (nth (.int .i64) s x_3.1)) := (by omega); rw [e5] at h13; have hb := q_4.2.symm.trans (baseU_stop h13); rw [baseU_used q_3.2.2.1 (by omega) _ _ (by omega)] at hb
                      exact ⟨(x_3.1 + 1, x_3.2.1 ++ [(16 * (x_4 : Int), roundF (nth (.int .i64) s x_3.1), ())], _), ⟨by omega, by rw [← q_3.2.1, goBases_step (k := x_3.1) (by omega), if_neg (by rw [hb]; omega), hb], okR_snoc q_3.2.2.1 (by refine ⟨?_, ?_, ?_, ?_⟩ <;> simp only <;> omega), by simp only [List.length_append, List.length_singleton]; omega, by simp only [List.length_append, List.length_singleton]; omega⟩, by simp only; omega, ⟨by simp only; omega, rfl, trivial⟩, markU_full (by omega), (by repeat' (first | exact trivial | rfl | apply And.intro))⟩
                · try simp only [decide_eq_true_eq, decide_eq_false_iff_not, beq_iff_eq, beq_eq_false_iff_ne, bne_iff_ne, bne_eq_false_iff_eq, Bool.not_eq_true', Bool.not_eq_false', Bool.not_eq_true, Bool.not_eq_false, ne_eq, Bool.and_eq_true, Bool.or_eq_true, Bool.and_eq_false_iff, Bool.or_eq_false_iff, reduceCtorEq, Int.not_lt, Int.not_le] at h13
                  intro h14
                  intro h15
                  refine ⟨?_, ?_⟩
                  · have hs := q_0.2 x_3.1 (by omega); have hr := roundF_range hs.1 hs.2
                    simp only [I64]; omega
                  have hs := q_0.2 x_3.1 (by omega); have hr := roundF_range hs.1 hs.2
                  have hfu : freeU (usedT x_3.2.1) (16 * (x_4 : Int)) (roundF (nth (.int .i64) s x_3.1)).toNat = false := freeU_mono (by omega) h13
                  have hn := free_near q_3.2.2.1 ((freeU_used q_3.2.2.1 (by omega) (by omega)).symm.trans hfu)
                  exact ⟨x_4 + 1, ⟨by omega, by rw [← q_4.2, show 40 - x_4 = (40 - (x_4 + 1)) + 1 by omega, baseU_go hfu, show 16 * ((x_4 + 1 : Nat) : Int) = 16 * (x_4 : Int) + 16 by omega]⟩, by omega, ⟨by omega, trivial⟩, (by repeat' (first | exact trivial | rfl | apply And.intro))⟩
            · try simp only [decide_eq_true_eq, decide_eq_false_iff_not, beq_iff_eq, beq_eq_false_iff_ne, bne_iff_ne, bne_eq_false_iff_eq, Bool.not_eq_true', Bool.not_eq_false', Bool.not_eq_true, Bool.not_eq_false, ne_eq, Bool.and_eq_true, Bool.or_eq_true, Bool.and_eq_false_iff, Bool.or_eq_false_iff, reduceCtorEq, Int.not_lt, Int.not_le] at h11
              unfold rbasesF; rw [basesF_ok (by omega) (fun j hj => q_0.2 j (by omega)) (fun j hj => q_1.2 j (by omega)), ← q_3.2.1, goBases_end (by omega)]; rfl
theorem Try.ok_RBases : PureOK Try.prog Try.B.eT 25 [.slice (.int .i64), .slice tRange] [.slice (.int .i64), .int .i64] (fun _ => True) (fun x y => y = (fun x => rbasesF x) x) :=
  pure_fn (X := noExt) Try.rplaceCtxOK Try.func25 (by kernel_rfl) (fun x => rbasesAnn x.1 x.2) (fun x hw hp => vc_RBases x.1 x.2 hw)
end Go.Proofs.Ytgokjhhcfemnhaa

