/- A part of the proof that the law TopFull holds of the given program: facts that are used there. -/
import Derived.Test.YtgokjhhcfemnhabName
import Derived.Test.YtgokjhhcfemnhabMrl10
set_option linter.unusedSimpArgs false
set_option linter.unusedVariables false
namespace Go.Proofs.Ytgokjhhcfemnhab
open Go.Vg Go.Mrl
/-! Package place. -/

set_option maxRecDepth 100000 in
set_option maxHeartbeats 1000000 in
theorem vc_Round (n : Int) (hw : wfL [.int .i64] n) (hp : (fun n => 0 ≤ n ∧ n ≤ 1000000) n) : (fnVCs Try.B [] Try.f20 [] [.int .i64] [.int .i64] (fun x y => y = (fun n => roundF n) x) n).holds := by
  refine holds_of (p :=
    ((I64 n) →
      ((I64 (16 : Int)) →
      (I64 (n + (16 : Int))) ∧
      ((I64 (n + (16 : Int))) →
      ((I64 (1 : Int)) →
      (I64 (n + (16 : Int) - (1 : Int))) ∧
      ((16 : Int) ≠ (0 : Int)) ∧
      (∀ x_0 : Int,
      ((x_0 = Int.tdiv (n + (16 : Int) - (1 : Int)) (16 : Int)) →
      ((I64 (n + (16 : Int) - (1 : Int))) →
      ((I64 (16 : Int)) →
      (I64 x_0) ∧
      (∀ x_1 : Int,
      ((x_1 = x_0 * (16 : Int)) →
      ((I64 x_0) →
      ((I64 (16 : Int)) →
      (I64 x_1) ∧
      (x_1 = roundF n)))))))))))))) (by kernel_rfl) ?_
  try dsimp only at hp
  intro h0
  intro h1
  refine ⟨?_, ?_⟩
  · first | omega | (simp only [I64] at *; omega) | (subst_vars; rw [Int.tdiv_eq_ediv_of_nonneg (by omega)]; (try unfold roundF); (try simp only [I64]); omega)
  intro h2
  intro h3
  refine ⟨?_, ?_⟩
  · first | omega | (simp only [I64] at *; omega) | (subst_vars; rw [Int.tdiv_eq_ediv_of_nonneg (by omega)]; (try unfold roundF); (try simp only [I64]); omega)
  refine ⟨?_, ?_⟩
  · first | omega | (simp only [I64] at *; omega) | (subst_vars; rw [Int.tdiv_eq_ediv_of_nonneg (by omega)]; (try unfold roundF); (try simp only [I64]); omega)
  intro x_0 q_0
  intro h4
  intro h5
  refine ⟨?_, ?_⟩
  · first | omega | (simp only [I64] at *; omega) | (subst_vars; rw [Int.tdiv_eq_ediv_of_nonneg (by omega)]; (try unfold roundF); (try simp only [I64]); omega)
  intro x_1 q_1
  intro h6
  intro h7
  refine ⟨?_, ?_⟩
  · first | omega | (simp only [I64] at *; omega) | (subst_vars; rw [Int.tdiv_eq_ediv_of_nonneg (by omega)]; (try unfold roundF); (try simp only [I64]); omega)
  first | omega | (simp only [I64] at *; omega) | (subst_vars; rw [Int.tdiv_eq_ediv_of_nonneg (by omega)]; (try unfold roundF); (try simp only [I64]); omega)
theorem Try.ok_Round : PureOK Try.prog Try.B.eT 20 [.int .i64] [.int .i64] (fun n => 0 ≤ n ∧ n ≤ 1000000) (fun x y => y = (fun n => roundF n) x) :=
  pure_fn (X := noExt) (ctx0 Try.tyOK) Try.func20 (by kernel_rfl) (fun _ => []) (fun x hw hp => vc_Round x hw hp)
set_option maxRecDepth 100000 in
set_option maxHeartbeats 1000000 in
theorem vc_Apart (a : Int × Int × Unit) (b : Int × Int × Unit) (hw : wfL [tRange, tRange] (a, b)) (hp : (fun x => bnd x.1 ∧ bnd x.2) (a, b)) : (fnVCs Try.B [] Try.f21 [] [tRange, tRange] [.bool] (fun x y => y = (fun x => apartF x.1 x.2) x) (a, b)).holds := by
  refine holds_of (p :=
    (((decide (a.snd.fst ≤ (0 : Int))) = true →
        (true = apartF a b)) ∧
      ((decide (a.snd.fst ≤ (0 : Int))) = false →
        (((decide (b.snd.fst ≤ (0 : Int))) = true →
          (true = apartF a b)) ∧
        ((decide (b.snd.fst ≤ (0 : Int))) = false →
          ((I64 a.fst) →
          ((I64 a.snd.fst) →
          (I64 (a.fst + a.snd.fst)) ∧
          (((decide (a.fst + a.snd.fst ≤ b.fst)) = true →
            (true = apartF a b)) ∧
          ((decide (a.fst + a.snd.fst ≤ b.fst)) = false →
            ((I64 b.fst) →
            ((I64 b.snd.fst) →
            (I64 (b.fst + b.snd.fst)) ∧
            (decide (b.fst + b.snd.fst ≤ a.fst) = apartF a b)))))))))))) (by kernel_rfl) ?_
  try dsimp only at hp
  simp only [bnd] at hp
  refine ⟨fun h0 => ?_, fun h0 => ?_⟩
  · try simp only [decide_eq_true_eq, decide_eq_false_iff_not, beq_iff_eq, beq_eq_false_iff_ne, bne_iff_ne, bne_eq_false_iff_eq, Bool.not_eq_true', Bool.not_eq_false', Bool.not_eq_true, Bool.not_eq_false, ne_eq, Bool.and_eq_true, Bool.or_eq_true, Bool.and_eq_false_iff, Bool.or_eq_false_iff, reduceCtorEq, Int.not_lt, Int.not_le] at h0
    first | (simp only [I64] at *; omega) | (rw [Bool.eq_iff_iff]; simp only [apartF, Bool.or_eq_true, decide_eq_true_eq, true_iff]; omega)
  · try simp only [decide_eq_true_eq, decide_eq_false_iff_not, beq_iff_eq, beq_eq_false_iff_ne, bne_iff_ne, bne_eq_false_iff_eq, Bool.not_eq_true', Bool.not_eq_false', Bool.not_eq_true, Bool.not_eq_false, ne_eq, Bool.and_eq_true, Bool.or_eq_true, Bool.and_eq_false_iff, Bool.or_eq_false_iff, reduceCtorEq, Int.not_lt, Int.not_le] at h0
    refine ⟨fun h1 => ?_, fun h1 => ?_⟩
    · try simp only [decide_eq_true_eq, decide_eq_false_iff_not, beq_iff_eq, beq_eq_false_iff_ne, bne_iff_ne, bne_eq_false_iff_eq, Bool.not_eq_true', Bool.not_eq_false', Bool.not_eq_true, Bool.not_eq_false, ne_eq, Bool.and_eq_true, Bool.or_eq_true, Bool.and_eq_false_iff, Bool.or_eq_false_iff, reduceCtorEq, Int.not_lt, Int.not_le] at h1
      first | (simp only [I64] at *; omega) | (rw [Bool.eq_iff_iff]; simp only [apartF, Bool.or_eq_true, decide_eq_true_eq, true_iff]; omega)
    · try simp only [decide_eq_true_eq, decide_eq_false_iff_not, beq_iff_eq, beq_eq_false_iff_ne, bne_iff_ne, bne_eq_false_iff_eq, Bool.not_eq_true', Bool.not_eq_false', Bool.not_eq_true, Bool.not_eq_false, ne_eq, Bool.and_eq_true, Bool.or_eq_true, Bool.and_eq_false_iff, Bool.or_eq_false_iff, reduceCtorEq, Int.not_lt, Int.not_le] at h1
      intro h2
      intro h3
      refine ⟨?_, ?_⟩
      · first | (simp only [I64] at *; omega) | (rw [Bool.eq_iff_iff]; simp only [apartF, Bool.or_eq_true, decide_eq_true_eq, true_iff]; omega)
      refine ⟨fun h4 => ?_, fun h4 => ?_⟩
      · try simp only [decide_eq_true_eq, decide_eq_false_iff_not, beq_iff_eq, beq_eq_false_iff_ne, bne_iff_ne, bne_eq_false_iff_eq, Bool.not_eq_true', Bool.not_eq_false', Bool.not_eq_true, Bool.not_eq_false, ne_eq, Bool.and_eq_true, Bool.or_eq_true, Bool.and_eq_false_iff, Bool.or_eq_false_iff, reduceCtorEq, Int.not_lt, Int.not_le] at h4
        first | (simp only [I64] at *; omega) | (rw [Bool.eq_iff_iff]; simp only [apartF, Bool.or_eq_true, decide_eq_true_eq, true_iff]; omega)
      · try simp only [decide_eq_true_eq, decide_eq_false_iff_not, beq_iff_eq, beq_eq_false_iff_ne, bne_iff_ne, bne_eq_false_iff_eq, Bool.not_eq_true', Bool.not_eq_false', Bool.not_eq_true, Bool.not_eq_false, ne_eq, Bool.and_eq_true, Bool.or_eq_true, Bool.and_eq_false_iff, Bool.or_eq_false_iff, reduceCtorEq, Int.not_lt, Int.not_le] at h4
        intro h5
        intro h6
        refine ⟨?_, ?_⟩
        · first | (simp only [I64] at *; omega) | (rw [Bool.eq_iff_iff]; simp only [apartF, Bool.or_eq_true, decide_eq_true_eq, true_iff]; omega)
        first | (simp only [I64] at *; omega) | (rw [Bool.eq_iff_iff]; simp only [apartF, Bool.or_eq_true, decide_eq_true_eq, true_iff]; omega)
theorem Try.ok_Apart : PureOK Try.prog Try.B.eT 21 [tRange, tRange] [.bool] (fun x => bnd x.1 ∧ bnd x.2) (fun x y => y = (fun x => apartF x.1 x.2) x) :=
  pure_fn (X := noExt) (ctx0 Try.tyOK) Try.func21 (by kernel_rfl) (fun _ => []) (fun x hw hp => vc_Apart x.1 x.2 hw hp)
noncomputable def Try.place1Ctx : List (FuncId × (Bool × CSpec)) := [(21, (true, funSpec [tRange, tRange] [.bool] (fun x => bnd x.1 ∧ bnd x.2) (fun x => apartF x.1 x.2)))]
theorem Try.place1CtxOK {X : Ext} : CtxOK Try.prog Try.B X Try.place1Ctx :=
  ctx1 (callOK_of_fun Try.ok_Apart) (ctx0 Try.tyOK)
noncomputable def Try.free1Ctx : List (FuncId × (Bool × CSpec)) := [(46, (false, inlineSpec Try.B Try.place1Ctx Try.f46 []))]
theorem Try.free1CtxOK {X : Ext} : CtxOK Try.prog Try.B X Try.free1Ctx :=
  ctx1 (callOK_inline Try.place1CtxOK Try.func46 (by kernel_rfl) []) (ctx0 Try.tyOK)
def indexAnnR : Anns := [(0, fun st => { X := Nat, inv := fun i => i ≤ (tmpD (.slice tRange) st 0).length ∧ ∀ j, j < i → apartF (boxD tRange st (capOf st 1 0)) (nth tRange (tmpD (.slice tRange) st 0) j) = true, meas := fun i => (tmpD (.slice tRange) st 0).length - i, slots := fun i => [(8, sI i)], keep := [0, 1, 7] })]
noncomputable def Try.free2Ctx : List (FuncId × (Bool × CSpec)) := [(50, (false, inlineSpec Try.B Try.free1Ctx Try.f50 indexAnnR))]
theorem Try.free2CtxOK {X : Ext} : CtxOK Try.prog Try.B X Try.free2Ctx :=
  ctx1 (callOK_inline Try.free1CtxOK Try.func50 (by kernel_rfl) indexAnnR) (ctx0 Try.tyOK)
noncomputable def Try.free3Ctx : List (FuncId × (Bool × CSpec)) := [(45, (false, inlineSpec Try.B Try.free2Ctx Try.f45 []))]
theorem Try.free3CtxOK {X : Ext} : CtxOK Try.prog Try.B X Try.free3Ctx :=
  ctx1 (callOK_inline Try.free2CtxOK Try.func45 (by kernel_rfl) []) (ctx0 Try.tyOK)
set_option maxRecDepth 100000 in
set_option maxHeartbeats 1000000 in
theorem vc_free (r : Int × Int × Unit) (l : List (D tRange)) (hw : wfL [tRange, .slice tRange] (r, l)) (hp : (fun x => bnd x.1 ∧ ∀ y ∈ x.2, bnd y) (r, l)) : (fnVCs Try.B Try.free3Ctx Try.f36 [] [tRange, .slice tRange] [.bool] (fun x y => y = (fun x => freeF x.1 x.2) x) (r, l)).holds := by
  refine holds_of (p :=
    ((List.length l ≤ big) →
      (∃ (x : Nat), (x ≤ List.length l ∧ ∀ (j : Nat), j < x → apartF (r.fst, r.snd.fst, ()) (nth tRange l j) = true) ∧ ((0 : Int) = (↑x : Int) ∧ True) ∧ True) ∧
      (∀ x_0 : Nat,
      ((x_0 ≤ List.length l ∧ ∀ (j : Nat), j < x_0 → apartF (r.fst, r.snd.fst, ()) (nth tRange l j) = true) →
      (((decide ((↑x_0 : Int) < (↑(List.length l) : Int))) = true →
        ((0 : Int) ≤ (↑x_0 : Int) ∧ (↑x_0 : Int) < (↑(List.length l) : Int)) ∧
        (bnd (r.fst, r.snd.fst, ()) ∧ bnd ((nth tRange l x_0).fst, (nth tRange l x_0).snd.fst, ())) ∧
        (((!apartF (r.fst, r.snd.fst, ()) ((nth tRange l x_0).fst, (nth tRange l x_0).snd.fst, ())) = true →
          ((!decide ((↑x_0 : Int) ≥ (0 : Int))) = freeF r l)) ∧
        ((!apartF (r.fst, r.snd.fst, ()) ((nth tRange l x_0).fst, (nth tRange l x_0).snd.fst, ())) = false →
          ((I64 (↑x_0 : Int)) →
          ((I64 (1 : Int)) →
          (I64 ((↑x_0 : Int) + (1 : Int))) ∧
          (∃ (x' : Nat), (x' ≤ List.length l ∧ ∀ (j : Nat), j < x' → apartF (r.fst, r.snd.fst, ()) (nth tRange l j) = true) ∧ List.length l - x' < List.length l - x_0 ∧ ((↑x_0 : Int) + (1 : Int) = (↑x' : Int) ∧ True) ∧ (r.fst = r.fst ∧ r.snd.fst = r.snd.fst ∧ True) ∧ True)))))) ∧
      ((decide ((↑x_0 : Int) < (↑(List.length l) : Int))) = false →
        ((!decide ((-1 : Int) ≥ (0 : Int))) = freeF r l))))))) (by kernel_rfl) ?_
  try dsimp only at hp
  intro h0
  refine ⟨?_, ?_⟩
  · refine ⟨0, ?_⟩; (repeat' (first | exact trivial | rfl | omega | assumption | apply And.intro))
  intro x_0 q_0
  refine ⟨fun h1 => ?_, fun h1 => ?_⟩
  · try simp only [decide_eq_true_eq, decide_eq_false_iff_not, beq_iff_eq, beq_eq_false_iff_ne, bne_iff_ne, bne_eq_false_iff_eq, Bool.not_eq_true', Bool.not_eq_false', Bool.not_eq_true, Bool.not_eq_false, ne_eq, Bool.and_eq_true, Bool.or_eq_true, Bool.and_eq_false_iff, Bool.or_eq_false_iff, reduceCtorEq, Int.not_lt, Int.not_le] at h1
    refine ⟨?_, ?_⟩
    · first | exact True.intro | rfl | omega | assumption | (dsimp only [D] at *; omega) | (simp only [I64, big] at *; omega) | (simp_all; done)
    refine ⟨?_, ?_⟩
    · exact ⟨hp.1, hp.2 _ (nth_mem (by omega))⟩
    refine ⟨fun h2 => ?_, fun h2 => ?_⟩
    · try simp only [decide_eq_true_eq, decide_eq_false_iff_not, beq_iff_eq, beq_eq_false_iff_ne, bne_iff_ne, bne_eq_false_iff_eq, Bool.not_eq_true', Bool.not_eq_false', Bool.not_eq_true, Bool.not_eq_false, ne_eq, Bool.and_eq_true, Bool.or_eq_true, Bool.and_eq_false_iff, Bool.or_eq_false_iff, reduceCtorEq, Int.not_lt, Int.not_le] at h2
      rw [freeF_false (j := x_0) (by omega) h2]; simp
    · try simp only [decide_eq_true_eq, decide_eq_false_iff_not, beq_iff_eq, beq_eq_false_iff_ne, bne_iff_ne, bne_eq_false_iff_eq, Bool.not_eq_true', Bool.not_eq_false', Bool.not_eq_true, Bool.not_eq_false, ne_eq, Bool.and_eq_true, Bool.or_eq_true, Bool.and_eq_false_iff, Bool.or_eq_false_iff, reduceCtorEq, Int.not_lt, Int.not_le] at h2
      intro h3
      intro h4
      refine ⟨?_, ?_⟩
      · first | exact True.intro | rfl | omega | assumption | (dsimp only [D] at *; omega) | (simp only [I64, big] at *; omega) | (simp_all; done)
      exact ⟨x_0 + 1, ⟨by omega, fun j hj => by by_cases e : j = x_0; (subst e; exact h2); exact q_0.2 j (by omega)⟩, by omega, ⟨by omega, trivial⟩, (by repeat' (first | exact trivial | rfl | apply And.intro))⟩
  · try simp only [decide_eq_true_eq, decide_eq_false_iff_not, beq_iff_eq, beq_eq_false_iff_ne, bne_iff_ne, bne_eq_false_iff_eq, Bool.not_eq_true', Bool.not_eq_false', Bool.not_eq_true, Bool.not_eq_false, ne_eq, Bool.and_eq_true, Bool.or_eq_true, Bool.and_eq_false_iff, Bool.or_eq_false_iff, reduceCtorEq, Int.not_lt, Int.not_le] at h1
    rw [freeF_true fun j hj => q_0.2 j (by omega)]; simp
theorem Try.ok_free : PureOK Try.prog Try.B.eT 36 [tRange, .slice tRange] [.bool] (fun x => bnd x.1 ∧ ∀ y ∈ x.2, bnd y) (fun x y => y = (fun x => freeF x.1 x.2) x) :=
  pure_fn (X := noExt) Try.free3CtxOK Try.func36 (by kernel_rfl) (fun _ => []) (fun x hw hp => vc_free x.1 x.2 hw hp)
noncomputable def Try.placeCtx : List (FuncId × (Bool × CSpec)) := [(44, (true, funSpec [.str] [.err] (fun _ => True) (fun s => errNo (nameFault s)))),
  (18, (true, funSpec [.str] [.int .u32] (fun _ => True) (fun s => (hashF s : Int)))),
  (22, (true, funSpec [.err] [.int .i64] (fun _ => True) (fun e => numE e))),
  (20, (true, funSpec [.int .i64] [.int .i64] (fun n => 0 ≤ n ∧ n ≤ 1000000) (fun n => roundF n))),
  (21, (true, funSpec [tRange, tRange] [.bool] (fun x => bnd x.1 ∧ bnd x.2) (fun x => apartF x.1 x.2))),
  (36, (true, funSpec [tRange, .slice tRange] [.bool] (fun x => bnd x.1 ∧ ∀ y ∈ x.2, bnd y) (fun x => freeF x.1 x.2)))]
theorem Try.placeCtxOK {X : Ext} : CtxOK Try.prog Try.B X Try.placeCtx :=
  ctx1 (callOK_of_fun Try.ok_Check) (ctx1 (callOK_of_fun Try.ok_Hash) (ctx1 (callOK_of_fun Try.ok_number) (ctx1 (callOK_of_fun Try.ok_Round) (ctx1 (callOK_of_fun Try.ok_Apart) (ctx1 (callOK_of_fun Try.ok_free) (ctx0 Try.tyOK))))))
def basesAnn (s : List Int) (l : List (D tRange)) : Anns := [
  (0, fun st => { X := Nat, inv := fun i => i ≤ s.length ∧ ∀ j, j < i → 1 ≤ (nth (.int .i64) s j : Int) ∧ (nth (.int .i64) s j : Int) ≤ 40, meas := fun i => s.length - i, slots := fun i => [(26, sI i)], keep := [0, 1, 24, 25] }),
  (2, fun st => { X := Nat, inv := fun i => i ≤ l.length ∧ ∀ j, j < i → okR (nth tRange l j), meas := fun i => l.length - i, slots := fun i => [(40, sI i)], keep := [0, 1, 38, 39] }),
  (4, fun st => { X := Nat × List (D tRange) × List Int, inv := fun x => x.1 ≤ s.length ∧ goBases x.2.1 (s.drop x.1) x.2.2 = goBases l s [] ∧ (∀ y ∈ x.2.1, okR y) ∧ x.2.1.length = l.length + x.1 ∧ x.2.2.length = x.1, meas := fun x => s.length - x.1, slots := fun x => [(68, sI x.1), (10, .s (.one (.app tRange x.2.1 (objOf st 10)))), (11, .s (.one (.app (.int .i64) x.2.2 (objOf st 11))))], objs := fun x => [(objOf st 10, .tok tRange x.2.1), (objOf st 11, .tok (.int .i64) x.2.2)], keep := [66, 67], mods := [objOf st 10, objOf st 11] }),
  (6, fun st => { X := Nat, inv := fun j => j ≤ 32 ∧ baseAt (tmpD (.slice tRange) st 10) (cellD (.int .i64) st (objOf st 14) 1) (40 - j) (16 * (j : Int)) = baseAt (tmpD (.slice tRange) st 10) (cellD (.int .i64) st (objOf st 14) 1) 40 0, meas := fun j => 40 - j, slots := fun j => [], objs := fun j => [(objOf st 14, .cells 62 [.d (.int .i64) (16 * (j : Int)), .d (.int .i64) (cellD (.int .i64) st (objOf st 14) 1)])], keep := [4, 5, 10, 11, 13, 14, 66, 67, 68, 69, 70, 71, 72, 73, 74], mods := [objOf st 14] })]
set_option maxRecDepth 100000 in
set_option maxHeartbeats 1000000 in
theorem vc_Bases (s : List Int) (l : List (D tRange)) (hw : wfL [.slice (.int .i64), .slice tRange] (s, l)) : (fnVCs (hintB Try.B [65]) Try.placeCtx Try.f19 (basesAnn s l) [.slice (.int .i64), .slice tRange] [.slice (.int .i64), .err] (fun x y => y = (fun x => basesF x) x) (s, l)).holds := by
  refine holds_of (p :=
    ((List.length s ≤ big) →
      (((decide ((↑(List.length s) : Int) > (6 : Int))) = true →
        (([], Err.no (2 : Int)) = basesF (s, l))) ∧
      ((decide ((↑(List.length s) : Int) > (6 : Int))) = false →
        ((List.length l ≤ big) →
        (((decide ((↑(List.length l) : Int) > (20 : Int))) = true →
          (([], Err.no (2 : Int)) = basesF (s, l))) ∧
        ((decide ((↑(List.length l) : Int) > (20 : Int))) = false →
          ((List.length s ≤ big) →
          (∃ (x : Nat), (x ≤ List.length s ∧ ∀ (j : Nat), j < x → (1 : Int) ≤ nth (Ty.int IntKind.i64) s j ∧ nth (Ty.int IntKind.i64) s j ≤ (40 : Int)) ∧ ((0 : Int) = (↑x : Int) ∧ True) ∧ True) ∧
          (∀ x_0 : Nat,
          ((x_0 ≤ List.length s ∧ ∀ (j : Nat), j < x_0 → (1 : Int) ≤ nth (Ty.int IntKind.i64) s j ∧ nth (Ty.int IntKind.i64) s j ≤ (40 : Int)) →
          (((decide ((↑x_0 : Int) < (↑(List.length s) : Int))) = true →
            ((0 : Int) ≤ (↑x_0 : Int) ∧ (↑x_0 : Int) < (↑(List.length s) : Int)) ∧
            (((decide (nth (Ty.int IntKind.i64) s x_0 < (1 : Int))) = true →
              (([], Err.no (1 : Int)) = basesF (s, l))) ∧
            ((decide (nth (Ty.int IntKind.i64) s x_0 < (1 : Int))) = false →
              (((decide (nth (Ty.int IntKind.i64) s x_0 > (40 : Int))) = true →
                (([], Err.no (1 : Int)) = basesF (s, l))) ∧
              ((decide (nth (Ty.int IntKind.i64) s x_0 > (40 : Int))) = false →
                ((I64 (↑x_0 : Int)) →
                ((I64 (1 : Int)) →
                (I64 ((↑x_0 : Int) + (1 : Int))) ∧
                (∃ (x' : Nat), (x' ≤ List.length s ∧ ∀ (j : Nat), j < x' → (1 : Int) ≤ nth (Ty.int IntKind.i64) s j ∧ nth (Ty.int IntKind.i64) s j ≤ (40 : Int)) ∧ List.length s - x' < List.length s - x_0 ∧ ((↑x_0 : Int) + (1 : Int) = (↑x' : Int) ∧ True) ∧ @List.nil Int = @List.nil Int ∧ True)))))))) ∧
          ((decide ((↑x_0 : Int) < (↑(List.length s) : Int))) = false →
            ((List.length l ≤ big) →
            (∃ (x : Nat), (x ≤ List.length l ∧ ∀ (j : Nat), j < x → okR (nth tRange l j)) ∧ ((0 : Int) = (↑x : Int) ∧ True) ∧ True) ∧
            (∀ x_1 : Nat,
            ((x_1 ≤ List.length l ∧ ∀ (j : Nat), j < x_1 → okR (nth tRange l j)) →
            (((decide ((↑x_1 : Int) < (↑(List.length l) : Int))) = true →
              ((0 : Int) ≤ (↑x_1 : Int) ∧ (↑x_1 : Int) < (↑(List.length l) : Int)) ∧
              (((decide ((nth tRange l x_1).fst < (0 : Int))) = true →
                (([], Err.no (1 : Int)) = basesF (s, l))) ∧
              ((decide ((nth tRange l x_1).fst < (0 : Int))) = false →
                (((decide ((nth tRange l x_1).fst > (256 : Int))) = true →
                  (([], Err.no (1 : Int)) = basesF (s, l))) ∧
                ((decide ((nth tRange l x_1).fst > (256 : Int))) = false →
                  (((decide ((nth tRange l x_1).snd.fst < (0 : Int))) = true →
                    (([], Err.no (1 : Int)) = basesF (s, l))) ∧
                  ((decide ((nth tRange l x_1).snd.fst < (0 : Int))) = false →
                    (((decide ((nth tRange l x_1).snd.fst > (256 : Int))) = true →
                      (([], Err.no (1 : Int)) = basesF (s, l))) ∧
                    ((decide ((nth tRange l x_1).snd.fst > (256 : Int))) = false →
                      ((I64 (↑x_1 : Int)) →
                      ((I64 (1 : Int)) →
                      (I64 ((↑x_1 : Int) + (1 : Int))) ∧
                      (∃ (x' : Nat), (x' ≤ List.length l ∧ ∀ (j : Nat), j < x' → okR (nth tRange l j)) ∧ List.length l - x' < List.length l - x_1 ∧ ((↑x_1 : Int) + (1 : Int) = (↑x' : Int) ∧ True) ∧ @List.nil Int = @List.nil Int ∧ True)))))))))))) ∧
            ((decide ((↑x_1 : Int) < (↑(List.length l) : Int))) = false →
              (List.length l ≤ (1000000000 : Nat)) ∧
              ((List.length s ≤ big) →
              (∃ (x : Nat × List (Int × Int × Unit) × List Int), (x.fst ≤ List.length s ∧ goBases x.snd.fst (List.drop x.fst s) x.snd.snd = goBases l s (@List.nil Int) ∧ (∀ (y : Int × Int × Unit), y ∈ x.snd.fst → okR y) ∧ List.length x.snd.fst = List.length l + x.fst ∧ List.length x.snd.snd = x.fst) ∧ ((0 : Int) = (↑x.fst : Int) ∧ l = x.snd.fst ∧ @List.nil Int = x.snd.snd ∧ True) ∧ l = x.snd.fst ∧ @List.nil Int = x.snd.snd ∧ True) ∧
              (∀ x_2 : Nat × List (Int × Int × Unit) × List Int,
              ((x_2.fst ≤ List.length s ∧ goBases x_2.snd.fst (List.drop x_2.fst s) x_2.snd.snd = goBases l s (@List.nil Int) ∧ (∀ (y : Int × Int × Unit), y ∈ x_2.snd.fst → okR y) ∧ List.length x_2.snd.fst = List.length l + x_2.fst ∧ List.length x_2.snd.snd = x_2.fst) →
              (((decide ((↑x_2.fst : Int) < (↑(List.length s) : Int))) = true →
                ((0 : Int) ≤ (↑x_2.fst : Int) ∧ (↑x_2.fst : Int) < (↑(List.length s) : Int)) ∧
                ((0 : Int) ≤ nth (Ty.int IntKind.i64) s x_2.fst ∧ nth (Ty.int IntKind.i64) s x_2.fst ≤ (1000000 : Int)) ∧
                (∃ (x : Nat), (x ≤ (32 : Nat) ∧ baseAt x_2.snd.fst (roundF (nth (Ty.int IntKind.i64) s x_2.fst)) ((40 : Nat) - x) ((16 : Int) * (↑x : Int)) = baseAt x_2.snd.fst (roundF (nth (Ty.int IntKind.i64) s x_2.fst)) (40 : Nat) (0 : Int)) ∧ True ∧ ((0 : Int) = (16 : Int) * (↑x : Int) ∧ roundF (nth (Ty.int IntKind.i64) s x_2.fst) = roundF (nth (Ty.int IntKind.i64) s x_2.fst) ∧ True) ∧ True) ∧
                (∀ x_3 : Nat,
                ((x_3 ≤ (32 : Nat) ∧ baseAt x_2.snd.fst (roundF (nth (Ty.int IntKind.i64) s x_2.fst)) ((40 : Nat) - x_3) ((16 : Int) * (↑x_3 : Int)) = baseAt x_2.snd.fst (roundF (nth (Ty.int IntKind.i64) s x_2.fst)) (40 : Nat) (0 : Int)) →
                (bnd ((16 : Int) * (↑x_3 : Int), roundF (nth (Ty.int IntKind.i64) s x_2.fst), ()) ∧ ∀ (y : Int × Int × Unit), y ∈ x_2.snd.fst → bnd y) ∧
                (((!freeF ((16 : Int) * (↑x_3 : Int), roundF (nth (Ty.int IntKind.i64) s x_2.fst), ()) x_2.snd.fst) = true →
                  ((I64 ((16 : Int) * (↑x_3 : Int))) →
                  ((I64 (16 : Int)) →
                  (I64 ((16 : Int) * (↑x_3 : Int) + (16 : Int))) ∧
                  (∃ (x' : Nat), (x' ≤ (32 : Nat) ∧ baseAt x_2.snd.fst (roundF (nth (Ty.int IntKind.i64) s x_2.fst)) ((40 : Nat) - x') ((16 : Int) * (↑x' : Int)) = baseAt x_2.snd.fst (roundF (nth (Ty.int IntKind.i64) s x_2.fst)) (40 : Nat) (0 : Int)) ∧ (40 : Nat) - x' < (40 : Nat) - x_3 ∧ True ∧ ((16 : Int) * (↑x_3 : Int) + (16 : Int) = (16 : Int) * (↑x' : Int) ∧ roundF (nth (Ty.int IntKind.i64) s x_2.fst) = roundF (nth (Ty.int IntKind.i64) s x_2.fst) ∧ True) ∧ x_2.snd.fst = x_2.snd.fst ∧ x_2.snd.snd = x_2.snd.snd ∧ @List.nil Int = @List.nil Int ∧ True)))) ∧
                ((!freeF ((16 : Int) * (↑x_3 : Int), roundF (nth (Ty.int IntKind.i64) s x_2.fst), ()) x_2.snd.fst) = false →
                  ((I64 ((16 : Int) * (↑x_3 : Int))) →
                  ((I64 (roundF (nth (Ty.int IntKind.i64) s x_2.fst))) →
                  (I64 ((16 : Int) * (↑x_3 : Int) + roundF (nth (Ty.int IntKind.i64) s x_2.fst))) ∧
                  (((decide ((16 : Int) * (↑x_3 : Int) + roundF (nth (Ty.int IntKind.i64) s x_2.fst) > (256 : Int))) = true →
                    (([], Err.no (8 : Int)) = basesF (s, l))) ∧
                  ((decide ((16 : Int) * (↑x_3 : Int) + roundF (nth (Ty.int IntKind.i64) s x_2.fst) > (256 : Int))) = false →
                    (x_2.snd.fst = x_2.snd.fst ∧ List.length x_2.snd.fst + List.length [((16 : Int) * (↑x_3 : Int), roundF (nth (Ty.int IntKind.i64) s x_2.fst), ())] ≤ (1000000000 : Nat)) ∧
                    (x_2.snd.snd = x_2.snd.snd ∧ List.length x_2.snd.snd + List.length [(16 : Int) * (↑x_3 : Int)] ≤ (1000000000 : Nat)) ∧
                    ((I64 (↑x_2.fst : Int)) →
                    ((I64 (1 : Int)) →
                    (I64 ((↑x_2.fst : Int) + (1 : Int))) ∧
                    (∃ (x' : Nat × List (Int × Int × Unit) × List Int), (x'.fst ≤ List.length s ∧ goBases x'.snd.fst (List.drop x'.fst s) x'.snd.snd = goBases l s (@List.nil Int) ∧ (∀ (y : Int × Int × Unit), y ∈ x'.snd.fst → okR y) ∧ List.length x'.snd.fst = List.length l + x'.fst ∧ List.length x'.snd.snd = x'.fst) ∧ List.length s - x'.fst < List.length s - x_2.fst ∧ ((↑x_2.fst : Int) + (1 : Int) = (↑x'.fst : Int) ∧ x_2.snd.fst ++ [((16 : Int) * (↑x_3 : Int), roundF (nth (Ty.int IntKind.i64) s x_2.fst), ())] = x'.snd.fst ∧ x_2.snd.snd ++ [(16 : Int) * (↑x_3 : Int)] = x'.snd.snd ∧ True) ∧ x_2.snd.fst ++ [((16 : Int) * (↑x_3 : Int), roundF (nth (Ty.int IntKind.i64) s x_2.fst), ())] = x'.snd.fst ∧ x_2.snd.snd ++ [(16 : Int) * (↑x_3 : Int)] = x'.snd.snd ∧ @List.nil Int = @List.nil Int ∧ True)))))))))))) ∧
              ((decide ((↑x_2.fst : Int) < (↑(List.length s) : Int))) = false →
                ((x_2.snd.snd, Err.nil) = basesF (s, l)))))))))))))))))))))))) (by kernel_rfl) ?_
  intro h0
  refine ⟨fun h1 => ?_, fun h1 => ?_⟩
  · try simp only [decide_eq_true_eq, decide_eq_false_iff_not, beq_iff_eq, beq_eq_false_iff_ne, bne_iff_ne, bne_eq_false_iff_eq, Bool.not_eq_true', Bool.not_eq_false', Bool.not_eq_true, Bool.not_eq_false, ne_eq, Bool.and_eq_true, Bool.or_eq_true, Bool.and_eq_false_iff, Bool.or_eq_false_iff, reduceCtorEq, Int.not_lt, Int.not_le] at h1
    rw [basesF_many (by omega)]
  · try simp only [decide_eq_true_eq, decide_eq_false_iff_not, beq_iff_eq, beq_eq_false_iff_ne, bne_iff_ne, bne_eq_false_iff_eq, Bool.not_eq_true', Bool.not_eq_false', Bool.not_eq_true, Bool.not_eq_false, ne_eq, Bool.and_eq_true, Bool.or_eq_true, Bool.and_eq_false_iff, Bool.or_eq_false_iff, reduceCtorEq, Int.not_lt, Int.not_le] at h1
    intro h2
    refine ⟨fun h3 => ?_, fun h3 => ?_⟩
    · try simp only [decide_eq_true_eq, decide_eq_false_iff_not, beq_iff_eq, beq_eq_false_iff_ne, bne_iff_ne, bne_eq_false_iff_eq, Bool.not_eq_true', Bool.not_eq_false', Bool.not_eq_true, Bool.not_eq_false, ne_eq, Bool.and_eq_true, Bool.or_eq_true, Bool.and_eq_false_iff, Bool.or_eq_false_iff, reduceCtorEq, Int.not_lt, Int.not_le] at h3
      rw [basesF_many (by omega)]
    · try simp only [decide_eq_true_eq, decide_eq_false_iff_not, beq_iff_eq, beq_eq_false_iff_ne, bne_iff_ne, bne_eq_false_iff_eq, Bool.not_eq_true', Bool.not_eq_false', Bool.not_eq_true, Bool.not_eq_false, ne_eq, Bool.and_eq_true, Bool.or_eq_true, Bool.and_eq_false_iff, Bool.or_eq_false_iff, reduceCtorEq, Int.not_lt, Int.not_le] at h3
      intro h4
      refine ⟨?_, ?_⟩
      · refine ⟨0, ?_⟩; (repeat' (first | exact trivial | rfl | omega | assumption | apply And.intro))
      intro x_0 q_0
      refine ⟨fun h5 => ?_, fun h5 => ?_⟩
      · try simp only [decide_eq_true_eq, decide_eq_false_iff_not, beq_iff_eq, beq_eq_false_iff_ne, bne_iff_ne, bne_eq_false_iff_eq, Bool.not_eq_true', Bool.not_eq_false', Bool.not_eq_true, Bool.not_eq_false, ne_eq, Bool.and_eq_true, Bool.or_eq_true, Bool.and_eq_false_iff, Bool.or_eq_false_iff, reduceCtorEq, Int.not_lt, Int.not_le] at h5
        refine ⟨?_, ?_⟩
        · first | exact True.intro | rfl | omega | assumption | (dsimp only [D] at *; omega) | (simp only [I64, big] at *; omega) | (simp_all; done)
        refine ⟨fun h6 => ?_, fun h6 => ?_⟩
        · try simp only [decide_eq_true_eq, decide_eq_false_iff_not, beq_iff_eq, beq_eq_false_iff_ne, bne_iff_ne, bne_eq_false_iff_eq, Bool.not_eq_true', Bool.not_eq_false', Bool.not_eq_true, Bool.not_eq_false, ne_eq, Bool.and_eq_true, Bool.or_eq_true, Bool.and_eq_false_iff, Bool.or_eq_false_iff, reduceCtorEq, Int.not_lt, Int.not_le] at h6
          (try dsimp only [D] at *); rw [basesF_size (by omega) (i := x_0) (by omega) (by (try dsimp only [D]); omega)]
        · try simp only [decide_eq_true_eq, decide_eq_false_iff_not, beq_iff_eq, beq_eq_false_iff_ne, bne_iff_ne, bne_eq_false_iff_eq, Bool.not_eq_true', Bool.not_eq_false', Bool.not_eq_true, Bool.not_eq_false, ne_eq, Bool.and_eq_true, Bool.or_eq_true, Bool.and_eq_false_iff, Bool.or_eq_false_iff, reduceCtorEq, Int.not_lt, Int.not_le] at h6
          refine ⟨fun h7 => ?_, fun h7 => ?_⟩
          · try simp only [decide_eq_true_eq, decide_eq_false_iff_not, beq_iff_eq, beq_eq_false_iff_ne, bne_iff_ne, bne_eq_false_iff_eq, Bool.not_eq_true', Bool.not_eq_false', Bool.not_eq_true, Bool.not_eq_false, ne_eq, Bool.and_eq_true, Bool.or_eq_true, Bool.and_eq_false_iff, Bool.or_eq_false_iff, reduceCtorEq, Int.not_lt, Int.not_le] at h7
            (try dsimp only [D] at *); rw [basesF_size (by omega) (i := x_0) (by omega) (by (try dsimp only [D]); omega)]
          · try simp only [decide_eq_true_eq, decide_eq_false_iff_not, beq_iff_eq, beq_eq_false_iff_ne, bne_iff_ne, bne_eq_false_iff_eq, Bool.not_eq_true', Bool.not_eq_false', Bool.not_eq_true, Bool.not_eq_false, ne_eq, Bool.and_eq_true, Bool.or_eq_true, Bool.and_eq_false_iff, Bool.or_eq_false_iff, reduceCtorEq, Int.not_lt, Int.not_le] at h7
            intro h8
            intro h9
            refine ⟨?_, ?_⟩
            · first | exact True.intro | rfl | omega | assumption | (dsimp only [D] at *; omega) | (simp only [I64, big] at *; omega) | (simp_all; done)
            (try dsimp only [D] at *); exact ⟨x_0 + 1, ⟨by omega, fun j hj => by by_cases e : j = x_0; (subst e; (try dsimp only [D]); omega); exact q_0.2 j (by omega)⟩, by omega, ⟨by omega, trivial⟩, (by repeat' (first | exact trivial | rfl | apply And.intro))⟩
      · try simp only [decide_eq_true_eq, decide_eq_false_iff_not, beq_iff_eq, beq_eq_false_iff_ne, bne_iff_ne, bne_eq_false_iff_eq, Bool.not_eq_true', Bool.not_eq_false', Bool.not_eq_true, Bool.not_eq_false, ne_eq, Bool.and_eq_true, Bool.or_eq_true, Bool.and_eq_false_iff, Bool.or_eq_false_iff, reduceCtorEq, Int.not_lt, Int.not_le] at h5
        intro h6
        refine ⟨?_, ?_⟩
        · refine ⟨0, ?_⟩; (repeat' (first | exact trivial | rfl | omega | assumption | apply And.intro))
        intro x_1 q_1
        refine ⟨fun h7 => ?_, fun h7 => ?_⟩
        · try simp only [decide_eq_true_eq, decide_eq_false_iff_not, beq_iff_eq, beq_eq_false_iff_ne, bne_iff_ne, bne_eq_false_iff_eq, Bool.not_eq_true', Bool.not_eq_false', Bool.not_eq_true, Bool.not_eq_false, ne_eq, Bool.and_eq_true, Bool.or_eq_true, Bool.and_eq_false_iff, Bool.or_eq_false_iff, reduceCtorEq, Int.not_lt, Int.not_le] at h7
          refine ⟨?_, ?_⟩
          · first | exact True.intro | rfl | omega | assumption | (dsimp only [D] at *; omega) | (simp only [I64, big] at *; omega) | (simp_all; done)
          refine ⟨fun h8 => ?_, fun h8 => ?_⟩
          · try simp only [decide_eq_true_eq, decide_eq_false_iff_not, beq_iff_eq, beq_eq_false_iff_ne, bne_iff_ne, bne_eq_false_iff_eq, Bool.not_eq_true', Bool.not_eq_false', Bool.not_eq_true, Bool.not_eq_false, ne_eq, Bool.and_eq_true, Bool.or_eq_true, Bool.and_eq_false_iff, Bool.or_eq_false_iff, reduceCtorEq, Int.not_lt, Int.not_le] at h8
            (try dsimp only [D] at *); rw [basesF_taken (by omega) (i := x_1) (by omega) (by unfold okR; (try dsimp only [D]); omega)]
          · try simp only [decide_eq_true_eq, decide_eq_false_iff_not, beq_iff_eq, beq_eq_false_iff_ne, bne_iff_ne, bne_eq_false_iff_eq, Bool.not_eq_true', Bool.not_eq_false', Bool.not_eq_true, Bool.not_eq_false, ne_eq, Bool.and_eq_true, Bool.or_eq_true, Bool.and_eq_false_iff, Bool.or_eq_false_iff, reduceCtorEq, Int.not_lt, Int.not_le] at h8
            refine ⟨fun h9 => ?_, fun h9 => ?_⟩
            · try simp only [decide_eq_true_eq, decide_eq_false_iff_not, beq_iff_eq, beq_eq_false_iff_ne, bne_iff_ne, bne_eq_false_iff_eq, Bool.not_eq_true', Bool.not_eq_false', Bool.not_eq_true, Bool.not_eq_false, ne_eq, Bool.and_eq_true, Bool.or_eq_true, Bool.and_eq_false_iff, Bool.or_eq_false_iff, reduceCtorEq, Int.not_lt, Int.not_le] at h9
              (try dsimp only [D] at *); rw [basesF_taken (by omega) (i := x_1) (by omega) (by unfold okR; (try dsimp only [D]); omega)]
            · try simp only [decide_eq_true_eq, decide_eq_false_iff_not, beq_iff_eq, beq_eq_false_iff_ne, bne_iff_ne, bne_eq_false_iff_eq, Bool.not_eq_true', Bool.not_eq_false', Bool.not_eq_true, Bool.not_eq_false, ne_eq, Bool.and_eq_true, Bool.or_eq_true, Bool.and_eq_false_iff, Bool.or_eq_false_iff, reduceCtorEq, Int.not_lt, Int.not_le] at h9
              refine ⟨fun h10 => ?_, fun h10 => ?_⟩
              · try simp only [decide_eq_true_eq, decide_eq_false_iff_not, beq_iff_eq, beq_eq_false_iff_ne, bne_iff_ne, bne_eq_false_iff_eq, Bool.not_eq_true', Bool.not_eq_false', Bool.not_eq_true, Bool.not_eq_false, ne_eq, Bool.and_eq_true, Bool.or_eq_true, Bool.and_eq_false_iff, Bool.or_eq_false_iff, reduceCtorEq, Int.not_lt, Int.not_le] at h10
                (try dsimp only [D] at *); rw [basesF_taken (by omega) (i := x_1) (by omega) (by unfold okR; (try dsimp only [D]); omega)]
              · try simp only [decide_eq_true_eq, decide_eq_false_iff_not, beq_iff_eq, beq_eq_false_iff_ne, bne_iff_ne, bne_eq_false_iff_eq, Bool.not_eq_true', Bool.not_eq_false', Bool.not_eq_true, Bool.not_eq_false, ne_eq, Bool.and_eq_true, Bool.or_eq_true, Bool.and_eq_false_iff, Bool.or_eq_false_iff, reduceCtorEq, Int.not_lt, Int.not_le] at h10
                refine ⟨fun h11 => ?_, fun h11 => ?_⟩
                · try simp only [decide_eq_true_eq, decide_eq_false_iff_not, beq_iff_eq, beq_eq_false_iff_ne, bne_iff_ne, bne_eq_false_iff_eq, Bool.not_eq_true', Bool.not_eq_false', Bool.not_eq_true, Bool.not_eq_false, ne_eq, Bool.and_eq_true, Bool.or_eq_true, Bool.and_eq_false_iff, Bool.or_eq_false_iff, reduceCtorEq, Int.not_lt, Int.not_le] at h11
                  (try dsimp only [D] at *); rw [basesF_taken (by omega) (i := x_1) (by omega) (by unfold okR; (try dsimp only [D]); omega)]
                · try simp only [decide_eq_true_eq, decide_eq_false_iff_not, beq_iff_eq, beq_eq_false_iff_ne, bne_iff_ne, bne_eq_false_iff_eq, Bool.not_eq_true', Bool.not_eq_false', Bool.not_eq_true, Bool.not_eq_false, ne_eq, Bool.and_eq_true, Bool.or_eq_true, Bool.and_eq_false_iff, Bool.or_eq_false_iff, reduceCtorEq, Int.not_lt, Int.not_le] at h11
                  intro h12
                  intro h13
                  refine ⟨?_, ?_⟩
                  · first | exact True.intro | rfl | omega | assumption | (dsimp only [D] at *; omega) | (simp only [I64, big] at *; omega) | (simp_all; done)
                  (try dsimp only [D] at *); exact ⟨x_1 + 1, ⟨by omega, fun j hj => by by_cases e : j = x_1; (subst e; unfold okR; (try dsimp only [D]); omega); exact q_1.2 j (by omega)⟩, by omega, ⟨by omega, trivial⟩, (by repeat' (first | exact trivial | rfl | apply And.intro))⟩
        · try simp only [decide_eq_true_eq, decide_eq_false_iff_not, beq_iff_eq, beq_eq_false_iff_ne, bne_iff_ne, bne_eq_false_iff_eq, Bool.not_eq_true', Bool.not_eq_false', Bool.not_eq_true, Bool.not_eq_false, ne_eq, Bool.and_eq_true, Bool.or_eq_true, Bool.and_eq_false_iff, Bool.or_eq_false_iff, reduceCtorEq, Int.not_lt, Int.not_le] at h7
          refine ⟨?_, ?_⟩
          · first | exact True.intro | rfl | omega | assumption | (dsimp only [D] at *; omega) | (simp only [I64, big] at *; omega) | (simp_all; done)
          intro h8
          refine ⟨?_, ?_⟩
          · exact ⟨(0, l, []), ⟨Nat.zero_le _, rfl, (fun y (hy : y ∈ l) => by obtain ⟨i, hi, e⟩ := mem_nth (t := tRange) hy; rw [← e]; exact q_1.2 i (by omega)), rfl, rfl⟩, (by repeat' (first | exact trivial | rfl | apply And.intro)), (by repeat' (first | exact trivial | rfl | apply And.intro))⟩
          intro x_2 q_2
          refine ⟨fun h9 => ?_, fun h9 => ?_⟩
          · try simp only [decide_eq_true_eq, decide_eq_false_iff_not, beq_iff_eq, beq_eq_false_iff_ne, bne_iff_ne, bne_eq_false_iff_eq, Bool.not_eq_true', Bool.not_eq_false', Bool.not_eq_true, Bool.not_eq_false, ne_eq, Bool.and_eq_true, Bool.or_eq_true, Bool.and_eq_false_iff, Bool.or_eq_false_iff, reduceCtorEq, Int.not_lt, Int.not_le] at h9
            refine ⟨?_, ?_⟩
            · first | exact True.intro | rfl | omega | assumption | (dsimp only [D] at *; omega) | (simp only [I64, big] at *; omega) | (simp_all; done)
            refine ⟨?_, ?_⟩
            · have := q_0.2 x_2.1 (by omega); (try dsimp only [D] at *); omega
            refine ⟨?_, ?_⟩
            · refine ⟨0, ?_⟩; (repeat' (first | exact trivial | rfl | omega | assumption | apply And.intro))
            intro x_3 q_3
            refine ⟨?_, ?_⟩
            · have hs := q_0.2 x_2.1 (by omega); have hr := roundF_range hs.1 hs.2
              exact ⟨by refine ⟨?_, ?_, ?_, ?_⟩ <;> simp only <;> omega, fun y hy => (q_2.2.2.1 y hy).bnd⟩
            refine ⟨fun h10 => ?_, fun h10 => ?_⟩
            · try simp only [decide_eq_true_eq, decide_eq_false_iff_not, beq_iff_eq, beq_eq_false_iff_ne, bne_iff_ne, bne_eq_false_iff_eq, Bool.not_eq_true', Bool.not_eq_false', Bool.not_eq_true, Bool.not_eq_false, ne_eq, Bool.and_eq_true, Bool.or_eq_true, Bool.and_eq_false_iff, Bool.or_eq_false_iff, reduceCtorEq, Int.not_lt, Int.not_le] at h10
              intro h11
              intro h12
              refine ⟨?_, ?_⟩
              · first | exact True.intro | rfl | omega | assumption | (dsimp only [D] at *; omega) | (simp only [I64, big] at *; omega) | (simp_all; done)
              have hf : freeF (16 * (x_3 : Int), roundF (nth (.int .i64) s x_2.1), ()) x_2.2.1 = false := by assumption
              have hn := free_near q_2.2.2.1 hf
              exact ⟨x_3 + 1, ⟨by omega, by rw [← q_3.2, show 40 - x_3 = (40 - (x_3 + 1)) + 1 by omega, baseAt_go hf, show 16 * ((x_3 + 1 : Nat) : Int) = 16 * (x_3 : Int) + 16 by omega]⟩, by omega, trivial, ⟨by omega, rfl, trivial⟩, (by repeat' (first | exact trivial | rfl | apply And.intro))⟩
            · try simp only [decide_eq_true_eq, decide_eq_false_iff_not, beq_iff_eq, beq_eq_false_iff_ne, bne_iff_ne, bne_eq_false_iff_eq, Bool.not_eq_true', Bool.not_eq_false', Bool.not_eq_true, Bool.not_eq_false, ne_eq, Bool.and_eq_true, Bool.or_eq_true, Bool.and_eq_false_iff, Bool.or_eq_false_iff, reduceCtorEq, Int.not_lt, Int.not_le] at h10
              intro h11
              intro h12
              refine ⟨?_, ?_⟩
              · have hs := q_0.2 x_2.1 (by omega); have hr := roundF_range hs.1 hs.2; have hf : freeF (16 * (x_3 : Int), roundF (nth (.int .i64) s x_2.1), ()) x_2.2.1 = true := by assumption
                have hb := q_3.2.symm.trans (baseAt_stop hf)
                simp only [I64]; omega
              refine ⟨fun h13 => ?_, fun h13 => ?_⟩
              · try simp only [decide_eq_true_eq, decide_eq_false_iff_not, beq_iff_eq, beq_eq_false_iff_ne, bne_iff_ne, bne_eq_false_iff_eq, Bool.not_eq_true', Bool.not_eq_false', Bool.not_eq_true, Bool.not_eq_false, ne_eq, Bool.and_eq_true, Bool.or_eq_true, Bool.and_eq_false_iff, Bool.or_eq_false_iff, reduceCtorEq, Int.not_lt, Int.not_le] at h13
                have hs := q_0.2 x_2.1 (by omega); have hr := roundF_range hs.1 hs.2; have hf : freeF (16 * (x_3 : Int), roundF (nth (.int .i64) s x_2.1), ()) x_2.2.1 = true := by assumption
                have hb := q_3.2.symm.trans (baseAt_stop hf)
                rw [basesF_ok (by omega) (fun j hj => q_0.2 j (by omega)) (fun j hj => q_1.2 j (by omega)), ← q_2.2.1, goBases_step (by omega), if_pos (by rw [hb]; omega)]
              · try simp only [decide_eq_true_eq, decide_eq_false_iff_not, beq_iff_eq, beq_eq_false_iff_ne, bne_iff_ne, bne_eq_false_iff_eq, Bool.not_eq_true', Bool.not_eq_false', Bool.not_eq_true, Bool.not_eq_false, ne_eq, Bool.and_eq_true, Bool.or_eq_true, Bool.and_eq_false_iff, Bool.or_eq_false_iff, reduceCtorEq, Int.not_lt, Int.not_le] at h13
                refine ⟨?_, ?_⟩
                · simp only [List.length_singleton, true_and]; omega
                refine ⟨?_, ?_⟩
                · simp only [List.length_singleton, true_and]; omega
                intro h14
                intro h15
                refine ⟨?_, ?_⟩
                · first | exact True.intro | rfl | omega | assumption | (dsimp only [D] at *; omega) | (simp only [I64, big] at *; omega) | (simp_all; done)
                have hs := q_0.2 x_2.1 (by omega); have hr := roundF_range hs.1 hs.2; have hf : freeF (16 * (x_3 : Int), roundF (nth (.int .i64) s x_2.1), ()) x_2.2.1 = true := by assumption
                have hb := q_3.2.symm.trans (baseAt_stop hf)
                exact ⟨(x_2.1 + 1, _, _), ⟨by omega, by rw [← q_2.2.1, goBases_step (k := x_2.1) (by omega), if_neg (by rw [hb]; omega), hb], okR_snoc q_2.2.2.1 (by refine ⟨?_, ?_, ?_, ?_⟩ <;> simp only <;> omega), by simp only [List.length_append, List.length_singleton]; omega, by simp only [List.length_append, List.length_singleton]; omega⟩, by simp only; omega, ⟨by simp only; omega, rfl, rfl, trivial⟩, (by repeat' (first | exact trivial | rfl | apply And.intro))⟩
          · try simp only [decide_eq_true_eq, decide_eq_false_iff_not, beq_iff_eq, beq_eq_false_iff_ne, bne_iff_ne, bne_eq_false_iff_eq, Bool.not_eq_true', Bool.not_eq_false', Bool.not_eq_true, Bool.not_eq_false, ne_eq, Bool.and_eq_true, Bool.or_eq_true, Bool.and_eq_false_iff, Bool.or_eq_false_iff, reduceCtorEq, Int.not_lt, Int.not_le] at h9
            rw [basesF_ok (by omega) (fun j hj => q_0.2 j (by omega)) (fun j hj => q_1.2 j (by omega)), ← q_2.2.1, goBases_end (by omega)]
theorem Try.ok_Bases : PureOK Try.prog Try.B.eT 19 [.slice (.int .i64), .slice tRange] [.slice (.int .i64), .err] (fun _ => True) (fun x y => y = (fun x => basesF x) x) :=
  pure_fn (B := (hintB Try.B [65])) (X := noExt) (CtxOK.hint (l := [65]) Try.placeCtxOK) Try.func19 (by kernel_rfl) (fun x => basesAnn x.1 x.2) (fun x hw hp => vc_Bases x.1 x.2 hw)
end Go.Proofs.Ytgokjhhcfemnhab

