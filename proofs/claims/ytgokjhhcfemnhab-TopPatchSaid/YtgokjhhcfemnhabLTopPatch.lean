/- A part of the proof that the law TopPatch holds of the given program: facts that are used there. -/
import Derived.Test.YtgokjhhcfemnhabPut
import Derived.Test.YtgokjhhcfemnhabRSame
import Derived.Test.YtgokjhhcfemnhabRows
set_option linter.unusedSimpArgs false
set_option linter.unusedVariables false
namespace Go.Proofs.Ytgokjhhcfemnhab
open Go.Vg Go.Mrl
/-! The law TopPatch. -/
noncomputable def Try.tpatchCtx : List (FuncId × (Bool × CSpec)) := [(44, (true, funSpec [.str] [.err] (fun _ => True) (fun s => errNo (nameFault s)))),
  (18, (true, funSpec [.str] [.int .u32] (fun _ => True) (fun s => (hashF s : Int)))),
  (22, (true, funSpec [.err] [.int .i64] (fun _ => True) (fun e => numE e))),
  (12, (true, funSpec [.slice (.int .i64), .slice (.int .i64)] [.bool] (fun _ => True) (fun x => sameI x.1 x.2))),
  (11, (true, funSpec [tWords, .slice tPatch] [tWords, .err] (fun x => x.1.length ≤ 100000 ∧ ∀ i, i < x.1.length → (nth tRow x.1 i).length ≤ 100000000) (fun x => putF x)))]
theorem Try.tpatchCtxOK {X : Ext} : CtxOK Try.prog Try.B X Try.tpatchCtx :=
  ctx1 (callOK_of_fun Try.ok_Check) (ctx1 (callOK_of_fun Try.ok_Hash) (ctx1 (callOK_of_fun Try.ok_number) (ctx1 (callOK_of_fun Try.ok_SameNumbers) (ctx1 (callOK_of_fun Try.ok_Put) (ctx0 Try.tyOK)))))
def tpatchAnn (w : List (List Int)) (p : List (D tPatch)) : Anns := [
  (0, fun st => { X := Nat, inv := fun i => i ≤ w.length ∧ ∀ j, j < i → (nth tRow w j).length ≤ 50, meas := fun i => w.length - i, slots := fun i => [(7, sI i)], keep := [0, 1, 5, 6] }),
  (2, fun st => { X := Nat, inv := fun i => i ≤ w.length, meas := fun i => w.length - i, slots := fun i => [(8, sI i)], keep := [0, 1, 5] }),
  (4, fun st => { X := Nat, inv := fun k => k ≤ (nth tRow w (tmpD (.int .i64) st 8).toNat).length, meas := fun k => (nth tRow w (tmpD (.int .i64) st 8).toNat).length - k, slots := fun k => [(9, sI k)], keep := [0, 1, 5, 8, 66, 67, 68, 69] }),
  (6, fun st => { X := Nat, inv := fun j => j ≤ p.length, meas := fun j => p.length - j, slots := fun j => [(11, sI j), (10, sI (cellL (nth (.int .i64) (nth tRow w (tmpD (.int .i64) st 8).toNat) (tmpD (.int .i64) st 9).toNat) (tmpD (.int .i64) st 8).toNat (tmpD (.int .i64) st 9).toNat (p.take j)))], keep := [0, 1, 4, 5, 8, 9, 66, 67, 68, 69, 72, 73, 74, 75, 76, 77, 78, 81, 82, 83, 84, 85, 86, 87] })]
set_option maxRecDepth 100000 in
set_option maxHeartbeats 4000000 in
theorem vc_TopPatch (w : List (List Int)) (p : List (D tPatch)) (hw : wfL [tWords, .slice tPatch] (w, p)) : (fnVCs Try.B Try.tpatchCtx Try.f3 (tpatchAnn w p) [tWords, .slice tPatch] [.bool] (fun _ y => y = true) (w, p)).holds := by
  refine holds_of (p :=
    (List.length [[(1 : Int), (2 : Int)]] ≤ (100000 : Nat) ∧ ∀ (i : Nat), i < List.length [[(1 : Int), (2 : Int)]] → List.length (nth tRow [[(1 : Int), (2 : Int)]] i) ≤ (100000000 : Nat)) ∧ (((!Err.isNil (putF ([[(1 : Int), (2 : Int)]], [((0 : Int), (1 : Int), (5 : Int), ())])).2) = true → (false = true)) ∧ ((!Err.isNil (putF ([[(1 : Int), (2 : Int)]], [((0 : Int), (1 : Int), (5 : Int), ())])).2) = false → ((List.length (putF ([[(1 : Int), (2 : Int)]], [((0 : Int), (1 : Int), (5 : Int), ())])).1 ≤ big) →
    ((((↑(List.length (putF ([[(1 : Int), (2 : Int)]], [((0 : Int), (1 : Int), (5 : Int), ())])).1) : Int) != (1 : Int)) = true → (false = true)) ∧
    (((↑(List.length (putF ([[(1 : Int), (2 : Int)]], [((0 : Int), (1 : Int), (5 : Int), ())])).1) : Int) != (1 : Int)) = false →
    ((0 : Int) ≤ (0 : Int) ∧ (0 : Int) < (↑(List.length (putF ([[(1 : Int), (2 : Int)]], [((0 : Int), (1 : Int), (5 : Int), ())])).1) : Int)) ∧ (True) ∧
    (((!sameI (nth (Ty.slice (Ty.int IntKind.i64)) (putF ([[(1 : Int), (2 : Int)]], [((0 : Int), (1 : Int), (5 : Int), ())])).1 (0 : Nat)) [(1 : Int), (5 : Int)]) = true → (false = true)) ∧
    ((!sameI (nth (Ty.slice (Ty.int IntKind.i64)) (putF ([[(1 : Int), (2 : Int)]], [((0 : Int), (1 : Int), (5 : Int), ())])).1 (0 : Nat)) [(1 : Int), (5 : Int)]) = false → ((List.length w ≤ big) → (((decide ((↑(List.length w) : Int) > (8 : Int))) = true → (true = true)) ∧ ((decide ((↑(List.length w) : Int) > (8 : Int))) = false → ((List.length p ≤ big) → (((decide ((↑(List.length p) : Int) > (40 : Int))) = true → (true = true)) ∧ ((decide ((↑(List.length p) : Int) > (40 : Int))) = false →
    (∃ (x : Nat), (x ≤ List.length w ∧ ∀ (j : Nat), j < x → List.length (nth tRow w j) ≤ (50 : Nat)) ∧ ((0 : Int) = (↑x : Int) ∧ True) ∧ True) ∧ (∀ x_0 : Nat, ((x_0 ≤ List.length w ∧ ∀ (j : Nat), j < x_0 → List.length (nth tRow w j) ≤ (50 : Nat)) → ((List.length w ≤ big) → (((decide ((↑x_0 : Int) < (↑(List.length w) : Int))) = true → ((0 : Int) ≤ (↑x_0 : Int) ∧ (↑x_0 : Int) < (↑(List.length w) : Int)) ∧ ((List.length (nth (Ty.slice (Ty.int IntKind.i64)) w x_0) ≤ big) → (((decide ((↑(List.length (nth (Ty.slice (Ty.int IntKind.i64)) w x_0)) : Int) > (50 : Int))) = true → (true = true)) ∧ ((decide ((↑(List.length (nth (Ty.slice (Ty.int IntKind.i64)) w x_0)) : Int) > (50 : Int))) = false → ((I64 (↑x_0 : Int)) → ((I64 (1 : Int)) → (I64 ((↑x_0 : Int) + (1 : Int))) ∧
    (∃ (x' : Nat), (x' ≤ List.length w ∧ ∀ (j : Nat), j < x' → List.length (nth tRow w j) ≤ (50 : Nat)) ∧ List.length w - x' < List.length w - x_0 ∧ ((↑x_0 : Int) + (1 : Int) = (↑x' : Int) ∧ True) ∧ True))))))) ∧ ((decide ((↑x_0 : Int) < (↑(List.length w) : Int))) = false → (List.length w ≤ (100000 : Nat) ∧ ∀ (i : Nat), i < List.length w → List.length (nth tRow w i) ≤ (100000000 : Nat)) ∧ (((!Err.isNil (putF (w, p)).2) = true → ((List.length (putF (w, p)).1 ≤ big) → (((↑(List.length (putF (w, p)).1) : Int) == (0 : Int)) = true))) ∧ ((!Err.isNil (putF (w, p)).2) = false → (∃ (x : Nat), x ≤ List.length w ∧ ((0 : Int) = (↑x : Int) ∧ True) ∧ True) ∧ (∀ x_1 : Nat, ((x_1 ≤ List.length w) → ((List.length w ≤ big) → (((decide ((↑x_1 : Int) < (↑(List.length w) : Int))) = true → (∃ (x : Nat), x ≤ List.length (nth tRow w x_1) ∧ ((0 : Int) = (↑x : Int) ∧ True) ∧ True) ∧ (∀ x_2 : Nat, ((x_2 ≤ List.length (nth tRow w x_1)) → ((0 : Int) ≤ (↑x_1 : Int) ∧ (↑x_1 : Int) < (↑(List.length w) : Int)) ∧ ((List.length (nth (Ty.slice (Ty.int IntKind.i64)) w x_1) ≤ big) → (((decide ((↑x_2 : Int) < (↑(List.length (nth (Ty.slice (Ty.int IntKind.i64)) w x_1)) : Int))) = true → ((0 : Int) ≤ (↑x_1 : Int) ∧ (↑x_1 : Int) < (↑(List.length w) : Int)) ∧ ((0 : Int) ≤ (↑x_2 : Int) ∧ (↑x_2 : Int) < (↑(List.length (nth (Ty.slice (Ty.int IntKind.i64)) w x_1)) : Int)) ∧
    (∃ (x : Nat), x ≤ List.length p ∧ ((0 : Int) = (↑x : Int) ∧ nth (Ty.int IntKind.i64) (nth (Ty.slice (Ty.int IntKind.i64)) w x_1) x_2 = cellL (nth (Ty.int IntKind.i64) (nth tRow w x_1) x_2) x_1 x_2 (List.take x p) ∧ True) ∧ True) ∧ (∀ x_3 : Nat, ((x_3 ≤ List.length p) → ((List.length p ≤ big) → (((decide ((↑x_3 : Int) < (↑(List.length p) : Int))) = true → ((0 : Int) ≤ (↑x_3 : Int) ∧ (↑x_3 : Int) < (↑(List.length p) : Int)) ∧ ((((nth tPatch p x_3).1 == (↑x_1 : Int)) = true → ((0 : Int) ≤ (↑x_3 : Int) ∧ (↑x_3 : Int) < (↑(List.length p) : Int)) ∧ ((((nth tPatch p x_3).2.1 == (↑x_2 : Int)) = true → ((0 : Int) ≤ (↑x_3 : Int) ∧ (↑x_3 : Int) < (↑(List.length p) : Int)) ∧ ((I64 (↑x_3 : Int)) → ((I64 (1 : Int)) → (I64 ((↑x_3 : Int) + (1 : Int))) ∧
    (∃ (x' : Nat), x' ≤ List.length p ∧ List.length p - x' < List.length p - x_3 ∧ ((↑x_3 : Int) + (1 : Int) = (↑x' : Int) ∧ (nth tPatch p x_3).2.2.1 = cellL (nth (Ty.int IntKind.i64) (nth tRow w x_1) x_2) x_1 x_2 (List.take x' p) ∧ True) ∧ True)))) ∧ (((nth tPatch p x_3).2.1 == (↑x_2 : Int)) = false → ((I64 (↑x_3 : Int)) → ((I64 (1 : Int)) → (I64 ((↑x_3 : Int) + (1 : Int))) ∧
    (∃ (x' : Nat), x' ≤ List.length p ∧ List.length p - x' < List.length p - x_3 ∧ ((↑x_3 : Int) + (1 : Int) = (↑x' : Int) ∧ cellL (nth (Ty.int IntKind.i64) (nth tRow w x_1) x_2) x_1 x_2 (List.take x_3 p) = cellL (nth (Ty.int IntKind.i64) (nth tRow w x_1) x_2) x_1 x_2 (List.take x' p) ∧ True) ∧ True)))))) ∧ (((nth tPatch p x_3).1 == (↑x_1 : Int)) = false → ((I64 (↑x_3 : Int)) → ((I64 (1 : Int)) → (I64 ((↑x_3 : Int) + (1 : Int))) ∧
    (∃ (x' : Nat), x' ≤ List.length p ∧ List.length p - x' < List.length p - x_3 ∧ ((↑x_3 : Int) + (1 : Int) = (↑x' : Int) ∧ cellL (nth (Ty.int IntKind.i64) (nth tRow w x_1) x_2) x_1 x_2 (List.take x_3 p) = cellL (nth (Ty.int IntKind.i64) (nth tRow w x_1) x_2) x_1 x_2 (List.take x' p) ∧ True) ∧ True)))))) ∧ ((decide ((↑x_3 : Int) < (↑(List.length p) : Int))) = false → ((List.length (putF (w, p)).1 ≤ big) → ((List.length w ≤ big) → ((((↑(List.length (putF (w, p)).1) : Int) != (↑(List.length w) : Int)) = true → (false = true)) ∧ (((↑(List.length (putF (w, p)).1) : Int) != (↑(List.length w) : Int)) = false → ((0 : Int) ≤ (↑x_1 : Int) ∧ (↑x_1 : Int) < (↑(List.length (putF (w, p)).1) : Int)) ∧ ((List.length (nth (Ty.slice (Ty.int IntKind.i64)) (putF (w, p)).1 x_1) ≤ big) → ((0 : Int) ≤ (↑x_1 : Int) ∧ (↑x_1 : Int) < (↑(List.length w) : Int)) ∧ ((List.length (nth (Ty.slice (Ty.int IntKind.i64)) w x_1) ≤ big) →
    ((((↑(List.length (nth (Ty.slice (Ty.int IntKind.i64)) (putF (w, p)).1 x_1)) : Int) != (↑(List.length (nth (Ty.slice (Ty.int IntKind.i64)) w x_1)) : Int)) = true → (false = true)) ∧
    (((↑(List.length (nth (Ty.slice (Ty.int IntKind.i64)) (putF (w, p)).1 x_1)) : Int) != (↑(List.length (nth (Ty.slice (Ty.int IntKind.i64)) w x_1)) : Int)) = false → ((0 : Int) ≤ (↑x_1 : Int) ∧ (↑x_1 : Int) < (↑(List.length (putF (w, p)).1) : Int)) ∧
    ((0 : Int) ≤ (↑x_2 : Int) ∧ (↑x_2 : Int) < (↑(List.length (nth (Ty.slice (Ty.int IntKind.i64)) (putF (w, p)).1 x_1)) : Int)) ∧
    (((nth (Ty.int IntKind.i64) (nth (Ty.slice (Ty.int IntKind.i64)) (putF (w, p)).1 x_1) x_2 != cellL (nth (Ty.int IntKind.i64) (nth tRow w x_1) x_2) x_1 x_2 (List.take x_3 p)) = true → (false = true)) ∧
    ((nth (Ty.int IntKind.i64) (nth (Ty.slice (Ty.int IntKind.i64)) (putF (w, p)).1 x_1) x_2 != cellL (nth (Ty.int IntKind.i64) (nth tRow w x_1) x_2) x_1 x_2 (List.take x_3 p)) = false → ((I64 (↑x_2 : Int)) → ((I64 (1 : Int)) → (I64 ((↑x_2 : Int) + (1 : Int))) ∧
    (∃ (x' : Nat), x' ≤ List.length (nth tRow w x_1) ∧ List.length (nth tRow w x_1) - x' < List.length (nth tRow w x_1) - x_2 ∧ ((↑x_2 : Int) + (1 : Int) = (↑x' : Int) ∧ True) ∧ True))))))))))))))))))) ∧ ((decide ((↑x_2 : Int) < (↑(List.length (nth (Ty.slice (Ty.int IntKind.i64)) w x_1)) : Int))) = false → ((I64 (↑x_1 : Int)) → ((I64 (1 : Int)) → (I64 ((↑x_1 : Int) + (1 : Int))) ∧
    (∃ (x' : Nat), x' ≤ List.length w ∧ List.length w - x' < List.length w - x_1 ∧ ((↑x_1 : Int) + (1 : Int) = (↑x' : Int) ∧ True) ∧ True))))))))) ∧ ((decide ((↑x_1 : Int) < (↑(List.length w) : Int))) = false → (true = true))))))))))))))))))))))))))) (by kernel_rfl) ?_
  refine ⟨?_, ?_⟩
  · first | trivial | omega | (dsimp only [D] at *; omega) | (simp only [I64, big] at *; omega) | (simp_all; done)
  refine ⟨fun h0 => ?_, fun h0 => ?_⟩
  · try simp only [bl, reduceCtorEq] at h0
    rw [put_x] at h0; first | (cases h0; done) | (exact absurd h0 (by decide)) | (simp at h0)
  · try simp only [bl, reduceCtorEq] at h0
    intro h1
    refine ⟨fun h2 => ?_, fun h2 => ?_⟩
    · try simp only [bl, reduceCtorEq] at h2
      rw [put_x] at h2; first | (cases h2; done) | (exact absurd h2 (by decide)) | (simp at h2)
    · try simp only [bl, reduceCtorEq] at h2
      refine ⟨?_, ?_⟩
      · first | trivial | omega | (dsimp only [D] at *; omega) | (simp only [I64, big] at *; omega) | (simp_all; done)
      refine ⟨trivial, ?_⟩
      refine ⟨fun h3 => ?_, fun h3 => ?_⟩
      · try simp only [bl, reduceCtorEq] at h3
        rw [put_x] at h3; first | (cases h3; done) | (exact absurd h3 (by decide)) | (simp at h3)
      · try simp only [bl, reduceCtorEq] at h3
        intro h4
        refine ⟨fun h5 => ?_, fun h5 => ?_⟩
        · try simp only [bl, reduceCtorEq] at h5
          first | trivial | omega | (dsimp only [D] at *; omega) | (simp only [I64, big] at *; omega) | (simp_all; done)
        · try simp only [bl, reduceCtorEq] at h5
          intro h6
          refine ⟨fun h7 => ?_, fun h7 => ?_⟩
          · try simp only [bl, reduceCtorEq] at h7
            first | trivial | omega | (dsimp only [D] at *; omega) | (simp only [I64, big] at *; omega) | (simp_all; done)
          · try simp only [bl, reduceCtorEq] at h7
            refine ⟨?_, ?_⟩
            · exact ⟨0, ⟨by omega, fun j hj => by omega⟩, ⟨rfl, trivial⟩, trivial⟩
            intro x_0 q_0
            intro h8
            refine ⟨fun h9 => ?_, fun h9 => ?_⟩
            · try simp only [bl, reduceCtorEq] at h9
              refine ⟨?_, ?_⟩
              · first | trivial | omega | (dsimp only [D] at *; omega) | (simp only [I64, big] at *; omega) | (simp_all; done)
              intro h10
              refine ⟨fun h11 => ?_, fun h11 => ?_⟩
              · try simp only [bl, reduceCtorEq] at h11
                first | trivial | omega | (dsimp only [D] at *; omega) | (simp only [I64, big] at *; omega) | (simp_all; done)
              · try simp only [bl, reduceCtorEq] at h11
                intro h12
                intro h13
                refine ⟨?_, ?_⟩
                · first | trivial | omega | (dsimp only [D] at *; omega) | (simp only [I64, big] at *; omega) | (simp_all; done)
                exact ⟨x_0 + 1, ⟨by omega, upto1 q_0.2 (by show List.length (nth (.slice (.int .i64)) w x_0) ≤ 50; omega)⟩, by omega, ⟨by omega, trivial⟩, (by repeat' (first | exact trivial | rfl | apply And.intro))⟩
            · try simp only [bl, reduceCtorEq] at h9
              refine ⟨?_, ?_⟩
              · exact ⟨by omega, fun i hi => by have := q_0.2 i (by omega); omega⟩
              refine ⟨fun h10 => ?_, fun h10 => ?_⟩
              · try simp only [bl, reduceCtorEq] at h10
                intro h11
                rw [putF_err h10]; rfl
              · try simp only [bl, reduceCtorEq] at h10
                refine ⟨?_, ?_⟩
                · exact ⟨0, by omega, ⟨rfl, trivial⟩, trivial⟩
                intro x_1 q_1
                intro h11
                refine ⟨fun h12 => ?_, fun h12 => ?_⟩
                · try simp only [bl, reduceCtorEq] at h12
                  refine ⟨?_, ?_⟩
                  · exact ⟨0, by omega, ⟨rfl, trivial⟩, trivial⟩
                  intro x_2 q_2
                  refine ⟨?_, ?_⟩
                  · first | trivial | omega | (dsimp only [D] at *; omega) | (simp only [I64, big] at *; omega) | (simp_all; done)
                  intro h13
                  refine ⟨fun h14 => ?_, fun h14 => ?_⟩
                  · try simp only [bl, reduceCtorEq] at h14
                    refine ⟨?_, ?_⟩
                    · first | trivial | omega | (dsimp only [D] at *; omega) | (simp only [I64, big] at *; omega) | (simp_all; done)
                    refine ⟨?_, ?_⟩
                    · first | trivial | omega | (dsimp only [D] at *; omega) | (simp only [I64, big] at *; omega) | (simp_all; done)
                    refine ⟨?_, ?_⟩
                    · exact ⟨0, by omega, ⟨rfl, rfl, trivial⟩, trivial⟩
                    intro x_3 q_3
                    intro h15
                    refine ⟨fun h16 => ?_, fun h16 => ?_⟩
                    · try simp only [bl, reduceCtorEq] at h16
                      refine ⟨?_, ?_⟩
                      · first | trivial | omega | (dsimp only [D] at *; omega) | (simp only [I64, big] at *; omega) | (simp_all; done)
                      refine ⟨fun h17 => ?_, fun h17 => ?_⟩
                      · try simp only [bl, reduceCtorEq] at h17
                        refine ⟨?_, ?_⟩
                        · first | trivial | omega | (dsimp only [D] at *; omega) | (simp only [I64, big] at *; omega) | (simp_all; done)
                        refine ⟨fun h18 => ?_, fun h18 => ?_⟩
                        · try simp only [bl, reduceCtorEq] at h18
                          refine ⟨?_, ?_⟩
                          · first | trivial | omega | (dsimp only [D] at *; omega) | (simp only [I64, big] at *; omega) | (simp_all; done)
                          intro h19
                          intro h20
                          refine ⟨?_, ?_⟩
                          · first | trivial | omega | (dsimp only [D] at *; omega) | (simp only [I64, big] at *; omega) | (simp_all; done)
                          exact ⟨x_3 + 1, by omega, by omega, ⟨by omega, cellL_hit (by omega) (by omega) (by omega), trivial⟩, (by repeat' (first | exact trivial | rfl | apply And.intro))⟩
                        · try simp only [bl, reduceCtorEq] at h18
                          intro h19
                          intro h20
                          refine ⟨?_, ?_⟩
                          · first | trivial | omega | (dsimp only [D] at *; omega) | (simp only [I64, big] at *; omega) | (simp_all; done)
                          exact ⟨x_3 + 1, by omega, by omega, ⟨by omega, cellL_miss (by omega) (fun h => by first | exact h18 h.2 | exact h18 h.1), trivial⟩, (by repeat' (first | exact trivial | rfl | apply And.intro))⟩
                      · try simp only [bl, reduceCtorEq] at h17
                        intro h18
                        intro h19
                        refine ⟨?_, ?_⟩
                        · first | trivial | omega | (dsimp only [D] at *; omega) | (simp only [I64, big] at *; omega) | (simp_all; done)
                        exact ⟨x_3 + 1, by omega, by omega, ⟨by omega, cellL_miss (by omega) (fun h => by first | exact h17 h.2 | exact h17 h.1), trivial⟩, (by repeat' (first | exact trivial | rfl | apply And.intro))⟩
                    · try simp only [bl, reduceCtorEq] at h16
                      intro h17
                      intro h18
                      refine ⟨fun h19 => ?_, fun h19 => ?_⟩
                      · try simp only [bl, reduceCtorEq] at h19
                        have := putF_len (w := w) (l := p) (by assumption); omega
                      · try simp only [bl, reduceCtorEq] at h19
                        refine ⟨?_, ?_⟩
                        · first | trivial | omega | (dsimp only [D] at *; omega) | (simp only [I64, big] at *; omega) | (simp_all; done)
                        intro h20
                        refine ⟨?_, ?_⟩
                        · first | trivial | omega | (dsimp only [D] at *; omega) | (simp only [I64, big] at *; omega) | (simp_all; done)
                        intro h21
                        refine ⟨fun h22 => ?_, fun h22 => ?_⟩
                        · try simp only [bl, reduceCtorEq] at h22
                          exact absurd (congrArg (Nat.cast (R := Int)) (putF_rowlen (w := w) (l := p) (by assumption) x_1)) h22
                        · try simp only [bl, reduceCtorEq] at h22
                          refine ⟨?_, ?_⟩
                          · have := putF_len (w := w) (l := p) (by assumption); omega
                          refine ⟨?_, ?_⟩
                          · have e0 : List.length (nth tRow w x_1) = List.length (nth (.slice (.int .i64)) w x_1) := rfl
                            have := putF_rowlen (w := w) (l := p) (by assumption) x_1
                            show (0 : Int) ≤ (x_2 : Int) ∧ (x_2 : Int) < (List.length (nth tRow (putF (w, p)).1 x_1) : Int)
                            omega
                          refine ⟨fun h23 => ?_, fun h23 => ?_⟩
                          · try simp only [bl, reduceCtorEq] at h23
                            have e0 : List.length (nth tRow w x_1) = List.length (nth (.slice (.int .i64)) w x_1) := rfl
                            rw [List.take_of_length_le (by omega)] at h23
                            exact absurd (putF_cell (by assumption) (by omega) (by omega)) h23
                          · try simp only [bl, reduceCtorEq] at h23
                            intro h24
                            intro h25
                            refine ⟨?_, ?_⟩
                            · first | trivial | omega | (dsimp only [D] at *; omega) | (simp only [I64, big] at *; omega) | (simp_all; done)
                            have e0 : List.length (nth tRow w x_1) = List.length (nth (.slice (.int .i64)) w x_1) := rfl
                            exact ⟨x_2 + 1, by omega, by omega, ⟨by omega, trivial⟩, (by repeat' (first | exact trivial | rfl | apply And.intro))⟩
                  · try simp only [bl, reduceCtorEq] at h14
                    intro h15
                    intro h16
                    refine ⟨?_, ?_⟩
                    · first | trivial | omega | (dsimp only [D] at *; omega) | (simp only [I64, big] at *; omega) | (simp_all; done)
                    exact ⟨x_1 + 1, by omega, by omega, ⟨by omega, trivial⟩, (by repeat' (first | exact trivial | rfl | apply And.intro))⟩
                · try simp only [bl, reduceCtorEq] at h12
                  first | trivial | omega | (dsimp only [D] at *; omega) | (simp only [I64, big] at *; omega) | (simp_all; done)
theorem Try.ok_TopPatch : PureOK Try.prog Try.B.eT 3 [tWords, .slice tPatch] [.bool] (fun _ => True) (fun _ y => y = true) :=
  pure_fn (X := noExt) Try.tpatchCtxOK Try.func3 (by kernel_rfl) (fun x => tpatchAnn x.1 x.2) (fun x hw hp => vc_TopPatch x.1 x.2 hw)
open Go.ChangeShapes Go.WideShapes Go.ChangeAt Go.RowKit in
set_option maxRecDepth 100000 in
theorem topPatch_lifted (os : Os) (started : os.Started) (H : Type) (enc : TypeId × Value → H) :
    ReturnsInHanded {} Try.checked os 3 .any (Rows.topPatchSpec.pre6 enc Try.prog Try.f3 Rows.topPatchRow.domain false) (Rows.topPatchSpec.post enc Try.prog Try.f3 false true false false) := by
  refine returnsInHanded_of_change (C := Try.checked) (by kernel_rfl) started (by kernel_rfl) Try.func3
    (ChangeSpec.witness6 (enc := enc) (C := Try.checked) false ⟨#[], #[.slice none 0 0, .slice none 0 0], []⟩ 8 (by kernel_rfl) (by kernel_rfl) (by kernel_rfl) (by kernel_rfl)) ?_
  intro W base args ds gs before hval hW hcnd _
  exact law_calls (C := Try.checked) (n := 16) rfl (by kernel_rfl) (fun ds h => by match ds, h with | [_, _], _ => rfl) (by kernel_rfl) (by kernel_rfl) (by kernel_rfl) (tb := 4) (by kernel_rfl) Try.ok_TopPatch hval hW (fun _ _ => trivial)
open Go.ChangeShapes Go.WideShapes Go.ChangeAt Go.RowKit in
theorem topPatch_holds : Rows.TopPatchSaid :=
  OpenClaim.holds_of_wide 3 Try.f3 rfl rfl rfl rfl rfl rfl rfl ⟨rfl, rfl, rfl, rfl, rfl⟩ rfl rfl rfl rfl rfl (by kernel_rfl) Try.func3 (by kernel_rfl)
    (of_decide_eq_true (by kernel_rfl)) (by unfold Func.isWrapper; first | (rw [if_pos (by decide +kernel)]; kernel_rfl) | (rw [if_neg (by decide +kernel)]; exact ⟨rfl, rfl⟩))
    (fun os started H enc _ => topPatch_lifted os started H enc)
#print axioms topPatch_holds
end Go.Proofs.Ytgokjhhcfemnhab

