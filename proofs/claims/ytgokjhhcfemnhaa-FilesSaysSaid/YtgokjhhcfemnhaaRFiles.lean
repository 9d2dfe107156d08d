/- A part of the proof that the law FilesSays holds of the given program: facts that are used there. -/
import Derived.Test.YtgokjhhcfemnhaaName
import Derived.Test.YtgokjhhcfemnhaaMrl24
import Derived.Test.YtgokjhhcfemnhaaMrl17
set_option linter.unusedSimpArgs false
set_option linter.unusedVariables false
namespace Go.Proofs.Ytgokjhhcfemnhaa
open Go.Vg Go.Mrl
/-! The document's files. -/
@[reducible] def Try.rfilesObs : List Ob := [.box 138 [.d (.slice tFile), .d (.int .i64)]]
def rreadAnn (s : List UInt8) (f : RS) : Anns := [(0, fun st => { X := Nat, inv := fun i => i ≤ f.1.length ∧ ∀ j, j < i → ¬ (nth tFile f.1 j).1 = s, meas := fun i => f.1.length - i, slots := fun i => [(7, sI i)], keep := [0, 1] })]
def Try.rreadAlts : List (Alt Try.rfilesObs [.obj 0, .d .str]) := [{ obs' := Try.rfilesObs, res := [.d .str, .d (.int .i64), .d (.int .i64)], out := fun _ x => x, ret := fun a x => ((findR x.1.1 a.1).1, (findR x.1.1 a.1).2.1, (findR x.1.1 a.1).2.2, ()) }]
set_option maxRecDepth 100000 in
set_option maxHeartbeats 4000000 in
theorem vc_RRead (s : List UInt8) (f : RS) (hw : wfC [.obj 0, .d .str] (s, ())) : (objVCs Try.B [] Try.f70 (rreadAnn s f) Try.rfilesObs [.obj 0, .d .str] Try.rreadAlts (s, ()) (f, ())).holds := by
  refine holds_of (p :=
    (∃ (x : Nat), (x ≤ List.length f.1 ∧ ∀ (j : Nat), j < x → ¬(nth tFile f.1 j).1 = s) ∧ ((0 : Int) = (↑x : Int) ∧ True) ∧ True) ∧ (∀ x_0 : Nat, ((x_0 ≤ List.length f.1 ∧ ∀ (j : Nat), j < x_0 → ¬(nth tFile f.1 j).1 = s) → ((List.length f.1 ≤ big) → (((decide ((↑x_0 : Int) < (↑(List.length f.1) : Int))) = true → ((0 : Int) ≤ (↑x_0 : Int) ∧ (↑x_0 : Int) < (↑(List.length f.1) : Int)) ∧ ((((nth tFile f.1 x_0).1 == s) = true → ((0 : Int) ≤ (↑x_0 : Int) ∧ (↑x_0 : Int) < (↑(List.length f.1) : Int)) ∧ ((0 : Int) ≤ (↑x_0 : Int) ∧ (↑x_0 : Int) < (↑(List.length f.1) : Int)) ∧
    (True ∧ ((f.1, f.2.1, ()), ()) = (f, ()) ∧ ((nth tFile f.1 x_0).2.1, (nth tFile f.1 x_0).2.2.1, (0 : Int), ()) = ((findR f.1 s).1, (findR f.1 s).2.1, (findR f.1 s).2.2, ()))) ∧ (((nth tFile f.1 x_0).1 == s) = false → ((I64 (↑x_0 : Int)) → ((I64 (1 : Int)) → (I64 ((↑x_0 : Int) + (1 : Int))) ∧
    (∃ (x' : Nat), (x' ≤ List.length f.1 ∧ ∀ (j : Nat), j < x' → ¬(nth tFile f.1 j).1 = s) ∧ List.length f.1 - x' < List.length f.1 - x_0 ∧ ((↑x_0 : Int) + (1 : Int) = (↑x' : Int) ∧ True) ∧ (f.1 = f.1 ∧ f.2.1 = f.2.1 ∧ True) ∧ True)))))) ∧ ((decide ((↑x_0 : Int) < (↑(List.length f.1) : Int))) = false →
    (True ∧ ((f.1, f.2.1, ()), ()) = (f, ()) ∧ ([], (0 : Int), (5 : Int), ()) = ((findR f.1 s).1, (findR f.1 s).2.1, (findR f.1 s).2.2, ())))))))) (by kernel_rfl) ?_
  refine ⟨?_, ?_⟩
  · exact ⟨0, ⟨by omega, fun j hj => by omega⟩, ⟨rfl, trivial⟩, trivial⟩
  intro x_0 q_0
  intro h0
  refine ⟨fun h1 => ?_, fun h1 => ?_⟩
  · try simp only [bl, reduceCtorEq] at h1
    refine ⟨?_, ?_⟩
    · first | trivial | omega | (dsimp only [D] at *; omega) | (simp only [I64, big] at *; omega) | (simp_all; done)
    refine ⟨fun h2 => ?_, fun h2 => ?_⟩
    · try simp only [bl, reduceCtorEq] at h2
      refine ⟨?_, ?_⟩
      · first | trivial | omega | (dsimp only [D] at *; omega) | (simp only [I64, big] at *; omega) | (simp_all; done)
      refine ⟨?_, ?_⟩
      · first | trivial | omega | (dsimp only [D] at *; omega) | (simp only [I64, big] at *; omega) | (simp_all; done)
      rw [findR_at q_0.2 (by omega) h2]; exact ⟨trivial, rfl, rfl⟩
    · try simp only [bl, reduceCtorEq] at h2
      intro h3
      intro h4
      refine ⟨?_, ?_⟩
      · first | trivial | omega | (dsimp only [D] at *; omega) | (simp only [I64, big] at *; omega) | (simp_all; done)
      exact ⟨x_0 + 1, ⟨by omega, upto_next q_0.2 h2⟩, by omega, ⟨by omega, trivial⟩, (by repeat' (first | exact trivial | rfl | apply And.intro))⟩
  · try simp only [bl, reduceCtorEq] at h1
    rw [findR_end fun j hj => q_0.2 j (by omega)]; exact ⟨trivial, rfl, rfl⟩
theorem Try.ok_RRead {X : Ext} : CallOK Try.prog Try.B.eT X 70 false (objSpec Try.rfilesObs [.obj 0, .d .str] (fun _ _ => True) Try.rreadAlts) :=
  callOK_of_obj (X := X) (ctx0 Try.tyOK) Try.func70 (by kernel_rfl) (fun (a : CD [.obj 0, .d .str]) (x : PD Try.rfilesObs) => rreadAnn a.1 x.1) (fun (a : CD [.obj 0, .d .str]) (x : PD Try.rfilesObs) hw hp => vc_RRead a.1 x.1 hw)
noncomputable def Try.rreadCtx : List (FuncId × (Bool × CSpec)) := [(12, (true, funSpec [.str] [.err] (fun _ => True) (fun s => errNo (nameFault s)))),
  (13, (true, funSpec [.str] [.int .i64] (fun _ => True) (fun s => nameFault s))),
  (14, (true, funSpec [.str] [.int .u32] (fun _ => True) (fun s => (hashF s : Int)))),
  (15, (true, funSpec [.str] [.int .i64] (fun _ => True) (fun s => (hashF s : Int)))),
  (11, (true, funSpec [.err, .int .i64] [.bool] (fun _ => True) (fun x => sameE x.1 x.2))),
  (70, (false, objSpec Try.rfilesObs [.obj 0, .d .str] (fun _ _ => True) Try.rreadAlts))]
theorem Try.rreadCtxOK {X : Ext} : CtxOK Try.prog Try.B X Try.rreadCtx :=
  ctx1 (callOK_of_fun Try.ok_Check) (ctx1 (callOK_of_fun Try.ok_NameFault) (ctx1 (callOK_of_fun Try.ok_Hash) (ctx1 (callOK_of_fun Try.ok_RHash) (ctx1 (callOK_of_fun Try.ok_same) (ctx1 (Try.ok_RRead) (ctx0 Try.tyOK))))))
def rwriteAnn (s : List UInt8) (t : List UInt8) (f : RS) : Anns := [(0, fun st => { X := Nat × Bool × List (D tFile), inv := fun x => x.1 ≤ f.1.length ∧ InsInv f.1 s (s, t, f.2.1 + 1, ()) x.1 x.2.1 x.2.2, meas := fun x => f.1.length - x.1, slots := fun x => [(13, sI x.1), (12, sB x.2.1), (11, .s (.one (.app tFile x.2.2 (objOf st 11))))], objs := fun x => [(objOf st 11, .tok tFile x.2.2)], keep := [0, 1, 2, 6], mods := [objOf st 11] })]
def Try.rwriteAlts : List (Alt Try.rfilesObs [.obj 0, .d .str, .d .str]) := [{ obs' := Try.rfilesObs, res := [.d (.int .i64)], out := fun a x => ((writeR x.1 a.1 a.2.1).1, ()), ret := fun a x => ((writeR x.1 a.1 a.2.1).2, ()) }]
set_option maxRecDepth 100000 in
set_option maxHeartbeats 4000000 in
theorem vc_RWrite (s : List UInt8) (t : List UInt8) (f : RS) (hw : wfC [.obj 0, .d .str, .d .str] (s, t, ())) (hp : (fun _ x => x.1.1.length ≤ 6 ∧ 0 ≤ x.1.2.1 ∧ x.1.2.1 ≤ 1000000) (s, t, ()) (f, ())) : (objVCs Try.B Try.rreadCtx Try.f67 (rwriteAnn s t f) Try.rfilesObs [.obj 0, .d .str, .d .str] Try.rwriteAlts (s, t, ()) (f, ())).holds := by
  refine holds_of (p :=
    (True) ∧ (((decide (nameFault s > (0 : Int))) = true → (True ∧ ((f.1, f.2.1, ()), ()) = ((writeR f s t).1, ()) ∧ (nameFault s, ()) = ((writeR f s t).2, ()))) ∧ ((decide (nameFault s > (0 : Int))) = false → ((List.length t ≤ big) → (((decide ((↑(List.length t) : Int) > (1200 : Int))) = true → (True ∧ ((f.1, f.2.1, ()), ()) = ((writeR f s t).1, ()) ∧ ((2 : Int), ()) = ((writeR f s t).2, ()))) ∧ ((decide ((↑(List.length t) : Int) > (1200 : Int))) = false → (True) ∧ ((True) → (((decide ((findR f.1 s).2.2 > (0 : Int))) = true → ((List.length f.1 ≤ big) → ((((↑(List.length f.1) : Int) == (6 : Int)) = true → (True ∧ ((f.1, f.2.1, ()), ()) = ((writeR f s t).1, ()) ∧ ((8 : Int), ()) = ((writeR f s t).2, ()))) ∧ (((↑(List.length f.1) : Int) == (6 : Int)) = false → (((f.2.1 == (1000000 : Int)) = true → (True ∧ ((f.1, f.2.1, ()), ()) = ((writeR f s t).1, ()) ∧ ((8 : Int), ()) = ((writeR f s t).2, ()))) ∧ ((f.2.1 == (1000000 : Int)) = false → ((I64 f.2.1) → ((I64 (1 : Int)) → (I64 (f.2.1 + (1 : Int))) ∧
    (∃ (x : Nat × Bool × List (List UInt8 × List UInt8 × Int × Unit)), (x.1 ≤ List.length f.1 ∧ InsInv f.1 s (s, t, f.2.1 + (1 : Int), ()) x.1 x.2.1 x.2.2) ∧ ((0 : Int) = (↑x.1 : Int) ∧ false = x.2.1 ∧ @List.nil (List UInt8 × List UInt8 × Int × Unit) = x.2.2 ∧ True) ∧ @List.nil (List UInt8 × List UInt8 × Int × Unit) = x.2.2 ∧ True) ∧ (∀ x_0 : Nat × Bool × List (List UInt8 × List UInt8 × Int × Unit), ((x_0.1 ≤ List.length f.1 ∧ InsInv f.1 s (s, t, f.2.1 + (1 : Int), ()) x_0.1 x_0.2.1 x_0.2.2) → ((List.length f.1 ≤ big) → (((decide ((↑x_0.1 : Int) < (↑(List.length f.1) : Int))) = true → (((!x_0.2.1) = true → ((0 : Int) ≤ (↑x_0.1 : Int) ∧ (↑x_0.1 : Int) < (↑(List.length f.1) : Int)) ∧ (((Op.bytesLess s (nth tFile f.1 x_0.1).1 || s == (nth tFile f.1 x_0.1).1) = true → (x_0.2.2 = x_0.2.2 ∧ List.length x_0.2.2 + List.length [(s, t, f.2.1 + (1 : Int), ())] ≤ (1000000000 : Nat)) ∧ ((0 : Int) ≤ (↑x_0.1 : Int) ∧ (↑x_0.1 : Int) < (↑(List.length f.1) : Int)) ∧ (((!(nth tFile f.1 x_0.1).1 == s) = true → ((0 : Int) ≤ (↑x_0.1 : Int) ∧ (↑x_0.1 : Int) < (↑(List.length f.1) : Int)) ∧
    (x_0.2.2 ++ [(s, t, f.2.1 + (1 : Int), ())] = x_0.2.2 ++ [(s, t, f.2.1 + (1 : Int), ())] ∧ List.length (x_0.2.2 ++ [(s, t, f.2.1 + (1 : Int), ())]) + List.length [nth tFile f.1 x_0.1] ≤ (1000000000 : Nat)) ∧ ((I64 (↑x_0.1 : Int)) → ((I64 (1 : Int)) → (I64 ((↑x_0.1 : Int) + (1 : Int))) ∧
    (∃ (x' : Nat × Bool × List (List UInt8 × List UInt8 × Int × Unit)), (x'.1 ≤ List.length f.1 ∧ InsInv f.1 s (s, t, f.2.1 + (1 : Int), ()) x'.1 x'.2.1 x'.2.2) ∧ List.length f.1 - x'.1 < List.length f.1 - x_0.1 ∧ ((↑x_0.1 : Int) + (1 : Int) = (↑x'.1 : Int) ∧ true = x'.2.1 ∧ x_0.2.2 ++ [(s, t, f.2.1 + (1 : Int), ())] ++ [nth tFile f.1 x_0.1] = x'.2.2 ∧ True) ∧ x_0.2.2 ++ [(s, t, f.2.1 + (1 : Int), ())] ++ [nth tFile f.1 x_0.1] = x'.2.2 ∧ (f.1 = f.1 ∧ f.2.1 + (1 : Int) = f.2.1 + (1 : Int) ∧ True) ∧ True)))) ∧ ((!(nth tFile f.1 x_0.1).1 == s) = false → ((I64 (↑x_0.1 : Int)) → ((I64 (1 : Int)) → (I64 ((↑x_0.1 : Int) + (1 : Int))) ∧
    (∃ (x' : Nat × Bool × List (List UInt8 × List UInt8 × Int × Unit)), (x'.1 ≤ List.length f.1 ∧ InsInv f.1 s (s, t, f.2.1 + (1 : Int), ()) x'.1 x'.2.1 x'.2.2) ∧ List.length f.1 - x'.1 < List.length f.1 - x_0.1 ∧ ((↑x_0.1 : Int) + (1 : Int) = (↑x'.1 : Int) ∧ true = x'.2.1 ∧ x_0.2.2 ++ [(s, t, f.2.1 + (1 : Int), ())] = x'.2.2 ∧ True) ∧ x_0.2.2 ++ [(s, t, f.2.1 + (1 : Int), ())] = x'.2.2 ∧ (f.1 = f.1 ∧ f.2.1 + (1 : Int) = f.2.1 + (1 : Int) ∧ True) ∧ True)))))) ∧ ((Op.bytesLess s (nth tFile f.1 x_0.1).1 || s == (nth tFile f.1 x_0.1).1) = false → ((0 : Int) ≤ (↑x_0.1 : Int) ∧ (↑x_0.1 : Int) < (↑(List.length f.1) : Int)) ∧ (((!(nth tFile f.1 x_0.1).1 == s) = true → ((0 : Int) ≤ (↑x_0.1 : Int) ∧ (↑x_0.1 : Int) < (↑(List.length f.1) : Int)) ∧ (x_0.2.2 = x_0.2.2 ∧ List.length x_0.2.2 + List.length [nth tFile f.1 x_0.1] ≤ (1000000000 : Nat)) ∧ ((I64 (↑x_0.1 : Int)) → ((I64 (1 : Int)) → (I64 ((↑x_0.1 : Int) + (1 : Int))) ∧
    (∃ (x' : Nat × Bool × List (List UInt8 × List UInt8 × Int × Unit)), (x'.1 ≤ List.length f.1 ∧ InsInv f.1 s (s, t, f.2.1 + (1 : Int), ()) x'.1 x'.2.1 x'.2.2) ∧ List.length f.1 - x'.1 < List.length f.1 - x_0.1 ∧ ((↑x_0.1 : Int) + (1 : Int) = (↑x'.1 : Int) ∧ x_0.2.1 = x'.2.1 ∧ x_0.2.2 ++ [nth tFile f.1 x_0.1] = x'.2.2 ∧ True) ∧ x_0.2.2 ++ [nth tFile f.1 x_0.1] = x'.2.2 ∧ (f.1 = f.1 ∧ f.2.1 + (1 : Int) = f.2.1 + (1 : Int) ∧ True) ∧ True)))) ∧ ((!(nth tFile f.1 x_0.1).1 == s) = false → ((I64 (↑x_0.1 : Int)) → ((I64 (1 : Int)) → (I64 ((↑x_0.1 : Int) + (1 : Int))) ∧
    (∃ (x' : Nat × Bool × List (List UInt8 × List UInt8 × Int × Unit)), (x'.1 ≤ List.length f.1 ∧ InsInv f.1 s (s, t, f.2.1 + (1 : Int), ()) x'.1 x'.2.1 x'.2.2) ∧ List.length f.1 - x'.1 < List.length f.1 - x_0.1 ∧ ((↑x_0.1 : Int) + (1 : Int) = (↑x'.1 : Int) ∧ x_0.2.1 = x'.2.1 ∧ x_0.2.2 = x'.2.2 ∧ True) ∧ x_0.2.2 = x'.2.2 ∧ (f.1 = f.1 ∧ f.2.1 + (1 : Int) = f.2.1 + (1 : Int) ∧ True) ∧ True)))))))) ∧ ((!x_0.2.1) = false → ((0 : Int) ≤ (↑x_0.1 : Int) ∧ (↑x_0.1 : Int) < (↑(List.length f.1) : Int)) ∧ (((!(nth tFile f.1 x_0.1).1 == s) = true → ((0 : Int) ≤ (↑x_0.1 : Int) ∧ (↑x_0.1 : Int) < (↑(List.length f.1) : Int)) ∧ (x_0.2.2 = x_0.2.2 ∧ List.length x_0.2.2 + List.length [nth tFile f.1 x_0.1] ≤ (1000000000 : Nat)) ∧ ((I64 (↑x_0.1 : Int)) → ((I64 (1 : Int)) → (I64 ((↑x_0.1 : Int) + (1 : Int))) ∧
    (∃ (x' : Nat × Bool × List (List UInt8 × List UInt8 × Int × Unit)), (x'.1 ≤ List.length f.1 ∧ InsInv f.1 s (s, t, f.2.1 + (1 : Int), ()) x'.1 x'.2.1 x'.2.2) ∧ List.length f.1 - x'.1 < List.length f.1 - x_0.1 ∧ ((↑x_0.1 : Int) + (1 : Int) = (↑x'.1 : Int) ∧ x_0.2.1 = x'.2.1 ∧ x_0.2.2 ++ [nth tFile f.1 x_0.1] = x'.2.2 ∧ True) ∧ x_0.2.2 ++ [nth tFile f.1 x_0.1] = x'.2.2 ∧ (f.1 = f.1 ∧ f.2.1 + (1 : Int) = f.2.1 + (1 : Int) ∧ True) ∧ True)))) ∧ ((!(nth tFile f.1 x_0.1).1 == s) = false → ((I64 (↑x_0.1 : Int)) → ((I64 (1 : Int)) → (I64 ((↑x_0.1 : Int) + (1 : Int))) ∧
    (∃ (x' : Nat × Bool × List (List UInt8 × List UInt8 × Int × Unit)), (x'.1 ≤ List.length f.1 ∧ InsInv f.1 s (s, t, f.2.1 + (1 : Int), ()) x'.1 x'.2.1 x'.2.2) ∧ List.length f.1 - x'.1 < List.length f.1 - x_0.1 ∧ ((↑x_0.1 : Int) + (1 : Int) = (↑x'.1 : Int) ∧ x_0.2.1 = x'.2.1 ∧ x_0.2.2 = x'.2.2 ∧ True) ∧ x_0.2.2 = x'.2.2 ∧ (f.1 = f.1 ∧ f.2.1 + (1 : Int) = f.2.1 + (1 : Int) ∧ True) ∧ True)))))))) ∧ ((decide ((↑x_0.1 : Int) < (↑(List.length f.1) : Int))) = false → (((!x_0.2.1) = true → (x_0.2.2 = x_0.2.2 ∧ List.length x_0.2.2 + List.length [(s, t, f.2.1 + (1 : Int), ())] ≤ (1000000000 : Nat)) ∧
    (True ∧ ((x_0.2.2 ++ [(s, t, f.2.1 + (1 : Int), ())], f.2.1 + (1 : Int), ()), ()) = ((writeR f s t).1, ()) ∧ ((0 : Int), ()) = ((writeR f s t).2, ()))) ∧ ((!x_0.2.1) = false →
    (True ∧ ((x_0.2.2, f.2.1 + (1 : Int), ()), ()) = ((writeR f s t).1, ()) ∧ ((0 : Int), ()) = ((writeR f s t).2, ()))))))))))))))))) ∧ ((decide ((findR f.1 s).2.2 > (0 : Int))) = false → (((f.2.1 == (1000000 : Int)) = true → (True ∧ ((f.1, f.2.1, ()), ()) = ((writeR f s t).1, ()) ∧ ((8 : Int), ()) = ((writeR f s t).2, ()))) ∧ ((f.2.1 == (1000000 : Int)) = false → ((I64 f.2.1) → ((I64 (1 : Int)) → (I64 (f.2.1 + (1 : Int))) ∧
    (∃ (x : Nat × Bool × List (List UInt8 × List UInt8 × Int × Unit)), (x.1 ≤ List.length f.1 ∧ InsInv f.1 s (s, t, f.2.1 + (1 : Int), ()) x.1 x.2.1 x.2.2) ∧ ((0 : Int) = (↑x.1 : Int) ∧ false = x.2.1 ∧ @List.nil (List UInt8 × List UInt8 × Int × Unit) = x.2.2 ∧ True) ∧ @List.nil (List UInt8 × List UInt8 × Int × Unit) = x.2.2 ∧ True) ∧ (∀ x_0 : Nat × Bool × List (List UInt8 × List UInt8 × Int × Unit), ((x_0.1 ≤ List.length f.1 ∧ InsInv f.1 s (s, t, f.2.1 + (1 : Int), ()) x_0.1 x_0.2.1 x_0.2.2) → ((List.length f.1 ≤ big) → (((decide ((↑x_0.1 : Int) < (↑(List.length f.1) : Int))) = true → (((!x_0.2.1) = true → ((0 : Int) ≤ (↑x_0.1 : Int) ∧ (↑x_0.1 : Int) < (↑(List.length f.1) : Int)) ∧ (((Op.bytesLess s (nth tFile f.1 x_0.1).1 || s == (nth tFile f.1 x_0.1).1) = true → (x_0.2.2 = x_0.2.2 ∧ List.length x_0.2.2 + List.length [(s, t, f.2.1 + (1 : Int), ())] ≤ (1000000000 : Nat)) ∧ ((0 : Int) ≤ (↑x_0.1 : Int) ∧ (↑x_0.1 : Int) < (↑(List.length f.1) : Int)) ∧ (((!(nth tFile f.1 x_0.1).1 == s) = true → ((0 : Int) ≤ (↑x_0.1 : Int) ∧ (↑x_0.1 : Int) < (↑(List.length f.1) : Int)) ∧
    (x_0.2.2 ++ [(s, t, f.2.1 + (1 : Int), ())] = x_0.2.2 ++ [(s, t, f.2.1 + (1 : Int), ())] ∧ List.length (x_0.2.2 ++ [(s, t, f.2.1 + (1 : Int), ())]) + List.length [nth tFile f.1 x_0.1] ≤ (1000000000 : Nat)) ∧ ((I64 (↑x_0.1 : Int)) → ((I64 (1 : Int)) → (I64 ((↑x_0.1 : Int) + (1 : Int))) ∧
    (∃ (x' : Nat × Bool × List (List UInt8 × List UInt8 × Int × Unit)), (x'.1 ≤ List.length f.1 ∧ InsInv f.1 s (s, t, f.2.1 + (1 : Int), ()) x'.1 x'.2.1 x'.2.2) ∧ List.length f.1 - x'.1 < List.length f.1 - x_0.1 ∧ ((↑x_0.1 : Int) + (1 : Int) = (↑x'.1 : Int) ∧ true = x'.2.1 ∧ x_0.2.2 ++ [(s, t, f.2.1 + (1 : Int), ())] ++ [nth tFile f.1 x_0.1] = x'.2.2 ∧ True) ∧ x_0.2.2 ++ [(s, t, f.2.1 + (1 : Int), ())] ++ [nth tFile f.1 x_0.1] = x'.2.2 ∧ (f.1 = f.1 ∧ f.2.1 + (1 : Int) = f.2.1 + (1 : Int) ∧ True) ∧ True)))) ∧ ((!(nth tFile f.1 x_0.1).1 == s) = false → ((I64 (↑x_0.1 : Int)) → ((I64 (1 : Int)) → (I64 ((↑x_0.1 : Int) + (1 : Int))) ∧
    (∃ (x' : Nat × Bool × List (List UInt8 × List UInt8 × Int × Unit)), (x'.1 ≤ List.length f.1 ∧ InsInv f.1 s (s, t, f.2.1 + (1 : Int), ()) x'.1 x'.2.1 x'.2.2) ∧ List.length f.1 - x'.1 < List.length f.1 - x_0.1 ∧ ((↑x_0.1 : Int) + (1 : Int) = (↑x'.1 : Int) ∧ true = x'.2.1 ∧ x_0.2.2 ++ [(s, t, f.2.1 + (1 : Int), ())] = x'.2.2 ∧ True) ∧ x_0.2.2 ++ [(s, t, f.2.1 + (1 : Int), ())] = x'.2.2 ∧ (f.1 = f.1 ∧ f.2.1 + (1 : Int) = f.2.1 + (1 : Int) ∧ True) ∧ True)))))) ∧ ((Op.bytesLess s (nth tFile f.1 x_0.1).1 || s == (nth tFile f.1 x_0.1).1) = false → ((0 : Int) ≤ (↑x_0.1 : Int) ∧ (↑x_0.1 : Int) < (↑(List.length f.1) : Int)) ∧ (((!(nth tFile f.1 x_0.1).1 == s) = true → ((0 : Int) ≤ (↑x_0.1 : Int) ∧ (↑x_0.1 : Int) < (↑(List.length f.1) : Int)) ∧ (x_0.2.2 = x_0.2.2 ∧ List.length x_0.2.2 + List.length [nth tFile f.1 x_0.1] ≤ (1000000000 : Nat)) ∧ ((I64 (↑x_0.1 : Int)) → ((I64 (1 : Int)) → (I64 ((↑x_0.1 : Int) + (1 : Int))) ∧
    (∃ (x' : Nat × Bool × List (List UInt8 × List UInt8 × Int × Unit)), (x'.1 ≤ List.length f.1 ∧ InsInv f.1 s (s, t, f.2.1 + (1 : Int), ()) x'.1 x'.2.1 x'.2.2) ∧ List.length f.1 - x'.1 < List.length f.1 - x_0.1 ∧ ((↑x_0.1 : Int) + (1 : Int) = (↑x'.1 : Int) ∧ x_0.2.1 = x'.2.1 ∧ x_0.2.2 ++ [nth tFile f.1 x_0.1] = x'.2.2 ∧ True) ∧ x_0.2.2 ++ [nth tFile f.1 x_0.1] = x'.2.2 ∧ (f.1 = f.1 ∧ f.2.1 + (1 : Int) = f.2.1 + (1 : Int) ∧ True) ∧ True)))) ∧ ((!(nth tFile f.1 x_0.1).1 == s) = false → ((I64 (↑x_0.1 : Int)) → ((I64 (1 : Int)) → (I64 ((↑x_0.1 : Int) + (1 : Int))) ∧
    (∃ (x' : Nat × Bool × List (List UInt8 × List UInt8 × Int × Unit)), (x'.1 ≤ List.length f.1 ∧ InsInv f.1 s (s, t, f.2.1 + (1 : Int), ()) x'.1 x'.2.1 x'.2.2) ∧ List.length f.1 - x'.1 < List.length f.1 - x_0.1 ∧ ((↑x_0.1 : Int) + (1 : Int) = (↑x'.1 : Int) ∧ x_0.2.1 = x'.2.1 ∧ x_0.2.2 = x'.2.2 ∧ True) ∧ x_0.2.2 = x'.2.2 ∧ (f.1 = f.1 ∧ f.2.1 + (1 : Int) = f.2.1 + (1 : Int) ∧ True) ∧ True)))))))) ∧ ((!x_0.2.1) = false → ((0 : Int) ≤ (↑x_0.1 : Int) ∧ (↑x_0.1 : Int) < (↑(List.length f.1) : Int)) ∧ (((!(nth tFile f.1 x_0.1).1 == s) = true → ((0 : Int) ≤ (↑x_0.1 : Int) ∧ (↑x_0.1 : Int) < (↑(List.length f.1) : Int)) ∧ (x_0.2.2 = x_0.2.2 ∧ List.length x_0.2.2 + List.length [nth tFile f.1 x_0.1] ≤ (1000000000 : Nat)) ∧ ((I64 (↑x_0.1 : Int)) → ((I64 (1 : Int)) → (I64 ((↑x_0.1 : Int) + (1 : Int))) ∧
    (∃ (x' : Nat × Bool × List (List UInt8 × List UInt8 × Int × Unit)), (x'.1 ≤ List.length f.1 ∧ InsInv f.1 s (s, t, f.2.1 + (1 : Int), ()) x'.1 x'.2.1 x'.2.2) ∧ List.length f.1 - x'.1 < List.length f.1 - x_0.1 ∧ ((↑x_0.1 : Int) + (1 : Int) = (↑x'.1 : Int) ∧ x_0.2.1 = x'.2.1 ∧ x_0.2.2 ++ [nth tFile f.1 x_0.1] = x'.2.2 ∧ True) ∧ x_0.2.2 ++ [nth tFile f.1 x_0.1] = x'.2.2 ∧ (f.1 = f.1 ∧ f.2.1 + (1 : Int) = f.2.1 + (1 : Int) ∧ True) ∧ True)))) ∧ ((!(nth tFile f.1 x_0.1).1 == s) = false → ((I64 (↑x_0.1 : Int)) → ((I64 (1 : Int)) → (I64 ((↑x_0.1 : Int) + (1 : Int))) ∧
    (∃ (x' : Nat × Bool × List (List UInt8 × List UInt8 × Int × Unit)), (x'.1 ≤ List.length f.1 ∧ InsInv f.1 s (s, t, f.2.1 + (1 : Int), ()) x'.1 x'.2.1 x'.2.2) ∧ List.length f.1 - x'.1 < List.length f.1 - x_0.1 ∧ ((↑x_0.1 : Int) + (1 : Int) = (↑x'.1 : Int) ∧ x_0.2.1 = x'.2.1 ∧ x_0.2.2 = x'.2.2 ∧ True) ∧ x_0.2.2 = x'.2.2 ∧ (f.1 = f.1 ∧ f.2.1 + (1 : Int) = f.2.1 + (1 : Int) ∧ True) ∧ True)))))))) ∧ ((decide ((↑x_0.1 : Int) < (↑(List.length f.1) : Int))) = false → (((!x_0.2.1) = true → (x_0.2.2 = x_0.2.2 ∧ List.length x_0.2.2 + List.length [(s, t, f.2.1 + (1 : Int), ())] ≤ (1000000000 : Nat)) ∧
    (True ∧ ((x_0.2.2 ++ [(s, t, f.2.1 + (1 : Int), ())], f.2.1 + (1 : Int), ()), ()) = ((writeR f s t).1, ()) ∧ ((0 : Int), ()) = ((writeR f s t).2, ()))) ∧ ((!x_0.2.1) = false →
    (True ∧ ((x_0.2.2, f.2.1 + (1 : Int), ()), ()) = ((writeR f s t).1, ()) ∧ ((0 : Int), ()) = ((writeR f s t).2, ())))))))))))))))))))))) (by kernel_rfl) ?_
  try dsimp only at hp
  refine ⟨trivial, ?_⟩
  refine ⟨fun h0 => ?_, fun h0 => ?_⟩
  · try simp only [bl, reduceCtorEq] at h0
    rw [writeR_name (by omega)]; exact ⟨trivial, rfl, rfl⟩
  · try simp only [bl, reduceCtorEq] at h0
    intro h1
    refine ⟨fun h2 => ?_, fun h2 => ?_⟩
    · try simp only [bl, reduceCtorEq] at h2
      have hnn := nameFault_nonneg s; have hn0 : nameFault s = 0 := (by omega)
      rw [writeR_many hn0 (by omega)]; exact ⟨trivial, rfl, rfl⟩
    · try simp only [bl, reduceCtorEq] at h2
      refine ⟨trivial, ?_⟩
      intro h3
      refine ⟨fun h4 => ?_, fun h4 => ?_⟩
      · try simp only [bl, reduceCtorEq] at h4
        intro h5
        refine ⟨fun h6 => ?_, fun h6 => ?_⟩
        · try simp only [bl, reduceCtorEq] at h6
          have hnn := nameFault_nonneg s; have hn0 : nameFault s = 0 := (by omega)
          rw [writeR_full hn0 (by omega) (by omega)]; exact ⟨trivial, rfl, rfl⟩
        · try simp only [bl, reduceCtorEq] at h6
          refine ⟨fun h7 => ?_, fun h7 => ?_⟩
          · try simp only [bl, reduceCtorEq] at h7
            have hnn := nameFault_nonneg s; have hn0 : nameFault s = 0 := (by omega)
            rw [writeR_full hn0 (by omega) (by omega)]; exact ⟨trivial, rfl, rfl⟩
          · try simp only [bl, reduceCtorEq] at h7
            intro h8
            intro h9
            refine ⟨?_, ?_⟩
            · first | trivial | omega | (dsimp only [D] at *; omega) | (simp only [I64, big] at *; omega) | (simp_all; done)
            refine ⟨?_, ?_⟩
            · exact ⟨(0, false, []), ⟨by omega, InsInv.start _ _ _⟩, ⟨rfl, rfl, rfl, trivial⟩, rfl, trivial⟩
            intro x_0 q_0
            intro h10
            refine ⟨fun h11 => ?_, fun h11 => ?_⟩
            · try simp only [bl, reduceCtorEq] at h11
              refine ⟨fun h12 => ?_, fun h12 => ?_⟩
              · try simp only [bl, reduceCtorEq] at h12
                refine ⟨?_, ?_⟩
                · first | trivial | omega | (dsimp only [D] at *; omega) | (simp only [I64, big] at *; omega) | (simp_all; done)
                refine ⟨fun h13 => ?_, fun h13 => ?_⟩
                · try simp only [bl, reduceCtorEq] at h13
                  refine ⟨?_, ?_⟩
                  · have := q_0.2.2.2.1; exact ⟨rfl, by simp only [List.length_singleton]; omega⟩
                  refine ⟨?_, ?_⟩
                  · first | trivial | omega | (dsimp only [D] at *; omega) | (simp only [I64, big] at *; omega) | (simp_all; done)
                  refine ⟨fun h14 => ?_, fun h14 => ?_⟩
                  · try simp only [bl, reduceCtorEq] at h14
                    refine ⟨?_, ?_⟩
                    · first | trivial | omega | (dsimp only [D] at *; omega) | (simp only [I64, big] at *; omega) | (simp_all; done)
                    refine ⟨?_, ?_⟩
                    · have := q_0.2.2.2.1; exact ⟨rfl, by simp only [List.length_append, List.length_singleton]; omega⟩
                    intro h15
                    intro h16
                    refine ⟨?_, ?_⟩
                    · first | trivial | omega | (dsimp only [D] at *; omega) | (simp only [I64, big] at *; omega) | (simp_all; done)
                    have hl : x_0.2.1 = false := (by assumption); have hv : InsInv f.1 s (s, t, f.2.1 + 1, ()) x_0.1 false x_0.2.2 := (by have := q_0.2; rwa [hl] at this)
                    exact ⟨(x_0.1 + 1, true, _), ⟨by omega, hv.put (by omega) (by simp_all) (by assumption)⟩, by simp only; omega, ⟨by simp only; omega, rfl, rfl, trivial⟩, rfl, (by repeat' (first | exact trivial | rfl | apply And.intro))⟩
                  · try simp only [bl, reduceCtorEq] at h14
                    intro h15
                    intro h16
                    refine ⟨?_, ?_⟩
                    · first | trivial | omega | (dsimp only [D] at *; omega) | (simp only [I64, big] at *; omega) | (simp_all; done)
                    have hl : x_0.2.1 = false := (by assumption); have hv : InsInv f.1 s (s, t, f.2.1 + 1, ()) x_0.1 false x_0.2.2 := (by have := q_0.2; rwa [hl] at this)
                    exact ⟨(x_0.1 + 1, true, _), ⟨by omega, hv.putOnly (by omega) (by simp_all) (by assumption)⟩, by simp only; omega, ⟨by simp only; omega, rfl, rfl, trivial⟩, rfl, (by repeat' (first | exact trivial | rfl | apply And.intro))⟩
                · try simp only [bl, reduceCtorEq] at h13
                  refine ⟨?_, ?_⟩
                  · first | trivial | omega | (dsimp only [D] at *; omega) | (simp only [I64, big] at *; omega) | (simp_all; done)
                  refine ⟨fun h14 => ?_, fun h14 => ?_⟩
                  · try simp only [bl, reduceCtorEq] at h14
                    refine ⟨?_, ?_⟩
                    · first | trivial | omega | (dsimp only [D] at *; omega) | (simp only [I64, big] at *; omega) | (simp_all; done)
                    refine ⟨?_, ?_⟩
                    · have := q_0.2.2.2.1; exact ⟨rfl, by simp only [List.length_singleton]; omega⟩
                    intro h15
                    intro h16
                    refine ⟨?_, ?_⟩
                    · first | trivial | omega | (dsimp only [D] at *; omega) | (simp only [I64, big] at *; omega) | (simp_all; done)
                    have hl : x_0.2.1 = false := (by assumption); have hv : InsInv f.1 s (s, t, f.2.1 + 1, ()) x_0.1 false x_0.2.2 := (by have := q_0.2; rwa [hl] at this)
                    exact ⟨(x_0.1 + 1, false, _), ⟨by omega, hv.low (by omega) (by simp_all)⟩, by simp only; omega, ⟨by simp only; omega, hl, rfl, trivial⟩, rfl, (by repeat' (first | exact trivial | rfl | apply And.intro))⟩
                  · try simp only [bl, reduceCtorEq] at h14
                    intro h15
                    intro h16
                    refine ⟨?_, ?_⟩
                    · first | trivial | omega | (dsimp only [D] at *; omega) | (simp only [I64, big] at *; omega) | (simp_all; done)
                    first | trivial | omega | (dsimp only [D] at *; omega) | (simp only [I64, big] at *; omega) | (simp_all; done)
              · try simp only [bl, reduceCtorEq] at h12
                refine ⟨?_, ?_⟩
                · first | trivial | omega | (dsimp only [D] at *; omega) | (simp only [I64, big] at *; omega) | (simp_all; done)
                refine ⟨fun h13 => ?_, fun h13 => ?_⟩
                · try simp only [bl, reduceCtorEq] at h13
                  refine ⟨?_, ?_⟩
                  · first | trivial | omega | (dsimp only [D] at *; omega) | (simp only [I64, big] at *; omega) | (simp_all; done)
                  refine ⟨?_, ?_⟩
                  · have := q_0.2.2.2.1; exact ⟨rfl, by simp only [List.length_singleton]; omega⟩
                  intro h14
                  intro h15
                  refine ⟨?_, ?_⟩
                  · first | trivial | omega | (dsimp only [D] at *; omega) | (simp only [I64, big] at *; omega) | (simp_all; done)
                  have hl : x_0.2.1 = true := (by assumption); have hv : InsInv f.1 s (s, t, f.2.1 + 1, ()) x_0.1 true x_0.2.2 := (by have := q_0.2; rwa [hl] at this)
                  exact ⟨(x_0.1 + 1, true, _), ⟨by omega, hv.high (by omega) (by assumption)⟩, by simp only; omega, ⟨by simp only; omega, hl, rfl, trivial⟩, rfl, (by repeat' (first | exact trivial | rfl | apply And.intro))⟩
                · try simp only [bl, reduceCtorEq] at h13
                  intro h14
                  intro h15
                  refine ⟨?_, ?_⟩
                  · first | trivial | omega | (dsimp only [D] at *; omega) | (simp only [I64, big] at *; omega) | (simp_all; done)
                  have hl : x_0.2.1 = true := (by assumption); have hv : InsInv f.1 s (s, t, f.2.1 + 1, ()) x_0.1 true x_0.2.2 := (by have := q_0.2; rwa [hl] at this)
                  exact ⟨(x_0.1 + 1, true, _), ⟨by omega, hv.skip (by omega) (by assumption)⟩, by simp only; omega, ⟨by simp only; omega, hl, rfl, trivial⟩, rfl, (by repeat' (first | exact trivial | rfl | apply And.intro))⟩
            · try simp only [bl, reduceCtorEq] at h11
              refine ⟨fun h12 => ?_, fun h12 => ?_⟩
              · try simp only [bl, reduceCtorEq] at h12
                refine ⟨?_, ?_⟩
                · have := q_0.2.2.2.1; exact ⟨rfl, by simp only [List.length_singleton]; omega⟩
                have hl : x_0.2.1 = false := (by assumption); have hv : InsInv f.1 s (s, t, f.2.1 + 1, ()) x_0.1 false x_0.2.2 := (by have := q_0.2; rwa [hl] at this)
                have hnn := nameFault_nonneg s; have hn0 : nameFault s = 0 := (by omega)
                rw [writeR_ok hn0 (by omega) (by omega), ← hv.last (by omega)]; exact ⟨trivial, rfl, rfl⟩
              · try simp only [bl, reduceCtorEq] at h12
                have hl : x_0.2.1 = true := (by assumption); have hv : InsInv f.1 s (s, t, f.2.1 + 1, ()) x_0.1 true x_0.2.2 := (by have := q_0.2; rwa [hl] at this)
                have hnn := nameFault_nonneg s; have hn0 : nameFault s = 0 := (by omega)
                rw [writeR_ok hn0 (by omega) (by omega), ← hv.all (by omega)]; exact ⟨trivial, rfl, rfl⟩
      · try simp only [bl, reduceCtorEq] at h4
        refine ⟨fun h5 => ?_, fun h5 => ?_⟩
        · try simp only [bl, reduceCtorEq] at h5
          have hnn := nameFault_nonneg s; have hn0 : nameFault s = 0 := (by omega)
          rw [writeR_full hn0 (by omega) (by omega)]; exact ⟨trivial, rfl, rfl⟩
        · try simp only [bl, reduceCtorEq] at h5
          intro h6
          intro h7
          refine ⟨?_, ?_⟩
          · first | trivial | omega | (dsimp only [D] at *; omega) | (simp only [I64, big] at *; omega) | (simp_all; done)
          refine ⟨?_, ?_⟩
          · exact ⟨(0, false, []), ⟨by omega, InsInv.start _ _ _⟩, ⟨rfl, rfl, rfl, trivial⟩, rfl, trivial⟩
          intro x_0 q_0
          intro h8
          refine ⟨fun h9 => ?_, fun h9 => ?_⟩
          · try simp only [bl, reduceCtorEq] at h9
            refine ⟨fun h10 => ?_, fun h10 => ?_⟩
            · try simp only [bl, reduceCtorEq] at h10
              refine ⟨?_, ?_⟩
              · first | trivial | omega | (dsimp only [D] at *; omega) | (simp only [I64, big] at *; omega) | (simp_all; done)
              refine ⟨fun h11 => ?_, fun h11 => ?_⟩
              · try simp only [bl, reduceCtorEq] at h11
                refine ⟨?_, ?_⟩
                · have := q_0.2.2.2.1; exact ⟨rfl, by simp only [List.length_singleton]; omega⟩
                refine ⟨?_, ?_⟩
                · first | trivial | omega | (dsimp only [D] at *; omega) | (simp only [I64, big] at *; omega) | (simp_all; done)
                refine ⟨fun h12 => ?_, fun h12 => ?_⟩
                · try simp only [bl, reduceCtorEq] at h12
                  refine ⟨?_, ?_⟩
                  · first | trivial | omega | (dsimp only [D] at *; omega) | (simp only [I64, big] at *; omega) | (simp_all; done)
                  refine ⟨?_, ?_⟩
                  · have := q_0.2.2.2.1; exact ⟨rfl, by simp only [List.length_append, List.length_singleton]; omega⟩
                  intro h13
                  intro h14
                  refine ⟨?_, ?_⟩
                  · first | trivial | omega | (dsimp only [D] at *; omega) | (simp only [I64, big] at *; omega) | (simp_all; done)
                  have hl : x_0.2.1 = false := (by assumption); have hv : InsInv f.1 s (s, t, f.2.1 + 1, ()) x_0.1 false x_0.2.2 := (by have := q_0.2; rwa [hl] at this)
                  exact ⟨(x_0.1 + 1, true, _), ⟨by omega, hv.put (by omega) (by simp_all) (by assumption)⟩, by simp only; omega, ⟨by simp only; omega, rfl, rfl, trivial⟩, rfl, (by repeat' (first | exact trivial | rfl | apply And.intro))⟩
                · try simp only [bl, reduceCtorEq] at h12
                  intro h13
                  intro h14
                  refine ⟨?_, ?_⟩
                  · first | trivial | omega | (dsimp only [D] at *; omega) | (simp only [I64, big] at *; omega) | (simp_all; done)
                  have hl : x_0.2.1 = false := (by assumption); have hv : InsInv f.1 s (s, t, f.2.1 + 1, ()) x_0.1 false x_0.2.2 := (by have := q_0.2; rwa [hl] at this)
                  exact ⟨(x_0.1 + 1, true, _), ⟨by omega, hv.putOnly (by omega) (by simp_all) (by assumption)⟩, by simp only; omega, ⟨by simp only; omega, rfl, rfl, trivial⟩, rfl, (by repeat' (first | exact trivial | rfl | apply And.intro))⟩
              · try simp only [bl, reduceCtorEq] at h11
                refine ⟨?_, ?_⟩
                · first | trivial | omega | (dsimp only [D] at *; omega) | (simp only [I64, big] at *; omega) | (simp_all; done)
                refine ⟨fun h12 => ?_, fun h12 => ?_⟩
                · try simp only [bl, reduceCtorEq] at h12
                  refine ⟨?_, ?_⟩
                  · first | trivial | omega | (dsimp only [D] at *; omega) | (simp only [I64, big] at *; omega) | (simp_all; done)
                  refine ⟨?_, ?_⟩
                  · have := q_0.2.2.2.1; exact ⟨rfl, by simp only [List.length_singleton]; omega⟩
                  intro h13
                  intro h14
                  refine ⟨?_, ?_⟩
                  · first | trivial | omega | (dsimp only [D] at *; omega) | (simp only [I64, big] at *; omega) | (simp_all; done)
                  have hl : x_0.2.1 = false := (by assumption); have hv : InsInv f.1 s (s, t, f.2.1 + 1, ()) x_0.1 false x_0.2.2 := (by have := q_0.2; rwa [hl] at this)
                  exact ⟨(x_0.1 + 1, false, _), ⟨by omega, hv.low (by omega) (by simp_all)⟩, by simp only; omega, ⟨by simp only; omega, hl, rfl, trivial⟩, rfl, (by repeat' (first | exact trivial | rfl | apply And.intro))⟩
                · try simp only [bl, reduceCtorEq] at h12
                  intro h13
                  intro h14
                  refine ⟨?_, ?_⟩
                  · first | trivial | omega | (dsimp only [D] at *; omega) | (simp only [I64, big] at *; omega) | (simp_all; done)
                  first | trivial | omega | (dsimp only [D] at *; omega) | (simp only [I64, big] at *; omega) | (simp_all; done)
            · try simp only [bl, reduceCtorEq] at h10
              refine ⟨?_, ?_⟩
              · first | trivial | omega | (dsimp only [D] at *; omega) | (simp only [I64, big] at *; omega) | (simp_all; done)
              refine ⟨fun h11 => ?_, fun h11 => ?_⟩
              · try simp only [bl, reduceCtorEq] at h11
                refine ⟨?_, ?_⟩
                · first | trivial | omega | (dsimp only [D] at *; omega) | (simp only [I64, big] at *; omega) | (simp_all; done)
                refine ⟨?_, ?_⟩
                · have := q_0.2.2.2.1; exact ⟨rfl, by simp only [List.length_singleton]; omega⟩
                intro h12
                intro h13
                refine ⟨?_, ?_⟩
                · first | trivial | omega | (dsimp only [D] at *; omega) | (simp only [I64, big] at *; omega) | (simp_all; done)
                have hl : x_0.2.1 = true := (by assumption); have hv : InsInv f.1 s (s, t, f.2.1 + 1, ()) x_0.1 true x_0.2.2 := (by have := q_0.2; rwa [hl] at this)
                exact ⟨(x_0.1 + 1, true, _), ⟨by omega, hv.high (by omega) (by assumption)⟩, by simp only; omega, ⟨by simp only; omega, hl, rfl, trivial⟩, rfl, (by repeat' (first | exact trivial | rfl | apply And.intro))⟩
              · try simp only [bl, reduceCtorEq] at h11
                intro h12
                intro h13
                refine ⟨?_, ?_⟩
                · first | trivial | omega | (dsimp only [D] at *; omega) | (simp only [I64, big] at *; omega) | (simp_all; done)
                have hl : x_0.2.1 = true := (by assumption); have hv : InsInv f.1 s (s, t, f.2.1 + 1, ()) x_0.1 true x_0.2.2 := (by have := q_0.2; rwa [hl] at this)
                exact ⟨(x_0.1 + 1, true, _), ⟨by omega, hv.skip (by omega) (by assumption)⟩, by simp only; omega, ⟨by simp only; omega, hl, rfl, trivial⟩, rfl, (by repeat' (first | exact trivial | rfl | apply And.intro))⟩
          · try simp only [bl, reduceCtorEq] at h9
            refine ⟨fun h10 => ?_, fun h10 => ?_⟩
            · try simp only [bl, reduceCtorEq] at h10
              refine ⟨?_, ?_⟩
              · have := q_0.2.2.2.1; exact ⟨rfl, by simp only [List.length_singleton]; omega⟩
              have hl : x_0.2.1 = false := (by assumption); have hv : InsInv f.1 s (s, t, f.2.1 + 1, ()) x_0.1 false x_0.2.2 := (by have := q_0.2; rwa [hl] at this)
              have hnn := nameFault_nonneg s; have hn0 : nameFault s = 0 := (by omega)
              rw [writeR_ok hn0 (by omega) (by omega), ← hv.last (by omega)]; exact ⟨trivial, rfl, rfl⟩
            · try simp only [bl, reduceCtorEq] at h10
              have hl : x_0.2.1 = true := (by assumption); have hv : InsInv f.1 s (s, t, f.2.1 + 1, ()) x_0.1 true x_0.2.2 := (by have := q_0.2; rwa [hl] at this)
              have hnn := nameFault_nonneg s; have hn0 : nameFault s = 0 := (by omega)
              rw [writeR_ok hn0 (by omega) (by omega), ← hv.all (by omega)]; exact ⟨trivial, rfl, rfl⟩
theorem Try.ok_RWrite {X : Ext} : CallOK Try.prog Try.B.eT X 67 false (objSpec Try.rfilesObs [.obj 0, .d .str, .d .str] (fun _ x => x.1.1.length ≤ 6 ∧ 0 ≤ x.1.2.1 ∧ x.1.2.1 ≤ 1000000) Try.rwriteAlts) :=
  callOK_of_obj (X := X) Try.rreadCtxOK Try.func67 (by kernel_rfl) (fun (a : CD [.obj 0, .d .str, .d .str]) (x : PD Try.rfilesObs) => rwriteAnn a.1 a.2.1 x.1) (fun (a : CD [.obj 0, .d .str, .d .str]) (x : PD Try.rfilesObs) hw hp => vc_RWrite a.1 a.2.1 x.1 hw hp)
def rremoveAnn (s : List UInt8) (f : RS) : Anns := [(0, fun st => { X := Nat × List (D tFile), inv := fun x => x.1 ≤ f.1.length ∧ x.2 ++ (f.1.drop x.1).filter (isNot s) = f.1.filter (isNot s) ∧ x.2.length ≤ x.1, meas := fun x => f.1.length - x.1, slots := fun x => [(6, sI x.1), (5, .s (.one (.app tFile x.2 (objOf st 5))))], objs := fun x => [(objOf st 5, .tok tFile x.2)], keep := [0, 1, 4], mods := [objOf st 5] })]
def Try.rremoveAlts : List (Alt Try.rfilesObs [.obj 0, .d .str]) := [{ obs' := Try.rfilesObs, res := [.d (.int .i64)], out := fun a x => ((removeR x.1 a.1).1, ()), ret := fun a x => ((removeR x.1 a.1).2, ()) }]
set_option maxRecDepth 100000 in
set_option maxHeartbeats 4000000 in
theorem vc_RRemove (s : List UInt8) (f : RS) (hw : wfC [.obj 0, .d .str] (s, ())) (hp : (fun _ x => x.1.1.length ≤ 6) (s, ()) (f, ())) : (objVCs Try.B [] Try.f69 (rremoveAnn s f) Try.rfilesObs [.obj 0, .d .str] Try.rremoveAlts (s, ()) (f, ())).holds := by
  refine holds_of (p :=
    (∃ (x : Nat × List (List UInt8 × List UInt8 × Int × Unit)), (x.1 ≤ List.length f.1 ∧ x.2 ++ List.filter (isNot s) (List.drop x.1 f.1) = List.filter (isNot s) f.1 ∧ List.length x.2 ≤ x.1) ∧ ((0 : Int) = (↑x.1 : Int) ∧ @List.nil (List UInt8 × List UInt8 × Int × Unit) = x.2 ∧ True) ∧ @List.nil (List UInt8 × List UInt8 × Int × Unit) = x.2 ∧ True) ∧ (∀ x_0 : Nat × List (List UInt8 × List UInt8 × Int × Unit),
    ((x_0.1 ≤ List.length f.1 ∧ x_0.2 ++ List.filter (isNot s) (List.drop x_0.1 f.1) = List.filter (isNot s) f.1 ∧ List.length x_0.2 ≤ x_0.1) → ((List.length f.1 ≤ big) → (((decide ((↑x_0.1 : Int) < (↑(List.length f.1) : Int))) = true → ((0 : Int) ≤ (↑x_0.1 : Int) ∧ (↑x_0.1 : Int) < (↑(List.length f.1) : Int)) ∧ (((!(nth tFile f.1 x_0.1).1 == s) = true → ((0 : Int) ≤ (↑x_0.1 : Int) ∧ (↑x_0.1 : Int) < (↑(List.length f.1) : Int)) ∧ (x_0.2 = x_0.2 ∧ List.length x_0.2 + List.length [nth tFile f.1 x_0.1] ≤ (1000000000 : Nat)) ∧ ((I64 (↑x_0.1 : Int)) → ((I64 (1 : Int)) → (I64 ((↑x_0.1 : Int) + (1 : Int))) ∧
    (∃ (x' : Nat × List (List UInt8 × List UInt8 × Int × Unit)), (x'.1 ≤ List.length f.1 ∧ x'.2 ++ List.filter (isNot s) (List.drop x'.1 f.1) = List.filter (isNot s) f.1 ∧ List.length x'.2 ≤ x'.1) ∧ List.length f.1 - x'.1 < List.length f.1 - x_0.1 ∧ ((↑x_0.1 : Int) + (1 : Int) = (↑x'.1 : Int) ∧ x_0.2 ++ [nth tFile f.1 x_0.1] = x'.2 ∧ True) ∧ x_0.2 ++ [nth tFile f.1 x_0.1] = x'.2 ∧ (f.1 = f.1 ∧ f.2.1 = f.2.1 ∧ True) ∧ True)))) ∧ ((!(nth tFile f.1 x_0.1).1 == s) = false → ((I64 (↑x_0.1 : Int)) → ((I64 (1 : Int)) → (I64 ((↑x_0.1 : Int) + (1 : Int))) ∧
    (∃ (x' : Nat × List (List UInt8 × List UInt8 × Int × Unit)), (x'.1 ≤ List.length f.1 ∧ x'.2 ++ List.filter (isNot s) (List.drop x'.1 f.1) = List.filter (isNot s) f.1 ∧ List.length x'.2 ≤ x'.1) ∧ List.length f.1 - x'.1 < List.length f.1 - x_0.1 ∧ ((↑x_0.1 : Int) + (1 : Int) = (↑x'.1 : Int) ∧ x_0.2 = x'.2 ∧ True) ∧ x_0.2 = x'.2 ∧ (f.1 = f.1 ∧ f.2.1 = f.2.1 ∧ True) ∧ True)))))) ∧ ((decide ((↑x_0.1 : Int) < (↑(List.length f.1) : Int))) = false → ((List.length x_0.2 ≤ big) → ((List.length f.1 ≤ big) → ((((↑(List.length x_0.2) : Int) == (↑(List.length f.1) : Int)) = true → (True ∧ ((f.1, f.2.1, ()), ()) = ((removeR f s).1, ()) ∧ ((5 : Int), ()) = ((removeR f s).2, ()))) ∧ (((↑(List.length x_0.2) : Int) == (↑(List.length f.1) : Int)) = false → (True ∧ ((x_0.2, f.2.1, ()), ()) = ((removeR f s).1, ()) ∧ ((0 : Int), ()) = ((removeR f s).2, ())))))))))))) (by kernel_rfl) ?_
  try dsimp only at hp
  refine ⟨?_, ?_⟩
  · exact ⟨(0, []), ⟨by omega, rfl, by simp⟩, ⟨rfl, rfl, trivial⟩, rfl, trivial⟩
  intro x_0 q_0
  intro h0
  refine ⟨fun h1 => ?_, fun h1 => ?_⟩
  · try simp only [bl, reduceCtorEq] at h1
    refine ⟨?_, ?_⟩
    · first | trivial | omega | (dsimp only [D] at *; omega) | (simp only [I64, big] at *; omega) | (simp_all; done)
    refine ⟨fun h2 => ?_, fun h2 => ?_⟩
    · try simp only [bl, reduceCtorEq] at h2
      refine ⟨?_, ?_⟩
      · first | trivial | omega | (dsimp only [D] at *; omega) | (simp only [I64, big] at *; omega) | (simp_all; done)
      refine ⟨?_, ?_⟩
      · have := q_0.2.2; exact ⟨rfl, by simp only [List.length_singleton]; omega⟩
      intro h3
      intro h4
      refine ⟨?_, ?_⟩
      · first | trivial | omega | (dsimp only [D] at *; omega) | (simp only [I64, big] at *; omega) | (simp_all; done)
      exact ⟨(x_0.1 + 1, _), ⟨by omega, filt_keep q_0.2.1 (by omega) h2, by simp only [List.length_append, List.length_singleton]; omega⟩, by simp only; omega, ⟨by simp only; omega, rfl, trivial⟩, rfl, (by repeat' (first | exact trivial | rfl | apply And.intro))⟩
    · try simp only [bl, reduceCtorEq] at h2
      intro h3
      intro h4
      refine ⟨?_, ?_⟩
      · first | trivial | omega | (dsimp only [D] at *; omega) | (simp only [I64, big] at *; omega) | (simp_all; done)
      exact ⟨(x_0.1 + 1, x_0.2), ⟨by omega, filt_skip q_0.2.1 (by omega) h2, by simp only; omega⟩, by simp only; omega, ⟨by simp only; omega, rfl, trivial⟩, rfl, (by repeat' (first | exact trivial | rfl | apply And.intro))⟩
  · try simp only [bl, reduceCtorEq] at h1
    intro h2
    intro h3
    refine ⟨fun h4 => ?_, fun h4 => ?_⟩
    · try simp only [bl, reduceCtorEq] at h4
      have he := filt_end q_0.2.1 (by omega); rw [removeR_no (by rw [← he]; omega)]; exact ⟨trivial, rfl, rfl⟩
    · try simp only [bl, reduceCtorEq] at h4
      have he := filt_end q_0.2.1 (by omega); rw [removeR_yes (by rw [← he]; omega), ← he]; exact ⟨trivial, rfl, rfl⟩
theorem Try.ok_RRemove {X : Ext} : CallOK Try.prog Try.B.eT X 69 false (objSpec Try.rfilesObs [.obj 0, .d .str] (fun _ x => x.1.1.length ≤ 6) Try.rremoveAlts) :=
  callOK_of_obj (X := X) (ctx0 Try.tyOK) Try.func69 (by kernel_rfl) (fun (a : CD [.obj 0, .d .str]) (x : PD Try.rfilesObs) => rremoveAnn a.1 x.1) (fun (a : CD [.obj 0, .d .str]) (x : PD Try.rfilesObs) hw hp => vc_RRemove a.1 x.1 hw hp)
def rlistAnn (f : RS) : Anns := [(0, fun st => { X := Nat, inv := fun i => i ≤ f.1.length, meas := fun i => f.1.length - i, slots := fun i => [(4, sI i), (3, .s (.one (.app .str ((f.1.take i).map nameR) (objOf st 3))))], objs := fun i => [(objOf st 3, .tok .str ((f.1.take i).map nameR))], keep := [0, 2], mods := [objOf st 3] })]
def Try.rlistAlts : List (Alt Try.rfilesObs [.obj 0]) := [{ obs' := Try.rfilesObs, res := [.d (.slice .str)], out := fun _ x => x, ret := fun _ x => (x.1.1.map nameR, ()) }]
set_option maxRecDepth 100000 in
set_option maxHeartbeats 4000000 in
theorem vc_RList (f : RS) (hw : wfC [.obj 0] ()) (hp : (fun _ x => x.1.1.length ≤ 6) () (f, ())) : (objVCs Try.B [] Try.f72 (rlistAnn f) Try.rfilesObs [.obj 0] Try.rlistAlts () (f, ())).holds := by
  refine holds_of (p :=
    (∃ (x : Nat), x ≤ List.length f.1 ∧ ((0 : Int) = (↑x : Int) ∧ @List.nil (List UInt8) = List.map nameR (List.take x f.1) ∧ True) ∧ @List.nil (List UInt8) = List.map nameR (List.take x f.1) ∧ True) ∧ (∀ x_0 : Nat, ((x_0 ≤ List.length f.1) → ((List.length f.1 ≤ big) → (((decide ((↑x_0 : Int) < (↑(List.length f.1) : Int))) = true → ((0 : Int) ≤ (↑x_0 : Int) ∧ (↑x_0 : Int) < (↑(List.length f.1) : Int)) ∧
    (List.map nameR (List.take x_0 f.1) = List.map nameR (List.take x_0 f.1) ∧ List.length (List.map nameR (List.take x_0 f.1)) + List.length [(nth tFile f.1 x_0).1] ≤ (1000000000 : Nat)) ∧ ((I64 (↑x_0 : Int)) → ((I64 (1 : Int)) → (I64 ((↑x_0 : Int) + (1 : Int))) ∧
    (∃ (x' : Nat), x' ≤ List.length f.1 ∧ List.length f.1 - x' < List.length f.1 - x_0 ∧ ((↑x_0 : Int) + (1 : Int) = (↑x' : Int) ∧ List.map nameR (List.take x_0 f.1) ++ [(nth tFile f.1 x_0).1] = List.map nameR (List.take x' f.1) ∧ True) ∧ List.map nameR (List.take x_0 f.1) ++ [(nth tFile f.1 x_0).1] = List.map nameR (List.take x' f.1) ∧ @List.nil (List UInt8) = @List.nil (List UInt8) ∧ (f.1 = f.1 ∧ f.2.1 = f.2.1 ∧ True) ∧ True)))) ∧ ((decide ((↑x_0 : Int) < (↑(List.length f.1) : Int))) = false → (True ∧ ((f.1, f.2.1, ()), ()) = (f, ()) ∧ (List.map nameR (List.take x_0 f.1), ()) = (List.map nameR f.1, ())))))))) (by kernel_rfl) ?_
  try dsimp only at hp
  refine ⟨?_, ?_⟩
  · exact ⟨0, by omega, ⟨rfl, rfl, trivial⟩, rfl, trivial⟩
  intro x_0 q_0
  intro h0
  refine ⟨fun h1 => ?_, fun h1 => ?_⟩
  · try simp only [bl, reduceCtorEq] at h1
    refine ⟨?_, ?_⟩
    · first | trivial | omega | (dsimp only [D] at *; omega) | (simp only [I64, big] at *; omega) | (simp_all; done)
    refine ⟨?_, ?_⟩
    · exact ⟨rfl, by simp only [List.length_map, List.length_take, List.length_singleton]; omega⟩
    intro h2
    intro h3
    refine ⟨?_, ?_⟩
    · first | trivial | omega | (dsimp only [D] at *; omega) | (simp only [I64, big] at *; omega) | (simp_all; done)
    exact ⟨x_0 + 1, by omega, by omega, ⟨by omega, names_next (by omega), trivial⟩, names_next (by omega), (by repeat' (first | exact trivial | rfl | apply And.intro))⟩
  · try simp only [bl, reduceCtorEq] at h1
    rw [List.take_of_length_le (by omega)]; exact ⟨trivial, rfl, rfl⟩
theorem Try.ok_RList {X : Ext} : CallOK Try.prog Try.B.eT X 72 false (objSpec Try.rfilesObs [.obj 0] (fun _ x => x.1.1.length ≤ 6) Try.rlistAlts) :=
  callOK_of_obj (X := X) (ctx0 Try.tyOK) Try.func72 (by kernel_rfl) (fun (a : CD [.obj 0]) (x : PD Try.rfilesObs) => rlistAnn x.1) (fun (a : CD [.obj 0]) (x : PD Try.rfilesObs) hw hp => vc_RList x.1 hw hp)
noncomputable def Try.rfileCtx : List (FuncId × (Bool × CSpec)) := [(70, (false, objSpec Try.rfilesObs [.obj 0, .d .str] (fun _ _ => True) Try.rreadAlts)),
  (67, (false, objSpec Try.rfilesObs [.obj 0, .d .str, .d .str] (fun _ x => x.1.1.length ≤ 6 ∧ 0 ≤ x.1.2.1 ∧ x.1.2.1 ≤ 1000000) Try.rwriteAlts)),
  (69, (false, objSpec Try.rfilesObs [.obj 0, .d .str] (fun _ x => x.1.1.length ≤ 6) Try.rremoveAlts)),
  (72, (false, objSpec Try.rfilesObs [.obj 0] (fun _ x => x.1.1.length ≤ 6) Try.rlistAlts))]
theorem Try.rfileCtxOK {X : Ext} : CtxOK Try.prog Try.B X Try.rfileCtx :=
  ctx1 (Try.ok_RRead) (ctx1 (Try.ok_RWrite) (ctx1 (Try.ok_RRemove) (ctx1 (Try.ok_RList) (ctx0 Try.tyOK))))
end Go.Proofs.Ytgokjhhcfemnhaa

