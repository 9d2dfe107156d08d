/- A part of the proof that the law FilesSays holds of the given program: facts that are used there. -/
import Derived.Test.YtgokjhhcfemnhaaSort
import Derived.Test.YtgokjhhcfemnhaaMrl23
set_option linter.unusedSimpArgs false
set_option linter.unusedVariables false
namespace Go.Proofs.Ytgokjhhcfemnhaa
open Go.Vg Go.Mrl
/-! Package files. -/
@[reducible] def Try.filesObs : List Ob := [.box 152 [.obj 1, .d (.int .i64)], .ext 1 (mapT tFV)]
noncomputable def Try.filesCtx : List (FuncId × (Bool × CSpec)) := [(12, (true, funSpec [.str] [.err] (fun _ => True) (fun s => errNo (nameFault s)))),
  (13, (true, funSpec [.str] [.int .i64] (fun _ => True) (fun s => nameFault s))),
  (14, (true, funSpec [.str] [.int .u32] (fun _ => True) (fun s => (hashF s : Int)))),
  (15, (true, funSpec [.str] [.int .i64] (fun _ => True) (fun s => (hashF s : Int)))),
  (11, (true, funSpec [.err, .int .i64] [.bool] (fun _ => True) (fun x => sameE x.1 x.2))),
  (77, (false, objSpec [.row true .str] [.obj 0] (fun _ x => x.1.length ≤ 12) sortAlts))]
theorem Try.filesCtxOK {X : Ext} : CtxOK Try.prog Try.B X Try.filesCtx :=
  ctx1 (callOK_of_fun Try.ok_Check) (ctx1 (callOK_of_fun Try.ok_NameFault) (ctx1 (callOK_of_fun Try.ok_Hash) (ctx1 (callOK_of_fun Try.ok_RHash) (ctx1 (callOK_of_fun Try.ok_same) (ctx1 (Try.ok_Sort) (ctx0 Try.tyOK))))))
def Try.newAlts : List (Alt [] []) := [{ obs' := Try.filesObs, res := [.obj 0], out := fun _ _ => newFs, ret := fun _ _ => () }]
set_option maxRecDepth 100000 in
set_option maxHeartbeats 4000000 in
theorem vc_FNew  (hw : wfC [] ()) : (objVCs Try.B [] Try.f63 [] [] [] Try.newAlts () ()).holds := by
  refine holds_of (p :=
    (True ∧ (((0 : Int), ()), ([], (0 : Int), ()), ()) = newFs ∧ () = ())) (by kernel_rfl) ?_
  exact ⟨trivial, rfl, rfl⟩
theorem Try.ok_FNew {X : Ext} : CallOK Try.prog Try.B.eT X 63 false (objSpec [] [] (fun _ _ => True) Try.newAlts) :=
  callOK_of_obj (X := X) (ctx0 Try.tyOK) Try.func63 (by kernel_rfl) (fun (a : CD []) (x : PD []) => []) (fun (a : CD []) (x : PD []) hw hp => vc_FNew  hw)
def Try.freadAlts : List (Alt Try.filesObs [.obj 0, .d .str]) := [{ obs' := Try.filesObs, res := [.d .str, .d (.int .i64), .d .err], out := fun _ x => x, ret := fun a x => ((readFs x a.1).1, (readFs x a.1).2.1, errNo (readFs x a.1).2.2, ()) }]
set_option maxRecDepth 100000 in
set_option maxHeartbeats 4000000 in
theorem vc_FRead (s : List UInt8) (f : FZ) (hw : wfC [.obj 0, .d .str] (s, ())) : (objVCs Try.B [] Try.f65 [] Try.filesObs [.obj 0, .d .str] Try.freadAlts (s, ()) f).holds := by
  refine holds_of (p :=
    (((!hasE (Ty.prod Ty.str (Ty.prod (Ty.int IntKind.i64) Ty.unit)) f.2.1.1 s) = true →
    (True ∧ ((f.1.1, ()), f.2.1, ()) = f ∧ ([], (0 : Int), Err.no (5 : Int), ()) = ((readFs f s).1, (readFs f s).2.1, errNo (readFs f s).2.2, ()))) ∧ ((!hasE (Ty.prod Ty.str (Ty.prod (Ty.int IntKind.i64) Ty.unit)) f.2.1.1 s) = false →
    (True ∧ ((f.1.1, ()), f.2.1, ()) = f ∧ ((getE (Ty.prod Ty.str (Ty.prod (Ty.int IntKind.i64) Ty.unit)) f.2.1.1 s).1, (getE (Ty.prod Ty.str (Ty.prod (Ty.int IntKind.i64) Ty.unit)) f.2.1.1 s).2.1, Err.nil, ()) = ((readFs f s).1, (readFs f s).2.1, errNo (readFs f s).2.2, ()))))) (by kernel_rfl) ?_
  refine ⟨fun h0 => ?_, fun h0 => ?_⟩
  · try simp only [bl, reduceCtorEq] at h0
    exact ⟨trivial, rfl, by rw [readFs_no h0]; rfl⟩
  · try simp only [bl, reduceCtorEq] at h0
    exact ⟨trivial, rfl, by rw [readFs_yes h0]; rfl⟩
theorem Try.ok_FRead {X : Ext} : CallOK Try.prog Try.B.eT X 65 false (objSpec Try.filesObs [.obj 0, .d .str] (fun _ _ => True) Try.freadAlts) :=
  callOK_of_obj (X := X) (ctx0 Try.tyOK) Try.func65 (by kernel_rfl) (fun (a : CD [.obj 0, .d .str]) (x : PD Try.filesObs) => []) (fun (a : CD [.obj 0, .d .str]) (x : PD Try.filesObs) hw hp => vc_FRead a.1 x hw)
def Try.fwriteAlts : List (Alt Try.filesObs [.obj 0, .d .str, .d .str]) := [{ obs' := Try.filesObs, res := [.d .err], out := fun a x => (writeFs x a.1 a.2.1).1, ret := fun a x => (errNo (writeFs x a.1 a.2.1).2, ()) }]
set_option maxRecDepth 100000 in
set_option maxHeartbeats 4000000 in
theorem vc_FWrite (s : List UInt8) (t : List UInt8) (f : FZ) (hw : wfC [.obj 0, .d .str, .d .str] (s, t, ())) (hp : (fun _ x => x.2.1.1.length ≤ 6 ∧ 0 ≤ x.1.1 ∧ x.1.1 ≤ 1000000) (s, t, ()) f) : (objVCs Try.B Try.filesCtx Try.f64 [] Try.filesObs [.obj 0, .d .str, .d .str] Try.fwriteAlts (s, t, ()) f).holds := by
  refine holds_of (p :=
    (True) ∧ (((!Err.isNil (errNo (nameFault s))) = true → (True ∧ ((f.1.1, ()), f.2.1, ()) = (writeFs f s t).1 ∧ (errNo (nameFault s), ()) = (errNo (writeFs f s t).2, ()))) ∧ ((!Err.isNil (errNo (nameFault s))) = false → ((List.length t ≤ big) → (((decide ((↑(List.length t) : Int) > (1200 : Int))) = true → (True ∧ ((f.1.1, ()), f.2.1, ()) = (writeFs f s t).1 ∧ (Err.no (2 : Int), ()) = (errNo (writeFs f s t).2, ()))) ∧ ((decide ((↑(List.length t) : Int) > (1200 : Int))) = false → (((!hasE (Ty.prod Ty.str (Ty.prod (Ty.int IntKind.i64) Ty.unit)) f.2.1.1 s) = true → ((((↑(List.length f.2.1.1) : Int) == (6 : Int)) = true → (True ∧ ((f.1.1, ()), f.2.1, ()) = (writeFs f s t).1 ∧ (Err.no (8 : Int), ()) = (errNo (writeFs f s t).2, ()))) ∧ (((↑(List.length f.2.1.1) : Int) == (6 : Int)) = false → (((f.1.1 == (1000000 : Int)) = true → (True ∧ ((f.1.1, ()), f.2.1, ()) = (writeFs f s t).1 ∧ (Err.no (8 : Int), ()) = (errNo (writeFs f s t).2, ()))) ∧ ((f.1.1 == (1000000 : Int)) = false → ((I64 f.1.1) → ((I64 (1 : Int)) → (I64 (f.1.1 + (1 : Int))) ∧ (List.length f.2.1.1 < big) ∧
    (True ∧ ((f.1.1 + (1 : Int), ()), (putE (Ty.prod Ty.str (Ty.prod (Ty.int IntKind.i64) Ty.unit)) f.2.1.1 s (t, f.1.1 + (1 : Int), ()) f.2.1.2.1, clkE (Ty.prod Ty.str (Ty.prod (Ty.int IntKind.i64) Ty.unit)) f.2.1.1 s f.2.1.2.1, ()), ()) = (writeFs f s t).1 ∧ (Err.nil, ()) = (errNo (writeFs f s t).2, ()))))))))) ∧ ((!hasE (Ty.prod Ty.str (Ty.prod (Ty.int IntKind.i64) Ty.unit)) f.2.1.1 s) = false → (((f.1.1 == (1000000 : Int)) = true → (True ∧ ((f.1.1, ()), f.2.1, ()) = (writeFs f s t).1 ∧ (Err.no (8 : Int), ()) = (errNo (writeFs f s t).2, ()))) ∧ ((f.1.1 == (1000000 : Int)) = false → ((I64 f.1.1) → ((I64 (1 : Int)) → (I64 (f.1.1 + (1 : Int))) ∧ (List.length f.2.1.1 < big) ∧
    (True ∧ ((f.1.1 + (1 : Int), ()), (putE (Ty.prod Ty.str (Ty.prod (Ty.int IntKind.i64) Ty.unit)) f.2.1.1 s (t, f.1.1 + (1 : Int), ()) f.2.1.2.1, clkE (Ty.prod Ty.str (Ty.prod (Ty.int IntKind.i64) Ty.unit)) f.2.1.1 s f.2.1.2.1, ()), ()) = (writeFs f s t).1 ∧ (Err.nil, ()) = (errNo (writeFs f s t).2, ())))))))))))))) (by kernel_rfl) ?_
  try dsimp only at hp
  refine ⟨trivial, ?_⟩
  refine ⟨fun h0 => ?_, fun h0 => ?_⟩
  · try simp only [bl, reduceCtorEq] at h0
    have hn : ¬ nameFault s = 0 := (fun e => by rw [errNo_nil.2 e] at h0; cases h0)
    rw [writeFs_name hn]; exact ⟨trivial, rfl, rfl⟩
  · try simp only [bl, reduceCtorEq] at h0
    intro h1
    refine ⟨fun h2 => ?_, fun h2 => ?_⟩
    · try simp only [bl, reduceCtorEq] at h2
      rw [writeFs_many (errNo_nil.1 (by assumption)) (by omega)]; exact ⟨trivial, rfl, rfl⟩
    · try simp only [bl, reduceCtorEq] at h2
      refine ⟨fun h3 => ?_, fun h3 => ?_⟩
      · try simp only [bl, reduceCtorEq] at h3
        refine ⟨fun h4 => ?_, fun h4 => ?_⟩
        · try simp only [bl, reduceCtorEq] at h4
          rw [writeFs_full (errNo_nil.1 (by assumption)) (by omega) (by first | exact .inr (by omega) | exact .inl ⟨by assumption, by omega⟩)]; exact ⟨trivial, rfl, rfl⟩
        · try simp only [bl, reduceCtorEq] at h4
          refine ⟨fun h5 => ?_, fun h5 => ?_⟩
          · try simp only [bl, reduceCtorEq] at h5
            rw [writeFs_full (errNo_nil.1 (by assumption)) (by omega) (by first | exact .inr (by omega) | exact .inl ⟨by assumption, by omega⟩)]; exact ⟨trivial, rfl, rfl⟩
          · try simp only [bl, reduceCtorEq] at h5
            intro h6
            intro h7
            refine ⟨?_, ?_⟩
            · first | trivial | omega | (dsimp only [D] at *; omega) | (simp only [I64, big] at *; omega) | (simp_all; done)
            refine ⟨?_, ?_⟩
            · first | trivial | omega | (dsimp only [D] at *; omega) | (simp only [I64, big] at *; omega) | (simp_all; done)
            rw [writeFs_ok (errNo_nil.1 (by assumption)) (by omega) (by rintro (⟨e1, e2⟩ | e); (first | omega | exact Bool.noConfusion (e1.symm.trans (show hasE tFV f.2.1.1 s = true by assumption))); omega)]; exact ⟨trivial, rfl, rfl⟩
      · try simp only [bl, reduceCtorEq] at h3
        refine ⟨fun h4 => ?_, fun h4 => ?_⟩
        · try simp only [bl, reduceCtorEq] at h4
          rw [writeFs_full (errNo_nil.1 (by assumption)) (by omega) (by first | exact .inr (by omega) | exact .inl ⟨by assumption, by omega⟩)]; exact ⟨trivial, rfl, rfl⟩
        · try simp only [bl, reduceCtorEq] at h4
          intro h5
          intro h6
          refine ⟨?_, ?_⟩
          · first | trivial | omega | (dsimp only [D] at *; omega) | (simp only [I64, big] at *; omega) | (simp_all; done)
          refine ⟨?_, ?_⟩
          · first | trivial | omega | (dsimp only [D] at *; omega) | (simp only [I64, big] at *; omega) | (simp_all; done)
          rw [writeFs_ok (errNo_nil.1 (by assumption)) (by omega) (by rintro (⟨e1, e2⟩ | e); (first | omega | exact Bool.noConfusion (e1.symm.trans (show hasE tFV f.2.1.1 s = true by assumption))); omega)]; exact ⟨trivial, rfl, rfl⟩
theorem Try.ok_FWrite {X : Ext} : CallOK Try.prog Try.B.eT X 64 false (objSpec Try.filesObs [.obj 0, .d .str, .d .str] (fun _ x => x.2.1.1.length ≤ 6 ∧ 0 ≤ x.1.1 ∧ x.1.1 ≤ 1000000) Try.fwriteAlts) :=
  callOK_of_obj (X := X) Try.filesCtxOK Try.func64 (by kernel_rfl) (fun (a : CD [.obj 0, .d .str, .d .str]) (x : PD Try.filesObs) => []) (fun (a : CD [.obj 0, .d .str, .d .str]) (x : PD Try.filesObs) hw hp => vc_FWrite a.1 a.2.1 x hw hp)
def Try.fremoveAlts : List (Alt Try.filesObs [.obj 0, .d .str]) := [{ obs' := Try.filesObs, res := [.d .err], out := fun a x => (removeFs x a.1).1, ret := fun a x => (errNo (removeFs x a.1).2, ()) }]
set_option maxRecDepth 100000 in
set_option maxHeartbeats 4000000 in
theorem vc_FRemove (s : List UInt8) (f : FZ) (hw : wfC [.obj 0, .d .str] (s, ())) : (objVCs Try.B [] Try.f68 [] Try.filesObs [.obj 0, .d .str] Try.fremoveAlts (s, ()) f).holds := by
  refine holds_of (p :=
    (((!hasE (Ty.prod Ty.str (Ty.prod (Ty.int IntKind.i64) Ty.unit)) f.2.1.1 s) = true → (True ∧ ((f.1.1, ()), f.2.1, ()) = (removeFs f s).1 ∧ (Err.no (5 : Int), ()) = (errNo (removeFs f s).2, ()))) ∧ ((!hasE (Ty.prod Ty.str (Ty.prod (Ty.int IntKind.i64) Ty.unit)) f.2.1.1 s) = false →
    (True ∧ ((f.1.1, ()), (delE (Ty.prod Ty.str (Ty.prod (Ty.int IntKind.i64) Ty.unit)) f.2.1.1 s, f.2.1.2.1, ()), ()) = (removeFs f s).1 ∧ (Err.nil, ()) = (errNo (removeFs f s).2, ()))))) (by kernel_rfl) ?_
  refine ⟨fun h0 => ?_, fun h0 => ?_⟩
  · try simp only [bl, reduceCtorEq] at h0
    rw [removeFs_no h0]; exact ⟨trivial, rfl, rfl⟩
  · try simp only [bl, reduceCtorEq] at h0
    rw [removeFs_yes h0]; exact ⟨trivial, rfl, rfl⟩
theorem Try.ok_FRemove {X : Ext} : CallOK Try.prog Try.B.eT X 68 false (objSpec Try.filesObs [.obj 0, .d .str] (fun _ _ => True) Try.fremoveAlts) :=
  callOK_of_obj (X := X) (ctx0 Try.tyOK) Try.func68 (by kernel_rfl) (fun (a : CD [.obj 0, .d .str]) (x : PD Try.filesObs) => []) (fun (a : CD [.obj 0, .d .str]) (x : PD Try.filesObs) hw hp => vc_FRemove a.1 x hw)
def Try.flistAnn (f : FZ) : Anns := [(200000, fun st => { X := List FE, inv := fun x => SeenF f.2.1.1 x, meas := fun x => (leftE tFV f.2.1.1 (x.map bornF)).length, slots := fun x => [], keep := [2, 9], obs := [.row false .str], refs := [(3, 0)], pd := fun x => (x.map keyF, ()), objs := fun x => [(objOf st 9, iterOf st (objOf st 9) (x.map bornF))], mods := [objOf st 9] })]
def Try.flistAlts : List (Alt Try.filesObs [.obj 0]) := [{ obs' := Try.filesObs ++ [.row false .str], res := [.obj 2], out := fun _ x => (x.1, x.2.1, listFs x, ()), ret := fun _ _ => () }]
set_option maxRecDepth 100000 in
set_option maxHeartbeats 4000000 in
theorem vc_FList (f : FZ) (hw : wfC [.obj 0] ()) (hp : (fun _ x => x.2.1.1.length ≤ 6 ∧ (x.2.1.1.map bornF).Nodup) () f) : (objVCs (hintB Try.B [3, 17]) Try.filesCtx Try.f66 (Try.flistAnn f) Try.filesObs [.obj 0] Try.flistAlts () f).holds := by
  refine holds_of (p :=
    (((∃ (x' : List FE), SeenF f.2.1.1 x' ∧ True ∧ True ∧ (((C.xref (1 : Nat) = C.xref (1 : Nat) ∧ True) ∧ @List.nil Int = List.map bornF x' ∧ f.2.1.2.1 = f.2.1.2.1) ∧ @List.nil (List UInt8) = @List.nil (List UInt8) ∧ (C.xref (1 : Nat) = C.xref (1 : Nat) ∧ f.1.1 = f.1.1 ∧ True) ∧ f.2.1 = f.2.1 ∧ True) ∧ (!false && (!false && (!false && (!false && true)))) = true ∧ ([], ()) = (List.map keyF x', ()))) ∧ ((∀ x_0 : List FE, ((SeenF f.2.1.1 x_0) → (f.2.1.2.1 = f.2.1.2.1) ∧ ((((leftE tFV f.2.1.1 (List.map bornF x_0) = @List.nil (List UInt8 × (List UInt8 × Int × Unit) × Int × Unit)) → (List.length (List.map keyF x_0) ≤ (12 : Nat)) ∧ ((True) → (True ∧ ((f.1.1, ()), f.2.1, sortS (List.map keyF x_0), ()) = (f.1, f.2.1, listFs f, ()) ∧ () = ())))) ∧ ((∀ x_1 : List UInt8 × (List UInt8 × Int × Unit) × Int × Unit, ((x_1 ∈ leftE tFV f.2.1.1 (List.map bornF x_0)) → (f.2.1.2.1 = f.2.1.2.1) ∧ (List.map bornF x_0 ++ [x_1.2.2.1] ≠ @List.nil Int) ∧ (bornE tFV f.2.1.1 (lastI (List.map bornF x_0 ++ [x_1.2.2.1])) = true) ∧
    ((0 : Nat) < List.length [(atE tFV f.2.1.1 (lastI (List.map bornF x_0 ++ [x_1.2.2.1]))).1] ∧ List.length (List.map keyF x_0) + List.length [(atE tFV f.2.1.1 (lastI (List.map bornF x_0 ++ [x_1.2.2.1]))).1] ≤ (1000000000 : Nat)) ∧
    (∃ (x' : List FE), SeenF f.2.1.1 x' ∧ List.length (leftE tFV f.2.1.1 (List.map bornF x')) < List.length (leftE tFV f.2.1.1 (List.map bornF x_0)) ∧ True ∧ (((C.xref (1 : Nat) = C.xref (1 : Nat) ∧ True) ∧ List.map bornF x_0 ++ [x_1.2.2.1] = List.map bornF x' ∧ f.2.1.2.1 = f.2.1.2.1) ∧ @List.nil (List UInt8) = @List.nil (List UInt8) ∧ (C.xref (1 : Nat) = C.xref (1 : Nat) ∧ f.1.1 = f.1.1 ∧ True) ∧ f.2.1 = f.2.1 ∧ True) ∧ (!false && (!false && (!false && (!false && true)))) = true ∧ (List.map keyF x_0 ++ [(atE tFV f.2.1.1 (lastI (List.map bornF x_0 ++ [x_1.2.2.1]))).1], ()) = (List.map keyF x', ()))))))))))) (by kernel_rfl) ?_
  try dsimp only at hp
  refine ⟨?_, ?_⟩
  ·
    exact ⟨[], ⟨by simp, by simp⟩, trivial, trivial, ⟨⟨⟨rfl, trivial⟩, rfl, rfl⟩, rfl, ⟨rfl, rfl, trivial⟩, rfl, trivial⟩, rfl, rfl⟩
  ·
    intro x_0 q_0
    refine ⟨rfl, ?_⟩
    refine ⟨?_, ?_⟩
    ·
      intro h0
      refine ⟨?_, ?_⟩
      · have := seen_len q_0.sub q_0.nodup; rw [List.length_map]; omega
      intro h1
      exact ⟨trivial, by rw [list_of_seen q_0 hp.2 (by assumption)]; rfl, rfl⟩
    ·
      intro x_1 q_1
      refine ⟨rfl, ?_⟩
      refine ⟨?_, ?_⟩
      · first | trivial | omega | (dsimp only [D] at *; omega) | (simp only [I64, big] at *; omega) | (simp_all; done)
      refine ⟨?_, ?_⟩
      · rw [lastI_snoc]; exact (at_mem hp.2 (List.mem_filter.1 q_1).1).2
      refine ⟨?_, ?_⟩
      · have := seen_len q_0.sub q_0.nodup; simp only [List.length_map, List.length_singleton]; omega
      exact ⟨x_0 ++ [x_1], q_0.more q_1, by rw [List.map_append]; exact left_more q_1, trivial, ⟨⟨⟨rfl, trivial⟩, by rw [List.map_append]; rfl, rfl⟩, rfl, ⟨rfl, rfl, trivial⟩, rfl, trivial⟩, rfl, by rw [lastI_snoc, List.map_append, show atE tFV f.2.1.1 x_1.2.2.1 = x_1 from (at_mem hp.2 (List.mem_filter.1 q_1).1).1]; rfl⟩
theorem Try.ok_FList {X : Ext} : CallOK Try.prog Try.B.eT X 66 false (objSpec Try.filesObs [.obj 0] (fun _ x => x.2.1.1.length ≤ 6 ∧ (x.2.1.1.map bornF).Nodup) Try.flistAlts) :=
  callOK_of_obj (B := (hintB Try.B [3, 17])) (X := X) (CtxOK.hint (l := [3, 17]) Try.filesCtxOK) Try.func66 (by kernel_rfl) (fun (a : CD [.obj 0]) (x : PD Try.filesObs) => Try.flistAnn x) (fun (a : CD [.obj 0]) (x : PD Try.filesObs) hw hp => vc_FList x hw hp)
noncomputable def Try.fileCtx : List (FuncId × (Bool × CSpec)) := [(12, (true, funSpec [.str] [.err] (fun _ => True) (fun s => errNo (nameFault s)))),
  (13, (true, funSpec [.str] [.int .i64] (fun _ => True) (fun s => nameFault s))),
  (14, (true, funSpec [.str] [.int .u32] (fun _ => True) (fun s => (hashF s : Int)))),
  (15, (true, funSpec [.str] [.int .i64] (fun _ => True) (fun s => (hashF s : Int)))),
  (11, (true, funSpec [.err, .int .i64] [.bool] (fun _ => True) (fun x => sameE x.1 x.2))),
  (63, (false, objSpec [] [] (fun _ _ => True) Try.newAlts)),
  (65, (false, objSpec Try.filesObs [.obj 0, .d .str] (fun _ _ => True) Try.freadAlts)),
  (64, (false, objSpec Try.filesObs [.obj 0, .d .str, .d .str] (fun _ x => x.2.1.1.length ≤ 6 ∧ 0 ≤ x.1.1 ∧ x.1.1 ≤ 1000000) Try.fwriteAlts)),
  (68, (false, objSpec Try.filesObs [.obj 0, .d .str] (fun _ _ => True) Try.fremoveAlts)),
  (66, (false, objSpec Try.filesObs [.obj 0] (fun _ x => x.2.1.1.length ≤ 6 ∧ (x.2.1.1.map bornF).Nodup) Try.flistAlts))]
theorem Try.fileCtxOK {X : Ext} : CtxOK Try.prog Try.B X Try.fileCtx :=
  ctx1 (callOK_of_fun Try.ok_Check) (ctx1 (callOK_of_fun Try.ok_NameFault) (ctx1 (callOK_of_fun Try.ok_Hash) (ctx1 (callOK_of_fun Try.ok_RHash) (ctx1 (callOK_of_fun Try.ok_same) (ctx1 (Try.ok_FNew) (ctx1 (Try.ok_FRead) (ctx1 (Try.ok_FWrite) (ctx1 (Try.ok_FRemove) (ctx1 (Try.ok_FList) (ctx0 Try.tyOK))))))))))
end Go.Proofs.Ytgokjhhcfemnhaa

