/- A part of the proof that the law DiskSays holds of the given program: facts that are used there. -/
import Derived.Test.YtgokjhhcfemnhaaName
import Derived.Test.YtgokjhhcfemnhaaMrl17
set_option linter.unusedSimpArgs false
set_option linter.unusedVariables false
namespace Go.Proofs.Ytgokjhhcfemnhaa
open Go.Vg Go.Mrl
/-! The document's chapter 10. -/
@[reducible] def Try.rdiskObs : List Ob := [.box 96 [.obj 1, .obj 2, .obj 3, .d (.int .i64), .d .bool], .row true .str, .row true .str, .tok tTurn]
@[reducible] def Try.rdiskObs0 : List Ob := [.box 96 [.obj 1, .obj 2, .obj 3, .d (.int .i64), .d .bool], .row false .str, .row true .str, .tok tTurn]
@[reducible] def Try.rdiskObs1 : List Ob := [.box 96 [.obj 1, .obj 2, .obj 3, .d (.int .i64), .d .bool], .row true .str, .row false .str, .tok tTurn]
@[reducible] def Try.rdiskObs2 : List Ob := [.box 96 [.obj 1, .obj 2, .obj 3, .d (.int .i64), .d .bool], .row false .str, .row false .str, .tok tTurn]
set_option maxRecDepth 100000 in
set_option maxHeartbeats 4000000 in
theorem vc_noughts (n : Int) (hw : wfL [.int .i64] n) (hp : (fun n => 0 ≤ n ∧ n ≤ 1000) n) : (fnVCs Try.B [] Try.f60 [] [.int .i64] [.str] (fun x y => y = (fun n => List.replicate n.toNat 0) x) n).holds := by
  refine holds_of (p :=
    ((0 : Int) ≤ n ∧ n = n ∧ n ≤ (1000000000 : Int)) ∧ (List.length (List.replicate (Int.toNat n) (zeroD (Ty.int IntKind.u8))) ≤ big) ∧ (bytesOf (List.replicate (Int.toNat n) (zeroD (Ty.int IntKind.u8))) = List.replicate (Int.toNat n) (0 : UInt8))) (by kernel_rfl) ?_
  try dsimp only at hp
  refine ⟨?_, ?_⟩
  · first | trivial | omega | (dsimp only [D] at *; omega) | (simp only [I64, big] at *; omega) | (simp_all; done)
  refine ⟨?_, ?_⟩
  · simp only [List.length_replicate, big_eq]; omega
  show bytesOf (List.replicate _ 0) = _; rw [bytes_zero]
theorem Try.ok_noughts : PureOK Try.prog Try.B.eT 60 [.int .i64] [.str] (fun n => 0 ≤ n ∧ n ≤ 1000) (fun x y => y = (fun n => List.replicate n.toNat 0) x) :=
  pure_fn (X := noExt) (ctx0 Try.tyOK) Try.func60 (by kernel_rfl) (fun _ => []) (fun x hw hp => vc_noughts x hw hp)
noncomputable def Try.rdisk0Ctx : List (FuncId × (Bool × CSpec)) := [(60, (true, funSpec [.int .i64] [.str] (fun n => 0 ≤ n ∧ n ≤ 1000) (fun n => List.replicate n.toNat 0)))]
theorem Try.rdisk0CtxOK {X : Ext} : CtxOK Try.prog Try.B X Try.rdisk0Ctx :=
  ctx1 (callOK_of_fun Try.ok_noughts) (ctx0 Try.tyOK)
def Try.rstepAlts : List (Alt Try.rdiskObs [.obj 0]) := [{ obs' := Try.rdiskObs, res := [.d (.int .i64)], out := fun _ x => (stepOf x).1, ret := fun _ x => ((stepOf x).2, ()) }]
set_option maxRecDepth 100000 in
set_option maxHeartbeats 4000000 in
theorem vc_rstep (d : Dk) (hw : wfC [.obj 0] ()) (hp : (fun _ x => -1 ≤ x.1.1) () d) : (objVCs Try.B [] Try.f62 [] Try.rdiskObs [.obj 0] Try.rstepAlts () d).holds := by
  refine holds_of (p :=
    (((d.1.2.1) = true → (d.2.2.2.1 = d.2.2.2.1 ∧ True ∧ d = (stepOf d).1 ∧ ((9 : Int), ()) = ((stepOf d).2, ()))) ∧ ((d.1.2.1) = false → (((d.1.1 == (0 : Int)) = true →
    (d.2.2.2.1 = d.2.2.2.1 ∧ True ∧ (((-1 : Int), true, ()), d.2.1, d.2.2.1, d.2.2.2.1, ()) = (stepOf d).1 ∧ ((9 : Int), ()) = ((stepOf d).2, ()))) ∧ ((d.1.1 == (0 : Int)) = false → (((decide (d.1.1 > (0 : Int))) = true → ((I64 d.1.1) → ((I64 (1 : Int)) → (I64 (d.1.1 - (1 : Int))) ∧
    (d.2.2.2.1 = d.2.2.2.1 ∧ True ∧ ((d.1.1 - (1 : Int), d.1.2.1, ()), d.2.1, d.2.2.1, d.2.2.2.1, ()) = (stepOf d).1 ∧ ((0 : Int), ()) = ((stepOf d).2, ()))))) ∧ ((decide (d.1.1 > (0 : Int))) = false → (d.2.2.2.1 = d.2.2.2.1 ∧ True ∧ d = (stepOf d).1 ∧ ((0 : Int), ()) = ((stepOf d).2, ()))))))))) (by kernel_rfl) ?_
  try dsimp only at hp
  refine ⟨fun h0 => ?_, fun h0 => ?_⟩
  · try simp only [bl, reduceCtorEq] at h0
    rw [stepOf_down (by assumption)]; exact ⟨rfl, trivial, rfl, rfl⟩
  · try simp only [bl, reduceCtorEq] at h0
    refine ⟨fun h1 => ?_, fun h1 => ?_⟩
    · try simp only [bl, reduceCtorEq] at h1
      rw [stepOf_fall (by assumption) (by assumption)]; exact ⟨rfl, trivial, rfl, rfl⟩
    · try simp only [bl, reduceCtorEq] at h1
      refine ⟨fun h2 => ?_, fun h2 => ?_⟩
      · try simp only [bl, reduceCtorEq] at h2
        intro h3
        intro h4
        refine ⟨?_, ?_⟩
        · simp only [I64] at *; omega
        rw [stepOf_goR (by assumption) (by assumption) (by omega)]; exact ⟨rfl, trivial, rfl, rfl⟩
      · try simp only [bl, reduceCtorEq] at h2
        rw [stepOf_stay (by assumption) (by assumption) (by omega)]; exact ⟨rfl, trivial, rfl, rfl⟩
theorem Try.ok_rstep {X : Ext} : CallOK Try.prog Try.B.eT X 62 false (objSpec Try.rdiskObs [.obj 0] (fun _ x => -1 ≤ x.1.1) Try.rstepAlts) :=
  callOK_of_obj (X := X) (ctx0 Try.tyOK) Try.func62 (by kernel_rfl) (fun (a : CD [.obj 0]) (x : PD Try.rdiskObs) => []) (fun (a : CD [.obj 0]) (x : PD Try.rdiskObs) hw hp => vc_rstep x hw hp)
noncomputable def Try.rdisk1Ctx : List (FuncId × (Bool × CSpec)) := [(60, (true, funSpec [.int .i64] [.str] (fun n => 0 ≤ n ∧ n ≤ 1000) (fun n => List.replicate n.toNat 0))),
  (62, (false, objSpec Try.rdiskObs [.obj 0] (fun _ x => -1 ≤ x.1.1) Try.rstepAlts))]
theorem Try.rdisk1CtxOK {X : Ext} : CtxOK Try.prog Try.B X Try.rdisk1Ctx :=
  ctx1 (callOK_of_fun Try.ok_noughts) (ctx1 (Try.ok_rstep) (ctx0 Try.tyOK))
def Try.rwriteAlts : List (Alt Try.rdiskObs [.obj 0, .d (.int .i64), .d .str]) := [{ obs' := Try.rdiskObs, res := [.d (.int .i64)], out := fun a x => (writeD x a.1 a.2.1).1, ret := fun a x => ((writeD x a.1 a.2.1).2, ()) }]
set_option maxRecDepth 100000 in
set_option maxHeartbeats 4000000 in
theorem vc_RWrite (at_ : Int) (s : List UInt8) (d : Dk) (hw : wfC [.obj 0, .d (.int .i64), .d .str] (at_, s, ())) (hp : (fun _ x => -1 ≤ x.1.1 ∧ x.2.2.2.1.length ≤ 900000000) (at_, s, ()) d) : (objVCs Try.B Try.rdisk1Ctx Try.f40 [] Try.rdiskObs [.obj 0, .d (.int .i64), .d .str] Try.rwriteAlts (at_, s, ()) d).holds := by
  refine holds_of (p :=
    (((decide (at_ < (0 : Int))) = true → (d.2.2.2.1 = d.2.2.2.1 ∧ True ∧ d = (writeD d at_ s).1 ∧ ((1 : Int), ()) = ((writeD d at_ s).2, ()))) ∧ ((decide (at_ < (0 : Int))) = false → ((List.length d.2.2.1 ≤ big) → (((decide (at_ ≥ (↑(List.length d.2.2.1) : Int))) = true → (d.2.2.2.1 = d.2.2.2.1 ∧ True ∧ d = (writeD d at_ s).1 ∧ ((1 : Int), ()) = ((writeD d at_ s).2, ()))) ∧ ((decide (at_ ≥ (↑(List.length d.2.2.1) : Int))) = false → ((List.length s ≤ big) → (((decide ((↑(List.length s) : Int) > (64 : Int))) = true → (d.2.2.2.1 = d.2.2.2.1 ∧ True ∧ d = (writeD d at_ s).1 ∧ ((1 : Int), ()) = ((writeD d at_ s).2, ()))) ∧ ((decide ((↑(List.length s) : Int) > (64 : Int))) = false → (d.2.2.2.1 = d.2.2.2.1) ∧ ((-1 : Int) ≤ d.1.1) ∧ ((True) → (((decide ((stepOf d).2 > (0 : Int))) = true →
    ((stepOf d).1.2.2.2.1 = (stepOf d).1.2.2.2.1 ∧ True ∧ (stepOf d).1 = (writeD d at_ s).1 ∧ ((stepOf d).2, ()) = ((writeD d at_ s).2, ()))) ∧ ((decide ((stepOf d).2 > (0 : Int))) = false → ((List.length s ≤ big) → ((I64 (64 : Int)) → ((I64 (↑(List.length s) : Int)) → (I64 ((64 : Int) - (↑(List.length s) : Int))) ∧ ((0 : Int) ≤ (64 : Int) - (↑(List.length s) : Int) ∧ (64 : Int) - (↑(List.length s) : Int) ≤ (1000 : Int)) ∧ (List.length s + List.length (List.replicate (Int.toNat ((64 : Int) - (↑(List.length s) : Int))) (0 : UInt8)) ≤ big) ∧ ((0 : Int) ≤ at_ ∧ at_ < (↑(List.length (stepOf d).1.2.2.1) : Int)) ∧ (Int.toNat at_ < List.length (stepOf d).1.2.2.1) ∧
    ((stepOf d).1.2.2.2.1 = (stepOf d).1.2.2.2.1 ∧ List.length (stepOf d).1.2.2.2.1 + List.length [(at_, s ++ List.replicate (Int.toNat ((64 : Int) - (↑(List.length s) : Int))) (0 : UInt8), ())] ≤ (1000000000 : Nat)) ∧
    ((stepOf d).1.2.2.2.1 ++ [(at_, s ++ List.replicate (Int.toNat ((64 : Int) - (↑(List.length s) : Int))) (0 : UInt8), ())] = (stepOf d).1.2.2.2.1 ++ [(at_, s ++ List.replicate (Int.toNat ((64 : Int) - (↑(List.length s) : Int))) (0 : UInt8), ())] ∧ True ∧ (((stepOf d).1.1.1, (stepOf d).1.1.2.1, ()), (stepOf d).1.2.1, List.set (stepOf d).1.2.2.1 (Int.toNat at_) (s ++ List.replicate (Int.toNat ((64 : Int) - (↑(List.length s) : Int))) (0 : UInt8)), (stepOf d).1.2.2.2.1 ++ [(at_, s ++ List.replicate (Int.toNat ((64 : Int) - (↑(List.length s) : Int))) (0 : UInt8), ())], ()) = (writeD d at_ s).1 ∧ ((0 : Int), ()) = ((writeD d at_ s).2, ()))))))))))))))))) (by kernel_rfl) ?_
  try dsimp only at hp
  refine ⟨fun h0 => ?_, fun h0 => ?_⟩
  · try simp only [bl, reduceCtorEq] at h0
    rw [writeD_bad (by omega)]; exact ⟨rfl, trivial, rfl, rfl⟩
  · try simp only [bl, reduceCtorEq] at h0
    intro h1
    refine ⟨fun h2 => ?_, fun h2 => ?_⟩
    · try simp only [bl, reduceCtorEq] at h2
      rw [writeD_bad (by omega)]; exact ⟨rfl, trivial, rfl, rfl⟩
    · try simp only [bl, reduceCtorEq] at h2
      intro h3
      refine ⟨fun h4 => ?_, fun h4 => ?_⟩
      · try simp only [bl, reduceCtorEq] at h4
        rw [writeD_bad (by omega)]; exact ⟨rfl, trivial, rfl, rfl⟩
      · try simp only [bl, reduceCtorEq] at h4
        refine ⟨rfl, ?_⟩
        refine ⟨?_, ?_⟩
        · first | trivial | omega | (dsimp only [D] at *; omega) | (simp only [I64, big] at *; omega) | (simp_all; done)
        intro h5
        refine ⟨fun h6 => ?_, fun h6 => ?_⟩
        · try simp only [bl, reduceCtorEq] at h6
          rw [writeD_down (by omega) (by omega)]; exact ⟨rfl, trivial, rfl, rfl⟩
        · try simp only [bl, reduceCtorEq] at h6
          intro h7
          intro h8
          intro h9
          refine ⟨?_, ?_⟩
          · first | trivial | omega | (dsimp only [D] at *; omega) | (simp only [I64, big] at *; omega) | (simp_all; done)
          refine ⟨?_, ?_⟩
          · first | trivial | omega | (dsimp only [D] at *; omega) | (simp only [I64, big] at *; omega) | (simp_all; done)
          refine ⟨?_, ?_⟩
          · simp only [List.length_replicate, big_eq]; omega
          refine ⟨?_, ?_⟩
          · have hlen : (stepOf d).fst.snd.snd.fst = d.snd.snd.fst := congrArg (fun z => z.2.1) (stepOf_rest d); have hwt : (stepOf d).fst.snd.snd.snd.fst = d.snd.snd.snd.fst := congrArg (fun z => z.2.2.1) (stepOf_rest d); have hkp : (stepOf d).fst.snd.fst = d.snd.fst := congrArg (fun z => z.1) (stepOf_rest d)
            rw [hlen]; omega
          refine ⟨?_, ?_⟩
          · have hlen : (stepOf d).fst.snd.snd.fst = d.snd.snd.fst := congrArg (fun z => z.2.1) (stepOf_rest d); have hwt : (stepOf d).fst.snd.snd.snd.fst = d.snd.snd.snd.fst := congrArg (fun z => z.2.2.1) (stepOf_rest d); have hkp : (stepOf d).fst.snd.fst = d.snd.fst := congrArg (fun z => z.1) (stepOf_rest d)
            rw [hlen]; omega
          refine ⟨?_, ?_⟩
          · have hlen : (stepOf d).fst.snd.snd.fst = d.snd.snd.fst := congrArg (fun z => z.2.1) (stepOf_rest d); have hwt : (stepOf d).fst.snd.snd.snd.fst = d.snd.snd.snd.fst := congrArg (fun z => z.2.2.1) (stepOf_rest d); have hkp : (stepOf d).fst.snd.fst = d.snd.fst := congrArg (fun z => z.1) (stepOf_rest d)
            rw [hwt]; simp only [List.length_singleton, true_and]; omega
          have hlen : (stepOf d).fst.snd.snd.fst = d.snd.snd.fst := congrArg (fun z => z.2.1) (stepOf_rest d); have hwt : (stepOf d).fst.snd.snd.snd.fst = d.snd.snd.snd.fst := congrArg (fun z => z.2.2.1) (stepOf_rest d); have hkp : (stepOf d).fst.snd.fst = d.snd.fst := congrArg (fun z => z.1) (stepOf_rest d)
          have h0 : (stepOf d).2 = 0 := by have := stepOf_snd d; omega
          rw [writeD_ok (by omega) h0, hlen, hwt, hkp, show Int.toNat (64 - (s.length : Int)) = 64 - s.length by omega]
          exact ⟨rfl, trivial, rfl, rfl⟩
theorem Try.ok_RWrite {X : Ext} : CallOK Try.prog Try.B.eT X 40 false (objSpec Try.rdiskObs [.obj 0, .d (.int .i64), .d .str] (fun _ x => -1 ≤ x.1.1 ∧ x.2.2.2.1.length ≤ 900000000) Try.rwriteAlts) :=
  callOK_of_obj (X := X) Try.rdisk1CtxOK Try.func40 (by kernel_rfl) (fun (a : CD [.obj 0, .d (.int .i64), .d .str]) (x : PD Try.rdiskObs) => []) (fun (a : CD [.obj 0, .d (.int .i64), .d .str]) (x : PD Try.rdiskObs) hw hp => vc_RWrite a.1 a.2.1 x hw hp)
def Try.rreadAlts : List (Alt Try.rdiskObs [.obj 0, .d (.int .i64)]) := [{ obs' := Try.rdiskObs, res := [.d .str, .d (.int .i64)], out := fun _ x => x, ret := fun a x => ((readD x a.1).1, (readD x a.1).2, ()) }]
set_option maxRecDepth 100000 in
set_option maxHeartbeats 4000000 in
theorem vc_RRead (at_ : Int) (d : Dk) (hw : wfC [.obj 0, .d (.int .i64)] (at_, ())) : (objVCs Try.B [] Try.f42 [] Try.rdiskObs [.obj 0, .d (.int .i64)] Try.rreadAlts (at_, ()) d).holds := by
  refine holds_of (p :=
    (((d.1.2.1) = true → (d.2.2.2.1 = d.2.2.2.1 ∧ True ∧ d = d ∧ ([], (9 : Int), ()) = ((readD d at_).1, (readD d at_).2, ()))) ∧ ((d.1.2.1) = false → (((decide (at_ < (0 : Int))) = true → (d.2.2.2.1 = d.2.2.2.1 ∧ True ∧ d = d ∧ ([], (1 : Int), ()) = ((readD d at_).1, (readD d at_).2, ()))) ∧ ((decide (at_ < (0 : Int))) = false → ((List.length d.2.2.1 ≤ big) → (((decide (at_ ≥ (↑(List.length d.2.2.1) : Int))) = true → (d.2.2.2.1 = d.2.2.2.1 ∧ True ∧ d = d ∧ ([], (1 : Int), ()) = ((readD d at_).1, (readD d at_).2, ()))) ∧ ((decide (at_ ≥ (↑(List.length d.2.2.1) : Int))) = false → ((0 : Int) ≤ at_ ∧ at_ < (↑(List.length d.2.2.1) : Int)) ∧ (Int.toNat at_ < List.length d.2.2.1) ∧
    (d.2.2.2.1 = d.2.2.2.1 ∧ True ∧ d = d ∧ (nth Ty.str d.2.2.1 (Int.toNat at_), (0 : Int), ()) = ((readD d at_).1, (readD d at_).2, ())))))))))) (by kernel_rfl) ?_
  refine ⟨fun h0 => ?_, fun h0 => ?_⟩
  · try simp only [bl, reduceCtorEq] at h0
    rw [readD_down (by assumption)]; exact ⟨rfl, trivial, rfl, rfl⟩
  · try simp only [bl, reduceCtorEq] at h0
    refine ⟨fun h1 => ?_, fun h1 => ?_⟩
    · try simp only [bl, reduceCtorEq] at h1
      rw [readD_out (by assumption) (by omega)]; exact ⟨rfl, trivial, rfl, rfl⟩
    · try simp only [bl, reduceCtorEq] at h1
      intro h2
      refine ⟨fun h3 => ?_, fun h3 => ?_⟩
      · try simp only [bl, reduceCtorEq] at h3
        rw [readD_out (by assumption) (by omega)]; exact ⟨rfl, trivial, rfl, rfl⟩
      · try simp only [bl, reduceCtorEq] at h3
        refine ⟨?_, ?_⟩
        · first | trivial | omega | (dsimp only [D] at *; omega) | (simp only [I64, big] at *; omega) | (simp_all; done)
        refine ⟨?_, ?_⟩
        · first | trivial | omega | (dsimp only [D] at *; omega) | (simp only [I64, big] at *; omega) | (simp_all; done)
        rw [readD_in (by assumption) (by omega)]; exact ⟨rfl, trivial, rfl, rfl⟩
theorem Try.ok_RRead {X : Ext} : CallOK Try.prog Try.B.eT X 42 false (objSpec Try.rdiskObs [.obj 0, .d (.int .i64)] (fun _ _ => True) Try.rreadAlts) :=
  callOK_of_obj (X := X) (ctx0 Try.tyOK) Try.func42 (by kernel_rfl) (fun (a : CD [.obj 0, .d (.int .i64)]) (x : PD Try.rdiskObs) => []) (fun (a : CD [.obj 0, .d (.int .i64)]) (x : PD Try.rdiskObs) hw hp => vc_RRead a.1 x hw)
def Try.rflushAlts : List (Alt Try.rdiskObs [.obj 0]) := [{ obs' := Try.rdiskObs0, res := [.d (.int .i64)], out := fun _ x => (flushD x).1, ret := fun _ x => ((flushD x).2, ()) }]
set_option maxRecDepth 100000 in
set_option maxHeartbeats 4000000 in
theorem vc_RFlush (d : Dk) (hw : wfC [.obj 0] ()) (hp : (fun _ x => -1 ≤ x.1.1 ∧ x.2.2.1.length ≤ 1000000) () d) : (objVCs Try.B Try.rdisk1Ctx Try.f44 [] Try.rdiskObs [.obj 0] Try.rflushAlts () d).holds := by
  refine holds_of (p :=
    (d.2.2.2.1 = d.2.2.2.1) ∧ ((-1 : Int) ≤ d.1.1) ∧ ((True) → (((decide ((stepOf d).2 > (0 : Int))) = true →
    ((stepOf d).1.2.2.2.1 = (stepOf d).1.2.2.2.1 ∧ True ∧ (stepOf d).1 = (flushD d).1 ∧ ((stepOf d).2, ()) = ((flushD d).2, ()))) ∧ ((decide ((stepOf d).2 > (0 : Int))) = false → (List.length (stepOf d).1.2.2.1 ≤ (1000000000 : Nat)) ∧
    (@List.nil (Int × List UInt8 × Unit) = @List.nil (Int × List UInt8 × Unit) ∧ True ∧ (((stepOf d).1.1.1, (stepOf d).1.1.2.1, ()), (stepOf d).1.2.2.1, (stepOf d).1.2.2.1, [], ()) = (flushD d).1 ∧ ((0 : Int), ()) = ((flushD d).2, ())))))) (by kernel_rfl) ?_
  try dsimp only at hp
  refine ⟨rfl, ?_⟩
  refine ⟨?_, ?_⟩
  · first | trivial | omega | (dsimp only [D] at *; omega) | (simp only [I64, big] at *; omega) | (simp_all; done)
  intro h0
  refine ⟨fun h1 => ?_, fun h1 => ?_⟩
  · try simp only [bl, reduceCtorEq] at h1
    rw [flushD_down (by omega)]; exact ⟨rfl, trivial, rfl, rfl⟩
  · try simp only [bl, reduceCtorEq] at h1
    refine ⟨?_, ?_⟩
    · have hlen : (stepOf d).fst.snd.snd.fst = d.snd.snd.fst := congrArg (fun z => z.2.1) (stepOf_rest d); have hwt : (stepOf d).fst.snd.snd.snd.fst = d.snd.snd.snd.fst := congrArg (fun z => z.2.2.1) (stepOf_rest d); have hkp : (stepOf d).fst.snd.fst = d.snd.fst := congrArg (fun z => z.1) (stepOf_rest d)
      rw [hlen]; omega
    have hlen : (stepOf d).fst.snd.snd.fst = d.snd.snd.fst := congrArg (fun z => z.2.1) (stepOf_rest d); have hwt : (stepOf d).fst.snd.snd.snd.fst = d.snd.snd.snd.fst := congrArg (fun z => z.2.2.1) (stepOf_rest d); have hkp : (stepOf d).fst.snd.fst = d.snd.fst := congrArg (fun z => z.1) (stepOf_rest d)
    rw [flushD_ok (by have := stepOf_snd d; omega), hlen]; exact ⟨rfl, trivial, rfl, rfl⟩
theorem Try.ok_RFlush {X : Ext} : CallOK Try.prog Try.B.eT X 44 false (objSpec Try.rdiskObs [.obj 0] (fun _ x => -1 ≤ x.1.1 ∧ x.2.2.1.length ≤ 1000000) Try.rflushAlts) :=
  callOK_of_obj (X := X) Try.rdisk1CtxOK Try.func44 (by kernel_rfl) (fun (a : CD [.obj 0]) (x : PD Try.rdiskObs) => []) (fun (a : CD [.obj 0]) (x : PD Try.rdiskObs) hw hp => vc_RFlush x hw hp)
noncomputable def Try.rrestartAlts : List (Alt Try.rdiskObs [.obj 0, .d (.int .u64)]) := [{ obs' := Try.rdiskObs1, res := [], out := fun a x => restartD x a.1, ret := fun _ _ => () }]
noncomputable def rrestartAnn (k : Int) (d : Dk) : Anns := [(0, fun st => { X := Nat, inv := fun i => i ≤ d.2.2.2.1.length, meas := fun i => d.2.2.2.1.length - i, slots := fun i => [(4, sI i)], objs := fun i => [(1, .mrow .str (keepN k d.2.2.2.1 d.2.1 i))], keep := [0, 1], mods := [1] })]
set_option maxRecDepth 100000 in
set_option maxHeartbeats 4000000 in
theorem vc_RRestart (k : Int) (d : Dk) (hw : wfC [.obj 0, .d (.int .u64)] (k, ())) (hp : (fun _ x => x.2.1.length = x.2.2.1.length ∧ x.2.2.2.1.length ≤ 1000000 ∧ x.2.2.1.length ≤ 1000000 ∧ ∀ i, i < x.2.2.2.1.length → 0 ≤ ((nth tTurn x.2.2.2.1 i).1 : Int) ∧ ((nth tTurn x.2.2.2.1 i).1 : Int) < x.2.2.1.length) (k, ()) d) : (objVCs Try.B [] Try.f47 (rrestartAnn k d) Try.rdiskObs [.obj 0, .d (.int .u64)] Try.rrestartAlts (k, ()) d).holds := by
  refine holds_of (p :=
    (∃ (x : Nat), x ≤ List.length d.2.2.2.1 ∧ ((0 : Int) = (↑x : Int) ∧ True) ∧ d.2.1 = keepN k d.2.2.2.1 d.2.1 x ∧ True) ∧ (∀ x_0 : Nat, ((x_0 ≤ List.length d.2.2.2.1) → ((List.length d.2.2.2.1 ≤ big) → (((decide ((↑x_0 : Int) < (↑(List.length d.2.2.2.1) : Int))) = true → ((64 : Int) ≠ (0 : Int)) ∧ (∀ x_1 : Int, ((x_1 = Int.tmod (IntKind.wrap IntKind.u64 (↑x_0 : Int)) (64 : Int)) → ((0 : Int) ≤ x_1) ∧ (∀ x_2 : Int, ((x_2 = Int.fdiv k ((2 : Int) ^ min (Int.toNat x_1) (IntKind.bits IntKind.u64))) → (∀ x_3 : Int,
    ((x_3 = IntKind.wrap IntKind.u64 (↑(BitVec.toNat (BitVec.ofInt (IntKind.bits IntKind.u64) x_2 &&& BitVec.ofInt (IntKind.bits IntKind.u64) (1 : Int))) : Int)) → (((x_3 == (1 : Int)) = true → ((0 : Int) ≤ (↑x_0 : Int) ∧ (↑x_0 : Int) < (↑(List.length d.2.2.2.1) : Int)) ∧ ((0 : Int) ≤ (↑x_0 : Int) ∧ (↑x_0 : Int) < (↑(List.length d.2.2.2.1) : Int)) ∧
    ((0 : Int) ≤ (nth tTurn d.2.2.2.1 x_0).1 ∧ (nth tTurn d.2.2.2.1 x_0).1 < (↑(List.length (keepN k d.2.2.2.1 d.2.1 x_0)) : Int)) ∧ (Int.toNat (nth tTurn d.2.2.2.1 x_0).1 < List.length (keepN k d.2.2.2.1 d.2.1 x_0)) ∧ ((I64 (↑x_0 : Int)) → ((I64 (1 : Int)) → (I64 ((↑x_0 : Int) + (1 : Int))) ∧
    (∃ (x' : Nat), x' ≤ List.length d.2.2.2.1 ∧ List.length d.2.2.2.1 - x' < List.length d.2.2.2.1 - x_0 ∧ ((↑x_0 : Int) + (1 : Int) = (↑x' : Int) ∧ True) ∧ List.set (keepN k d.2.2.2.1 d.2.1 x_0) (Int.toNat (nth tTurn d.2.2.2.1 x_0).1) (nth tTurn d.2.2.2.1 x_0).2.1 = keepN k d.2.2.2.1 d.2.1 x' ∧ (C.mrow (1 : Nat) = C.mrow (1 : Nat) ∧ C.mrow (2 : Nat) = C.mrow (2 : Nat) ∧ d.2.2.2.1 = d.2.2.2.1 ∧ d.1.1 = d.1.1 ∧ d.1.2.1 = d.1.2.1 ∧ True) ∧ d.2.2.1 = d.2.2.1 ∧ d.2.2.2.1 = d.2.2.2.1 ∧ True)))) ∧ ((x_3 == (1 : Int)) = false → ((I64 (↑x_0 : Int)) → ((I64 (1 : Int)) → (I64 ((↑x_0 : Int) + (1 : Int))) ∧
    (∃ (x' : Nat), x' ≤ List.length d.2.2.2.1 ∧ List.length d.2.2.2.1 - x' < List.length d.2.2.2.1 - x_0 ∧ ((↑x_0 : Int) + (1 : Int) = (↑x' : Int) ∧ True) ∧ keepN k d.2.2.2.1 d.2.1 x_0 = keepN k d.2.2.2.1 d.2.1 x' ∧ (C.mrow (1 : Nat) = C.mrow (1 : Nat) ∧ C.mrow (2 : Nat) = C.mrow (2 : Nat) ∧ d.2.2.2.1 = d.2.2.2.1 ∧ d.1.1 = d.1.1 ∧ d.1.2.1 = d.1.2.1 ∧ True) ∧ d.2.2.1 = d.2.2.1 ∧ d.2.2.2.1 = d.2.2.2.1 ∧ True)))))))))))) ∧ ((decide ((↑x_0 : Int) < (↑(List.length d.2.2.2.1) : Int))) = false → (List.length (keepN k d.2.2.2.1 d.2.1 x_0) ≤ (1000000000 : Nat)) ∧
    (@List.nil (Int × List UInt8 × Unit) = @List.nil (Int × List UInt8 × Unit) ∧ True ∧ (((-1 : Int), false, ()), keepN k d.2.2.2.1 d.2.1 x_0, keepN k d.2.2.2.1 d.2.1 x_0, [], ()) = restartD d k ∧ () = ()))))))) (by kernel_rfl) ?_
  try dsimp only at hp
  refine ⟨?_, ?_⟩
  · refine ⟨0, ?_⟩; (repeat' (first | exact trivial | rfl | omega | assumption | apply And.intro))
  intro x_0 q_0
  intro h0
  refine ⟨fun h1 => ?_, fun h1 => ?_⟩
  · try simp only [bl, reduceCtorEq] at h1
    refine ⟨?_, ?_⟩
    · first | trivial | omega | (dsimp only [D] at *; omega) | (simp only [I64, big] at *; omega) | (simp_all; done)
    intro x_1 q_1
    refine ⟨?_, ?_⟩
    · have := mod64 x_0; rw [‹x_1 = _›, wrap_u64_small (by omega) (by omega), Int.tmod_eq_emod_of_nonneg (by omega)]; omega
    intro x_2 q_2
    intro x_3 q_3
    refine ⟨fun h2 => ?_, fun h2 => ?_⟩
    · try simp only [bl, reduceCtorEq] at h2
      refine ⟨?_, ?_⟩
      · first | trivial | omega | (dsimp only [D] at *; omega) | (simp only [I64, big] at *; omega) | (simp_all; done)
      refine ⟨?_, ?_⟩
      · first | trivial | omega | (dsimp only [D] at *; omega) | (simp only [I64, big] at *; omega) | (simp_all; done)
      refine ⟨?_, ?_⟩
      · have := hp.2.2.2 x_0 (by omega); rw [keepN_len]; (try dsimp only [D] at *); omega
      refine ⟨?_, ?_⟩
      · have := hp.2.2.2 x_0 (by omega); rw [keepN_len]; (try dsimp only [D] at *); omega
      intro h3
      intro h4
      refine ⟨?_, ?_⟩
      · first | trivial | omega | (dsimp only [D] at *; omega) | (simp only [I64, big] at *; omega) | (simp_all; done)
      have hb := bit_test (k := k) (i := x_0) (x := x_2) (y := x_3) (by assumption) (by rw [‹x_1 = _›, wrap_u64_small (by omega) (by omega)]; exact mod64 x_0) (by assumption)
      first | exact ⟨x_0 + 1, by omega, by omega, ⟨by omega, trivial⟩, keepN_on (hb.1 (by assumption)), (by repeat' (first | exact trivial | rfl | apply And.intro))⟩ | exact ⟨x_0 + 1, by omega, by omega, ⟨by omega, trivial⟩, keepN_off ((not_congr hb).1 (by assumption)), (by repeat' (first | exact trivial | rfl | apply And.intro))⟩
    · try simp only [bl, reduceCtorEq] at h2
      intro h3
      intro h4
      refine ⟨?_, ?_⟩
      · first | trivial | omega | (dsimp only [D] at *; omega) | (simp only [I64, big] at *; omega) | (simp_all; done)
      have hb := bit_test (k := k) (i := x_0) (x := x_2) (y := x_3) (by assumption) (by rw [‹x_1 = _›, wrap_u64_small (by omega) (by omega)]; exact mod64 x_0) (by assumption)
      first | exact ⟨x_0 + 1, by omega, by omega, ⟨by omega, trivial⟩, keepN_on (hb.1 (by assumption)), (by repeat' (first | exact trivial | rfl | apply And.intro))⟩ | exact ⟨x_0 + 1, by omega, by omega, ⟨by omega, trivial⟩, keepN_off ((not_congr hb).1 (by assumption)), (by repeat' (first | exact trivial | rfl | apply And.intro))⟩
  · try simp only [bl, reduceCtorEq] at h1
    refine ⟨?_, ?_⟩
    · rw [keepN_len]; omega
    obtain rfl : x_0 = d.2.2.2.1.length := by omega
    exact ⟨rfl, trivial, rfl, rfl⟩
theorem Try.ok_RRestart {X : Ext} : CallOK Try.prog Try.B.eT X 47 false (objSpec Try.rdiskObs [.obj 0, .d (.int .u64)] (fun _ x => x.2.1.length = x.2.2.1.length ∧ x.2.2.2.1.length ≤ 1000000 ∧ x.2.2.1.length ≤ 1000000 ∧ ∀ i, i < x.2.2.2.1.length → 0 ≤ ((nth tTurn x.2.2.2.1 i).1 : Int) ∧ ((nth tTurn x.2.2.2.1 i).1 : Int) < x.2.2.1.length) Try.rrestartAlts) :=
  callOK_of_obj (X := X) (ctx0 Try.tyOK) Try.func47 (by kernel_rfl) (fun (a : CD [.obj 0, .d (.int .u64)]) (x : PD Try.rdiskObs) => rrestartAnn a.1 x) (fun (a : CD [.obj 0, .d (.int .u64)]) (x : PD Try.rdiskObs) hw hp => vc_RRestart a.1 x hw hp)
def Try.rnewAlts : List (Alt [] [.d (.int .i64)]) := [
  { obs' := [], res := [.nilP, .d (.int .i64)], ok := fun a _ => a.1 < 1 ∨ 120 < a.1, out := fun _ _ => (), ret := fun _ _ => ((1 : Int), ()) },
  { cv := true, obs' := Try.rdiskObs2, res := [.obj 0, .d (.int .i64)], ok := fun a _ => 1 ≤ a.1 ∧ a.1 ≤ 120, out := fun a _ => newD a.1, ret := fun _ _ => ((0 : Int), ()) }]
def rnewAnn (n : Int) : Anns := [(0, fun st => { X := Nat, inv := fun i => i ≤ n.toNat, meas := fun i => n.toNat - i, slots := fun i => [(5, sI i)], objs := fun i => [
  (objOf st 4, .cells 96 [.app .str (List.replicate i (fullS [])) (objIn st (objOf st 4) 0), .app .str (List.replicate i (fullS [])) (objIn st (objOf st 4) 1), .app tTurn [] (objIn st (objOf st 4) 2), .d (.int .i64) (-1), .d .bool false]),
  (objIn st (objOf st 4) 0, .tok .str (List.replicate i (fullS []))), (objIn st (objOf st 4) 1, .tok .str (List.replicate i (fullS [])))], keep := [0, 2, 3, 4], mods := [objOf st 4, objIn st (objOf st 4) 0, objIn st (objOf st 4) 1] })]
set_option maxRecDepth 100000 in
set_option maxHeartbeats 4000000 in
theorem vc_RNew (n : Int) (hw : wfC [.d (.int .i64)] (n, ())) : (objVCs Try.B Try.rdisk0Ctx Try.f37 (rnewAnn n) [] [.d (.int .i64)] Try.rnewAlts (n, ()) ()).holds := by
  refine holds_of (p :=
    (((decide (n < (1 : Int))) = true → ((n < (1 : Int) ∨ (120 : Int) < n) ∧ () = () ∧ ((1 : Int), ()) = ((1 : Int), ()))) ∧ ((decide (n < (1 : Int))) = false → (((decide (n > (120 : Int))) = true → ((n < (1 : Int) ∨ (120 : Int) < n) ∧ () = () ∧ ((1 : Int), ()) = ((1 : Int), ()))) ∧ ((decide (n > (120 : Int))) = false →
    (∃ (x : Nat), x ≤ Int.toNat n ∧ ((0 : Int) = (↑x : Int) ∧ True) ∧ (@List.nil (List UInt8) = List.replicate x (fullS (@List.nil UInt8)) ∧ @List.nil (List UInt8) = List.replicate x (fullS (@List.nil UInt8)) ∧ @List.nil (Int × List UInt8 × Unit) = @List.nil (Int × List UInt8 × Unit) ∧ (-1 : Int) = (-1 : Int) ∧ false = false ∧ True) ∧ @List.nil (List UInt8) = List.replicate x (fullS (@List.nil UInt8)) ∧ @List.nil (List UInt8) = List.replicate x (fullS (@List.nil UInt8)) ∧ True) ∧ (∀ x_0 : Nat, ((x_0 ≤ Int.toNat n) → (((decide ((↑x_0 : Int) < n)) = true → ((0 : Int) ≤ (64 : Int) ∧ (64 : Int) ≤ (1000 : Int)) ∧
    (List.replicate x_0 (fullS (@List.nil UInt8)) = List.replicate x_0 (fullS (@List.nil UInt8)) ∧ List.length (List.replicate x_0 (fullS (@List.nil UInt8))) + List.length [List.replicate (64 : Nat) (0 : UInt8)] ≤ (1000000000 : Nat)) ∧ ((0 : Int) ≤ (64 : Int) ∧ (64 : Int) ≤ (1000 : Int)) ∧
    (List.replicate x_0 (fullS (@List.nil UInt8)) = List.replicate x_0 (fullS (@List.nil UInt8)) ∧ List.length (List.replicate x_0 (fullS (@List.nil UInt8))) + List.length [List.replicate (64 : Nat) (0 : UInt8)] ≤ (1000000000 : Nat)) ∧ ((I64 (↑x_0 : Int)) → ((I64 (1 : Int)) → (I64 ((↑x_0 : Int) + (1 : Int))) ∧
    (∃ (x' : Nat), x' ≤ Int.toNat n ∧ Int.toNat n - x' < Int.toNat n - x_0 ∧ ((↑x_0 : Int) + (1 : Int) = (↑x' : Int) ∧ True) ∧ (List.replicate x_0 (fullS (@List.nil UInt8)) ++ [List.replicate (64 : Nat) (0 : UInt8)] = List.replicate x' (fullS (@List.nil UInt8)) ∧ List.replicate x_0 (fullS (@List.nil UInt8)) ++ [List.replicate (64 : Nat) (0 : UInt8)] = List.replicate x' (fullS (@List.nil UInt8)) ∧ @List.nil (Int × List UInt8 × Unit) = @List.nil (Int × List UInt8 × Unit) ∧ (-1 : Int) = (-1 : Int) ∧ false = false ∧ True) ∧ List.replicate x_0 (fullS (@List.nil UInt8)) ++ [List.replicate (64 : Nat) (0 : UInt8)] = List.replicate x' (fullS (@List.nil UInt8)) ∧ List.replicate x_0 (fullS (@List.nil UInt8)) ++ [List.replicate (64 : Nat) (0 : UInt8)] = List.replicate x' (fullS (@List.nil UInt8)) ∧ @List.nil (Int × List UInt8 × Unit) = @List.nil (Int × List UInt8 × Unit) ∧ True)))) ∧ ((decide ((↑x_0 : Int) < n)) = false →
    (List.replicate x_0 (fullS (@List.nil UInt8)) = List.replicate x_0 (fullS (@List.nil UInt8)) ∧ List.replicate x_0 (fullS (@List.nil UInt8)) = List.replicate x_0 (fullS (@List.nil UInt8)) ∧ @List.nil (Int × List UInt8 × Unit) = @List.nil (Int × List UInt8 × Unit) ∧ ((1 : Int) ≤ n ∧ n ≤ (120 : Int)) ∧ (((-1 : Int), false, ()), List.replicate x_0 (fullS (@List.nil UInt8)), List.replicate x_0 (fullS (@List.nil UInt8)), [], ()) = newD n ∧ ((0 : Int), ()) = ((0 : Int), ()))))))))))) (by kernel_rfl) ?_
  refine ⟨fun h0 => ?_, fun h0 => ?_⟩
  · try simp only [bl, reduceCtorEq] at h0
    first | trivial | omega | (dsimp only [D] at *; omega) | (simp only [I64, big] at *; omega) | (simp_all; done)
  · try simp only [bl, reduceCtorEq] at h0
    refine ⟨fun h1 => ?_, fun h1 => ?_⟩
    · try simp only [bl, reduceCtorEq] at h1
      first | trivial | omega | (dsimp only [D] at *; omega) | (simp only [I64, big] at *; omega) | (simp_all; done)
    · try simp only [bl, reduceCtorEq] at h1
      refine ⟨?_, ?_⟩
      · exact ⟨0, by omega, ⟨rfl, trivial⟩, (by repeat' (first | exact trivial | rfl | apply And.intro))⟩
      intro x_0 q_0
      refine ⟨fun h2 => ?_, fun h2 => ?_⟩
      · try simp only [bl, reduceCtorEq] at h2
        refine ⟨?_, ?_⟩
        · first | trivial | omega | (dsimp only [D] at *; omega) | (simp only [I64, big] at *; omega) | (simp_all; done)
        refine ⟨?_, ?_⟩
        · simp only [List.length_replicate, List.length_singleton, true_and]; omega
        refine ⟨?_, ?_⟩
        · first | trivial | omega | (dsimp only [D] at *; omega) | (simp only [I64, big] at *; omega) | (simp_all; done)
        refine ⟨?_, ?_⟩
        · simp only [List.length_replicate, List.length_singleton, true_and]; omega
        intro h3
        intro h4
        refine ⟨?_, ?_⟩
        · first | trivial | omega | (dsimp only [D] at *; omega) | (simp only [I64, big] at *; omega) | (simp_all; done)
        have e : List.replicate x_0 (fullS []) ++ [List.replicate 64 0] = List.replicate (x_0 + 1) (fullS []) := List.replicate_succ'.symm
        refine ⟨x_0 + 1, by omega, by omega, ⟨by omega, trivial⟩, ?_⟩
        rw [← e]; exact (by repeat' (first | exact trivial | rfl | apply And.intro))
      · try simp only [bl, reduceCtorEq] at h2
        rw [show x_0 = Int.toNat n by omega]; exact ⟨rfl, rfl, rfl, by omega, rfl, rfl⟩
theorem Try.ok_RNew {X : Ext} : CallOK Try.prog Try.B.eT X 37 false (objSpec [] [.d (.int .i64)] (fun _ _ => True) Try.rnewAlts) :=
  callOK_of_obj (X := X) Try.rdisk0CtxOK Try.func37 (by kernel_rfl) (fun (a : CD [.d (.int .i64)]) (x : PD []) => rnewAnn a.1) (fun (a : CD [.d (.int .i64)]) (x : PD []) hw hp => vc_RNew a.1 hw)
noncomputable def Try.rdiskCtx : List (FuncId × (Bool × CSpec)) := [(40, (false, objSpec Try.rdiskObs [.obj 0, .d (.int .i64), .d .str] (fun _ x => -1 ≤ x.1.1 ∧ x.2.2.2.1.length ≤ 900000000) Try.rwriteAlts)),
  (42, (false, objSpec Try.rdiskObs [.obj 0, .d (.int .i64)] (fun _ _ => True) Try.rreadAlts)),
  (44, (false, objSpec Try.rdiskObs [.obj 0] (fun _ x => -1 ≤ x.1.1 ∧ x.2.2.1.length ≤ 1000000) Try.rflushAlts)),
  (47, (false, objSpec Try.rdiskObs [.obj 0, .d (.int .u64)] (fun _ x => x.2.1.length = x.2.2.1.length ∧ x.2.2.2.1.length ≤ 1000000 ∧ x.2.2.1.length ≤ 1000000 ∧ ∀ i, i < x.2.2.2.1.length → 0 ≤ ((nth tTurn x.2.2.2.1 i).1 : Int) ∧ ((nth tTurn x.2.2.2.1 i).1 : Int) < x.2.2.1.length) Try.rrestartAlts)),
  (37, (false, objSpec [] [.d (.int .i64)] (fun _ _ => True) Try.rnewAlts))]
theorem Try.rdiskCtxOK {X : Ext} : CtxOK Try.prog Try.B X Try.rdiskCtx :=
  ctx1 (Try.ok_RWrite) (ctx1 (Try.ok_RRead) (ctx1 (Try.ok_RFlush) (ctx1 (Try.ok_RRestart) (ctx1 (Try.ok_RNew) (ctx0 Try.tyOK)))))
end Go.Proofs.Ytgokjhhcfemnhaa

