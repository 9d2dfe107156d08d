/- A part of the proof that the law TopDisk holds of the given program: facts that are used there. -/
import Derived.Test.YtgokjhhcfemnhabName
import Derived.Test.YtgokjhhcfemnhabMrl17
set_option linter.unusedSimpArgs false
set_option linter.unusedVariables false
namespace Go.Proofs.Ytgokjhhcfemnhab
open Go.Vg Go.Mrl
/-! Package disk. -/
@[reducible] def Try.diskObs : List Ob := [.box 105 [.obj 1, .obj 2, .obj 3, .d (.int .i64), .d .bool], .row true .str, .row true .str, .tok tTurn]
set_option maxRecDepth 100000 in
set_option maxHeartbeats 4000000 in
theorem vc_full (s : List UInt8) (hw : wfL [.str] s) (hp : (fun s => s.length ≤ 64) s) : (fnVCs Try.B [] Try.f38 [] [.str] [.str] (fun x y => y = (fun s => fullS s) x) s).holds := by
  refine holds_of (p :=
    ((List.length s ≤ big) → ((I64 (64 : Int)) → ((I64 (↑(List.length s) : Int)) → (I64 ((64 : Int) - (↑(List.length s) : Int))) ∧
    ((0 : Int) ≤ (64 : Int) - (↑(List.length s) : Int) ∧ (64 : Int) - (↑(List.length s) : Int) = (64 : Int) - (↑(List.length s) : Int) ∧ (64 : Int) - (↑(List.length s) : Int) ≤ (1000000000 : Int)) ∧ (List.length (List.replicate (Int.toNat ((64 : Int) - (↑(List.length s) : Int))) (zeroD (Ty.int IntKind.u8))) ≤ big) ∧
    (List.length s + List.length (bytesOf (List.replicate (Int.toNat ((64 : Int) - (↑(List.length s) : Int))) (zeroD (Ty.int IntKind.u8)))) ≤ big) ∧
    (s ++ bytesOf (List.replicate (Int.toNat ((64 : Int) - (↑(List.length s) : Int))) (zeroD (Ty.int IntKind.u8))) = fullS s))))) (by kernel_rfl) ?_
  try dsimp only at hp
  intro h0
  intro h1
  intro h2
  refine ⟨?_, ?_⟩
  · first | trivial | omega | (dsimp only [D] at *; omega) | (simp only [I64, big] at *; omega) | (simp_all; done)
  refine ⟨?_, ?_⟩
  · first | trivial | omega | (dsimp only [D] at *; omega) | (simp only [I64, big] at *; omega) | (simp_all; done)
  refine ⟨?_, ?_⟩
  · simp only [List.length_replicate, big_eq]; omega
  refine ⟨?_, ?_⟩
  · simp only [bytesOf, List.length_map, List.length_replicate, big_eq]; omega
  show s ++ bytesOf (List.replicate _ 0) = _; rw [bytes_zero, fullS, show Int.toNat (64 - (s.length : Int)) = 64 - s.length by omega]
theorem Try.ok_full : PureOK Try.prog Try.B.eT 38 [.str] [.str] (fun s => s.length ≤ 64) (fun x y => y = (fun s => fullS s) x) :=
  pure_fn (X := noExt) (ctx0 Try.tyOK) Try.func38 (by kernel_rfl) (fun _ => []) (fun x hw hp => vc_full x hw hp)
set_option maxRecDepth 100000 in
set_option maxHeartbeats 4000000 in
theorem vc_Mul64 (x : Int) (y : Int) (hw : wfL [.int .u64, .int .u64] (x, y)) (hp : (fun z => z.1 = 1 ∧ 0 ≤ z.2 ∧ z.2 ≤ 1000000) (x, y)) : (fnVCs Try.B [] Try.f52 [] [.int .u64, .int .u64] [.int .u64, .int .u64] (fun x y => y = (fun z => mulF z) x) (x, y)).holds := by
  refine holds_of (p :=
    (∀ x_0 : Int,
    ((x_0 = IntKind.wrap IntKind.u64 (↑(BitVec.toNat (BitVec.ofInt (IntKind.bits IntKind.u64) x &&& BitVec.ofInt (IntKind.bits IntKind.u64) (4294967295 : Int))) : Int)) → ((0 : Int) ≤ (32 : Int)) ∧ (∀ x_1 : Int, ((x_1 = Int.fdiv x ((2 : Int) ^ min (32 : Nat) (IntKind.bits IntKind.u64))) → (∀ x_2 : Int,
    ((x_2 = IntKind.wrap IntKind.u64 (↑(BitVec.toNat (BitVec.ofInt (IntKind.bits IntKind.u64) y &&& BitVec.ofInt (IntKind.bits IntKind.u64) (4294967295 : Int))) : Int)) → ((0 : Int) ≤ (32 : Int)) ∧ (∀ x_3 : Int, ((x_3 = Int.fdiv y ((2 : Int) ^ min (32 : Nat) (IntKind.bits IntKind.u64))) → (∀ x_4 : Int, ((x_4 = x_0 * x_2) → (∀ x_5 : Int, ((x_5 = IntKind.wrap IntKind.u64 x_4) → (∀ x_6 : Int, ((x_6 = x_1 * x_2) → (∀ x_7 : Int, ((x_7 = IntKind.wrap IntKind.u64 x_6) → ((0 : Int) ≤ (32 : Int)) ∧ (∀ x_8 : Int, ((x_8 = Int.fdiv x_5 ((2 : Int) ^ min (32 : Nat) (IntKind.bits IntKind.u64))) → (∀ x_9 : Int, ((x_9 = IntKind.wrap IntKind.u64 (x_7 + x_8)) → (∀ x_10 : Int,
    ((x_10 = IntKind.wrap IntKind.u64 (↑(BitVec.toNat (BitVec.ofInt (IntKind.bits IntKind.u64) x_9 &&& BitVec.ofInt (IntKind.bits IntKind.u64) (4294967295 : Int))) : Int)) → ((0 : Int) ≤ (32 : Int)) ∧ (∀ x_11 : Int, ((x_11 = Int.fdiv x_9 ((2 : Int) ^ min (32 : Nat) (IntKind.bits IntKind.u64))) → (∀ x_12 : Int, ((x_12 = x_0 * x_3) → (∀ x_13 : Int, ((x_13 = IntKind.wrap IntKind.u64 x_12) → (∀ x_14 : Int, ((x_14 = IntKind.wrap IntKind.u64 (x_10 + x_13)) → (∀ x_15 : Int, ((x_15 = x_1 * x_3) → (∀ x_16 : Int, ((x_16 = IntKind.wrap IntKind.u64 x_15) → (∀ x_17 : Int, ((x_17 = IntKind.wrap IntKind.u64 (x_16 + x_11)) → ((0 : Int) ≤ (32 : Int)) ∧ (∀ x_18 : Int, ((x_18 = Int.fdiv x_14 ((2 : Int) ^ min (32 : Nat) (IntKind.bits IntKind.u64))) → (∀ x_19 : Int, ((x_19 = IntKind.wrap IntKind.u64 (x_17 + x_18)) → (∀ x_20 : Int, ((x_20 = x * y) → (∀ x_21 : Int, ((x_21 = IntKind.wrap IntKind.u64 x_20) → ((x_19, x_21) = mulF (x, y))))))))))))))))))))))))))))))))))))))))))))))) (by kernel_rfl) ?_
  try dsimp only at hp
  intro x_0 q_0
  refine ⟨?_, ?_⟩
  · first | trivial | omega | (dsimp only [D] at *; omega) | (simp only [I64, big] at *; omega) | (simp_all; done)
  intro x_1 q_1
  intro x_2 q_2
  refine ⟨?_, ?_⟩
  · first | trivial | omega | (dsimp only [D] at *; omega) | (simp only [I64, big] at *; omega) | (simp_all; done)
  intro x_3 q_3
  intro x_4 q_4
  intro x_5 q_5
  intro x_6 q_6
  intro x_7 q_7
  refine ⟨?_, ?_⟩
  · first | trivial | omega | (dsimp only [D] at *; omega) | (simp only [I64, big] at *; omega) | (simp_all; done)
  intro x_8 q_8
  intro x_9 q_9
  intro x_10 q_10
  refine ⟨?_, ?_⟩
  · first | trivial | omega | (dsimp only [D] at *; omega) | (simp only [I64, big] at *; omega) | (simp_all; done)
  intro x_11 q_11
  intro x_12 q_12
  intro x_13 q_13
  intro x_14 q_14
  intro x_15 q_15
  intro x_16 q_16
  intro x_17 q_17
  refine ⟨?_, ?_⟩
  · first | trivial | omega | (dsimp only [D] at *; omega) | (simp only [I64, big] at *; omega) | (simp_all; done)
  intro x_18 q_18
  intro x_19 q_19
  intro x_20 q_20
  intro x_21 q_21
  have a0 := uAnd q_0 (by omega) (by omega)
  have a1 := uShr q_1 rfl (by omega) (by omega)
  have a2 := uAnd q_2 (by omega) (by omega)
  have a3 := uShr q_3 rfl (by omega) (by omega)
  have a4 : x_4 = y := by rw [q_4, a0, a2, hp.1, Int.one_mul]
  have a5 : x_5 = y := by rw [q_5, a4]; exact wrap_u64_small (by omega) (by omega)
  have a6 : x_6 = 0 := by rw [q_6, a1, Int.zero_mul]
  have a7 : x_7 = 0 := by rw [q_7, a6]; rfl
  have a8 := uShr q_8 rfl (by omega) (by omega)
  have a9 : x_9 = 0 := by rw [q_9, a7, a8]; rfl
  have a10 : x_10 = 0 := by rw [uAnd q_10 (by omega) (by omega)]; exact a9
  have a11 := uShr q_11 rfl (by omega) (by omega)
  have a12 : x_12 = 0 := by rw [q_12, a3, Int.mul_zero]
  have a13 : x_13 = 0 := by rw [q_13, a12]; rfl
  have a14 : x_14 = 0 := by rw [q_14, a10, a13]; rfl
  have a15 : x_15 = 0 := by rw [q_15, a1, Int.zero_mul]
  have a16 : x_16 = 0 := by rw [q_16, a15]; rfl
  have a17 : x_17 = 0 := by rw [q_17, a16, a11]; rfl
  have a18 := uShr q_18 rfl (by omega) (by omega)
  have a19 : x_19 = 0 := by rw [q_19, a17, a18]; rfl
  have a21 : x_21 = y := by rw [q_21, q_20, hp.1, Int.one_mul]; exact wrap_u64_small (by omega) (by omega)
  rw [a19, a21]; simp [mulF, hp.1]
theorem Try.ok_Mul64 : PureOK Try.prog Try.B.eT 52 [.int .u64, .int .u64] [.int .u64, .int .u64] (fun z => z.1 = 1 ∧ 0 ≤ z.2 ∧ z.2 ≤ 1000000) (fun x y => y = (fun z => mulF z) x) :=
  pure_fn (X := noExt) (ctx0 Try.tyOK) Try.func52 (by kernel_rfl) (fun _ => []) (fun x hw hp => vc_Mul64 x.1 x.2 hw hp)
noncomputable def Try.mul64Ctx : List (FuncId × (Bool × CSpec)) := [(52, (true, funSpec [.int .u64, .int .u64] [.int .u64, .int .u64] (fun z => z.1 = 1 ∧ 0 ≤ z.2 ∧ z.2 ≤ 1000000) (fun z => mulF z)))]
theorem Try.mul64CtxOK {X : Ext} : CtxOK Try.prog Try.B X Try.mul64Ctx :=
  ctx1 (callOK_of_fun Try.ok_Mul64) (ctx0 Try.tyOK)
set_option maxRecDepth 100000 in
set_option maxHeartbeats 4000000 in
theorem vc_Mul (x : Int) (y : Int) (hw : wfL [.int .u64, .int .u64] (x, y)) (hp : (fun z => z.1 = 1 ∧ 0 ≤ z.2 ∧ z.2 ≤ 1000000) (x, y)) : (fnVCs Try.B Try.mul64Ctx Try.f47 [] [.int .u64, .int .u64] [.int .u64, .int .u64] (fun x y => y = (fun z => mulF z) x) (x, y)).holds := by
  refine holds_of (p :=
    (x = (1 : Int) ∧ (0 : Int) ≤ y ∧ y ≤ (1000000 : Int)) ∧ (((0 : Int), x * y) = mulF (x, y))) (by kernel_rfl) ?_
  try dsimp only at hp
  refine ⟨?_, ?_⟩
  · first | trivial | omega | (dsimp only [D] at *; omega) | (simp only [I64, big] at *; omega) | (simp_all; done)
  first | trivial | omega | (dsimp only [D] at *; omega) | (simp only [I64, big] at *; omega) | (simp_all; done)
theorem Try.ok_Mul : PureOK Try.prog Try.B.eT 47 [.int .u64, .int .u64] [.int .u64, .int .u64] (fun z => z.1 = 1 ∧ 0 ≤ z.2 ∧ z.2 ≤ 1000000) (fun x y => y = (fun z => mulF z) x) :=
  pure_fn (X := noExt) Try.mul64CtxOK Try.func47 (by kernel_rfl) (fun _ => []) (fun x hw hp => vc_Mul x.1 x.2 hw hp)
noncomputable def Try.mulCtx : List (FuncId × (Bool × CSpec)) := [(47, (true, funSpec [.int .u64, .int .u64] [.int .u64, .int .u64] (fun z => z.1 = 1 ∧ 0 ≤ z.2 ∧ z.2 ≤ 1000000) (fun z => mulF z)))]
theorem Try.mulCtxOK {X : Ext} : CtxOK Try.prog Try.B X Try.mulCtx :=
  ctx1 (callOK_of_fun Try.ok_Mul) (ctx0 Try.tyOK)
def repeatAnn (x : List (List UInt8)) (n : Int) : Anns := [(0, fun st => { X := Nat, inv := fun k => 1 ≤ k ∧ k ≤ n.toNat, meas := fun k => n.toNat - k, slots := fun k => [(8, sI k)], objs := fun k => [(objOf st 7, .mrow .str (repT (nth .str x 0) n.toNat k))], keep := [4, 7], mods := [objOf st 7] })]
def repeatAlts : List (Alt [] [.d (.slice .str), .d (.int .i64)]) := [{ obs' := [.row false .str], res := [.obj 0], out := fun a _ => (List.replicate a.2.1.toNat (nth .str a.1 0), ()), ret := fun _ _ => () }]
set_option maxRecDepth 100000 in
set_option maxHeartbeats 4000000 in
theorem vc_Repeat (x : List (List UInt8)) (n : Int) (hw : wfC [.d (.slice .str), .d (.int .i64)] (x, n, ())) (hp : (fun a _ => a.1.length = 1 ∧ 1 ≤ a.2.1 ∧ a.2.1 ≤ 1000000) (x, n, ()) ()) : (objVCs Try.B Try.mulCtx Try.f37 (repeatAnn x n) [] [.d (.slice .str), .d (.int .i64)] repeatAlts (x, n, ()) ()).holds := by
  refine holds_of (p :=
    (((decide (n < (0 : Int))) = true → False) ∧ ((decide (n < (0 : Int))) = false → ((List.length x ≤ big) →
    (IntKind.wrap IntKind.u64 (↑(List.length x) : Int) = (1 : Int) ∧ (0 : Int) ≤ IntKind.wrap IntKind.u64 n ∧ IntKind.wrap IntKind.u64 n ≤ (1000000 : Int)) ∧ (((decide ((0 : Int) > (0 : Int))) = true → False) ∧ ((decide ((0 : Int) > (0 : Int))) = false →
    (((decide (IntKind.wrap IntKind.u64 (↑(List.length x) : Int) * IntKind.wrap IntKind.u64 n > (9223372036854775807 : Int))) = true → False) ∧
    ((decide (IntKind.wrap IntKind.u64 (↑(List.length x) : Int) * IntKind.wrap IntKind.u64 n > (9223372036854775807 : Int))) = false →
    ((0 : Int) ≤ IntKind.wrap IntKind.i64 (IntKind.wrap IntKind.u64 (↑(List.length x) : Int) * IntKind.wrap IntKind.u64 n) ∧ IntKind.wrap IntKind.i64 (IntKind.wrap IntKind.u64 (↑(List.length x) : Int) * IntKind.wrap IntKind.u64 n) = IntKind.wrap IntKind.i64 (IntKind.wrap IntKind.u64 (↑(List.length x) : Int) * IntKind.wrap IntKind.u64 n) ∧ IntKind.wrap IntKind.i64 (IntKind.wrap IntKind.u64 (↑(List.length x) : Int) * IntKind.wrap IntKind.u64 n) ≤ (1000000000 : Int)) ∧
    (True ∧ (0 : Nat) + List.length (List.replicate (Int.toNat (IntKind.wrap IntKind.i64 (IntKind.wrap IntKind.u64 (↑(List.length x) : Int) * IntKind.wrap IntKind.u64 n))) (zeroD Ty.str)) ≤ List.length (List.replicate (Int.toNat (IntKind.wrap IntKind.i64 (IntKind.wrap IntKind.u64 (↑(List.length x) : Int) * IntKind.wrap IntKind.u64 n))) (zeroD Ty.str))) ∧
    (∃ (x_1 : Nat), ((1 : Nat) ≤ x_1 ∧ x_1 ≤ Int.toNat n) ∧ ((↑(min (List.length x) (List.length (List.replicate (Int.toNat (IntKind.wrap IntKind.i64 (IntKind.wrap IntKind.u64 (↑(List.length x) : Int) * IntKind.wrap IntKind.u64 n))) (zeroD Ty.str)))) : Int) = (↑x_1 : Int) ∧ True) ∧ List.take (0 : Nat) (List.replicate (Int.toNat (IntKind.wrap IntKind.i64 (IntKind.wrap IntKind.u64 (↑(List.length x) : Int) * IntKind.wrap IntKind.u64 n))) (zeroD Ty.str)) ++ List.take (min (List.length x) (List.length (List.replicate (Int.toNat (IntKind.wrap IntKind.i64 (IntKind.wrap IntKind.u64 (↑(List.length x) : Int) * IntKind.wrap IntKind.u64 n))) (zeroD Ty.str)))) x ++ List.drop ((0 : Nat) + min (List.length x) (List.length (List.replicate (Int.toNat (IntKind.wrap IntKind.i64 (IntKind.wrap IntKind.u64 (↑(List.length x) : Int) * IntKind.wrap IntKind.u64 n))) (zeroD Ty.str)))) (List.replicate (Int.toNat (IntKind.wrap IntKind.i64 (IntKind.wrap IntKind.u64 (↑(List.length x) : Int) * IntKind.wrap IntKind.u64 n))) (zeroD Ty.str)) = repT (nth Ty.str x (0 : Nat)) (Int.toNat n) x_1 ∧ True) ∧ (∀ x_0 : Nat, (((1 : Nat) ≤ x_0 ∧ x_0 ≤ Int.toNat n) → ((List.length (repT (nth Ty.str x (0 : Nat)) (Int.toNat n) x_0) ≤ big) → (((decide ((↑x_0 : Int) < (↑(List.length (repT (nth Ty.str x (0 : Nat)) (Int.toNat n) x_0)) : Int))) = true →
    ((0 : Int) ≤ (↑x_0 : Int) ∧ (↑x_0 : Int) ≤ (↑(List.length (repT (nth Ty.str x (0 : Nat)) (Int.toNat n) x_0)) : Int) ∧ (↑(List.length (repT (nth Ty.str x (0 : Nat)) (Int.toNat n) x_0)) : Int) ≤ (↑(List.length (repT (nth Ty.str x (0 : Nat)) (Int.toNat n) x_0)) : Int)) ∧
    ((0 : Int) ≤ (0 : Int) ∧ (0 : Int) ≤ (↑x_0 : Int) ∧ (↑x_0 : Int) ≤ (↑(List.length (repT (nth Ty.str x (0 : Nat)) (Int.toNat n) x_0)) : Int)) ∧
    ((0 : Nat) + (x_0 - (0 : Nat)) ≤ List.length (repT (nth Ty.str x (0 : Nat)) (Int.toNat n) x_0) ∧ x_0 + (List.length (repT (nth Ty.str x (0 : Nat)) (Int.toNat n) x_0) - x_0) ≤ List.length (repT (nth Ty.str x (0 : Nat)) (Int.toNat n) x_0)) ∧ ((I64 (↑x_0 : Int)) →
    ((I64 (↑(min (List.length (List.take (x_0 - (0 : Nat)) (List.drop (0 : Nat) (repT (nth Ty.str x (0 : Nat)) (Int.toNat n) x_0)))) (List.length (repT (nth Ty.str x (0 : Nat)) (Int.toNat n) x_0) - x_0)) : Int)) →
    (I64 ((↑x_0 : Int) + (↑(min (List.length (List.take (x_0 - (0 : Nat)) (List.drop (0 : Nat) (repT (nth Ty.str x (0 : Nat)) (Int.toNat n) x_0)))) (List.length (repT (nth Ty.str x (0 : Nat)) (Int.toNat n) x_0) - x_0)) : Int))) ∧
    (∃ (x' : Nat), ((1 : Nat) ≤ x' ∧ x' ≤ Int.toNat n) ∧ Int.toNat n - x' < Int.toNat n - x_0 ∧ ((↑x_0 : Int) + (↑(min (List.length (List.take (x_0 - (0 : Nat)) (List.drop (0 : Nat) (repT (nth Ty.str x (0 : Nat)) (Int.toNat n) x_0)))) (List.length (repT (nth Ty.str x (0 : Nat)) (Int.toNat n) x_0) - x_0)) : Int) = (↑x' : Int) ∧ True) ∧ List.take x_0 (repT (nth Ty.str x (0 : Nat)) (Int.toNat n) x_0) ++ List.take (min (List.length (List.take (x_0 - (0 : Nat)) (List.drop (0 : Nat) (repT (nth Ty.str x (0 : Nat)) (Int.toNat n) x_0)))) (List.length (repT (nth Ty.str x (0 : Nat)) (Int.toNat n) x_0) - x_0)) (List.take (x_0 - (0 : Nat)) (List.drop (0 : Nat) (repT (nth Ty.str x (0 : Nat)) (Int.toNat n) x_0))) ++ List.drop (x_0 + min (List.length (List.take (x_0 - (0 : Nat)) (List.drop (0 : Nat) (repT (nth Ty.str x (0 : Nat)) (Int.toNat n) x_0)))) (List.length (repT (nth Ty.str x (0 : Nat)) (Int.toNat n) x_0) - x_0)) (repT (nth Ty.str x (0 : Nat)) (Int.toNat n) x_0) = repT (nth Ty.str x (0 : Nat)) (Int.toNat n) x' ∧ @List.nil (List UInt8) = @List.nil (List UInt8) ∧ True)))) ∧ ((decide ((↑x_0 : Int) < (↑(List.length (repT (nth Ty.str x (0 : Nat)) (Int.toNat n) x_0)) : Int))) = false →
    (True ∧ (repT (nth Ty.str x (0 : Nat)) (Int.toNat n) x_0, ()) = (List.replicate (Int.toNat n) (nth Ty.str x (0 : Nat)), ()) ∧ () = ())))))))))))))) (by kernel_rfl) ?_
  try dsimp only at hp
  have e1 : IntKind.wrap IntKind.u64 n = n := wrap_u64_small (by omega) (by omega); have e2 : IntKind.wrap IntKind.u64 (x.length : Int) = 1 := by rw [hp.1]; exact wrap_u64_small (by decide) (by decide)
  have e3 : IntKind.wrap IntKind.i64 (1 * n) = n := by rw [Int.one_mul]; exact wrap_i64_small (by omega) (by omega)
  refine ⟨fun h0 => ?_, fun h0 => ?_⟩
  · try simp only [bl, reduceCtorEq] at h0
    first | trivial | omega | (dsimp only [D] at *; omega) | (simp only [I64, big] at *; omega) | (simp_all; done)
  · try simp only [bl, reduceCtorEq] at h0
    intro h1
    refine ⟨?_, ?_⟩
    · rw [e1, e2]; omega
    refine ⟨fun h2 => ?_, fun h2 => ?_⟩
    · exact absurd (show false = true from h2) (by decide)
    ·
      refine ⟨fun h3 => ?_, fun h3 => ?_⟩
      · try simp only [bl, reduceCtorEq] at h3
        rw [e1, e2] at *; omega
      · try simp only [bl, reduceCtorEq] at h3
        refine ⟨?_, ?_⟩
        · rw [e1, e2, e3]; omega
        refine ⟨?_, ?_⟩
        · first | trivial | omega | (dsimp only [D] at *; omega) | (simp only [I64, big] at *; omega) | (simp_all; done)
        refine ⟨?_, ?_⟩
        · rw [e1, e2, e3]
          obtain ⟨s, rfl⟩ := List.length_eq_one_iff.1 hp.1
          refine ⟨1, by omega, ⟨?_, trivial⟩, ?_, (by repeat' (first | exact trivial | rfl | apply And.intro))⟩
          · simp only [List.length_singleton, List.length_replicate]; omega
          · have hm : min (List.length [s]) (List.length (List.replicate (Int.toNat n) (zeroD Ty.str))) = 1 := by simp only [List.length_singleton, List.length_replicate]; omega
            rw [hm]; exact repT_start (n := Int.toNat n) (by omega) rfl [s] rfl
        intro x_0 q_0
        intro h4
        refine ⟨fun h5 => ?_, fun h5 => ?_⟩
        · try simp only [bl, reduceCtorEq] at h5
          refine ⟨?_, ?_⟩
          · first | trivial | omega | (dsimp only [D] at *; omega) | (simp only [I64, big] at *; omega) | (simp_all; done)
          refine ⟨?_, ?_⟩
          · first | trivial | omega | (dsimp only [D] at *; omega) | (simp only [I64, big] at *; omega) | (simp_all; done)
          refine ⟨?_, ?_⟩
          · first | trivial | omega | (dsimp only [D] at *; omega) | (simp only [I64, big] at *; omega) | (simp_all; done)
          intro h6
          intro h7
          refine ⟨?_, ?_⟩
          · first | trivial | omega | (dsimp only [D] at *; omega) | (simp only [I64, big] at *; omega) | (simp_all; done)
          have hl := repT_len (s := nth .str x 0) (n := Int.toNat n) (k := x_0) (by omega)
          have e6 : min (List.length (List.take (x_0 - 0) (List.drop 0 (repT (nth .str x 0) (Int.toNat n) x_0)))) (List.length (repT (nth .str x 0) (Int.toNat n) x_0) - x_0) = min x_0 (Int.toNat n - x_0) := by
            simp only [List.length_take, List.drop_zero]; omega
          rw [e6]
          refine ⟨x_0 + min x_0 (Int.toNat n - x_0), by omega, by omega, ⟨by omega, trivial⟩, ?_, (by repeat' (first | exact trivial | rfl | apply And.intro))⟩
          rw [Nat.sub_zero, List.drop_zero]
          exact repT_step (by omega) (by omega)
        · try simp only [bl, reduceCtorEq] at h5
          rw [show x_0 = Int.toNat n by have hl := repT_len (s := nth .str x 0) (n := Int.toNat n) (k := x_0) (by omega); omega, repT_full]; exact ⟨trivial, rfl, rfl⟩
theorem Try.ok_Repeat {X : Ext} : CallOK Try.prog Try.B.eT X 37 false (objSpec [] [.d (.slice .str), .d (.int .i64)] (fun a _ => a.1.length = 1 ∧ 1 ≤ a.2.1 ∧ a.2.1 ≤ 1000000) repeatAlts) :=
  callOK_of_obj (X := X) Try.mulCtxOK Try.func37 (by kernel_rfl) (fun (a : CD [.d (.slice .str), .d (.int .i64)]) (x : PD []) => repeatAnn a.1 a.2.1) (fun (a : CD [.d (.slice .str), .d (.int .i64)]) (x : PD []) hw hp => vc_Repeat a.1 a.2.1 hw hp)
def cloneAlts : List (Alt [.row true .str] [.obj 0]) := [{ obs' := [.row true .str, .row false .str], res := [.obj 1], ok := fun _ x => x.1 ≠ [], out := fun _ x => (x.1, x.1, ()), ret := fun _ _ => () }]
set_option maxRecDepth 100000 in
set_option maxHeartbeats 4000000 in
theorem vc_CloneS (l : List (List UInt8)) (hw : wfC [.obj 0] ()) (hp : (fun _ x => x.1 ≠ [] ∧ x.1.length ≤ 1000000) () (l, ())) : (objVCs Try.B [] Try.f39 [] [.row true .str] [.obj 0] cloneAlts () (l, ())).holds := by
  refine holds_of (p :=
    (∀ x_0 : Bool, (((0 : Nat) < List.length l → x_0 = false) → (((x_0) = true → False) ∧ ((x_0) = false → (List.length l ≤ (1000000000 : Nat)) ∧ (l ≠ @List.nil (List UInt8) ∧ (l, l, ()) = (l, l, ()) ∧ () = ())))))) (by kernel_rfl) ?_
  try dsimp only at hp
  intro x_0 q_0
  refine ⟨fun h0 => ?_, fun h0 => ?_⟩
  · try simp only [bl, reduceCtorEq] at h0
    first | trivial | omega | (dsimp only [D] at *; omega) | (simp only [I64, big] at *; omega) | (simp_all; done)
  · try simp only [bl, reduceCtorEq] at h0
    refine ⟨?_, ?_⟩
    · first | trivial | omega | (dsimp only [D] at *; omega) | (simp only [I64, big] at *; omega) | (simp_all; done)
    first | trivial | omega | (dsimp only [D] at *; omega) | (simp only [I64, big] at *; omega) | (simp_all; done)
theorem Try.ok_CloneS {X : Ext} : CallOK Try.prog Try.B.eT X 39 false (objSpec [.row true .str] [.obj 0] (fun _ x => x.1 ≠ [] ∧ x.1.length ≤ 1000000) cloneAlts) :=
  callOK_of_obj (X := X) (ctx0 Try.tyOK) Try.func39 (by kernel_rfl) (fun (a : CD [.obj 0]) (x : PD [.row true .str]) => []) (fun (a : CD [.obj 0]) (x : PD [.row true .str]) hw hp => vc_CloneS x.1 hw hp)
noncomputable def Try.disk0Ctx : List (FuncId × (Bool × CSpec)) := [(38, (true, funSpec [.str] [.str] (fun s => s.length ≤ 64) (fun s => fullS s))),
  (37, (false, objSpec [] [.d (.slice .str), .d (.int .i64)] (fun a _ => a.1.length = 1 ∧ 1 ≤ a.2.1 ∧ a.2.1 ≤ 1000000) repeatAlts)),
  (39, (false, objSpec [.row true .str] [.obj 0] (fun _ x => x.1 ≠ [] ∧ x.1.length ≤ 1000000) cloneAlts))]
theorem Try.disk0CtxOK {X : Ext} : CtxOK Try.prog Try.B X Try.disk0Ctx :=
  ctx1 (callOK_of_fun Try.ok_full) (ctx1 (Try.ok_Repeat) (ctx1 (Try.ok_CloneS) (ctx0 Try.tyOK)))
def Try.stepAlts : List (Alt Try.diskObs [.obj 0]) := [{ obs' := Try.diskObs, res := [.d .err], out := fun _ x => (stepOf x).1, ret := fun _ x => (errNo (stepOf x).2, ()) }]
set_option maxRecDepth 100000 in
set_option maxHeartbeats 4000000 in
theorem vc_step (d : Dk) (hw : wfC [.obj 0] ()) (hp : (fun _ x => -1 ≤ x.1.1) () d) : (objVCs Try.B [] Try.f40 [] Try.diskObs [.obj 0] Try.stepAlts () d).holds := by
  refine holds_of (p :=
    (((!d.1.2.1) = true → (((d.1.1 == (0 : Int)) = true → (((true) = true →
    (d.2.2.2.1 = d.2.2.2.1 ∧ True ∧ (((-1 : Int), true, ()), d.2.1, d.2.2.1, d.2.2.2.1, ()) = (stepOf d).1 ∧ (Err.no (9 : Int), ()) = (errNo (stepOf d).2, ()))) ∧ ((true) = false → ((I64 (-1 : Int)) → ((I64 (1 : Int)) → (I64 ((-1 : Int) - (1 : Int))) ∧
    (d.2.2.2.1 = d.2.2.2.1 ∧ True ∧ ((if (-1 : Int) > (-1 : Int) - (1 : Int) then (-1 : Int) else (-1 : Int) - (1 : Int), true, ()), d.2.1, d.2.2.1, d.2.2.2.1, ()) = (stepOf d).1 ∧ (Err.nil, ()) = (errNo (stepOf d).2, ()))))))) ∧ ((d.1.1 == (0 : Int)) = false → (((d.1.2.1) = true → (d.2.2.2.1 = d.2.2.2.1 ∧ True ∧ d = (stepOf d).1 ∧ (Err.no (9 : Int), ()) = (errNo (stepOf d).2, ()))) ∧ ((d.1.2.1) = false → ((I64 d.1.1) → ((I64 (1 : Int)) → (I64 (d.1.1 - (1 : Int))) ∧
    (d.2.2.2.1 = d.2.2.2.1 ∧ True ∧ ((if (-1 : Int) > d.1.1 - (1 : Int) then (-1 : Int) else d.1.1 - (1 : Int), d.1.2.1, ()), d.2.1, d.2.2.1, d.2.2.2.1, ()) = (stepOf d).1 ∧ (Err.nil, ()) = (errNo (stepOf d).2, ()))))))))) ∧ ((!d.1.2.1) = false → (((d.1.2.1) = true → (d.2.2.2.1 = d.2.2.2.1 ∧ True ∧ d = (stepOf d).1 ∧ (Err.no (9 : Int), ()) = (errNo (stepOf d).2, ()))) ∧ ((d.1.2.1) = false → ((I64 d.1.1) → ((I64 (1 : Int)) → (I64 (d.1.1 - (1 : Int))) ∧
    (d.2.2.2.1 = d.2.2.2.1 ∧ True ∧ ((if (-1 : Int) > d.1.1 - (1 : Int) then (-1 : Int) else d.1.1 - (1 : Int), d.1.2.1, ()), d.2.1, d.2.2.1, d.2.2.2.1, ()) = (stepOf d).1 ∧ (Err.nil, ()) = (errNo (stepOf d).2, ()))))))))) (by kernel_rfl) ?_
  try dsimp only at hp
  refine ⟨fun h0 => ?_, fun h0 => ?_⟩
  · try simp only [bl, reduceCtorEq] at h0
    refine ⟨fun h1 => ?_, fun h1 => ?_⟩
    · try simp only [bl, reduceCtorEq] at h1
      refine ⟨fun h2 => ?_, fun h2 => ?_⟩
      ·
        rw [stepOf_fall (by simp_all) (by assumption)]; exact ⟨rfl, trivial, rfl, rfl⟩
      · exact absurd (show true = false from h2) (by decide)
    · try simp only [bl, reduceCtorEq] at h1
      refine ⟨fun h2 => ?_, fun h2 => ?_⟩
      · try simp only [bl, reduceCtorEq] at h2
        rw [stepOf_down (by simp_all)]; exact ⟨rfl, trivial, rfl, rfl⟩
      · try simp only [bl, reduceCtorEq] at h2
        intro h3
        intro h4
        refine ⟨?_, ?_⟩
        · simp only [I64] at *; omega
        rw [stepOf_go (by simp_all) (by assumption) hp]; exact ⟨rfl, trivial, rfl, rfl⟩
  · try simp only [bl, reduceCtorEq] at h0
    refine ⟨fun h1 => ?_, fun h1 => ?_⟩
    · try simp only [bl, reduceCtorEq] at h1
      rw [stepOf_down (by simp_all)]; exact ⟨rfl, trivial, rfl, rfl⟩
    · try simp only [bl, reduceCtorEq] at h1
      intro h2
      intro h3
      refine ⟨?_, ?_⟩
      · simp only [I64] at *; omega
      first | trivial | omega | (dsimp only [D] at *; omega) | (simp only [I64, big] at *; omega) | (simp_all; done)
theorem Try.ok_step {X : Ext} : CallOK Try.prog Try.B.eT X 40 false (objSpec Try.diskObs [.obj 0] (fun _ x => -1 ≤ x.1.1) Try.stepAlts) :=
  callOK_of_obj (X := X) (ctx0 Try.tyOK) Try.func40 (by kernel_rfl) (fun (a : CD [.obj 0]) (x : PD Try.diskObs) => []) (fun (a : CD [.obj 0]) (x : PD Try.diskObs) hw hp => vc_step x hw hp)
noncomputable def Try.disk1Ctx : List (FuncId × (Bool × CSpec)) := [(38, (true, funSpec [.str] [.str] (fun s => s.length ≤ 64) (fun s => fullS s))),
  (40, (false, objSpec Try.diskObs [.obj 0] (fun _ x => -1 ≤ x.1.1) Try.stepAlts))]
theorem Try.disk1CtxOK {X : Ext} : CtxOK Try.prog Try.B X Try.disk1Ctx :=
  ctx1 (callOK_of_fun Try.ok_full) (ctx1 (Try.ok_step) (ctx0 Try.tyOK))
def Try.writeAlts : List (Alt Try.diskObs [.obj 0, .d (.int .i64), .d .str]) := [{ obs' := Try.diskObs, res := [.d .err], out := fun a x => (writeD x a.1 a.2.1).1, ret := fun a x => (errNo (writeD x a.1 a.2.1).2, ()) }]
set_option maxRecDepth 100000 in
set_option maxHeartbeats 4000000 in
theorem vc_DWrite (at_ : Int) (s : List UInt8) (d : Dk) (hw : wfC [.obj 0, .d (.int .i64), .d .str] (at_, s, ())) (hp : (fun _ x => -1 ≤ x.1.1 ∧ x.2.2.2.1.length ≤ 900000000) (at_, s, ()) d) : (objVCs Try.B Try.disk1Ctx Try.f27 [] Try.diskObs [.obj 0, .d (.int .i64), .d .str] Try.writeAlts (at_, s, ()) d).holds := by
  refine holds_of (p :=
    (((decide (at_ < (0 : Int))) = true → (d.2.2.2.1 = d.2.2.2.1 ∧ True ∧ d = (writeD d at_ s).1 ∧ (Err.no (1 : Int), ()) = (errNo (writeD d at_ s).2, ()))) ∧ ((decide (at_ < (0 : Int))) = false → ((List.length d.2.2.1 ≤ big) → (((decide (at_ ≥ (↑(List.length d.2.2.1) : Int))) = true → (d.2.2.2.1 = d.2.2.2.1 ∧ True ∧ d = (writeD d at_ s).1 ∧ (Err.no (1 : Int), ()) = (errNo (writeD d at_ s).2, ()))) ∧ ((decide (at_ ≥ (↑(List.length d.2.2.1) : Int))) = false → ((List.length s ≤ big) → (((decide ((↑(List.length s) : Int) > (64 : Int))) = true → (d.2.2.2.1 = d.2.2.2.1 ∧ True ∧ d = (writeD d at_ s).1 ∧ (Err.no (1 : Int), ()) = (errNo (writeD d at_ s).2, ()))) ∧ ((decide ((↑(List.length s) : Int) > (64 : Int))) = false → (d.2.2.2.1 = d.2.2.2.1) ∧ ((-1 : Int) ≤ d.1.1) ∧ ((True) → (((Err.isNil (errNo (stepOf d).2)) = true → (List.length s ≤ (64 : Nat)) ∧ ((0 : Int) ≤ at_ ∧ at_ < (↑(List.length (stepOf d).1.2.2.1) : Int)) ∧ (Int.toNat at_ < List.length (stepOf d).1.2.2.1) ∧ ((0 : Int) ≤ at_ ∧ at_ < (↑(List.length (List.set (stepOf d).1.2.2.1 (Int.toNat at_) (fullS s))) : Int)) ∧ (Int.toNat at_ < List.length (List.set (stepOf d).1.2.2.1 (Int.toNat at_) (fullS s))) ∧
    ((stepOf d).1.2.2.2.1 = (stepOf d).1.2.2.2.1 ∧ List.length (stepOf d).1.2.2.2.1 + List.length [(at_, nth Ty.str (List.set (stepOf d).1.2.2.1 (Int.toNat at_) (fullS s)) (Int.toNat at_), ())] ≤ (1000000000 : Nat)) ∧
    ((stepOf d).1.2.2.2.1 ++ [(at_, nth Ty.str (List.set (stepOf d).1.2.2.1 (Int.toNat at_) (fullS s)) (Int.toNat at_), ())] = (stepOf d).1.2.2.2.1 ++ [(at_, nth Ty.str (List.set (stepOf d).1.2.2.1 (Int.toNat at_) (fullS s)) (Int.toNat at_), ())] ∧ True ∧ (((stepOf d).1.1.1, (stepOf d).1.1.2.1, ()), (stepOf d).1.2.1, List.set (stepOf d).1.2.2.1 (Int.toNat at_) (fullS s), (stepOf d).1.2.2.2.1 ++ [(at_, nth Ty.str (List.set (stepOf d).1.2.2.1 (Int.toNat at_) (fullS s)) (Int.toNat at_), ())], ()) = (writeD d at_ s).1 ∧ (errNo (stepOf d).2, ()) = (errNo (writeD d at_ s).2, ()))) ∧ ((Err.isNil (errNo (stepOf d).2)) = false →
    ((stepOf d).1.2.2.2.1 = (stepOf d).1.2.2.2.1 ∧ True ∧ (stepOf d).1 = (writeD d at_ s).1 ∧ (errNo (stepOf d).2, ()) = (errNo (writeD d at_ s).2, ())))))))))))))) (by kernel_rfl) ?_
  try dsimp only at hp
  refine ⟨fun h0 => ?_, fun h0 => ?_⟩
  · try simp only [bl, reduceCtorEq] at h0
    rw [writeD_bad (by omega)]; exact ⟨rfl, trivial, rfl, rfl⟩
  · try simp only [bl, reduceCtorEq] at h0
    intro h1
    refine ⟨fun h2 => ?_, fun h2 => ?_⟩
    · try simp only [bl, reduceCtorEq] at h2
      rw [writeD_bad (by omega)]; exact ⟨rfl, trivial, rfl, rfl⟩
    · try simp only [bl, reduceCtorEq] at h2
      intro h3
      refine ⟨fun h4 => ?_, fun h4 => ?_⟩
      · try simp only [bl, reduceCtorEq] at h4
        rw [writeD_bad (by omega)]; exact ⟨rfl, trivial, rfl, rfl⟩
      · try simp only [bl, reduceCtorEq] at h4
        refine ⟨rfl, ?_⟩
        refine ⟨?_, ?_⟩
        · first | trivial | omega | (dsimp only [D] at *; omega) | (simp only [I64, big] at *; omega) | (simp_all; done)
        intro h5
        refine ⟨fun h6 => ?_, fun h6 => ?_⟩
        · try simp only [bl, reduceCtorEq] at h6
          refine ⟨?_, ?_⟩
          · first | trivial | omega | (dsimp only [D] at *; omega) | (simp only [I64, big] at *; omega) | (simp_all; done)
          refine ⟨?_, ?_⟩
          · have hlen : (stepOf d).fst.snd.snd.fst = d.snd.snd.fst := congrArg (fun z => z.2.1) (stepOf_rest d); have hwt : (stepOf d).fst.snd.snd.snd.fst = d.snd.snd.snd.fst := congrArg (fun z => z.2.2.1) (stepOf_rest d); have hkp : (stepOf d).fst.snd.fst = d.snd.fst := congrArg (fun z => z.1) (stepOf_rest d)
            rw [hlen]; omega
          refine ⟨?_, ?_⟩
          · have hlen : (stepOf d).fst.snd.snd.fst = d.snd.snd.fst := congrArg (fun z => z.2.1) (stepOf_rest d); have hwt : (stepOf d).fst.snd.snd.snd.fst = d.snd.snd.snd.fst := congrArg (fun z => z.2.2.1) (stepOf_rest d); have hkp : (stepOf d).fst.snd.fst = d.snd.fst := congrArg (fun z => z.1) (stepOf_rest d)
            rw [hlen]; omega
          refine ⟨?_, ?_⟩
          · have hlen : (stepOf d).fst.snd.snd.fst = d.snd.snd.fst := congrArg (fun z => z.2.1) (stepOf_rest d); have hwt : (stepOf d).fst.snd.snd.snd.fst = d.snd.snd.snd.fst := congrArg (fun z => z.2.2.1) (stepOf_rest d); have hkp : (stepOf d).fst.snd.fst = d.snd.fst := congrArg (fun z => z.1) (stepOf_rest d)
            rw [List.length_set, hlen]; omega
          refine ⟨?_, ?_⟩
          · have hlen : (stepOf d).fst.snd.snd.fst = d.snd.snd.fst := congrArg (fun z => z.2.1) (stepOf_rest d); have hwt : (stepOf d).fst.snd.snd.snd.fst = d.snd.snd.snd.fst := congrArg (fun z => z.2.2.1) (stepOf_rest d); have hkp : (stepOf d).fst.snd.fst = d.snd.fst := congrArg (fun z => z.1) (stepOf_rest d)
            rw [List.length_set, hlen]; omega
          refine ⟨?_, ?_⟩
          · have hlen : (stepOf d).fst.snd.snd.fst = d.snd.snd.fst := congrArg (fun z => z.2.1) (stepOf_rest d); have hwt : (stepOf d).fst.snd.snd.snd.fst = d.snd.snd.snd.fst := congrArg (fun z => z.2.2.1) (stepOf_rest d); have hkp : (stepOf d).fst.snd.fst = d.snd.fst := congrArg (fun z => z.1) (stepOf_rest d)
            rw [hwt]; simp only [List.length_singleton, true_and]; omega
          have hlen : (stepOf d).fst.snd.snd.fst = d.snd.snd.fst := congrArg (fun z => z.2.1) (stepOf_rest d); have hwt : (stepOf d).fst.snd.snd.snd.fst = d.snd.snd.snd.fst := congrArg (fun z => z.2.2.1) (stepOf_rest d); have hkp : (stepOf d).fst.snd.fst = d.snd.fst := congrArg (fun z => z.1) (stepOf_rest d)
          rw [writeD_ok (by omega) (errNo_nil.1 (by assumption)), nth_set (t := .str) (by rw [hlen]; omega), hlen, hwt, hkp]
          exact ⟨rfl, trivial, rfl, by simp [errNo_nil.1 ‹(errNo (stepOf d).snd).isNil = true›]⟩
        · try simp only [bl, reduceCtorEq] at h6
          rw [writeD_down (by omega) (fun h => by have := errNo_nil.2 h; simp_all)]; exact ⟨rfl, trivial, rfl, rfl⟩
theorem Try.ok_DWrite {X : Ext} : CallOK Try.prog Try.B.eT X 27 false (objSpec Try.diskObs [.obj 0, .d (.int .i64), .d .str] (fun _ x => -1 ≤ x.1.1 ∧ x.2.2.2.1.length ≤ 900000000) Try.writeAlts) :=
  callOK_of_obj (X := X) Try.disk1CtxOK Try.func27 (by kernel_rfl) (fun (a : CD [.obj 0, .d (.int .i64), .d .str]) (x : PD Try.diskObs) => []) (fun (a : CD [.obj 0, .d (.int .i64), .d .str]) (x : PD Try.diskObs) hw hp => vc_DWrite a.1 a.2.1 x hw hp)
def Try.readAlts : List (Alt Try.diskObs [.obj 0, .d (.int .i64)]) := [{ obs' := Try.diskObs, res := [.d .str, .d .err], out := fun _ x => x, ret := fun a x => ((readD x a.1).1, errNo (readD x a.1).2, ()) }]
set_option maxRecDepth 100000 in
set_option maxHeartbeats 4000000 in
theorem vc_DRead (at_ : Int) (d : Dk) (hw : wfC [.obj 0, .d (.int .i64)] (at_, ())) : (objVCs Try.B [] Try.f28 [] Try.diskObs [.obj 0, .d (.int .i64)] Try.readAlts (at_, ()) d).holds := by
  refine holds_of (p :=
    (((d.1.2.1) = true → (d.2.2.2.1 = d.2.2.2.1 ∧ True ∧ d = d ∧ ([], Err.no (9 : Int), ()) = ((readD d at_).1, errNo (readD d at_).2, ()))) ∧ ((d.1.2.1) = false → (((decide (at_ < (0 : Int))) = true → (d.2.2.2.1 = d.2.2.2.1 ∧ True ∧ d = d ∧ ([], Err.no (1 : Int), ()) = ((readD d at_).1, errNo (readD d at_).2, ()))) ∧ ((decide (at_ < (0 : Int))) = false → ((List.length d.2.2.1 ≤ big) → (((decide (at_ ≥ (↑(List.length d.2.2.1) : Int))) = true → (d.2.2.2.1 = d.2.2.2.1 ∧ True ∧ d = d ∧ ([], Err.no (1 : Int), ()) = ((readD d at_).1, errNo (readD d at_).2, ()))) ∧ ((decide (at_ ≥ (↑(List.length d.2.2.1) : Int))) = false → ((0 : Int) ≤ at_ ∧ at_ < (↑(List.length d.2.2.1) : Int)) ∧ (Int.toNat at_ < List.length d.2.2.1) ∧
    (d.2.2.2.1 = d.2.2.2.1 ∧ True ∧ d = d ∧ (nth Ty.str d.2.2.1 (Int.toNat at_), Err.nil, ()) = ((readD d at_).1, errNo (readD d at_).2, ())))))))))) (by kernel_rfl) ?_
  refine ⟨fun h0 => ?_, fun h0 => ?_⟩
  · try simp only [bl, reduceCtorEq] at h0
    rw [readD_down (by assumption)]; exact ⟨rfl, trivial, rfl, rfl⟩
  · try simp only [bl, reduceCtorEq] at h0
    refine ⟨fun h1 => ?_, fun h1 => ?_⟩
    · try simp only [bl, reduceCtorEq] at h1
      rw [readD_out (by assumption) (by omega)]; exact ⟨rfl, trivial, rfl, rfl⟩
    · try simp only [bl, reduceCtorEq] at h1
      intro h2
      refine ⟨fun h3 => ?_, fun h3 => ?_⟩
      · try simp only [bl, reduceCtorEq] at h3
        rw [readD_out (by assumption) (by omega)]; exact ⟨rfl, trivial, rfl, rfl⟩
      · try simp only [bl, reduceCtorEq] at h3
        refine ⟨?_, ?_⟩
        · first | trivial | omega | (dsimp only [D] at *; omega) | (simp only [I64, big] at *; omega) | (simp_all; done)
        refine ⟨?_, ?_⟩
        · first | trivial | omega | (dsimp only [D] at *; omega) | (simp only [I64, big] at *; omega) | (simp_all; done)
        rw [readD_in (by assumption) (by omega)]; exact ⟨rfl, trivial, rfl, rfl⟩
theorem Try.ok_DRead {X : Ext} : CallOK Try.prog Try.B.eT X 28 false (objSpec Try.diskObs [.obj 0, .d (.int .i64)] (fun _ _ => True) Try.readAlts) :=
  callOK_of_obj (X := X) (ctx0 Try.tyOK) Try.func28 (by kernel_rfl) (fun (a : CD [.obj 0, .d (.int .i64)]) (x : PD Try.diskObs) => []) (fun (a : CD [.obj 0, .d (.int .i64)]) (x : PD Try.diskObs) hw hp => vc_DRead a.1 x hw)
def Try.flushAlts : List (Alt Try.diskObs [.obj 0]) := [{ obs' := Try.diskObs, res := [.d .err], out := fun _ x => (flushD x).1, ret := fun _ x => (errNo (flushD x).2, ()) }]
set_option maxRecDepth 100000 in
set_option maxHeartbeats 4000000 in
theorem vc_DFlush (d : Dk) (hw : wfC [.obj 0] ()) (hp : (fun _ x => -1 ≤ x.1.1 ∧ x.2.1.length = x.2.2.1.length) () d) : (objVCs Try.B Try.disk1Ctx Try.f24 [] Try.diskObs [.obj 0] Try.flushAlts () d).holds := by
  refine holds_of (p :=
    (d.2.2.2.1 = d.2.2.2.1) ∧ ((-1 : Int) ≤ d.1.1) ∧ ((True) → (((Err.isNil (errNo (stepOf d).2)) = true → (True ∧ (0 : Nat) + List.length (stepOf d).1.2.1 ≤ List.length (stepOf d).1.2.1) ∧
    (@List.nil (Int × List UInt8 × Unit) = @List.nil (Int × List UInt8 × Unit) ∧ True ∧ (((stepOf d).1.1.1, (stepOf d).1.1.2.1, ()), List.take (0 : Nat) (stepOf d).1.2.1 ++ List.take (min (List.length (stepOf d).1.2.2.1) (List.length (stepOf d).1.2.1)) (stepOf d).1.2.2.1 ++ List.drop ((0 : Nat) + min (List.length (stepOf d).1.2.2.1) (List.length (stepOf d).1.2.1)) (stepOf d).1.2.1, (stepOf d).1.2.2.1, [], ()) = (flushD d).1 ∧ (errNo (stepOf d).2, ()) = (errNo (flushD d).2, ()))) ∧ ((Err.isNil (errNo (stepOf d).2)) = false →
    ((stepOf d).1.2.2.2.1 = (stepOf d).1.2.2.2.1 ∧ True ∧ (stepOf d).1 = (flushD d).1 ∧ (errNo (stepOf d).2, ()) = (errNo (flushD d).2, ())))))) (by kernel_rfl) ?_
  try dsimp only at hp
  refine ⟨rfl, ?_⟩
  refine ⟨?_, ?_⟩
  · first | trivial | omega | (dsimp only [D] at *; omega) | (simp only [I64, big] at *; omega) | (simp_all; done)
  intro h0
  refine ⟨fun h1 => ?_, fun h1 => ?_⟩
  · try simp only [bl, reduceCtorEq] at h1
    refine ⟨?_, ?_⟩
    · first | trivial | omega | (dsimp only [D] at *; omega) | (simp only [I64, big] at *; omega) | (simp_all; done)
    have hlen : (stepOf d).fst.snd.snd.fst = d.snd.snd.fst := congrArg (fun z => z.2.1) (stepOf_rest d); have hwt : (stepOf d).fst.snd.snd.snd.fst = d.snd.snd.snd.fst := congrArg (fun z => z.2.2.1) (stepOf_rest d); have hkp : (stepOf d).fst.snd.fst = d.snd.fst := congrArg (fun z => z.1) (stepOf_rest d)
    have h0 := errNo_nil.1 ‹(errNo (stepOf d).snd).isNil = true›
    rw [flushD_ok h0, hlen, hkp, copy_all hp.2, h0]
    exact ⟨rfl, trivial, rfl, rfl⟩
  · try simp only [bl, reduceCtorEq] at h1
    rw [flushD_down (fun h => by have := errNo_nil.2 h; simp_all)]; exact ⟨rfl, trivial, rfl, rfl⟩
theorem Try.ok_DFlush {X : Ext} : CallOK Try.prog Try.B.eT X 24 false (objSpec Try.diskObs [.obj 0] (fun _ x => -1 ≤ x.1.1 ∧ x.2.1.length = x.2.2.1.length) Try.flushAlts) :=
  callOK_of_obj (X := X) Try.disk1CtxOK Try.func24 (by kernel_rfl) (fun (a : CD [.obj 0]) (x : PD Try.diskObs) => []) (fun (a : CD [.obj 0]) (x : PD Try.diskObs) hw hp => vc_DFlush x hw hp)
def Try.armAlts : List (Alt Try.diskObs [.obj 0, .d (.int .i64)]) := [{ obs' := Try.diskObs, res := [], out := fun a x => armD x a.1, ret := fun _ _ => () }]
def Try.downAlts : List (Alt Try.diskObs [.obj 0]) := [{ obs' := Try.diskObs, res := [.d .bool], out := fun _ x => x, ret := fun _ x => (x.1.2.1, ()) }]
def Try.sectorsAlts : List (Alt Try.diskObs [.obj 0]) := [{ obs' := Try.diskObs, res := [.d (.int .i64)], out := fun _ x => x, ret := fun _ x => ((x.2.2.1.length : Int), ()) }]
set_option maxRecDepth 100000 in
set_option maxHeartbeats 4000000 in
theorem vc_DSectors (d : Dk) (hw : wfC [.obj 0] ()) : (objVCs Try.B [] Try.f25 [] Try.diskObs [.obj 0] Try.sectorsAlts () d).holds := by
  refine holds_of (p :=
    ((List.length d.2.2.1 ≤ big) → (d.2.2.2.1 = d.2.2.2.1 ∧ True ∧ d = d ∧ ((↑(List.length d.2.2.1) : Int), ()) = ((↑(List.length d.2.2.1) : Int), ())))) (by kernel_rfl) ?_
  intro h0
  first | trivial | omega | (dsimp only [D] at *; omega) | (simp only [I64, big] at *; omega) | (simp_all; done)
theorem Try.ok_DSectors {X : Ext} : CallOK Try.prog Try.B.eT X 25 false (objSpec Try.diskObs [.obj 0] (fun _ _ => True) Try.sectorsAlts) :=
  callOK_of_obj (X := X) (ctx0 Try.tyOK) Try.func25 (by kernel_rfl) (fun (a : CD [.obj 0]) (x : PD Try.diskObs) => []) (fun (a : CD [.obj 0]) (x : PD Try.diskObs) hw hp => vc_DSectors x hw)
noncomputable def Try.restartAlts : List (Alt Try.diskObs [.obj 0, .d (.int .u64)]) := [{ obs' := Try.diskObs, res := [], out := fun a x => restartD x a.1, ret := fun _ _ => () }]
noncomputable def restartAnn (k : Int) (d : Dk) : Anns := [(0, fun st => { X := Nat, inv := fun i => i ≤ d.2.2.2.1.length, meas := fun i => d.2.2.2.1.length - i, slots := fun i => [(11, sI i)], objs := fun i => [(1, .mrow .str (keepN k d.2.2.2.1 d.2.1 i))], keep := [0, 1, 9, 10], mods := [1] })]
set_option maxRecDepth 100000 in
set_option maxHeartbeats 4000000 in
theorem vc_DRestart (k : Int) (d : Dk) (hw : wfC [.obj 0, .d (.int .u64)] (k, ())) (hp : (fun _ x => x.2.1.length = x.2.2.1.length ∧ ∀ i, i < x.2.2.2.1.length → 0 ≤ ((nth tTurn x.2.2.2.1 i).1 : Int) ∧ ((nth tTurn x.2.2.2.1 i).1 : Int) < x.2.2.1.length) (k, ()) d) : (objVCs Try.B [] Try.f29 (restartAnn k d) Try.diskObs [.obj 0, .d (.int .u64)] Try.restartAlts (k, ()) d).holds := by
  refine holds_of (p :=
    ((List.length d.2.2.2.1 ≤ big) → (∃ (x : Nat), x ≤ List.length d.2.2.2.1 ∧ ((0 : Int) = (↑x : Int) ∧ True) ∧ d.2.1 = keepN k d.2.2.2.1 d.2.1 x ∧ True) ∧ (∀ x_0 : Nat, ((x_0 ≤ List.length d.2.2.2.1) → (((decide ((↑x_0 : Int) < (↑(List.length d.2.2.2.1) : Int))) = true → ((0 : Int) ≤ (↑x_0 : Int) ∧ (↑x_0 : Int) < (↑(List.length d.2.2.2.1) : Int)) ∧ ((64 : Int) ≠ (0 : Int)) ∧ (∀ x_1 : Int, ((x_1 = Int.tmod (↑x_0 : Int) (64 : Int)) → ((0 : Int) ≤ x_1) ∧ (∀ x_2 : Int, ((x_2 = Int.fdiv k ((2 : Int) ^ min (Int.toNat x_1) (IntKind.bits IntKind.u64))) → (∀ x_3 : Int,
    ((x_3 = IntKind.wrap IntKind.u64 (↑(BitVec.toNat (BitVec.ofInt (IntKind.bits IntKind.u64) x_2 &&& BitVec.ofInt (IntKind.bits IntKind.u64) (1 : Int))) : Int)) → (((x_3 == (1 : Int)) = true →
    ((0 : Int) ≤ (nth tTurn d.2.2.2.1 x_0).1 ∧ (nth tTurn d.2.2.2.1 x_0).1 < (↑(List.length (keepN k d.2.2.2.1 d.2.1 x_0)) : Int)) ∧ (Int.toNat (nth tTurn d.2.2.2.1 x_0).1 < List.length (keepN k d.2.2.2.1 d.2.1 x_0)) ∧ ((I64 (↑x_0 : Int)) → ((I64 (1 : Int)) → (I64 ((↑x_0 : Int) + (1 : Int))) ∧
    (∃ (x' : Nat), x' ≤ List.length d.2.2.2.1 ∧ List.length d.2.2.2.1 - x' < List.length d.2.2.2.1 - x_0 ∧ ((↑x_0 : Int) + (1 : Int) = (↑x' : Int) ∧ True) ∧ List.set (keepN k d.2.2.2.1 d.2.1 x_0) (Int.toNat (nth tTurn d.2.2.2.1 x_0).1) (nth tTurn d.2.2.2.1 x_0).2.1 = keepN k d.2.2.2.1 d.2.1 x' ∧ (C.mrow (1 : Nat) = C.mrow (1 : Nat) ∧ C.mrow (2 : Nat) = C.mrow (2 : Nat) ∧ d.2.2.2.1 = d.2.2.2.1 ∧ d.1.1 = d.1.1 ∧ d.1.2.1 = d.1.2.1 ∧ True) ∧ d.2.2.1 = d.2.2.1 ∧ d.2.2.2.1 = d.2.2.2.1 ∧ True)))) ∧ ((x_3 == (1 : Int)) = false → ((I64 (↑x_0 : Int)) → ((I64 (1 : Int)) → (I64 ((↑x_0 : Int) + (1 : Int))) ∧
    (∃ (x' : Nat), x' ≤ List.length d.2.2.2.1 ∧ List.length d.2.2.2.1 - x' < List.length d.2.2.2.1 - x_0 ∧ ((↑x_0 : Int) + (1 : Int) = (↑x' : Int) ∧ True) ∧ keepN k d.2.2.2.1 d.2.1 x_0 = keepN k d.2.2.2.1 d.2.1 x' ∧ (C.mrow (1 : Nat) = C.mrow (1 : Nat) ∧ C.mrow (2 : Nat) = C.mrow (2 : Nat) ∧ d.2.2.2.1 = d.2.2.2.1 ∧ d.1.1 = d.1.1 ∧ d.1.2.1 = d.1.2.1 ∧ True) ∧ d.2.2.1 = d.2.2.1 ∧ d.2.2.2.1 = d.2.2.2.1 ∧ True)))))))))))) ∧ ((decide ((↑x_0 : Int) < (↑(List.length d.2.2.2.1) : Int))) = false → (True ∧ (0 : Nat) + List.length d.2.2.1 ≤ List.length d.2.2.1) ∧
    (@List.nil (Int × List UInt8 × Unit) = @List.nil (Int × List UInt8 × Unit) ∧ True ∧ (((-1 : Int), false, ()), keepN k d.2.2.2.1 d.2.1 x_0, List.take (0 : Nat) d.2.2.1 ++ List.take (min (List.length (keepN k d.2.2.2.1 d.2.1 x_0)) (List.length d.2.2.1)) (keepN k d.2.2.2.1 d.2.1 x_0) ++ List.drop ((0 : Nat) + min (List.length (keepN k d.2.2.2.1 d.2.1 x_0)) (List.length d.2.2.1)) d.2.2.1, [], ()) = restartD d k ∧ () = ()))))))) (by kernel_rfl) ?_
  try dsimp only at hp
  intro h0
  refine ⟨?_, ?_⟩
  · refine ⟨0, ?_⟩; (repeat' (first | exact trivial | rfl | omega | assumption | apply And.intro))
  intro x_0 q_0
  refine ⟨fun h1 => ?_, fun h1 => ?_⟩
  · try simp only [bl, reduceCtorEq] at h1
    refine ⟨?_, ?_⟩
    · first | trivial | omega | (dsimp only [D] at *; omega) | (simp only [I64, big] at *; omega) | (simp_all; done)
    refine ⟨?_, ?_⟩
    · first | trivial | omega | (dsimp only [D] at *; omega) | (simp only [I64, big] at *; omega) | (simp_all; done)
    intro x_1 q_1
    refine ⟨?_, ?_⟩
    · have := mod64 x_0; rw [Int.tmod_eq_emod_of_nonneg (by omega)] at *; omega
    intro x_2 q_2
    intro x_3 q_3
    refine ⟨fun h2 => ?_, fun h2 => ?_⟩
    · try simp only [bl, reduceCtorEq] at h2
      refine ⟨?_, ?_⟩
      · have := hp.2 x_0 (by omega); rw [keepN_len]; (try dsimp only [D] at *); omega
      refine ⟨?_, ?_⟩
      · have := hp.2 x_0 (by omega); rw [keepN_len]; (try dsimp only [D] at *); omega
      intro h3
      intro h4
      refine ⟨?_, ?_⟩
      · first | trivial | omega | (dsimp only [D] at *; omega) | (simp only [I64, big] at *; omega) | (simp_all; done)
      have hb := bit_test (k := k) (i := x_0) (x := x_2) (y := x_3) (by assumption) (by rw [‹x_1 = _›]; exact mod64 x_0) (by assumption)
      first | exact ⟨x_0 + 1, by omega, by omega, ⟨by omega, trivial⟩, keepN_on (hb.1 (by assumption)), (by repeat' (first | exact trivial | rfl | apply And.intro))⟩ | exact ⟨x_0 + 1, by omega, by omega, ⟨by omega, trivial⟩, keepN_off ((not_congr hb).1 (by assumption)), (by repeat' (first | exact trivial | rfl | apply And.intro))⟩
    · try simp only [bl, reduceCtorEq] at h2
      intro h3
      intro h4
      refine ⟨?_, ?_⟩
      · first | trivial | omega | (dsimp only [D] at *; omega) | (simp only [I64, big] at *; omega) | (simp_all; done)
      have hb := bit_test (k := k) (i := x_0) (x := x_2) (y := x_3) (by assumption) (by rw [‹x_1 = _›]; exact mod64 x_0) (by assumption)
      first | exact ⟨x_0 + 1, by omega, by omega, ⟨by omega, trivial⟩, keepN_on (hb.1 (by assumption)), (by repeat' (first | exact trivial | rfl | apply And.intro))⟩ | exact ⟨x_0 + 1, by omega, by omega, ⟨by omega, trivial⟩, keepN_off ((not_congr hb).1 (by assumption)), (by repeat' (first | exact trivial | rfl | apply And.intro))⟩
  · try simp only [bl, reduceCtorEq] at h1
    refine ⟨?_, ?_⟩
    · first | trivial | omega | (dsimp only [D] at *; omega) | (simp only [I64, big] at *; omega) | (simp_all; done)
    obtain rfl : x_0 = d.2.2.2.1.length := by omega
    rw [copy_all (by rw [keepN_len]; exact hp.1.symm)]
    exact ⟨rfl, trivial, rfl, rfl⟩
theorem Try.ok_DRestart {X : Ext} : CallOK Try.prog Try.B.eT X 29 false (objSpec Try.diskObs [.obj 0, .d (.int .u64)] (fun _ x => x.2.1.length = x.2.2.1.length ∧ ∀ i, i < x.2.2.2.1.length → 0 ≤ ((nth tTurn x.2.2.2.1 i).1 : Int) ∧ ((nth tTurn x.2.2.2.1 i).1 : Int) < x.2.2.1.length) Try.restartAlts) :=
  callOK_of_obj (X := X) (ctx0 Try.tyOK) Try.func29 (by kernel_rfl) (fun (a : CD [.obj 0, .d (.int .u64)]) (x : PD Try.diskObs) => restartAnn a.1 x) (fun (a : CD [.obj 0, .d (.int .u64)]) (x : PD Try.diskObs) hw hp => vc_DRestart a.1 x hw hp)
def Try.newAlts : List (Alt [] [.d (.int .i64)]) := [
  { obs' := [], res := [.nilP, .d .err], ok := fun a _ => a.1 < 1 ∨ 120 < a.1, out := fun _ _ => (), ret := fun _ _ => (Err.no 1, ()) },
  { obs' := Try.diskObs, res := [.obj 0, .d .err], ok := fun a _ => 1 ≤ a.1 ∧ a.1 ≤ 120, out := fun a _ => newD a.1, ret := fun _ _ => (Err.nil, ()) }]
set_option maxRecDepth 100000 in
set_option maxHeartbeats 4000000 in
theorem vc_DNew (n : Int) (hw : wfC [.d (.int .i64)] (n, ())) : (objVCs Try.B Try.disk0Ctx Try.f23 [] [] [.d (.int .i64)] Try.newAlts (n, ()) ()).holds := by
  refine holds_of (p :=
    (((decide (n < (1 : Int))) = true → ((n < (1 : Int) ∨ (120 : Int) < n) ∧ () = () ∧ (Err.no (1 : Int), ()) = (Err.no (1 : Int), ()))) ∧ ((decide (n < (1 : Int))) = false → (((decide (n > (120 : Int))) = true → ((n < (1 : Int) ∨ (120 : Int) < n) ∧ () = () ∧ (Err.no (1 : Int), ()) = (Err.no (1 : Int), ()))) ∧ ((decide (n > (120 : Int))) = false → (List.length (@List.nil UInt8) ≤ (64 : Nat)) ∧ (List.length [fullS (@List.nil UInt8)] = (1 : Nat) ∧ (1 : Int) ≤ n ∧ n ≤ (1000000 : Int)) ∧ ((True) →
    (List.replicate (Int.toNat n) (nth Ty.str [fullS (@List.nil UInt8)] (0 : Nat)) ≠ @List.nil (List UInt8) ∧ List.length (List.replicate (Int.toNat n) (nth Ty.str [fullS (@List.nil UInt8)] (0 : Nat))) ≤ (1000000 : Nat)) ∧ ((List.replicate (Int.toNat n) (nth Ty.str [fullS (@List.nil UInt8)] (0 : Nat)) ≠ @List.nil (List UInt8)) →
    (@List.nil (Int × List UInt8 × Unit) = @List.nil (Int × List UInt8 × Unit) ∧ ((1 : Int) ≤ n ∧ n ≤ (120 : Int)) ∧ (((-1 : Int), false, ()), List.replicate (Int.toNat n) (nth Ty.str [fullS (@List.nil UInt8)] (0 : Nat)), List.replicate (Int.toNat n) (nth Ty.str [fullS (@List.nil UInt8)] (0 : Nat)), [], ()) = newD n ∧ (Err.nil, ()) = (Err.nil, ()))))))))) (by kernel_rfl) ?_
  refine ⟨fun h0 => ?_, fun h0 => ?_⟩
  · try simp only [bl, reduceCtorEq] at h0
    exact ⟨by omega, rfl, rfl⟩
  · try simp only [bl, reduceCtorEq] at h0
    refine ⟨fun h1 => ?_, fun h1 => ?_⟩
    · try simp only [bl, reduceCtorEq] at h1
      exact ⟨by omega, rfl, rfl⟩
    · try simp only [bl, reduceCtorEq] at h1
      refine ⟨?_, ?_⟩
      · first | trivial | omega | (dsimp only [D] at *; omega) | (simp only [I64, big] at *; omega) | (simp_all; done)
      refine ⟨?_, ?_⟩
      · exact ⟨rfl, by omega, by omega⟩
      intro h2
      refine ⟨?_, ?_⟩
      · refine ⟨fun h => ?_, by simp only [List.length_replicate]; omega⟩
        have := congrArg List.length h; simp only [List.length_replicate, List.length_nil] at this; omega
      intro h3
      exact ⟨rfl, by omega, rfl, rfl⟩
theorem Try.ok_DNew {X : Ext} : CallOK Try.prog Try.B.eT X 23 false (objSpec [] [.d (.int .i64)] (fun _ _ => True) Try.newAlts) :=
  callOK_of_obj (X := X) Try.disk0CtxOK Try.func23 (by kernel_rfl) (fun (a : CD [.d (.int .i64)]) (x : PD []) => []) (fun (a : CD [.d (.int .i64)]) (x : PD []) hw hp => vc_DNew a.1 hw)
noncomputable def Try.diskCtx : List (FuncId × (Bool × CSpec)) := [(44, (true, funSpec [.str] [.err] (fun _ => True) (fun s => errNo (nameFault s)))),
  (18, (true, funSpec [.str] [.int .u32] (fun _ => True) (fun s => (hashF s : Int)))),
  (22, (true, funSpec [.err] [.int .i64] (fun _ => True) (fun e => numE e))),
  (27, (false, objSpec Try.diskObs [.obj 0, .d (.int .i64), .d .str] (fun _ x => -1 ≤ x.1.1 ∧ x.2.2.2.1.length ≤ 900000000) Try.writeAlts)),
  (28, (false, objSpec Try.diskObs [.obj 0, .d (.int .i64)] (fun _ _ => True) Try.readAlts)),
  (24, (false, objSpec Try.diskObs [.obj 0] (fun _ x => -1 ≤ x.1.1 ∧ x.2.1.length = x.2.2.1.length) Try.flushAlts)),
  (25, (false, objSpec Try.diskObs [.obj 0] (fun _ _ => True) Try.sectorsAlts)),
  (29, (false, objSpec Try.diskObs [.obj 0, .d (.int .u64)] (fun _ x => x.2.1.length = x.2.2.1.length ∧ ∀ i, i < x.2.2.2.1.length → 0 ≤ ((nth tTurn x.2.2.2.1 i).1 : Int) ∧ ((nth tTurn x.2.2.2.1 i).1 : Int) < x.2.2.1.length) Try.restartAlts)),
  (23, (false, objSpec [] [.d (.int .i64)] (fun _ _ => True) Try.newAlts))]
theorem Try.diskCtxOK {X : Ext} : CtxOK Try.prog Try.B X Try.diskCtx :=
  ctx1 (callOK_of_fun Try.ok_Check) (ctx1 (callOK_of_fun Try.ok_Hash) (ctx1 (callOK_of_fun Try.ok_number) (ctx1 (Try.ok_DWrite) (ctx1 (Try.ok_DRead) (ctx1 (Try.ok_DFlush) (ctx1 (Try.ok_DSectors) (ctx1 (Try.ok_DRestart) (ctx1 (Try.ok_DNew) (ctx0 Try.tyOK)))))))))
end Go.Proofs.Ytgokjhhcfemnhab

