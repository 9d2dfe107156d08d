/- A part of the proof that the law NamesCard holds of the given program: facts that are used there. -/
import Derived.Test.YtgokjhhcfemnhaaDoorPart4
import Derived.Test.YtgokjhhcfemnhaaDoorRows
import Derived.Test.YtgokjhhcfemnhaaDoorCards
import Derived.Test.YtgokjhhcfemnhaaDoorTie
import Derived.LaidMore
set_option linter.unusedSimpArgs false
set_option linter.unusedVariables false
namespace Go.Proofs.YtgokjhhcfemnhaaDoor
open Go.Vg Go.Mrl
/-! Numbers and errors of package api. -/
set_option maxRecDepth 100000 in
set_option maxHeartbeats 4000000 in
theorem vc_small (n : Int) (hw : wfL [.int .i64] n) (hp : (fun x => x = 10) n) : (fnVCs Tryd.B [] Tryd.f55 [] [.int .i64] [.str] (fun x y => y = (fun _ => [49, 48]) x) n).holds := by
  refine holds_of (p :=
    (((decide (n < (10 : Int))) = true → ((I64 n) → ((I64 (1 : Int)) → (I64 (n + (1 : Int))) ∧
    ((0 : Int) ≤ n ∧ n ≤ n + (1 : Int) ∧ n + (1 : Int) ≤ (↑(List.length [(48 : UInt8), (49 : UInt8), (50 : UInt8), (51 : UInt8), (52 : UInt8), (53 : UInt8), (54 : UInt8), (55 : UInt8), (56 : UInt8), (57 : UInt8), (97 : UInt8), (98 : UInt8), (99 : UInt8), (100 : UInt8), (101 : UInt8), (102 : UInt8), (103 : UInt8), (104 : UInt8), (105 : UInt8), (106 : UInt8), (107 : UInt8), (108 : UInt8), (109 : UInt8), (110 : UInt8), (111 : UInt8), (112 : UInt8), (113 : UInt8), (114 : UInt8), (115 : UInt8), (116 : UInt8), (117 : UInt8), (118 : UInt8), (119 : UInt8), (120 : UInt8), (121 : UInt8), (122 : UInt8)]) : Int)) ∧
    (List.drop (Int.toNat n) (List.take (Int.toNat (n + (1 : Int))) [(48 : UInt8), (49 : UInt8), (50 : UInt8), (51 : UInt8), (52 : UInt8), (53 : UInt8), (54 : UInt8), (55 : UInt8), (56 : UInt8), (57 : UInt8), (97 : UInt8), (98 : UInt8), (99 : UInt8), (100 : UInt8), (101 : UInt8), (102 : UInt8), (103 : UInt8), (104 : UInt8), (105 : UInt8), (106 : UInt8), (107 : UInt8), (108 : UInt8), (109 : UInt8), (110 : UInt8), (111 : UInt8), (112 : UInt8), (113 : UInt8), (114 : UInt8), (115 : UInt8), (116 : UInt8), (117 : UInt8), (118 : UInt8), (119 : UInt8), (120 : UInt8), (121 : UInt8), (122 : UInt8)]) = [(49 : UInt8), (48 : UInt8)])))) ∧ ((decide (n < (10 : Int))) = false → (∀ x_0 : Int, ((x_0 = n * (2 : Int)) → ((I64 n) → ((I64 (2 : Int)) → (I64 x_0) ∧ (∀ x_1 : Int, ((x_1 = n * (2 : Int)) → ((I64 n) → ((I64 (2 : Int)) → (I64 x_1) ∧ ((I64 x_1) → ((I64 (2 : Int)) → (I64 (x_1 + (2 : Int))) ∧
    ((0 : Int) ≤ x_0 ∧ x_0 ≤ x_1 + (2 : Int) ∧ x_1 + (2 : Int) ≤ (↑(List.length (List.append (List.append [(48 : UInt8), (48 : UInt8), (48 : UInt8), (49 : UInt8), (48 : UInt8), (50 : UInt8), (48 : UInt8), (51 : UInt8), (48 : UInt8), (52 : UInt8), (48 : UInt8), (53 : UInt8), (48 : UInt8), (54 : UInt8), (48 : UInt8), (55 : UInt8), (48 : UInt8), (56 : UInt8), (48 : UInt8), (57 : UInt8), (49 : UInt8), (48 : UInt8), (49 : UInt8), (49 : UInt8), (49 : UInt8), (50 : UInt8), (49 : UInt8), (51 : UInt8), (49 : UInt8), (52 : UInt8), (49 : UInt8), (53 : UInt8), (49 : UInt8), (54 : UInt8), (49 : UInt8), (55 : UInt8), (49 : UInt8), (56 : UInt8), (49 : UInt8), (57 : UInt8), (50 : UInt8), (48 : UInt8), (50 : UInt8), (49 : UInt8), (50 : UInt8), (50 : UInt8), (50 : UInt8), (51 : UInt8), (50 : UInt8), (52 : UInt8)] [(50 : UInt8), (53 : UInt8), (50 : UInt8), (54 : UInt8), (50 : UInt8), (55 : UInt8), (50 : UInt8), (56 : UInt8), (50 : UInt8), (57 : UInt8), (51 : UInt8), (48 : UInt8), (51 : UInt8), (49 : UInt8), (51 : UInt8), (50 : UInt8), (51 : UInt8), (51 : UInt8), (51 : UInt8), (52 : UInt8), (51 : UInt8), (53 : UInt8), (51 : UInt8), (54 : UInt8), (51 : UInt8), (55 : UInt8), (51 : UInt8), (56 : UInt8), (51 : UInt8), (57 : UInt8), (52 : UInt8), (48 : UInt8), (52 : UInt8), (49 : UInt8), (52 : UInt8), (50 : UInt8), (52 : UInt8), (51 : UInt8), (52 : UInt8), (52 : UInt8), (52 : UInt8), (53 : UInt8), (52 : UInt8), (54 : UInt8), (52 : UInt8), (55 : UInt8), (52 : UInt8), (56 : UInt8), (52 : UInt8), (57 : UInt8)]) (List.append [(53 : UInt8), (48 : UInt8), (53 : UInt8), (49 : UInt8), (53 : UInt8), (50 : UInt8), (53 : UInt8), (51 : UInt8), (53 : UInt8), (52 : UInt8), (53 : UInt8), (53 : UInt8), (53 : UInt8), (54 : UInt8), (53 : UInt8), (55 : UInt8), (53 : UInt8), (56 : UInt8), (53 : UInt8), (57 : UInt8), (54 : UInt8), (48 : UInt8), (54 : UInt8), (49 : UInt8), (54 : UInt8), (50 : UInt8), (54 : UInt8), (51 : UInt8), (54 : UInt8), (52 : UInt8), (54 : UInt8), (53 : UInt8), (54 : UInt8), (54 : UInt8), (54 : UInt8), (55 : UInt8), (54 : UInt8), (56 : UInt8), (54 : UInt8), (57 : UInt8), (55 : UInt8), (48 : UInt8), (55 : UInt8), (49 : UInt8), (55 : UInt8), (50 : UInt8), (55 : UInt8), (51 : UInt8), (55 : UInt8), (52 : UInt8)] [(55 : UInt8), (53 : UInt8), (55 : UInt8), (54 : UInt8), (55 : UInt8), (55 : UInt8), (55 : UInt8), (56 : UInt8), (55 : UInt8), (57 : UInt8), (56 : UInt8), (48 : UInt8), (56 : UInt8), (49 : UInt8), (56 : UInt8), (50 : UInt8), (56 : UInt8), (51 : UInt8), (56 : UInt8), (52 : UInt8), (56 : UInt8), (53 : UInt8), (56 : UInt8), (54 : UInt8), (56 : UInt8), (55 : UInt8), (56 : UInt8), (56 : UInt8), (56 : UInt8), (57 : UInt8), (57 : UInt8), (48 : UInt8), (57 : UInt8), (49 : UInt8), (57 : UInt8), (50 : UInt8), (57 : UInt8), (51 : UInt8), (57 : UInt8), (52 : UInt8), (57 : UInt8), (53 : UInt8), (57 : UInt8), (54 : UInt8), (57 : UInt8), (55 : UInt8), (57 : UInt8), (56 : UInt8), (57 : UInt8), (57 : UInt8)]))) : Int)) ∧
    (List.drop (Int.toNat x_0) (List.take (Int.toNat (x_1 + (2 : Int))) (List.append (List.append [(48 : UInt8), (48 : UInt8), (48 : UInt8), (49 : UInt8), (48 : UInt8), (50 : UInt8), (48 : UInt8), (51 : UInt8), (48 : UInt8), (52 : UInt8), (48 : UInt8), (53 : UInt8), (48 : UInt8), (54 : UInt8), (48 : UInt8), (55 : UInt8), (48 : UInt8), (56 : UInt8), (48 : UInt8), (57 : UInt8), (49 : UInt8), (48 : UInt8), (49 : UInt8), (49 : UInt8), (49 : UInt8), (50 : UInt8), (49 : UInt8), (51 : UInt8), (49 : UInt8), (52 : UInt8), (49 : UInt8), (53 : UInt8), (49 : UInt8), (54 : UInt8), (49 : UInt8), (55 : UInt8), (49 : UInt8), (56 : UInt8), (49 : UInt8), (57 : UInt8), (50 : UInt8), (48 : UInt8), (50 : UInt8), (49 : UInt8), (50 : UInt8), (50 : UInt8), (50 : UInt8), (51 : UInt8), (50 : UInt8), (52 : UInt8)] [(50 : UInt8), (53 : UInt8), (50 : UInt8), (54 : UInt8), (50 : UInt8), (55 : UInt8), (50 : UInt8), (56 : UInt8), (50 : UInt8), (57 : UInt8), (51 : UInt8), (48 : UInt8), (51 : UInt8), (49 : UInt8), (51 : UInt8), (50 : UInt8), (51 : UInt8), (51 : UInt8), (51 : UInt8), (52 : UInt8), (51 : UInt8), (53 : UInt8), (51 : UInt8), (54 : UInt8), (51 : UInt8), (55 : UInt8), (51 : UInt8), (56 : UInt8), (51 : UInt8), (57 : UInt8), (52 : UInt8), (48 : UInt8), (52 : UInt8), (49 : UInt8), (52 : UInt8), (50 : UInt8), (52 : UInt8), (51 : UInt8), (52 : UInt8), (52 : UInt8), (52 : UInt8), (53 : UInt8), (52 : UInt8), (54 : UInt8), (52 : UInt8), (55 : UInt8), (52 : UInt8), (56 : UInt8), (52 : UInt8), (57 : UInt8)]) (List.append [(53 : UInt8), (48 : UInt8), (53 : UInt8), (49 : UInt8), (53 : UInt8), (50 : UInt8), (53 : UInt8), (51 : UInt8), (53 : UInt8), (52 : UInt8), (53 : UInt8), (53 : UInt8), (53 : UInt8), (54 : UInt8), (53 : UInt8), (55 : UInt8), (53 : UInt8), (56 : UInt8), (53 : UInt8), (57 : UInt8), (54 : UInt8), (48 : UInt8), (54 : UInt8), (49 : UInt8), (54 : UInt8), (50 : UInt8), (54 : UInt8), (51 : UInt8), (54 : UInt8), (52 : UInt8), (54 : UInt8), (53 : UInt8), (54 : UInt8), (54 : UInt8), (54 : UInt8), (55 : UInt8), (54 : UInt8), (56 : UInt8), (54 : UInt8), (57 : UInt8), (55 : UInt8), (48 : UInt8), (55 : UInt8), (49 : UInt8), (55 : UInt8), (50 : UInt8), (55 : UInt8), (51 : UInt8), (55 : UInt8), (52 : UInt8)] [(55 : UInt8), (53 : UInt8), (55 : UInt8), (54 : UInt8), (55 : UInt8), (55 : UInt8), (55 : UInt8), (56 : UInt8), (55 : UInt8), (57 : UInt8), (56 : UInt8), (48 : UInt8), (56 : UInt8), (49 : UInt8), (56 : UInt8), (50 : UInt8), (56 : UInt8), (51 : UInt8), (56 : UInt8), (52 : UInt8), (56 : UInt8), (53 : UInt8), (56 : UInt8), (54 : UInt8), (56 : UInt8), (55 : UInt8), (56 : UInt8), (56 : UInt8), (56 : UInt8), (57 : UInt8), (57 : UInt8), (48 : UInt8), (57 : UInt8), (49 : UInt8), (57 : UInt8), (50 : UInt8), (57 : UInt8), (51 : UInt8), (57 : UInt8), (52 : UInt8), (57 : UInt8), (53 : UInt8), (57 : UInt8), (54 : UInt8), (57 : UInt8), (55 : UInt8), (57 : UInt8), (56 : UInt8), (57 : UInt8), (57 : UInt8)]))) = [(49 : UInt8), (48 : UInt8)])))))))))))))) (by kernel_rfl) ?_
  try dsimp only at hp
  refine ⟨fun h0 => ?_, fun h0 => ?_⟩
  · try simp only [bl, reduceCtorEq] at h0
    intro h1
    intro h2
    refine ⟨?_, ?_⟩
    · first | trivial | omega | (dsimp only [D] at *; omega) | (simp only [I64, big] at *; omega) | (simp_all; done)
    refine ⟨?_, ?_⟩
    · first | trivial | omega | (dsimp only [D] at *; omega) | (simp only [I64, big] at *; omega) | (simp_all; done)
    first | trivial | omega | (dsimp only [D] at *; omega) | (simp only [I64, big] at *; omega) | (simp_all; done)
  · try simp only [bl, reduceCtorEq] at h0
    intro x_0 q_0
    intro h1
    intro h2
    refine ⟨?_, ?_⟩
    · first | trivial | omega | (dsimp only [D] at *; omega) | (simp only [I64, big] at *; omega) | (simp_all; done)
    intro x_1 q_1
    intro h3
    intro h4
    refine ⟨?_, ?_⟩
    · first | trivial | omega | (dsimp only [D] at *; omega) | (simp only [I64, big] at *; omega) | (simp_all; done)
    intro h5
    intro h6
    refine ⟨?_, ?_⟩
    · first | trivial | omega | (dsimp only [D] at *; omega) | (simp only [I64, big] at *; omega) | (simp_all; done)
    refine ⟨?_, ?_⟩
    · first | trivial | omega | (dsimp only [D] at *; omega) | (simp only [I64, big] at *; omega) | (simp_all; done)
    first | trivial | omega | (dsimp only [D] at *; omega) | (simp only [I64, big] at *; omega) | (simp_all; done)
theorem Tryd.ok_small : PureOK Tryd.prog Tryd.B.eT 55 [.int .i64] [.str] (fun x => x = 10) (fun x y => y = (fun _ => [49, 48]) x) :=
  pure_fn (X := noExt) (ctx0 Tryd.tyOK) Tryd.func55 (by kernel_rfl) (fun _ => []) (fun x hw hp => vc_small x hw hp)
noncomputable def Tryd.smallCtx : List (FuncId × (Bool × CSpec)) := [(55, (true, funSpec [.int .i64] [.str] (fun x => x = 10) (fun _ => [49, 48])))]
theorem Tryd.smallCtxOK {X : Ext} : CtxOK Tryd.prog Tryd.B X Tryd.smallCtx :=
  ctx1 (callOK_of_fun Tryd.ok_small) (ctx0 Tryd.tyOK)
set_option maxRecDepth 100000 in
set_option maxHeartbeats 4000000 in
theorem vc_FormatInt (n : Int) (b : Int) (hw : wfL [.int .i64, .int .i64] (n, b)) (hp : (fun x => x.1 = 10 ∧ x.2 = 10) (n, b)) : (fnVCs Tryd.B Tryd.smallCtx Tryd.f46 [] [.int .i64, .int .i64] [.str] (fun x y => y = (fun _ => [49, 48]) x) (n, b)).holds := by
  refine holds_of (p :=
    (((b == (10 : Int)) = true → (((decide ((0 : Int) ≤ n)) = true → (((decide (n < (100 : Int))) = true → (n = (10 : Int)) ∧ ([(49 : UInt8), (48 : UInt8)] = [(49 : UInt8), (48 : UInt8)])) ∧ ((decide (n < (100 : Int))) = false → (((decide (n < (0 : Int))) = true → (∀ x_0 : Int, ((x_0 = IntKind.wrap IntKind.u64 ((0 : Int) - IntKind.wrap IntKind.u64 n)) → False))) ∧ ((decide (n < (0 : Int))) = false → False))))) ∧ ((decide ((0 : Int) ≤ n)) = false → (((decide (n < (0 : Int))) = true → (∀ x_0 : Int, ((x_0 = IntKind.wrap IntKind.u64 ((0 : Int) - IntKind.wrap IntKind.u64 n)) → False))) ∧ ((decide (n < (0 : Int))) = false → False))))) ∧ ((b == (10 : Int)) = false → False))) (by kernel_rfl) ?_
  try dsimp only at hp
  refine ⟨fun h0 => ?_, fun h0 => ?_⟩
  · try simp only [bl, reduceCtorEq] at h0
    refine ⟨fun h1 => ?_, fun h1 => ?_⟩
    · try simp only [bl, reduceCtorEq] at h1
      refine ⟨fun h2 => ?_, fun h2 => ?_⟩
      · try simp only [bl, reduceCtorEq] at h2
        refine ⟨?_, ?_⟩
        · first | trivial | omega | (dsimp only [D] at *; omega) | (simp only [I64, big] at *; omega) | (simp_all; done)
        first | trivial | omega | (dsimp only [D] at *; omega) | (simp only [I64, big] at *; omega) | (simp_all; done)
      · try simp only [bl, reduceCtorEq] at h2
        refine ⟨fun h3 => ?_, fun h3 => ?_⟩
        · try simp only [bl, reduceCtorEq] at h3
          intro x_0 q_0
          first | trivial | omega | (dsimp only [D] at *; omega) | (simp only [I64, big] at *; omega) | (simp_all; done)
        · try simp only [bl, reduceCtorEq] at h3
          first | trivial | omega | (dsimp only [D] at *; omega) | (simp only [I64, big] at *; omega) | (simp_all; done)
    · try simp only [bl, reduceCtorEq] at h1
      refine ⟨fun h2 => ?_, fun h2 => ?_⟩
      · try simp only [bl, reduceCtorEq] at h2
        intro x_0 q_0
        first | trivial | omega | (dsimp only [D] at *; omega) | (simp only [I64, big] at *; omega) | (simp_all; done)
      · try simp only [bl, reduceCtorEq] at h2
        first | trivial | omega | (dsimp only [D] at *; omega) | (simp only [I64, big] at *; omega) | (simp_all; done)
  · try simp only [bl, reduceCtorEq] at h0
    first | trivial | omega | (dsimp only [D] at *; omega) | (simp only [I64, big] at *; omega) | (simp_all; done)
theorem Tryd.ok_FormatInt : PureOK Tryd.prog Tryd.B.eT 46 [.int .i64, .int .i64] [.str] (fun x => x.1 = 10 ∧ x.2 = 10) (fun x y => y = (fun _ => [49, 48]) x) :=
  pure_fn (X := noExt) Tryd.smallCtxOK Tryd.func46 (by kernel_rfl) (fun _ => []) (fun x hw hp => vc_FormatInt x.1 x.2 hw hp)
noncomputable def Tryd.formCtx : List (FuncId × (Bool × CSpec)) := [(46, (true, funSpec [.int .i64, .int .i64] [.str] (fun x => x.1 = 10 ∧ x.2 = 10) (fun _ => [49, 48])))]
theorem Tryd.formCtxOK {X : Ext} : CtxOK Tryd.prog Tryd.B X Tryd.formCtx :=
  ctx1 (callOK_of_fun Tryd.ok_FormatInt) (ctx0 Tryd.tyOK)
set_option maxRecDepth 100000 in
set_option maxHeartbeats 4000000 in
theorem vc_ItoaI (n : Int) (hw : wfL [.int .i64] n) (hp : (fun x => x = 10) n) : (fnVCs Tryd.B Tryd.formCtx Tryd.f37 [] [.int .i64] [.str] (fun x y => y = (fun _ => [49, 48]) x) n).holds := by
  refine holds_of (p :=
    (n = (10 : Int) ∧ (10 : Int) = (10 : Int)) ∧ ([(49 : UInt8), (48 : UInt8)] = [(49 : UInt8), (48 : UInt8)])) (by kernel_rfl) ?_
  try dsimp only at hp
  refine ⟨?_, ?_⟩
  · first | trivial | omega | (dsimp only [D] at *; omega) | (simp only [I64, big] at *; omega) | (simp_all; done)
  first | trivial | omega | (dsimp only [D] at *; omega) | (simp only [I64, big] at *; omega) | (simp_all; done)
theorem Tryd.ok_ItoaI : PureOK Tryd.prog Tryd.B.eT 37 [.int .i64] [.str] (fun x => x = 10) (fun x y => y = (fun _ => [49, 48]) x) :=
  pure_fn (X := noExt) Tryd.formCtxOK Tryd.func37 (by kernel_rfl) (fun _ => []) (fun x hw hp => vc_ItoaI x hw hp)
noncomputable def Tryd.itoaICtx : List (FuncId × (Bool × CSpec)) := [(37, (true, funSpec [.int .i64] [.str] (fun x => x = 10) (fun _ => [49, 48])))]
theorem Tryd.itoaICtxOK {X : Ext} : CtxOK Tryd.prog Tryd.B X Tryd.itoaICtx :=
  ctx1 (callOK_of_fun Tryd.ok_ItoaI) (ctx0 Tryd.tyOK)
set_option maxRecDepth 100000 in
set_option maxHeartbeats 4000000 in
theorem vc_ItoaS (n : Int) (hw : wfL [.int .i64] n) (hp : (fun x => x = 10) n) : (fnVCs Tryd.B Tryd.itoaICtx Tryd.f17 [] [.int .i64] [.str] (fun x y => y = (fun _ => [49, 48]) x) n).holds := by
  refine holds_of (p :=
    (n = (10 : Int)) ∧ ([(49 : UInt8), (48 : UInt8)] = [(49 : UInt8), (48 : UInt8)])) (by kernel_rfl) ?_
  try dsimp only at hp
  refine ⟨?_, ?_⟩
  · first | trivial | omega | (dsimp only [D] at *; omega) | (simp only [I64, big] at *; omega) | (simp_all; done)
  first | trivial | omega | (dsimp only [D] at *; omega) | (simp only [I64, big] at *; omega) | (simp_all; done)
theorem Tryd.ok_ItoaS : PureOK Tryd.prog Tryd.B.eT 17 [.int .i64] [.str] (fun x => x = 10) (fun x y => y = (fun _ => [49, 48]) x) :=
  pure_fn (X := noExt) Tryd.itoaICtxOK Tryd.func17 (by kernel_rfl) (fun _ => []) (fun x hw hp => vc_ItoaS x hw hp)
noncomputable def Tryd.itoaSCtx : List (FuncId × (Bool × CSpec)) := [(17, (true, funSpec [.int .i64] [.str] (fun x => x = 10) (fun _ => [49, 48])))]
theorem Tryd.itoaSCtxOK {X : Ext} : CtxOK Tryd.prog Tryd.B X Tryd.itoaSCtx :=
  ctx1 (callOK_of_fun Tryd.ok_ItoaS) (ctx0 Tryd.tyOK)
set_option maxRecDepth 100000 in
set_option maxHeartbeats 4000000 in
theorem vc_ErrnoErr (n : Int) (hw : wfL [.int .i64] n) (hp : (fun x => x = 10) n) : (fnVCs Tryd.B Tryd.itoaSCtx Tryd.f7 [] [.int .i64] [.str] (fun _ y => y = [109, 97, 114, 108, 105, 110, 115, 112, 105, 107, 101, 58, 32, 101, 114, 114, 111, 114, 32, 49, 48]) n).holds := by
  refine holds_of (p :=
    (n = (10 : Int)) ∧
    (List.length [(109 : UInt8), (97 : UInt8), (114 : UInt8), (108 : UInt8), (105 : UInt8), (110 : UInt8), (115 : UInt8), (112 : UInt8), (105 : UInt8), (107 : UInt8), (101 : UInt8), (58 : UInt8), (32 : UInt8), (101 : UInt8), (114 : UInt8), (114 : UInt8), (111 : UInt8), (114 : UInt8), (32 : UInt8)] + List.length [(49 : UInt8), (48 : UInt8)] ≤ big) ∧
    ([(109 : UInt8), (97 : UInt8), (114 : UInt8), (108 : UInt8), (105 : UInt8), (110 : UInt8), (115 : UInt8), (112 : UInt8), (105 : UInt8), (107 : UInt8), (101 : UInt8), (58 : UInt8), (32 : UInt8), (101 : UInt8), (114 : UInt8), (114 : UInt8), (111 : UInt8), (114 : UInt8), (32 : UInt8)] ++ [(49 : UInt8), (48 : UInt8)] = [(109 : UInt8), (97 : UInt8), (114 : UInt8), (108 : UInt8), (105 : UInt8), (110 : UInt8), (115 : UInt8), (112 : UInt8), (105 : UInt8), (107 : UInt8), (101 : UInt8), (58 : UInt8), (32 : UInt8), (101 : UInt8), (114 : UInt8), (114 : UInt8), (111 : UInt8), (114 : UInt8), (32 : UInt8), (49 : UInt8), (48 : UInt8)])) (by kernel_rfl) ?_
  try dsimp only at hp
  refine ⟨?_, ?_⟩
  · first | trivial | omega | (dsimp only [D] at *; omega) | (simp only [I64, big] at *; omega) | (simp_all; done)
  refine ⟨?_, ?_⟩
  · first | trivial | omega | (dsimp only [D] at *; omega) | (simp only [I64, big] at *; omega) | (simp_all; done)
  first | trivial | omega | (dsimp only [D] at *; omega) | (simp only [I64, big] at *; omega) | (simp_all; done)
theorem Tryd.ok_ErrnoErr : PureOK Tryd.prog Tryd.B.eT 7 [.int .i64] [.str] (fun x => x = 10) (fun _ y => y = [109, 97, 114, 108, 105, 110, 115, 112, 105, 107, 101, 58, 32, 101, 114, 114, 111, 114, 32, 49, 48]) :=
  pure_fn (X := noExt) Tryd.itoaSCtxOK Tryd.func7 (by kernel_rfl) (fun _ => []) (fun x hw hp => vc_ErrnoErr x hw hp)
def namesAnn : Anns := [(0, fun st => { X := Nat, inv := fun i => i ≤ 10, meas := fun i => 10 - i, slots := fun i => [(4, sI i)], keep := [1, 2, 3] })]
theorem names_same : ∀ i : Nat, i < 10 → sameE (nth .err [Err.no 1, Err.no 2, Err.no 3, Err.no 4, Err.no 5, Err.no 6, Err.no 7, Err.no 8, Err.no 9, Err.no 10] i) ((i : Int) + 1) = true := by decide
noncomputable def Tryd.namesCtx : List (FuncId × (Bool × CSpec)) := [(24, (true, funSpec [.str] [.err] (fun _ => True) (fun s => errNo (nameFault s)))),
  (18, (true, funSpec [.str] [.int .i64] (fun _ => True) (fun s => nameFault s))),
  (5, (true, funSpec [.err, .int .i64] [.bool] (fun _ => True) (fun x => sameE x.1 x.2))),
  (6, (true, funSpec [.slice (.int .i64), .slice (.int .i64)] [.bool] (fun _ => True) (fun x => sameI x.1 x.2))),
  (36, (true, funSpec [.slice .str, .slice .str] [.bool] (fun _ => True) (fun x => sameS x.1 x.2))),
  (7, (true, pureSpec [.int .i64] [.str] (fun x => x = 10) (fun _ y => y = [109, 97, 114, 108, 105, 110, 115, 112, 105, 107, 101, 58, 32, 101, 114, 114, 111, 114, 32, 49, 48])))]
theorem Tryd.namesCtxOK {X : Ext} : CtxOK Tryd.prog Tryd.B X Tryd.namesCtx :=
  ctx1 (callOK_of_fun Tryd.ok_Check) (ctx1 (callOK_of_fun Tryd.ok_NameFault) (ctx1 (callOK_of_fun Tryd.ok_same) (ctx1 (callOK_of_fun Tryd.ok_SameNumbers) (ctx1 (callOK_of_fun Tryd.ok_SameTexts) (ctx1 (callOK_of_pure Tryd.ok_ErrnoErr) (ctx0 Tryd.tyOK))))))
set_option maxRecDepth 100000 in
set_option maxHeartbeats 4000000 in
theorem vc_Names  (hw : wfL [] ()) : (fnVCs Tryd.B Tryd.namesCtx Tryd.f3 namesAnn [] [.bool] (fun _ y => y = true) ()).holds := by
  refine holds_of (p :=
    (∃ (x : Nat), x ≤ (10 : Nat) ∧ ((0 : Int) = (↑x : Int) ∧ True) ∧ True) ∧ (∀ x_0 : Nat, ((x_0 ≤ (10 : Nat)) →
    ((List.length [Err.no (1 : Int), Err.no (2 : Int), Err.no (3 : Int), Err.no (4 : Int), Err.no (5 : Int), Err.no (6 : Int), Err.no (7 : Int), Err.no (8 : Int), Err.no (9 : Int), Err.no (10 : Int)] ≤ big) →
    (((decide ((↑x_0 : Int) < (↑(List.length [Err.no (1 : Int), Err.no (2 : Int), Err.no (3 : Int), Err.no (4 : Int), Err.no (5 : Int), Err.no (6 : Int), Err.no (7 : Int), Err.no (8 : Int), Err.no (9 : Int), Err.no (10 : Int)]) : Int))) = true →
    ((0 : Int) ≤ (↑x_0 : Int) ∧ (↑x_0 : Int) < (↑(List.length [Err.no (1 : Int), Err.no (2 : Int), Err.no (3 : Int), Err.no (4 : Int), Err.no (5 : Int), Err.no (6 : Int), Err.no (7 : Int), Err.no (8 : Int), Err.no (9 : Int), Err.no (10 : Int)]) : Int)) ∧ ((I64 (↑x_0 : Int)) → ((I64 (1 : Int)) → (I64 ((↑x_0 : Int) + (1 : Int))) ∧ (True) ∧
    (((!sameE (nth Ty.err [Err.no (1 : Int), Err.no (2 : Int), Err.no (3 : Int), Err.no (4 : Int), Err.no (5 : Int), Err.no (6 : Int), Err.no (7 : Int), Err.no (8 : Int), Err.no (9 : Int), Err.no (10 : Int)] x_0) ((↑x_0 : Int) + (1 : Int))) = true → (false = true)) ∧
    ((!sameE (nth Ty.err [Err.no (1 : Int), Err.no (2 : Int), Err.no (3 : Int), Err.no (4 : Int), Err.no (5 : Int), Err.no (6 : Int), Err.no (7 : Int), Err.no (8 : Int), Err.no (9 : Int), Err.no (10 : Int)] x_0) ((↑x_0 : Int) + (1 : Int))) = false → ((I64 (↑x_0 : Int)) → ((I64 (1 : Int)) → (I64 ((↑x_0 : Int) + (1 : Int))) ∧
    (∃ (x' : Nat), x' ≤ (10 : Nat) ∧ (10 : Nat) - x' < (10 : Nat) - x_0 ∧ ((↑x_0 : Int) + (1 : Int) = (↑x' : Int) ∧ True) ∧ True)))))))) ∧
    ((decide ((↑x_0 : Int) < (↑(List.length [Err.no (1 : Int), Err.no (2 : Int), Err.no (3 : Int), Err.no (4 : Int), Err.no (5 : Int), Err.no (6 : Int), Err.no (7 : Int), Err.no (8 : Int), Err.no (9 : Int), Err.no (10 : Int)]) : Int))) = false → (True) ∧
    (((sameI [(8 : Int), (6 : Int), (4 : Int), (8 : Int), (6 : Int), (40 : Int), (2147483647 : Int), (500 : Int), (16 : Int), (256 : Int), (1200 : Int), (1000000 : Int), (3 : Int), (64 : Int), (120 : Int), (60 : Int), (60 : Int), (1 : Int), (2 : Int), (3 : Int)] [(8 : Int), (6 : Int), (4 : Int), (8 : Int), (6 : Int), (40 : Int), (2147483647 : Int), (500 : Int), (16 : Int), (256 : Int), (1200 : Int), (1000000 : Int), (3 : Int), (64 : Int), (120 : Int), (60 : Int), (60 : Int), (1 : Int), (2 : Int), (3 : Int)]) = true → ((10 : Int) = (10 : Int)) ∧ (∀ x_1 : List UInt8,
    ((x_1 = [(109 : UInt8), (97 : UInt8), (114 : UInt8), (108 : UInt8), (105 : UInt8), (110 : UInt8), (115 : UInt8), (112 : UInt8), (105 : UInt8), (107 : UInt8), (101 : UInt8), (58 : UInt8), (32 : UInt8), (101 : UInt8), (114 : UInt8), (114 : UInt8), (111 : UInt8), (114 : UInt8), (32 : UInt8), (49 : UInt8), (48 : UInt8)]) →
    ((x_1 == [(109 : UInt8), (97 : UInt8), (114 : UInt8), (108 : UInt8), (105 : UInt8), (110 : UInt8), (115 : UInt8), (112 : UInt8), (105 : UInt8), (107 : UInt8), (101 : UInt8), (58 : UInt8), (32 : UInt8), (101 : UInt8), (114 : UInt8), (114 : UInt8), (111 : UInt8), (114 : UInt8), (32 : UInt8), (49 : UInt8), (48 : UInt8)]) = true)))) ∧
    ((sameI [(8 : Int), (6 : Int), (4 : Int), (8 : Int), (6 : Int), (40 : Int), (2147483647 : Int), (500 : Int), (16 : Int), (256 : Int), (1200 : Int), (1000000 : Int), (3 : Int), (64 : Int), (120 : Int), (60 : Int), (60 : Int), (1 : Int), (2 : Int), (3 : Int)] [(8 : Int), (6 : Int), (4 : Int), (8 : Int), (6 : Int), (40 : Int), (2147483647 : Int), (500 : Int), (16 : Int), (256 : Int), (1200 : Int), (1000000 : Int), (3 : Int), (64 : Int), (120 : Int), (60 : Int), (60 : Int), (1 : Int), (2 : Int), (3 : Int)]) = false → (false = true))))))))) (by kernel_rfl) ?_
  refine ⟨?_, ?_⟩
  · first | trivial | omega | (dsimp only [D] at *; omega) | (simp only [I64, big] at *; omega) | (simp_all; done)
  intro x_0 q_0
  intro h0
  refine ⟨fun h1 => ?_, fun h1 => ?_⟩
  · try simp only [bl, reduceCtorEq] at h1
    refine ⟨?_, ?_⟩
    · first | trivial | omega | (dsimp only [D] at *; omega) | (simp only [I64, big] at *; omega) | (simp_all; done)
    intro h2
    intro h3
    refine ⟨?_, ?_⟩
    · first | trivial | omega | (dsimp only [D] at *; omega) | (simp only [I64, big] at *; omega) | (simp_all; done)
    refine ⟨trivial, ?_⟩
    refine ⟨fun h4 => ?_, fun h4 => ?_⟩
    · try simp only [bl, reduceCtorEq] at h4
      rw [names_same x_0 (by simp at h1; omega)] at h4; cases h4
    · try simp only [bl, reduceCtorEq] at h4
      intro h5
      intro h6
      refine ⟨?_, ?_⟩
      · first | trivial | omega | (dsimp only [D] at *; omega) | (simp only [I64, big] at *; omega) | (simp_all; done)
      exact ⟨x_0 + 1, by simp at h1; omega, by simp at h1; omega, ⟨by omega, trivial⟩, trivial⟩
  · try simp only [bl, reduceCtorEq] at h1
    refine ⟨trivial, ?_⟩
    refine ⟨fun h2 => ?_, fun h2 => ?_⟩
    ·
      refine ⟨rfl, ?_⟩
      intro x_1 q_1
      first | trivial | omega | (dsimp only [D] at *; omega) | (simp only [I64, big] at *; omega) | (simp_all; done)
    · exact absurd (show true = false from h2) (by decide)
theorem Tryd.ok_Names : PureOK Tryd.prog Tryd.B.eT 3 [] [.bool] (fun _ => True) (fun _ y => y = true) :=
  pure_fn (X := noExt) Tryd.namesCtxOK Tryd.func3 (by kernel_rfl) (fun x => namesAnn) (fun x hw hp => vc_Names  hw)
open Go.ChangeShapes Go.WideShapes Go.ChangeAt Go.RowKit in
theorem Tryd.namesDoor (os : Os) (args : Array Value) : laidMetH Tryd.prog Rows.namesRow.laid ((World.doorLaid Tryd.prog 400 os).forCall (fun _ _ => 0) ⟨#[], args, []⟩).memory :=
  laidMetH_of_parts (laidMet_of_run' 8 (by kernel_rfl) (by kernel_rfl)) (by kernel_rfl)
open Go.ChangeShapes Go.WideShapes Go.ChangeAt Go.RowKit in
set_option maxRecDepth 100000 in
theorem names_lifted (os : Os) (started : os.Started) (H : Type) (enc : TypeId × Value → H) :
    ReturnsInHanded {} Tryd.checked os 3 .any (fun w args => (Rows.namesSpec.pre enc Tryd.prog Tryd.f3 [] false w args ∧ laidMetH Tryd.prog Rows.namesRow.laid w) ∧ sizedMet enc Tryd.prog Tryd.f3 (OpenSpec.ofChange Rows.namesSpec) false w args) (Rows.namesSpec.post enc Tryd.prog Tryd.f3 false true false false) := by
  refine returnsInHanded_of_change_and (C := Tryd.checked) (X := fun w _ => laidMetH Tryd.prog Rows.namesRow.laid w) (fun _ _ _ hh h => h.of_heap hh) (by kernel_rfl) started (by kernel_rfl) Tryd.func3
    (ChangeSpec.witness_shaped (enc := enc) (C := Tryd.checked) (os := os) (X := fun w _ => laidMetH Tryd.prog Rows.namesRow.laid w) false (World.doorLaid Tryd.prog 400 os) #[] 8 rfl (World.shaped_of_RefB (by kernel_rfl) (by kernel_rfl)) (by kernel_rfl) (by kernel_rfl) (by kernel_rfl) (Tryd.namesDoor os _)) ?_
  intro W base args ds gs before hval hW _ _ hL _
  exact law_calls (C := Tryd.checked) (n := 16) rfl (by kernel_rfl) (fun ds h => by match ds, h with | [], _ => rfl) (by kernel_rfl) (by kernel_rfl) (by kernel_rfl) (tb := 4) (by kernel_rfl) Tryd.ok_Names hval hW (fun _ _ => trivial)
open Go.ChangeShapes Go.WideShapes Go.ChangeAt Go.RowKit in
theorem names_said : Rows.NamesSaid :=
  OpenClaim.holds_of_wide 3 Tryd.f3 rfl rfl rfl rfl rfl rfl rfl ⟨rfl, rfl, rfl, rfl, rfl⟩ rfl rfl rfl rfl rfl (by kernel_rfl) Tryd.func3 (by kernel_rfl)
    (of_decide_eq_true (by kernel_rfl)) (by unfold Func.isWrapper; first | (rw [if_pos (by decide +kernel)]; kernel_rfl) | (rw [if_neg (by decide +kernel)]; exact ⟨rfl, rfl⟩))
    (fun os started H enc _ => names_lifted os started H enc)
theorem names_holds : Rows.NamesCardSaid :=
  Claim7.holds_tied_plain_at .later [] [.data, .data, .data] true (true, "ef8785a8e46de7806839c45da0b5e5d473e64e64fb9a5dcbf5be052d74c8f2a0") true
    names_said (fun _ h => by cases h) (by kernel_rfl) (fun _ h => by cases h) names_row_tie rfl ⟨rfl, rfl⟩ (by kernel_rfl) rfl
    (fun f fn hf hfn => by
      obtain rfl : f = 3 := Option.some.inj ((show Tryd.prog.funcNamed Rows.namesRow.func = some 3 by kernel_rfl).symm.trans hf) |>.symm
      obtain rfl : fn = Tryd.f3 := (Option.some.inj (Tryd.func3.symm.trans hfn)).symm
      exact ⟨by kernel_rfl, fun j t ht => by
        have hall : (Tryd.f3.params.toList.all fun t => !Tryd.prog.wantsStandIn t) = true := by kernel_rfl
        have hm : t ∈ Tryd.f3.params.toList := Array.mem_def.1 (Array.mem_of_getElem? ht)
        exact (by simpa using List.all_eq_true.1 hall t hm : Tryd.prog.wantsStandIn t = false)⟩)
    (by kernel_rfl)
#print axioms names_holds
end Go.Proofs.YtgokjhhcfemnhaaDoor
