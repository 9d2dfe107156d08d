/- A part of the proof that the law TopTextCard holds of the given program: facts that are used there. -/
import Derived.Test.YtgokjhhcfemnhacDoorPart4
import Derived.Test.YtgokjhhcfemnhacDoorChecked
import Derived.Lib.LaidTab
import Derived.Lib.ItoaNum
import Derived.Shelf.Strconv.Itoa3
import Derived.Shelf.Strconv.AtoiAll
import Derived.Shelf.Strings.Split
import Derived.Shelf.Small.Wraps
import Derived.Shelf.Strings.Prefix
import Derived.Shelf.LaysM
import Derived.Shelf.LaysC
import Derived.Sort.Grow
import Derived.Lib.SplitLaws
import Derived.Lib.Builder
import Derived.Lib.UnsafeStr
import Derived.Lib.Strings
import Derived.Lib.Slices
import Derived.Lib.Walk
import Derived.Laws.Externs
import Derived.Deep.Heap
import Derived.Shelf.RegionOpenPlain
set_option linter.unusedSimpArgs false
set_option linter.unusedVariables false
namespace Go.Proofs.YtgokjhhcfemnhacDoor
open Go.Vg
noncomputable def Tryd.B : Cx := { eT := 50, τ := [(2, (.int .i64)), (3, (.int .i64)), (4, .bool), (5, (.int .u8)), (7, (.prod (.int .i64) (.prod (.int .i64) (.prod .bool (.prod (.int .u8) .unit))))), (9, .str), (12, (.int .u64)), (13, (.prod .str (.prod (.int .u64) .unit))), (18, (.prod .opq .unit)), (21, (.int .i32)), (22, (.slice .str)), (23, (.slice (.int .i64))), (24, (.slice tSymbol)), (25, (.slice tTie)), (26, tObject), (27, tObject), (28, .err), (29, .err), (37, (.slice tAct)), (41, (.slice tObject)), (50, (.int .i64)), (56, tSymbol), (57, tSymbol), (58, tTie), (59, tTie), (62, (.slice (.int .u8))), (63, (.prod .opq (.prod (.slice (.int .u8)) .unit))), (64, (.prod .opq (.prod (.slice (.int .u8)) .unit))), (72, .opq), (73, (.prod .opq (.prod (.int .i64) .unit))), (74, (.prod .opq (.prod (.int .i64) .unit))), (76, (.prod .str (.prod (.int .i64) .unit))), (77, (.prod .str (.prod (.int .i64) .unit))), (80, (.int .u64)), (81, (.slice tStamped)), (82, (.slice tPatch)), (83, tEntry), (84, tEntry), (85, tAct), (86, tAct), (95, tStamped), (96, tStamped), (117, (.int .u64)), (118, (.int .i64)), (126, (.int .u32)), (130, (.prod (.int .u8) (.prod (.int .u8) .unit))), (131, (.prod (.int .u8) (.prod (.int .u8) .unit))), (138, (.prod .str (.prod .str (.prod .err .unit)))), (139, (.prod .str (.prod .str (.prod .err .unit)))), (144, (.prod .str .unit)), (145, (.prod .str .unit)), (161, tPatch), (162, tPatch)], arrs := [(111, (24, 5)), (125, (20, 80)), (127, (65, 5)), (129, (256, 5)), (132, (16, 131)), (146, (32, 5)), (147, (64, 5)), (150, (0, 16))], Γ := [], N := 0, eqs := [57, 59], ptrs := [61], mps := [(72, (9, 77))], slf := [(64, 5)] }
theorem Tryd.tyOK : TyOK Tryd.prog Tryd.B := tyOK_of (n := 16) (by kernel_rfl)
structure Tryd.Vars (w : World) : Prop where
  pow : Lib.TabIs Tryd.prog w "internal/strconv.uint64pow10" .u64 Lib.pow10Tab
  max : ∃ m, w.cell? ⟨0, 0, none⟩ = some (.int .i64 m)
  syn : ∃ ev, w.cell? ⟨4, 0, none⟩ = some ev ∧ (ev = .nilIface ∨ ∃ te pe, ev = .iface te pe)
  rng : ∃ ev, w.cell? ⟨5, 0, none⟩ = some ev ∧ (ev = .nilIface ∨ ∃ te pe, ev = .iface te pe)
theorem Tryd.gPow : Tryd.prog.globalNamed "internal/strconv.uint64pow10" = some 1 := by kernel_rfl
theorem cell_in {w : World} {b o : Nat} {v : Value} (h : w.cell? ⟨b, o, none⟩ = some v) : b < w.heap.size := by
  unfold World.cell? at h
  by_cases hb : b < w.heap.size
  · exact hb
  · have h0 : w.heap[b]? = none := Array.getElem?_eq_none (by omega)
    simp [h0] at h
theorem cell_frame {w w' : World} {b o : Nat} (h : w'.heap[b]? = w.heap[b]?) : w'.cell? ⟨b, o, none⟩ = w.cell? ⟨b, o, none⟩ := by
  unfold World.cell?
  rw [h]
theorem var_frame {P : Program} {w w' : World} {nm : String} {g : Nat} (hg : P.globalNamed nm = some g) (h : w'.heap[g]? = w.heap[g]?) : w'.var? P nm = w.var? P nm := by
  unfold World.var?
  rw [hg]
  simp [h]
noncomputable def Tryd.X : Ext :=
  { noExt with
    Glob := Tryd.Vars
    gbs := [1, 0, 4, 5]
    gin := fun {w} h b hb => by
      obtain ⟨h1, ⟨m, h2⟩, ⟨e3, h3, _⟩, ⟨e4, h4, _⟩⟩ := h
      simp only [List.mem_cons, List.not_mem_nil, or_false] at hb
      rcases hb with rfl | rfl | rfl | rfl
      · have h1' := World.var?_cell Tryd.gPow h1 0
        exact cell_in (v := .int .u64 1) (by simpa [Lib.pow10Tab] using h1')
      · exact cell_in h2
      · exact cell_in h3
      · exact cell_in h4
    gframe := fun {w w'} h hb => by
      obtain ⟨h1, ⟨m, h2⟩, ⟨e3, h3, h5⟩, ⟨e4, h4, h6⟩⟩ := h
      refine ⟨?_, ⟨m, ?_⟩, ⟨e3, ?_, h5⟩, ⟨e4, ?_, h6⟩⟩
      · unfold Lib.TabIs at h1 ⊢
        rw [var_frame Tryd.gPow (hb 1 (by simp))]; exact h1
      · rw [cell_frame (hb 0 (by simp))]; exact h2
      · rw [cell_frame (hb 4 (by simp))]; exact h3
      · rw [cell_frame (hb 5 (by simp))]; exact h4 }
end Go.Proofs.YtgokjhhcfemnhacDoor

namespace Go.Proofs.YtgokjhhcfemnhacDoor
open Go.Vg Go.Mrl
def checkAnn (s : List UInt8) : Anns := [(0, fun st => { X := Nat, inv := fun i => i ≤ s.length ∧ ∀ j, j < i → badAt j (nthB s j) = false, meas := fun i => s.length - i, slots := fun i => [(15, .s (.one (.d (.int .i64) i)))], objs := fun _ => [], keep := [0, 14], keepObj := [] })]
set_option maxRecDepth 100000 in
set_option maxHeartbeats 4000000 in
theorem vc_Check (s : List UInt8) (hw : wfL [.str] s) : (fnVCs Tryd.B [] Tryd.f26 (checkAnn s) [.str] [.err] (fun x y => y = (fun s => errNo (nameFault s)) x) s).holds := by
  refine holds_of (p :=
    (((s == @List.nil UInt8) = true → (Err.no (1 : Int) = errNo (nameFault s))) ∧ ((s == @List.nil UInt8) = false → ((List.length s ≤ big) → (((decide ((↑(List.length s) : Int) > (8 : Int))) = true → (Err.no (1 : Int) = errNo (nameFault s))) ∧ ((decide ((↑(List.length s) : Int) > (8 : Int))) = false → ((List.length s ≤ big) →
    (∃ (x : Nat), (x ≤ List.length s ∧ ∀ (j : Nat), j < x → badAt j (nthB s j) = false) ∧ ((0 : Int) = (↑x : Int) ∧ True) ∧ True) ∧ (∀ x_0 : Nat, ((x_0 ≤ List.length s ∧ ∀ (j : Nat), j < x_0 → badAt j (nthB s j) = false) → (((decide ((↑x_0 : Int) < (↑(List.length s) : Int))) = true → ((0 : Int) ≤ (↑x_0 : Int) ∧ (↑x_0 : Int) < (↑(List.length s) : Int)) ∧ (((decide ((↑(UInt8.toNat (nthB s x_0)) : Int) < (97 : Int))) = true → ((((↑x_0 : Int) == (0 : Int)) = true → (Err.no (3 : Int) = errNo (nameFault s))) ∧ (((↑x_0 : Int) == (0 : Int)) = false → (((decide ((↑(UInt8.toNat (nthB s x_0)) : Int) < (48 : Int))) = true → ((((↑(UInt8.toNat (nthB s x_0)) : Int) != (95 : Int)) = true → (Err.no (3 : Int) = errNo (nameFault s))) ∧ (((↑(UInt8.toNat (nthB s x_0)) : Int) != (95 : Int)) = false → ((I64 (↑x_0 : Int)) → ((I64 (1 : Int)) → (I64 ((↑x_0 : Int) + (1 : Int))) ∧
    (∃ (x' : Nat), (x' ≤ List.length s ∧ ∀ (j : Nat), j < x' → badAt j (nthB s j) = false) ∧ List.length s - x' < List.length s - x_0 ∧ ((↑x_0 : Int) + (1 : Int) = (↑x' : Int) ∧ True) ∧ True)))))) ∧ ((decide ((↑(UInt8.toNat (nthB s x_0)) : Int) < (48 : Int))) = false → (((decide ((↑(UInt8.toNat (nthB s x_0)) : Int) > (57 : Int))) = true → ((((↑(UInt8.toNat (nthB s x_0)) : Int) != (95 : Int)) = true → (Err.no (3 : Int) = errNo (nameFault s))) ∧ (((↑(UInt8.toNat (nthB s x_0)) : Int) != (95 : Int)) = false → ((I64 (↑x_0 : Int)) → ((I64 (1 : Int)) → (I64 ((↑x_0 : Int) + (1 : Int))) ∧
    (∃ (x' : Nat), (x' ≤ List.length s ∧ ∀ (j : Nat), j < x' → badAt j (nthB s j) = false) ∧ List.length s - x' < List.length s - x_0 ∧ ((↑x_0 : Int) + (1 : Int) = (↑x' : Int) ∧ True) ∧ True)))))) ∧ ((decide ((↑(UInt8.toNat (nthB s x_0)) : Int) > (57 : Int))) = false → ((I64 (↑x_0 : Int)) → ((I64 (1 : Int)) → (I64 ((↑x_0 : Int) + (1 : Int))) ∧
    (∃ (x' : Nat), (x' ≤ List.length s ∧ ∀ (j : Nat), j < x' → badAt j (nthB s j) = false) ∧ List.length s - x' < List.length s - x_0 ∧ ((↑x_0 : Int) + (1 : Int) = (↑x' : Int) ∧ True) ∧ True)))))))))) ∧ ((decide ((↑(UInt8.toNat (nthB s x_0)) : Int) < (97 : Int))) = false → (((decide ((↑(UInt8.toNat (nthB s x_0)) : Int) > (122 : Int))) = true → ((((↑x_0 : Int) == (0 : Int)) = true → (Err.no (3 : Int) = errNo (nameFault s))) ∧ (((↑x_0 : Int) == (0 : Int)) = false → (((decide ((↑(UInt8.toNat (nthB s x_0)) : Int) < (48 : Int))) = true → ((((↑(UInt8.toNat (nthB s x_0)) : Int) != (95 : Int)) = true → (Err.no (3 : Int) = errNo (nameFault s))) ∧ (((↑(UInt8.toNat (nthB s x_0)) : Int) != (95 : Int)) = false → ((I64 (↑x_0 : Int)) → ((I64 (1 : Int)) → (I64 ((↑x_0 : Int) + (1 : Int))) ∧
    (∃ (x' : Nat), (x' ≤ List.length s ∧ ∀ (j : Nat), j < x' → badAt j (nthB s j) = false) ∧ List.length s - x' < List.length s - x_0 ∧ ((↑x_0 : Int) + (1 : Int) = (↑x' : Int) ∧ True) ∧ True)))))) ∧ ((decide ((↑(UInt8.toNat (nthB s x_0)) : Int) < (48 : Int))) = false → (((decide ((↑(UInt8.toNat (nthB s x_0)) : Int) > (57 : Int))) = true → ((((↑(UInt8.toNat (nthB s x_0)) : Int) != (95 : Int)) = true → (Err.no (3 : Int) = errNo (nameFault s))) ∧ (((↑(UInt8.toNat (nthB s x_0)) : Int) != (95 : Int)) = false → ((I64 (↑x_0 : Int)) → ((I64 (1 : Int)) → (I64 ((↑x_0 : Int) + (1 : Int))) ∧
    (∃ (x' : Nat), (x' ≤ List.length s ∧ ∀ (j : Nat), j < x' → badAt j (nthB s j) = false) ∧ List.length s - x' < List.length s - x_0 ∧ ((↑x_0 : Int) + (1 : Int) = (↑x' : Int) ∧ True) ∧ True)))))) ∧ ((decide ((↑(UInt8.toNat (nthB s x_0)) : Int) > (57 : Int))) = false → ((I64 (↑x_0 : Int)) → ((I64 (1 : Int)) → (I64 ((↑x_0 : Int) + (1 : Int))) ∧
    (∃ (x' : Nat), (x' ≤ List.length s ∧ ∀ (j : Nat), j < x' → badAt j (nthB s j) = false) ∧ List.length s - x' < List.length s - x_0 ∧ ((↑x_0 : Int) + (1 : Int) = (↑x' : Int) ∧ True) ∧ True)))))))))) ∧ ((decide ((↑(UInt8.toNat (nthB s x_0)) : Int) > (122 : Int))) = false → ((I64 (↑x_0 : Int)) → ((I64 (1 : Int)) → (I64 ((↑x_0 : Int) + (1 : Int))) ∧
    (∃ (x' : Nat), (x' ≤ List.length s ∧ ∀ (j : Nat), j < x' → badAt j (nthB s j) = false) ∧ List.length s - x' < List.length s - x_0 ∧ ((↑x_0 : Int) + (1 : Int) = (↑x' : Int) ∧ True) ∧ True)))))))) ∧ ((decide ((↑x_0 : Int) < (↑(List.length s) : Int))) = false → (Err.nil = errNo (nameFault s))))))))))))) (by kernel_rfl) ?_
  refine ⟨fun h0 => ?_, fun h0 => ?_⟩
  · simp only [bl, reduceCtorEq] at h0
    rw [nameFault_one (by first | omega | simp [h0])]; rfl
  · simp only [bl, reduceCtorEq] at h0
    intro h1
    refine ⟨fun h2 => ?_, fun h2 => ?_⟩
    · simp only [bl, reduceCtorEq] at h2
      rw [nameFault_one (by first | omega | simp [h0])]; rfl
    · simp only [bl, reduceCtorEq] at h2
      intro h3
      refine ⟨?_, ?_⟩
      · exact ⟨0, ⟨by omega, fun j hj => by omega⟩, ⟨rfl, trivial⟩, trivial⟩
      intro x_0 q_0
      refine ⟨fun h4 => ?_, fun h4 => ?_⟩
      · simp only [bl, reduceCtorEq] at h4
        refine ⟨?_, ?_⟩
        · omega
        refine ⟨fun h5 => ?_, fun h5 => ?_⟩
        · simp only [bl, reduceCtorEq] at h5
          refine ⟨fun h6 => ?_, fun h6 => ?_⟩
          · simp only [bl, reduceCtorEq] at h6
            have hl : s.length ≠ 0 := fun e => h0 (List.length_eq_zero_iff.1 e)
            rw [nameFault_three (i := x_0) (by omega) (by omega) (badAt_iff.2 (by omega))]; rfl
          · simp only [bl, reduceCtorEq] at h6
            refine ⟨fun h7 => ?_, fun h7 => ?_⟩
            · simp only [bl, reduceCtorEq] at h7
              refine ⟨fun h8 => ?_, fun h8 => ?_⟩
              · simp only [bl, reduceCtorEq] at h8
                have hl : s.length ≠ 0 := fun e => h0 (List.length_eq_zero_iff.1 e)
                rw [nameFault_three (i := x_0) (by omega) (by omega) (badAt_iff.2 (by omega))]; rfl
              · simp only [bl, reduceCtorEq] at h8
                intro h9
                intro h10
                refine ⟨?_, ?_⟩
                · omega
                exact ⟨x_0 + 1, ⟨by omega, bad_next q_0.2 (badAt_false.2 (by omega))⟩, by omega, ⟨by omega, trivial⟩, trivial⟩
            · simp only [bl, reduceCtorEq] at h7
              refine ⟨fun h8 => ?_, fun h8 => ?_⟩
              · simp only [bl, reduceCtorEq] at h8
                refine ⟨fun h9 => ?_, fun h9 => ?_⟩
                · simp only [bl, reduceCtorEq] at h9
                  have hl : s.length ≠ 0 := fun e => h0 (List.length_eq_zero_iff.1 e)
                  rw [nameFault_three (i := x_0) (by omega) (by omega) (badAt_iff.2 (by omega))]; rfl
                · simp only [bl, reduceCtorEq] at h9
                  intro h10
                  intro h11
                  refine ⟨?_, ?_⟩
                  · simp only [I64, big] at *; omega
                  exact ⟨x_0 + 1, ⟨by omega, bad_next q_0.2 (badAt_false.2 (by omega))⟩, by omega, ⟨by omega, trivial⟩, trivial⟩
              · simp only [bl, reduceCtorEq] at h8
                intro h9
                intro h10
                refine ⟨?_, ?_⟩
                · simp only [I64, big] at *; omega
                exact ⟨x_0 + 1, ⟨by omega, bad_next q_0.2 (badAt_false.2 (by omega))⟩, by omega, ⟨by omega, trivial⟩, trivial⟩
        · simp only [bl, reduceCtorEq] at h5
          refine ⟨fun h6 => ?_, fun h6 => ?_⟩
          · simp only [bl, reduceCtorEq] at h6
            refine ⟨fun h7 => ?_, fun h7 => ?_⟩
            · simp only [bl, reduceCtorEq] at h7
              have hl : s.length ≠ 0 := fun e => h0 (List.length_eq_zero_iff.1 e)
              rw [nameFault_three (i := x_0) (by omega) (by omega) (badAt_iff.2 (by omega))]; rfl
            · simp only [bl, reduceCtorEq] at h7
              refine ⟨fun h8 => ?_, fun h8 => ?_⟩
              · simp only [bl, reduceCtorEq] at h8
                refine ⟨fun h9 => ?_, fun h9 => ?_⟩
                · simp only [bl, reduceCtorEq] at h9
                  have hl : s.length ≠ 0 := fun e => h0 (List.length_eq_zero_iff.1 e)
                  rw [nameFault_three (i := x_0) (by omega) (by omega) (badAt_iff.2 (by omega))]; rfl
                · simp only [bl, reduceCtorEq] at h9
                  intro h10
                  intro h11
                  refine ⟨?_, ?_⟩
                  · omega
                  exact ⟨x_0 + 1, ⟨by omega, bad_next q_0.2 (badAt_false.2 (by omega))⟩, by omega, ⟨by omega, trivial⟩, trivial⟩
              · simp only [bl, reduceCtorEq] at h8
                refine ⟨fun h9 => ?_, fun h9 => ?_⟩
                · simp only [bl, reduceCtorEq] at h9
                  refine ⟨fun h10 => ?_, fun h10 => ?_⟩
                  · simp only [bl, reduceCtorEq] at h10
                    have hl : s.length ≠ 0 := fun e => h0 (List.length_eq_zero_iff.1 e)
                    rw [nameFault_three (i := x_0) (by omega) (by omega) (badAt_iff.2 (by omega))]; rfl
                  · simp only [bl, reduceCtorEq] at h10
                    intro h11
                    intro h12
                    refine ⟨?_, ?_⟩
                    · omega
                    exact ⟨x_0 + 1, ⟨by omega, bad_next q_0.2 (badAt_false.2 (by omega))⟩, by omega, ⟨by omega, trivial⟩, trivial⟩
                · simp only [bl, reduceCtorEq] at h9
                  intro h10
                  intro h11
                  refine ⟨?_, ?_⟩
                  · omega
                  exact ⟨x_0 + 1, ⟨by omega, bad_next q_0.2 (badAt_false.2 (by omega))⟩, by omega, ⟨by omega, trivial⟩, trivial⟩
          · simp only [bl, reduceCtorEq] at h6
            intro h7
            intro h8
            refine ⟨?_, ?_⟩
            · simp only [I64, big] at *; omega
            exact ⟨x_0 + 1, ⟨by omega, bad_next q_0.2 (badAt_false.2 (by omega))⟩, by omega, ⟨by omega, trivial⟩, trivial⟩
      · simp only [bl, reduceCtorEq] at h4
        have hl : s.length ≠ 0 := fun e => h0 (List.length_eq_zero_iff.1 e)
        rw [nameFault_zero (by omega) (fun i hi => q_0.2 i (by omega))]; rfl
theorem Tryd.ok_Check : PureOK Tryd.prog Tryd.B.eT Tryd.X 26 [.str] [.err] (fun _ => True) (fun x y => y = (fun s => errNo (nameFault s)) x) :=
  pure_fn (X := Tryd.X) (ctx0 Tryd.tyOK) Tryd.func26 (by kernel_rfl) (fun x => checkAnn x) (fun x hw hp => vc_Check x hw)
end Go.Proofs.YtgokjhhcfemnhacDoor

namespace Go.Proofs.YtgokjhhcfemnhacDoor
open Go.Vg Go.Mrl
def sameNAnn (a : List Int) (b : List Int) : Anns := [(0, fun st => { X := Nat, inv := fun i => i ≤ a.length ∧ ∀ j, j < i → nth (.int .i64) a j = nth (.int .i64) b j, meas := fun i => a.length - i, slots := fun i => [(5, sI i)], keep := [0, 1] })]
set_option maxRecDepth 100000 in
set_option maxHeartbeats 4000000 in
theorem vc_SameNumbers (a : List Int) (b : List Int) (hw : wfL [.slice (.int .i64), .slice (.int .i64)] (a, b)) : (fnVCs Tryd.B [] Tryd.f25 (sameNAnn a b) [.slice (.int .i64), .slice (.int .i64)] [.bool] (fun x y => y = (fun x => sameI x.1 x.2) x) (a, b)).holds := by
  refine holds_of (p :=
    ((List.length a ≤ big) → ((List.length b ≤ big) → ((((↑(List.length a) : Int) != (↑(List.length b) : Int)) = true → (false = sameI a b)) ∧ (((↑(List.length a) : Int) != (↑(List.length b) : Int)) = false →
    (∃ (x : Nat), (x ≤ List.length a ∧ ∀ (j : Nat), j < x → nth (Ty.int IntKind.i64) a j = nth (Ty.int IntKind.i64) b j) ∧ ((0 : Int) = (↑x : Int) ∧ True) ∧ True) ∧ (∀ x_0 : Nat, ((x_0 ≤ List.length a ∧ ∀ (j : Nat), j < x_0 → nth (Ty.int IntKind.i64) a j = nth (Ty.int IntKind.i64) b j) → ((List.length a ≤ big) → (((decide ((↑x_0 : Int) < (↑(List.length a) : Int))) = true → ((0 : Int) ≤ (↑x_0 : Int) ∧ (↑x_0 : Int) < (↑(List.length a) : Int)) ∧ ((0 : Int) ≤ (↑x_0 : Int) ∧ (↑x_0 : Int) < (↑(List.length b) : Int)) ∧ (((nth (Ty.int IntKind.i64) a x_0 != nth (Ty.int IntKind.i64) b x_0) = true → (false = sameI a b)) ∧ ((nth (Ty.int IntKind.i64) a x_0 != nth (Ty.int IntKind.i64) b x_0) = false → ((I64 (↑x_0 : Int)) → ((I64 (1 : Int)) → (I64 ((↑x_0 : Int) + (1 : Int))) ∧
    (∃ (x' : Nat), (x' ≤ List.length a ∧ ∀ (j : Nat), j < x' → nth (Ty.int IntKind.i64) a j = nth (Ty.int IntKind.i64) b j) ∧ List.length a - x' < List.length a - x_0 ∧ ((↑x_0 : Int) + (1 : Int) = (↑x' : Int) ∧ True) ∧ True)))))) ∧ ((decide ((↑x_0 : Int) < (↑(List.length a) : Int))) = false → (true = sameI a b))))))))))) (by kernel_rfl) ?_
  intro h0
  intro h1
  refine ⟨fun h2 => ?_, fun h2 => ?_⟩
  · try simp only [bl, reduceCtorEq] at h2
    exact sameI_len (by assumption)
  · try simp only [bl, reduceCtorEq] at h2
    refine ⟨?_, ?_⟩
    · exact ⟨0, ⟨by omega, fun j hj => by omega⟩, ⟨rfl, trivial⟩, trivial⟩
    intro x_0 q_0
    intro h3
    refine ⟨fun h4 => ?_, fun h4 => ?_⟩
    · try simp only [bl, reduceCtorEq] at h4
      refine ⟨?_, ?_⟩
      · first | trivial | omega | (dsimp only [D] at *; omega) | (simp only [I64, big] at *; omega) | (simp_all; done)
      refine ⟨?_, ?_⟩
      · first | trivial | omega | (dsimp only [D] at *; omega) | (simp only [I64, big] at *; omega) | (simp_all; done)
      refine ⟨fun h5 => ?_, fun h5 => ?_⟩
      · try simp only [bl, reduceCtorEq] at h5
        exact sameI_at (i := x_0) (by assumption)
      · try simp only [bl, reduceCtorEq] at h5
        intro h6
        intro h7
        refine ⟨?_, ?_⟩
        · first | trivial | omega | (dsimp only [D] at *; omega) | (simp only [I64, big] at *; omega) | (simp_all; done)
        exact ⟨x_0 + 1, ⟨by omega, upto_next q_0.2 (by assumption)⟩, by omega, ⟨by omega, trivial⟩, (by trivial)⟩
    · try simp only [bl, reduceCtorEq] at h4
      exact sameI_true (by assumption) (fun i hi => q_0.2 i (by omega))
theorem Tryd.ok_SameNumbers : PureOK Tryd.prog Tryd.B.eT Tryd.X 25 [.slice (.int .i64), .slice (.int .i64)] [.bool] (fun _ => True) (fun x y => y = (fun x => sameI x.1 x.2) x) :=
  pure_fn (X := Tryd.X) (ctx0 Tryd.tyOK) Tryd.func25 (by kernel_rfl) (fun x => sameNAnn x.1 x.2) (fun x hw hp => vc_SameNumbers x.1 x.2 hw)
def sameTAnn (a : List (List UInt8)) (b : List (List UInt8)) : Anns := [(0, fun st => { X := Nat, inv := fun i => i ≤ a.length ∧ ∀ j, j < i → nth .str a j = nth .str b j, meas := fun i => a.length - i, slots := fun i => [(5, sI i)], keep := [0, 1] })]
set_option maxRecDepth 100000 in
set_option maxHeartbeats 4000000 in
theorem vc_SameTexts (a : List (List UInt8)) (b : List (List UInt8)) (hw : wfL [.slice .str, .slice .str] (a, b)) : (fnVCs Tryd.B [] Tryd.f12 (sameTAnn a b) [.slice .str, .slice .str] [.bool] (fun x y => y = (fun x => sameS x.1 x.2) x) (a, b)).holds := by
  refine holds_of (p :=
    ((List.length a ≤ big) → ((List.length b ≤ big) → ((((↑(List.length a) : Int) != (↑(List.length b) : Int)) = true → (false = sameS a b)) ∧ (((↑(List.length a) : Int) != (↑(List.length b) : Int)) = false →
    (∃ (x : Nat), (x ≤ List.length a ∧ ∀ (j : Nat), j < x → nth Ty.str a j = nth Ty.str b j) ∧ ((0 : Int) = (↑x : Int) ∧ True) ∧ True) ∧ (∀ x_0 : Nat, ((x_0 ≤ List.length a ∧ ∀ (j : Nat), j < x_0 → nth Ty.str a j = nth Ty.str b j) → ((List.length a ≤ big) → (((decide ((↑x_0 : Int) < (↑(List.length a) : Int))) = true → ((0 : Int) ≤ (↑x_0 : Int) ∧ (↑x_0 : Int) < (↑(List.length a) : Int)) ∧ ((0 : Int) ≤ (↑x_0 : Int) ∧ (↑x_0 : Int) < (↑(List.length b) : Int)) ∧ (((!nth Ty.str a x_0 == nth Ty.str b x_0) = true → (false = sameS a b)) ∧ ((!nth Ty.str a x_0 == nth Ty.str b x_0) = false → ((I64 (↑x_0 : Int)) → ((I64 (1 : Int)) → (I64 ((↑x_0 : Int) + (1 : Int))) ∧
    (∃ (x' : Nat), (x' ≤ List.length a ∧ ∀ (j : Nat), j < x' → nth Ty.str a j = nth Ty.str b j) ∧ List.length a - x' < List.length a - x_0 ∧ ((↑x_0 : Int) + (1 : Int) = (↑x' : Int) ∧ True) ∧ True)))))) ∧ ((decide ((↑x_0 : Int) < (↑(List.length a) : Int))) = false → (true = sameS a b))))))))))) (by kernel_rfl) ?_
  intro h0
  intro h1
  refine ⟨fun h2 => ?_, fun h2 => ?_⟩
  · try simp only [bl, reduceCtorEq] at h2
    exact sameS_len (by assumption)
  · try simp only [bl, reduceCtorEq] at h2
    refine ⟨?_, ?_⟩
    · exact ⟨0, ⟨by omega, fun j hj => by omega⟩, ⟨rfl, trivial⟩, trivial⟩
    intro x_0 q_0
    intro h3
    refine ⟨fun h4 => ?_, fun h4 => ?_⟩
    · try simp only [bl, reduceCtorEq] at h4
      refine ⟨?_, ?_⟩
      · first | trivial | omega | (dsimp only [D] at *; omega) | (simp only [I64, big] at *; omega) | (simp_all; done)
      refine ⟨?_, ?_⟩
      · first | trivial | omega | (dsimp only [D] at *; omega) | (simp only [I64, big] at *; omega) | (simp_all; done)
      refine ⟨fun h5 => ?_, fun h5 => ?_⟩
      · try simp only [bl, reduceCtorEq] at h5
        exact sameS_at (i := x_0) (by assumption)
      · try simp only [bl, reduceCtorEq] at h5
        intro h6
        intro h7
        refine ⟨?_, ?_⟩
        · first | trivial | omega | (dsimp only [D] at *; omega) | (simp only [I64, big] at *; omega) | (simp_all; done)
        exact ⟨x_0 + 1, ⟨by omega, upto_next q_0.2 (by assumption)⟩, by omega, ⟨by omega, trivial⟩, (by trivial)⟩
    · try simp only [bl, reduceCtorEq] at h4
      exact sameS_true (by assumption) (fun i hi => q_0.2 i (by omega))
theorem Tryd.ok_SameTexts : PureOK Tryd.prog Tryd.B.eT Tryd.X 12 [.slice .str, .slice .str] [.bool] (fun _ => True) (fun x y => y = (fun x => sameS x.1 x.2) x) :=
  pure_fn (X := Tryd.X) (ctx0 Tryd.tyOK) Tryd.func12 (by kernel_rfl) (fun x => sameTAnn x.1 x.2) (fun x hw hp => vc_SameTexts x.1 x.2 hw)
end Go.Proofs.YtgokjhhcfemnhacDoor

namespace Go.Proofs.YtgokjhhcfemnhacDoor
open Go.Vg Go.Mrl
noncomputable def Tryd.sameOCtx : List (FuncId × (Bool × CSpec)) := [(25, (true, funSpec [.slice (.int .i64), .slice (.int .i64)] [.bool] (fun _ => True) (fun x => sameI x.1 x.2))),
  (12, (true, funSpec [.slice .str, .slice .str] [.bool] (fun _ => True) (fun x => sameS x.1 x.2)))]
theorem Tryd.sameOCtxOK : CtxOK Tryd.prog Tryd.B Tryd.X Tryd.sameOCtx :=
  ctx1 (callOK_of_fun Tryd.ok_SameNumbers) (ctx1 (callOK_of_fun Tryd.ok_SameTexts) (ctx0 Tryd.tyOK))
def sameOAnn (a : D tObject) (b : D tObject) : Anns := [
  (0, fun st => { X := Nat, inv := fun i => i ≤ a.2.2.1.length ∧ ∀ j, j < i → nth tSymbol a.2.2.1 j = nth tSymbol b.2.2.1 j, meas := fun i => a.2.2.1.length - i, slots := fun i => [(7, sI i)], keep := [2, 3] }),
  (2, fun st => { X := Nat, inv := fun i => i ≤ a.2.2.2.1.length ∧ ∀ j, j < i → nth tTie a.2.2.2.1 j = nth tTie b.2.2.2.1 j, meas := fun i => a.2.2.2.1.length - i, slots := fun i => [(8, sI i)], keep := [2, 3] })]
set_option maxRecDepth 100000 in
set_option maxHeartbeats 4000000 in
theorem vc_SameObject (a : D tObject) (b : D tObject) (hw : wfL [tObject, tObject] (a, b)) : (fnVCs Tryd.B Tryd.sameOCtx Tryd.f8 (sameOAnn a b) [tObject, tObject] [.bool] (fun x y => y = (fun x => sameO x.1 x.2) x) (a, b)).holds := by
  refine holds_of (p :=
    (True) ∧ (True) ∧ (((!sameS a.1 b.1) = true → (false = sameO a b)) ∧ ((!sameS a.1 b.1) = false → (((!sameI a.2.1 b.2.1) = true → (false = sameO a b)) ∧ ((!sameI a.2.1 b.2.1) = false → ((List.length a.2.2.1 ≤ big) → ((List.length b.2.2.1 ≤ big) → ((((↑(List.length a.2.2.1) : Int) != (↑(List.length b.2.2.1) : Int)) = true → (false = sameO a b)) ∧ (((↑(List.length a.2.2.1) : Int) != (↑(List.length b.2.2.1) : Int)) = false → ((List.length a.2.2.2.1 ≤ big) → ((List.length b.2.2.2.1 ≤ big) → ((((↑(List.length a.2.2.2.1) : Int) != (↑(List.length b.2.2.2.1) : Int)) = true → (false = sameO a b)) ∧ (((↑(List.length a.2.2.2.1) : Int) != (↑(List.length b.2.2.2.1) : Int)) = false →
    (∃ (x : Nat), (x ≤ List.length a.2.2.1 ∧ ∀ (j : Nat), j < x → nth tSymbol a.2.2.1 j = nth tSymbol b.2.2.1 j) ∧ ((0 : Int) = (↑x : Int) ∧ True) ∧ True) ∧ (∀ x_0 : Nat, ((x_0 ≤ List.length a.2.2.1 ∧ ∀ (j : Nat), j < x_0 → nth tSymbol a.2.2.1 j = nth tSymbol b.2.2.1 j) → ((List.length a.2.2.1 ≤ big) → (((decide ((↑x_0 : Int) < (↑(List.length a.2.2.1) : Int))) = true → ((0 : Int) ≤ (↑x_0 : Int) ∧ (↑x_0 : Int) < (↑(List.length a.2.2.1) : Int)) ∧ ((0 : Int) ≤ (↑x_0 : Int) ∧ (↑x_0 : Int) < (↑(List.length b.2.2.1) : Int)) ∧
    (((!((nth tSymbol a.2.2.1 x_0).1 == (nth tSymbol b.2.2.1 x_0).1 && (decide ((nth tSymbol a.2.2.1 x_0).2.1 = (nth tSymbol b.2.2.1 x_0).2.1) && ((nth tSymbol a.2.2.1 x_0).2.2.1 == (nth tSymbol b.2.2.1 x_0).2.2.1 && true)))) = true → (false = sameO a b)) ∧
    ((!((nth tSymbol a.2.2.1 x_0).1 == (nth tSymbol b.2.2.1 x_0).1 && (decide ((nth tSymbol a.2.2.1 x_0).2.1 = (nth tSymbol b.2.2.1 x_0).2.1) && ((nth tSymbol a.2.2.1 x_0).2.2.1 == (nth tSymbol b.2.2.1 x_0).2.2.1 && true)))) = false → ((I64 (↑x_0 : Int)) → ((I64 (1 : Int)) → (I64 ((↑x_0 : Int) + (1 : Int))) ∧
    (∃ (x' : Nat), (x' ≤ List.length a.2.2.1 ∧ ∀ (j : Nat), j < x' → nth tSymbol a.2.2.1 j = nth tSymbol b.2.2.1 j) ∧ List.length a.2.2.1 - x' < List.length a.2.2.1 - x_0 ∧ ((↑x_0 : Int) + (1 : Int) = (↑x' : Int) ∧ True) ∧ (b.1 = b.1 ∧ b.2.1 = b.2.1 ∧ b.2.2.1 = b.2.2.1 ∧ b.2.2.2.1 = b.2.2.2.1 ∧ True) ∧ (a.1 = a.1 ∧ a.2.1 = a.2.1 ∧ a.2.2.1 = a.2.2.1 ∧ a.2.2.2.1 = a.2.2.2.1 ∧ True) ∧ True)))))) ∧ ((decide ((↑x_0 : Int) < (↑(List.length a.2.2.1) : Int))) = false →
    (∃ (x : Nat), (x ≤ List.length a.2.2.2.1 ∧ ∀ (j : Nat), j < x → nth tTie a.2.2.2.1 j = nth tTie b.2.2.2.1 j) ∧ ((0 : Int) = (↑x : Int) ∧ True) ∧ True) ∧ (∀ x_1 : Nat, ((x_1 ≤ List.length a.2.2.2.1 ∧ ∀ (j : Nat), j < x_1 → nth tTie a.2.2.2.1 j = nth tTie b.2.2.2.1 j) → ((List.length a.2.2.2.1 ≤ big) → (((decide ((↑x_1 : Int) < (↑(List.length a.2.2.2.1) : Int))) = true → ((0 : Int) ≤ (↑x_1 : Int) ∧ (↑x_1 : Int) < (↑(List.length a.2.2.2.1) : Int)) ∧ ((0 : Int) ≤ (↑x_1 : Int) ∧ (↑x_1 : Int) < (↑(List.length b.2.2.2.1) : Int)) ∧
    (((!(decide ((nth tTie a.2.2.2.1 x_1).1 = (nth tTie b.2.2.2.1 x_1).1) && (decide ((nth tTie a.2.2.2.1 x_1).2.1 = (nth tTie b.2.2.2.1 x_1).2.1) && (decide ((nth tTie a.2.2.2.1 x_1).2.2.1 = (nth tTie b.2.2.2.1 x_1).2.2.1) && ((nth tTie a.2.2.2.1 x_1).2.2.2.1 == (nth tTie b.2.2.2.1 x_1).2.2.2.1 && ((nth tTie a.2.2.2.1 x_1).2.2.2.2.1 == (nth tTie b.2.2.2.1 x_1).2.2.2.2.1 && true)))))) = true → (false = sameO a b)) ∧
    ((!(decide ((nth tTie a.2.2.2.1 x_1).1 = (nth tTie b.2.2.2.1 x_1).1) && (decide ((nth tTie a.2.2.2.1 x_1).2.1 = (nth tTie b.2.2.2.1 x_1).2.1) && (decide ((nth tTie a.2.2.2.1 x_1).2.2.1 = (nth tTie b.2.2.2.1 x_1).2.2.1) && ((nth tTie a.2.2.2.1 x_1).2.2.2.1 == (nth tTie b.2.2.2.1 x_1).2.2.2.1 && ((nth tTie a.2.2.2.1 x_1).2.2.2.2.1 == (nth tTie b.2.2.2.1 x_1).2.2.2.2.1 && true)))))) = false → ((I64 (↑x_1 : Int)) → ((I64 (1 : Int)) → (I64 ((↑x_1 : Int) + (1 : Int))) ∧
    (∃ (x' : Nat), (x' ≤ List.length a.2.2.2.1 ∧ ∀ (j : Nat), j < x' → nth tTie a.2.2.2.1 j = nth tTie b.2.2.2.1 j) ∧ List.length a.2.2.2.1 - x' < List.length a.2.2.2.1 - x_1 ∧ ((↑x_1 : Int) + (1 : Int) = (↑x' : Int) ∧ True) ∧ (b.1 = b.1 ∧ b.2.1 = b.2.1 ∧ b.2.2.1 = b.2.2.1 ∧ b.2.2.2.1 = b.2.2.2.1 ∧ True) ∧ (a.1 = a.1 ∧ a.2.1 = a.2.1 ∧ a.2.2.1 = a.2.2.1 ∧ a.2.2.2.1 = a.2.2.2.1 ∧ True) ∧ True)))))) ∧ ((decide ((↑x_1 : Int) < (↑(List.length a.2.2.2.1) : Int))) = false → (true = sameO a b)))))))))))))))))))))))) (by kernel_rfl) ?_
  refine ⟨trivial, ?_⟩
  refine ⟨trivial, ?_⟩
  refine ⟨fun h0 => ?_, fun h0 => ?_⟩
  · try simp only [bl, reduceCtorEq] at h0
    first | exact sameO_s (by assumption) | exact sameO_i (by assumption)
  · try simp only [bl, reduceCtorEq] at h0
    refine ⟨fun h1 => ?_, fun h1 => ?_⟩
    · try simp only [bl, reduceCtorEq] at h1
      first | exact sameO_s (by assumption) | exact sameO_i (by assumption)
    · try simp only [bl, reduceCtorEq] at h1
      intro h2
      intro h3
      refine ⟨fun h4 => ?_, fun h4 => ?_⟩
      · try simp only [bl, reduceCtorEq] at h4
        exact sameO_l3 h4
      · try simp only [bl, reduceCtorEq] at h4
        intro h5
        intro h6
        refine ⟨fun h7 => ?_, fun h7 => ?_⟩
        · try simp only [bl, reduceCtorEq] at h7
          exact sameO_l4 h7
        · try simp only [bl, reduceCtorEq] at h7
          refine ⟨?_, ?_⟩
          · exact ⟨0, ⟨by omega, fun j hj => by omega⟩, ⟨rfl, trivial⟩, trivial⟩
          intro x_0 q_0
          intro h8
          refine ⟨fun h9 => ?_, fun h9 => ?_⟩
          · try simp only [bl, reduceCtorEq] at h9
            refine ⟨?_, ?_⟩
            · first | trivial | omega | (dsimp only [D] at *; omega) | (simp only [I64, big] at *; omega) | (simp_all; done)
            refine ⟨?_, ?_⟩
            · first | trivial | omega | (dsimp only [D] at *; omega) | (simp only [I64, big] at *; omega) | (simp_all; done)
            refine ⟨fun h10 => ?_, fun h10 => ?_⟩
            · try simp only [bl, reduceCtorEq] at h10
              exact sameO_y (i := x_0) (fun e => by rw [e] at h10; simp at h10)
            · try simp only [bl, reduceCtorEq] at h10
              intro h11
              intro h12
              refine ⟨?_, ?_⟩
              · first | trivial | omega | (dsimp only [D] at *; omega) | (simp only [I64, big] at *; omega) | (simp_all; done)
              have h := h10; simp at h; exact ⟨x_0 + 1, ⟨by omega, upto1 q_0.2 (Prod.ext h.1 (Prod.ext h.2.1 (Prod.ext h.2.2 rfl)))⟩, by omega, ⟨by omega, trivial⟩, (by trivial)⟩
          · try simp only [bl, reduceCtorEq] at h9
            refine ⟨?_, ?_⟩
            · exact ⟨0, ⟨by omega, fun j hj => by omega⟩, ⟨rfl, trivial⟩, trivial⟩
            intro x_1 q_1
            intro h10
            refine ⟨fun h11 => ?_, fun h11 => ?_⟩
            · try simp only [bl, reduceCtorEq] at h11
              refine ⟨?_, ?_⟩
              · first | trivial | omega | (dsimp only [D] at *; omega) | (simp only [I64, big] at *; omega) | (simp_all; done)
              refine ⟨?_, ?_⟩
              · first | trivial | omega | (dsimp only [D] at *; omega) | (simp only [I64, big] at *; omega) | (simp_all; done)
              refine ⟨fun h12 => ?_, fun h12 => ?_⟩
              · try simp only [bl, reduceCtorEq] at h12
                exact sameO_t (i := x_1) (fun e => by rw [e] at h12; simp at h12)
              · try simp only [bl, reduceCtorEq] at h12
                intro h13
                intro h14
                refine ⟨?_, ?_⟩
                · first | trivial | omega | (dsimp only [D] at *; omega) | (simp only [I64, big] at *; omega) | (simp_all; done)
                have h := h12; simp at h; exact ⟨x_1 + 1, ⟨by omega, upto1 q_1.2 (Prod.ext h.1 (Prod.ext h.2.1 (Prod.ext h.2.2.1 (Prod.ext h.2.2.2.1 (Prod.ext h.2.2.2.2 rfl)))))⟩, by omega, ⟨by omega, trivial⟩, (by trivial)⟩
            · try simp only [bl, reduceCtorEq] at h11
              exact sameO_true (by assumption) (by assumption) (by assumption) (by assumption) (fun i hi => q_0.2 i (by omega)) (fun i hi => q_1.2 i (by omega))
theorem Tryd.ok_SameObject : PureOK Tryd.prog Tryd.B.eT Tryd.X 8 [tObject, tObject] [.bool] (fun _ => True) (fun x y => y = (fun x => sameO x.1 x.2) x) :=
  pure_fn (X := Tryd.X) Tryd.sameOCtxOK Tryd.func8 (by kernel_rfl) (fun x => sameOAnn x.1 x.2) (fun x hw hp => vc_SameObject x.1 x.2 hw)
end Go.Proofs.YtgokjhhcfemnhacDoor

namespace Go.Proofs.YtgokjhhcfemnhacDoor
open Go.Vg Go.Mrl
def lightAnn (o : D tObject) : Anns := [
  (0, fun st => { X := Nat, inv := fun i => i ≤ o.1.length ∧ ∀ j, j < i → (nth .str o.1 j).length ≤ 20, meas := fun i => o.1.length - i, slots := fun i => [(3, sI i)], keep := [1] }),
  (2, fun st => { X := Nat, inv := fun i => i ≤ o.2.2.1.length ∧ ∀ j, j < i → (nth tSymbol o.2.2.1 j).1.length ≤ 20, meas := fun i => o.2.2.1.length - i, slots := fun i => [(4, sI i)], keep := [1] }),
  (4, fun st => { X := Nat, inv := fun i => i ≤ o.2.2.2.1.length ∧ ∀ j, j < i → (nth tTie o.2.2.2.1 j).2.2.2.1.length ≤ 20, meas := fun i => o.2.2.2.1.length - i, slots := fun i => [(5, sI i)], keep := [1] })]
set_option maxRecDepth 100000 in
set_option maxHeartbeats 4000000 in
theorem vc_LightObject (o : D tObject) (hw : wfL [tObject] o) : (fnVCs Tryd.B [] Tryd.f6 (lightAnn o) [tObject] [.bool] (fun o y => y = true → LightO o) o).holds := by
  refine holds_of (p :=
    ((List.length o.1 ≤ big) → (((decide ((↑(List.length o.1) : Int) > (6 : Int))) = true → (false = true → LightO o)) ∧ ((decide ((↑(List.length o.1) : Int) > (6 : Int))) = false → ((List.length o.2.1 ≤ big) → (((decide ((↑(List.length o.2.1) : Int) > (50 : Int))) = true → (false = true → LightO o)) ∧ ((decide ((↑(List.length o.2.1) : Int) > (50 : Int))) = false → ((List.length o.2.2.1 ≤ big) → (((decide ((↑(List.length o.2.2.1) : Int) > (10 : Int))) = true → (false = true → LightO o)) ∧ ((decide ((↑(List.length o.2.2.1) : Int) > (10 : Int))) = false → ((List.length o.2.2.2.1 ≤ big) → (((decide ((↑(List.length o.2.2.2.1) : Int) > (10 : Int))) = true → (false = true → LightO o)) ∧ ((decide ((↑(List.length o.2.2.2.1) : Int) > (10 : Int))) = false →
    (∃ (x : Nat), (x ≤ List.length o.1 ∧ ∀ (j : Nat), j < x → List.length (nth Ty.str o.1 j) ≤ (20 : Nat)) ∧ ((0 : Int) = (↑x : Int) ∧ True) ∧ True) ∧ (∀ x_0 : Nat, ((x_0 ≤ List.length o.1 ∧ ∀ (j : Nat), j < x_0 → List.length (nth Ty.str o.1 j) ≤ (20 : Nat)) → ((List.length o.1 ≤ big) → (((decide ((↑x_0 : Int) < (↑(List.length o.1) : Int))) = true → ((0 : Int) ≤ (↑x_0 : Int) ∧ (↑x_0 : Int) < (↑(List.length o.1) : Int)) ∧ ((List.length (nth Ty.str o.1 x_0) ≤ big) → (((decide ((↑(List.length (nth Ty.str o.1 x_0)) : Int) > (20 : Int))) = true → (false = true → LightO o)) ∧ ((decide ((↑(List.length (nth Ty.str o.1 x_0)) : Int) > (20 : Int))) = false → ((I64 (↑x_0 : Int)) → ((I64 (1 : Int)) → (I64 ((↑x_0 : Int) + (1 : Int))) ∧
    (∃ (x' : Nat), (x' ≤ List.length o.1 ∧ ∀ (j : Nat), j < x' → List.length (nth Ty.str o.1 j) ≤ (20 : Nat)) ∧ List.length o.1 - x' < List.length o.1 - x_0 ∧ ((↑x_0 : Int) + (1 : Int) = (↑x' : Int) ∧ True) ∧ (o.1 = o.1 ∧ o.2.1 = o.2.1 ∧ o.2.2.1 = o.2.2.1 ∧ o.2.2.2.1 = o.2.2.2.1 ∧ True) ∧ True))))))) ∧ ((decide ((↑x_0 : Int) < (↑(List.length o.1) : Int))) = false →
    (∃ (x : Nat), (x ≤ List.length o.2.2.1 ∧ ∀ (j : Nat), j < x → List.length (nth tSymbol o.2.2.1 j).1 ≤ (20 : Nat)) ∧ ((0 : Int) = (↑x : Int) ∧ True) ∧ True) ∧ (∀ x_1 : Nat, ((x_1 ≤ List.length o.2.2.1 ∧ ∀ (j : Nat), j < x_1 → List.length (nth tSymbol o.2.2.1 j).1 ≤ (20 : Nat)) → ((List.length o.2.2.1 ≤ big) → (((decide ((↑x_1 : Int) < (↑(List.length o.2.2.1) : Int))) = true → ((0 : Int) ≤ (↑x_1 : Int) ∧ (↑x_1 : Int) < (↑(List.length o.2.2.1) : Int)) ∧ ((List.length (nth tSymbol o.2.2.1 x_1).1 ≤ big) → (((decide ((↑(List.length (nth tSymbol o.2.2.1 x_1).1) : Int) > (20 : Int))) = true → (false = true → LightO o)) ∧ ((decide ((↑(List.length (nth tSymbol o.2.2.1 x_1).1) : Int) > (20 : Int))) = false → ((I64 (↑x_1 : Int)) → ((I64 (1 : Int)) → (I64 ((↑x_1 : Int) + (1 : Int))) ∧
    (∃ (x' : Nat), (x' ≤ List.length o.2.2.1 ∧ ∀ (j : Nat), j < x' → List.length (nth tSymbol o.2.2.1 j).1 ≤ (20 : Nat)) ∧ List.length o.2.2.1 - x' < List.length o.2.2.1 - x_1 ∧ ((↑x_1 : Int) + (1 : Int) = (↑x' : Int) ∧ True) ∧ (o.1 = o.1 ∧ o.2.1 = o.2.1 ∧ o.2.2.1 = o.2.2.1 ∧ o.2.2.2.1 = o.2.2.2.1 ∧ True) ∧ True))))))) ∧ ((decide ((↑x_1 : Int) < (↑(List.length o.2.2.1) : Int))) = false →
    (∃ (x : Nat), (x ≤ List.length o.2.2.2.1 ∧ ∀ (j : Nat), j < x → List.length (nth tTie o.2.2.2.1 j).2.2.2.1 ≤ (20 : Nat)) ∧ ((0 : Int) = (↑x : Int) ∧ True) ∧ True) ∧ (∀ x_2 : Nat, ((x_2 ≤ List.length o.2.2.2.1 ∧ ∀ (j : Nat), j < x_2 → List.length (nth tTie o.2.2.2.1 j).2.2.2.1 ≤ (20 : Nat)) → ((List.length o.2.2.2.1 ≤ big) → (((decide ((↑x_2 : Int) < (↑(List.length o.2.2.2.1) : Int))) = true → ((0 : Int) ≤ (↑x_2 : Int) ∧ (↑x_2 : Int) < (↑(List.length o.2.2.2.1) : Int)) ∧ ((List.length (nth tTie o.2.2.2.1 x_2).2.2.2.1 ≤ big) → (((decide ((↑(List.length (nth tTie o.2.2.2.1 x_2).2.2.2.1) : Int) > (20 : Int))) = true → (false = true → LightO o)) ∧ ((decide ((↑(List.length (nth tTie o.2.2.2.1 x_2).2.2.2.1) : Int) > (20 : Int))) = false → ((I64 (↑x_2 : Int)) → ((I64 (1 : Int)) → (I64 ((↑x_2 : Int) + (1 : Int))) ∧
    (∃ (x' : Nat), (x' ≤ List.length o.2.2.2.1 ∧ ∀ (j : Nat), j < x' → List.length (nth tTie o.2.2.2.1 j).2.2.2.1 ≤ (20 : Nat)) ∧ List.length o.2.2.2.1 - x' < List.length o.2.2.2.1 - x_2 ∧ ((↑x_2 : Int) + (1 : Int) = (↑x' : Int) ∧ True) ∧ (o.1 = o.1 ∧ o.2.1 = o.2.1 ∧ o.2.2.1 = o.2.2.1 ∧ o.2.2.2.1 = o.2.2.2.1 ∧ True) ∧ True))))))) ∧ ((decide ((↑x_2 : Int) < (↑(List.length o.2.2.2.1) : Int))) = false → (true = true → LightO o))))))))))))))))))))))))))))) (by kernel_rfl) ?_
  intro h0
  refine ⟨fun h1 => ?_, fun h1 => ?_⟩
  · try simp only [bl, reduceCtorEq] at h1
    first | trivial | omega | (dsimp only [D] at *; omega) | (simp only [I64, big] at *; omega) | (simp_all; done)
  · try simp only [bl, reduceCtorEq] at h1
    intro h2
    refine ⟨fun h3 => ?_, fun h3 => ?_⟩
    · try simp only [bl, reduceCtorEq] at h3
      first | trivial | omega | (dsimp only [D] at *; omega) | (simp only [I64, big] at *; omega) | (simp_all; done)
    · try simp only [bl, reduceCtorEq] at h3
      intro h4
      refine ⟨fun h5 => ?_, fun h5 => ?_⟩
      · try simp only [bl, reduceCtorEq] at h5
        first | trivial | omega | (dsimp only [D] at *; omega) | (simp only [I64, big] at *; omega) | (simp_all; done)
      · try simp only [bl, reduceCtorEq] at h5
        intro h6
        refine ⟨fun h7 => ?_, fun h7 => ?_⟩
        · try simp only [bl, reduceCtorEq] at h7
          first | trivial | omega | (dsimp only [D] at *; omega) | (simp only [I64, big] at *; omega) | (simp_all; done)
        · try simp only [bl, reduceCtorEq] at h7
          refine ⟨?_, ?_⟩
          · refine ⟨0, ?_⟩; (repeat' (first | exact trivial | rfl | omega | assumption | apply And.intro))
          intro x_0 q_0
          intro h8
          refine ⟨fun h9 => ?_, fun h9 => ?_⟩
          · try simp only [bl, reduceCtorEq] at h9
            refine ⟨?_, ?_⟩
            · first | trivial | omega | (dsimp only [D] at *; omega) | (simp only [I64, big] at *; omega) | (simp_all; done)
            intro h10
            refine ⟨fun h11 => ?_, fun h11 => ?_⟩
            · try simp only [bl, reduceCtorEq] at h11
              first | trivial | omega | (dsimp only [D] at *; omega) | (simp only [I64, big] at *; omega) | (simp_all; done)
            · try simp only [bl, reduceCtorEq] at h11
              intro h12
              intro h13
              refine ⟨?_, ?_⟩
              · first | trivial | omega | (dsimp only [D] at *; omega) | (simp only [I64, big] at *; omega) | (simp_all; done)
              exact ⟨x_0 + 1, ⟨by omega, upto1 q_0.2 (by omega)⟩, by omega, ⟨by omega, trivial⟩, (by trivial)⟩
          · try simp only [bl, reduceCtorEq] at h9
            refine ⟨?_, ?_⟩
            · refine ⟨0, ?_⟩; (repeat' (first | exact trivial | rfl | omega | assumption | apply And.intro))
            intro x_1 q_1
            intro h10
            refine ⟨fun h11 => ?_, fun h11 => ?_⟩
            · try simp only [bl, reduceCtorEq] at h11
              refine ⟨?_, ?_⟩
              · first | trivial | omega | (dsimp only [D] at *; omega) | (simp only [I64, big] at *; omega) | (simp_all; done)
              intro h12
              refine ⟨fun h13 => ?_, fun h13 => ?_⟩
              · try simp only [bl, reduceCtorEq] at h13
                first | trivial | omega | (dsimp only [D] at *; omega) | (simp only [I64, big] at *; omega) | (simp_all; done)
              · try simp only [bl, reduceCtorEq] at h13
                intro h14
                intro h15
                refine ⟨?_, ?_⟩
                · first | trivial | omega | (dsimp only [D] at *; omega) | (simp only [I64, big] at *; omega) | (simp_all; done)
                exact ⟨x_1 + 1, ⟨by omega, upto1 q_1.2 (by omega)⟩, by omega, ⟨by omega, trivial⟩, (by trivial)⟩
            · try simp only [bl, reduceCtorEq] at h11
              refine ⟨?_, ?_⟩
              · refine ⟨0, ?_⟩; (repeat' (first | exact trivial | rfl | omega | assumption | apply And.intro))
              intro x_2 q_2
              intro h12
              refine ⟨fun h13 => ?_, fun h13 => ?_⟩
              · try simp only [bl, reduceCtorEq] at h13
                refine ⟨?_, ?_⟩
                · first | trivial | omega | (dsimp only [D] at *; omega) | (simp only [I64, big] at *; omega) | (simp_all; done)
                intro h14
                refine ⟨fun h15 => ?_, fun h15 => ?_⟩
                · try simp only [bl, reduceCtorEq] at h15
                  first | trivial | omega | (dsimp only [D] at *; omega) | (simp only [I64, big] at *; omega) | (simp_all; done)
                · try simp only [bl, reduceCtorEq] at h15
                  intro h16
                  intro h17
                  refine ⟨?_, ?_⟩
                  · first | trivial | omega | (dsimp only [D] at *; omega) | (simp only [I64, big] at *; omega) | (simp_all; done)
                  exact ⟨x_2 + 1, ⟨by omega, upto1 q_2.2 (by omega)⟩, by omega, ⟨by omega, trivial⟩, (by trivial)⟩
              · try simp only [bl, reduceCtorEq] at h13
                exact fun _ => ⟨by omega, by omega, by omega, by omega, fun i hi => q_0.2 i (by omega), fun i hi => q_1.2 i (by omega), fun i hi => q_2.2 i (by omega)⟩
theorem Tryd.ok_LightObject : PureOK Tryd.prog Tryd.B.eT Tryd.X 6 [tObject] [.bool] (fun _ => True) (fun o y => y = true → LightO o) :=
  pure_fn (X := Tryd.X) (ctx0 Tryd.tyOK) Tryd.func6 (by kernel_rfl) (fun x => lightAnn x) (fun x hw hp => vc_LightObject x hw)
end Go.Proofs.YtgokjhhcfemnhacDoor

namespace Go.Proofs.YtgokjhhcfemnhacDoor
open Go.Shelf
def Tryd.lays103_ren : Go.Shelf.Ren := ⟨fun | 103 => 32 | 210 => 44 | 206 => 54 | n => n, fun | 9 => 9 | 4 => 4 | 24 => 89 | 3 => 3 | n => n, fun | n => n⟩
theorem Tryd.lays103 : Go.Proofs.Lays.n103 Tryd.prog Tryd.lays103_ren := {
  mixed := by kernel_rfl
  f103 := Tryd.func32.trans (congrArg some (by kernel_rfl))
  f206 := Tryd.func54.trans (congrArg some (by kernel_rfl))
  f210 := Tryd.func44.trans (congrArg some (by kernel_rfl))
  t3 := Tryd.underlying3
  a3 := Tryd.isAgg3
  z3 := Tryd.sizeOf3
  v3 := Tryd.zeroValue3
  t4 := Tryd.underlying4
  a4 := Tryd.isAgg4
  z4 := Tryd.sizeOf4
  v4 := Tryd.zeroValue4
  t9 := Tryd.underlying9
  a9 := Tryd.isAgg9
  z9 := Tryd.sizeOf9
  v9 := Tryd.zeroValue9
  t24 := Tryd.underlying89
  a24 := Tryd.isAgg89
  z24 := Tryd.sizeOf89
  v24 := Tryd.zeroValue89 }
open Go.RowKit in
theorem Tryd.strings_CutPrefix (s p : ByteArray) (w : World) :
    Calls Tryd.prog 32 #[.string s, .string p] w fun e w' => e = .returned (.tuple #[.string ⟨(Lib.trimPrefix s.data.toList p.data.toList).toArray⟩, .bool (Lib.hasPrefix s.data.toList p.data.toList)]) ∧ w' = w := Any.strings_CutPrefix Tryd.lays103 s p w
def Tryd.laysM171_ren : Go.Shelf.Ren := ⟨fun | 171 => 20 | 243 => 37 | 246 => 48 | 283 => 58 | 284 => 59 | 285 => 60 | 286 => 61 | 129 => 73 | 317 => 72 | 318 => 74 | 319 => 75 | 320 => 76 | 337 => 82 | 338 => 83 | n => n, fun | 3 => 3 | 9 => 9 | 2 => 2 | 4 => 4 | 171 => 111 | 0 => 0 | 53 => 80 | 37 => 62 | 5 => 5 | 173 => 114 | 212 => 125 | 51 => 126 | 20 => 20 | 213 => 127 | 46 => 117 | 232 => 146 | 233 => 147 | n => n, fun | 17 => 1 | 18 => 6 | 19 => 7 | n => n⟩
theorem Tryd.laysM171 : Go.Proofs.LaysM.n171 Tryd.prog Tryd.laysM171_ren := {
  mixed := by kernel_rfl
  f129 := Tryd.func73.trans (congrArg some (by kernel_rfl))
  f171 := Tryd.func20.trans (congrArg some (by kernel_rfl))
  f243 := Tryd.func37.trans (congrArg some (by kernel_rfl))
  f246 := Tryd.func48.trans (congrArg some (by kernel_rfl))
  f283 := Tryd.func58.trans (congrArg some (by kernel_rfl))
  f284 := Tryd.func59.trans (congrArg some (by kernel_rfl))
  f285 := Tryd.func60.trans (congrArg some (by kernel_rfl))
  f286 := Tryd.func61.trans (congrArg some (by kernel_rfl))
  f317 := Tryd.func72.trans (congrArg some (by kernel_rfl))
  f318 := Tryd.func74.trans (congrArg some (by kernel_rfl))
  f319 := Tryd.func75.trans (congrArg some (by kernel_rfl))
  f320 := Tryd.func76.trans (congrArg some (by kernel_rfl))
  f337 := Tryd.func82.trans (congrArg some (by kernel_rfl))
  f338 := Tryd.func83.trans (congrArg some (by kernel_rfl))
  t0 := Tryd.underlying0
  a0 := Tryd.isAgg0
  z0 := Tryd.sizeOf0
  v0 := Tryd.zeroValue0
  t2 := Tryd.underlying2
  a2 := Tryd.isAgg2
  z2 := Tryd.sizeOf2
  v2 := Tryd.zeroValue2
  t3 := Tryd.underlying3
  a3 := Tryd.isAgg3
  z3 := Tryd.sizeOf3
  v3 := Tryd.zeroValue3
  t4 := Tryd.underlying4
  a4 := Tryd.isAgg4
  z4 := Tryd.sizeOf4
  v4 := Tryd.zeroValue4
  t5 := Tryd.underlying5
  a5 := Tryd.isAgg5
  z5 := Tryd.sizeOf5
  v5 := Tryd.zeroValue5
  t9 := Tryd.underlying9
  a9 := Tryd.isAgg9
  z9 := Tryd.sizeOf9
  v9 := Tryd.zeroValue9
  t20 := Tryd.underlying20
  a20 := Tryd.isAgg20
  z20 := Tryd.sizeOf20
  v20 := Tryd.zeroValue20
  t37 := Tryd.underlying62
  a37 := Tryd.isAgg62
  z37 := Tryd.sizeOf62
  v37 := Tryd.zeroValue62
  t46 := Tryd.underlying117
  a46 := Tryd.isAgg117
  z46 := Tryd.sizeOf117
  v46 := Tryd.zeroValue117
  t51 := Tryd.underlying126
  a51 := Tryd.isAgg126
  z51 := Tryd.sizeOf126
  v51 := Tryd.zeroValue126
  t53 := Tryd.underlying80
  a53 := Tryd.isAgg80
  z53 := Tryd.sizeOf80
  v53 := Tryd.zeroValue80
  t171 := Tryd.underlying111
  a171 := Tryd.isAgg111
  z171 := Tryd.sizeOf111
  v171 := Tryd.zeroValue111
  t173 := Tryd.underlying114
  a173 := Tryd.isAgg114
  z173 := Tryd.sizeOf114
  v173 := Tryd.zeroValue114
  t212 := Tryd.underlying125
  a212 := Tryd.isAgg125
  z212 := Tryd.sizeOf125
  v212 := Tryd.zeroValue125
  t213 := Tryd.underlying127
  a213 := Tryd.isAgg127
  z213 := Tryd.sizeOf127
  t232 := Tryd.underlying146
  a232 := Tryd.isAgg146
  z232 := Tryd.sizeOf146
  v232 := Tryd.zeroValue146
  t233 := Tryd.underlying147
  a233 := Tryd.isAgg147
  z233 := Tryd.sizeOf147
  v233 := Tryd.zeroValue147
  g17 := by kernel_rfl
  g18 := by kernel_rfl
  g19 := by kernel_rfl
  i0 := by kernel_rfl
  i2 := by kernel_rfl
  i3 := by kernel_rfl
  i4 := by kernel_rfl
  i5 := by kernel_rfl
  i9 := by kernel_rfl
  i20 := by kernel_rfl
  i37 := by kernel_rfl
  i46 := by kernel_rfl
  i51 := by kernel_rfl
  i53 := by kernel_rfl
  i171 := by kernel_rfl
  i173 := by kernel_rfl
  i212 := by kernel_rfl
  i232 := by kernel_rfl
  i233 := by kernel_rfl
  m17 := by kernel_rfl
  m18 := by kernel_rfl
  m19 := by kernel_rfl }
open Go.RowKit Go.Sort Go.Lib in
theorem Tryd.strconv_Itoa (n : Int) (h0 : -9223372036854775808 ≤ n) (h1 : n ≤ 9223372036854775807) (w : World) (htab : Lib.TabIs Tryd.prog w "internal/strconv.uint64pow10" .u64 Lib.pow10Tab) :
    Calls Tryd.prog 20 #[.int .i64 n] w fun e w' => e = .returned (.string ⟨(Lib.itoa n).toArray⟩) ∧ ∃ k os, w' = grow (w.drewN k) os := Any.strconv_Itoa Tryd.laysM171 n h0 h1 w htab
def Tryd.laysC172_ren : Go.Shelf.Ren := ⟨fun | 172 => 45 | 244 => 55 | 245 => 56 | 247 => 67 | 279 => 68 | 280 => 69 | 281 => 70 | 282 => 71 | 287 => 79 | 316 => 80 | 171 => 20 | 205 => 81 | 321 => 84 | 322 => 85 | 243 => 37 | 246 => 48 | 283 => 58 | 284 => 59 | 285 => 60 | 286 => 61 | 129 => 73 | 317 => 72 | 318 => 74 | 319 => 75 | 320 => 76 | 337 => 82 | 338 => 83 | n => n, fun | 9 => 9 | 3 => 3 | 75 => 29 | 76 => 66 | 4 => 4 | 5 => 5 | 167 => 118 | 37 => 62 | 0 => 0 | 85 => 119 | 2 => 2 | 168 => 121 | 53 => 80 | 175 => 135 | 46 => 117 | 210 => 139 | 127 => 93 | 145 => 145 | 143 => 143 | 21 => 21 | 171 => 111 | 173 => 114 | 212 => 125 | 51 => 126 | 20 => 20 | 213 => 127 | 232 => 146 | 233 => 147 | 80 => 70 | n => n, fun | 15 => 4 | 16 => 5 | 17 => 1 | 18 => 6 | 19 => 7 | n => n⟩
theorem Tryd.laysC172 : Go.Proofs.LaysC.n172 Tryd.prog Tryd.laysC172_ren := {
  mixed := by kernel_rfl
  f129 := Tryd.func73.trans (congrArg some (by kernel_rfl))
  f171 := Tryd.func20.trans (congrArg some (by kernel_rfl))
  f172 := Tryd.func45.trans (congrArg some (by kernel_rfl))
  f205 := Tryd.func81.trans (congrArg some (by kernel_rfl))
  f243 := Tryd.func37.trans (congrArg some (by kernel_rfl))
  f244 := Tryd.func55.trans (congrArg some (by kernel_rfl))
  f245 := Tryd.func56.trans (congrArg some (by kernel_rfl))
  f246 := Tryd.func48.trans (congrArg some (by kernel_rfl))
  f247 := Tryd.func67.trans (congrArg some (by kernel_rfl))
  f279 := Tryd.func68.trans (congrArg some (by kernel_rfl))
  f280 := Tryd.func69.trans (congrArg some (by kernel_rfl))
  f281 := Tryd.func70.trans (congrArg some (by kernel_rfl))
  f282 := Tryd.func71.trans (congrArg some (by kernel_rfl))
  f283 := Tryd.func58.trans (congrArg some (by kernel_rfl))
  f284 := Tryd.func59.trans (congrArg some (by kernel_rfl))
  f285 := Tryd.func60.trans (congrArg some (by kernel_rfl))
  f286 := Tryd.func61.trans (congrArg some (by kernel_rfl))
  f287 := Tryd.func79.trans (congrArg some (by kernel_rfl))
  f316 := Tryd.func80.trans (congrArg some (by kernel_rfl))
  f317 := Tryd.func72.trans (congrArg some (by kernel_rfl))
  f318 := Tryd.func74.trans (congrArg some (by kernel_rfl))
  f319 := Tryd.func75.trans (congrArg some (by kernel_rfl))
  f320 := Tryd.func76.trans (congrArg some (by kernel_rfl))
  f321 := Tryd.func84.trans (congrArg some (by kernel_rfl))
  f322 := Tryd.func85.trans (congrArg some (by kernel_rfl))
  f337 := Tryd.func82.trans (congrArg some (by kernel_rfl))
  f338 := Tryd.func83.trans (congrArg some (by kernel_rfl))
  t0 := Tryd.underlying0
  a0 := Tryd.isAgg0
  z0 := Tryd.sizeOf0
  v0 := Tryd.zeroValue0
  t2 := Tryd.underlying2
  a2 := Tryd.isAgg2
  z2 := Tryd.sizeOf2
  v2 := Tryd.zeroValue2
  t3 := Tryd.underlying3
  a3 := Tryd.isAgg3
  z3 := Tryd.sizeOf3
  v3 := Tryd.zeroValue3
  t4 := Tryd.underlying4
  a4 := Tryd.isAgg4
  z4 := Tryd.sizeOf4
  v4 := Tryd.zeroValue4
  t5 := Tryd.underlying5
  a5 := Tryd.isAgg5
  z5 := Tryd.sizeOf5
  v5 := Tryd.zeroValue5
  t9 := Tryd.underlying9
  a9 := Tryd.isAgg9
  z9 := Tryd.sizeOf9
  v9 := Tryd.zeroValue9
  t20 := Tryd.underlying20
  a20 := Tryd.isAgg20
  z20 := Tryd.sizeOf20
  v20 := Tryd.zeroValue20
  t21 := Tryd.underlying21
  a21 := Tryd.isAgg21
  z21 := Tryd.sizeOf21
  v21 := Tryd.zeroValue21
  t37 := Tryd.underlying62
  a37 := Tryd.isAgg62
  z37 := Tryd.sizeOf62
  v37 := Tryd.zeroValue62
  t46 := Tryd.underlying117
  a46 := Tryd.isAgg117
  z46 := Tryd.sizeOf117
  v46 := Tryd.zeroValue117
  t51 := Tryd.underlying126
  a51 := Tryd.isAgg126
  z51 := Tryd.sizeOf126
  v51 := Tryd.zeroValue126
  t53 := Tryd.underlying80
  a53 := Tryd.isAgg80
  z53 := Tryd.sizeOf80
  v53 := Tryd.zeroValue80
  t75 := Tryd.underlying29
  a75 := Tryd.isAgg29
  z75 := Tryd.sizeOf29
  v75 := Tryd.zeroValue29
  t76 := Tryd.underlying66
  a76 := Tryd.isAgg66
  z76 := Tryd.sizeOf66
  v76 := Tryd.zeroValue66
  t85 := Tryd.underlying119
  a85 := Tryd.isAgg119
  z85 := Tryd.sizeOf119
  v85 := Tryd.zeroValue119
  t127 := Tryd.underlying93
  a127 := Tryd.isAgg93
  z127 := Tryd.sizeOf93
  v127 := Tryd.zeroValue93
  t143 := Tryd.underlying143
  a143 := Tryd.isAgg143
  z143 := Tryd.sizeOf143
  v143 := Tryd.zeroValue143
  t145 := Tryd.underlying145
  a145 := Tryd.isAgg145
  z145 := Tryd.sizeOf145
  v145 := Tryd.zeroValue145
  t167 := Tryd.underlying118
  a167 := Tryd.isAgg118
  z167 := Tryd.sizeOf118
  v167 := Tryd.zeroValue118
  t168 := Tryd.underlying121
  a168 := Tryd.isAgg121
  z168 := Tryd.sizeOf121
  v168 := Tryd.zeroValue121
  t171 := Tryd.underlying111
  a171 := Tryd.isAgg111
  z171 := Tryd.sizeOf111
  v171 := Tryd.zeroValue111
  t173 := Tryd.underlying114
  a173 := Tryd.isAgg114
  z173 := Tryd.sizeOf114
  v173 := Tryd.zeroValue114
  t175 := Tryd.underlying135
  a175 := Tryd.isAgg135
  z175 := Tryd.sizeOf135
  v175 := Tryd.zeroValue135
  t210 := Tryd.underlying139
  a210 := Tryd.isAgg139
  z210 := Tryd.sizeOf139
  v210 := Tryd.zeroValue139
  t212 := Tryd.underlying125
  a212 := Tryd.isAgg125
  z212 := Tryd.sizeOf125
  v212 := Tryd.zeroValue125
  t213 := Tryd.underlying127
  a213 := Tryd.isAgg127
  z213 := Tryd.sizeOf127
  t232 := Tryd.underlying146
  a232 := Tryd.isAgg146
  z232 := Tryd.sizeOf146
  v232 := Tryd.zeroValue146
  t233 := Tryd.underlying147
  a233 := Tryd.isAgg147
  z233 := Tryd.sizeOf147
  v233 := Tryd.zeroValue147
  g15 := by kernel_rfl
  g16 := by kernel_rfl
  g17 := by kernel_rfl
  g18 := by kernel_rfl
  g19 := by kernel_rfl
  t80 := Tryd.underlying70
  a80 := Tryd.isAgg70
  z80 := Tryd.sizeOf70
  v80 := Tryd.zeroValue70
  i0 := by kernel_rfl
  i2 := by kernel_rfl
  i3 := by kernel_rfl
  i4 := by kernel_rfl
  i5 := by kernel_rfl
  i9 := by kernel_rfl
  i20 := by kernel_rfl
  i21 := by kernel_rfl
  i37 := by kernel_rfl
  i46 := by kernel_rfl
  i51 := by kernel_rfl
  i53 := by kernel_rfl
  i75 := by kernel_rfl
  i76 := by kernel_rfl
  i80 := by kernel_rfl
  i85 := by kernel_rfl
  i127 := by kernel_rfl
  i143 := by kernel_rfl
  i145 := by kernel_rfl
  i167 := by kernel_rfl
  i168 := by kernel_rfl
  i171 := by kernel_rfl
  i173 := by kernel_rfl
  i175 := by kernel_rfl
  i210 := by kernel_rfl
  i212 := by kernel_rfl
  i232 := by kernel_rfl
  i233 := by kernel_rfl
  m15 := by kernel_rfl
  m16 := by kernel_rfl
  m17 := by kernel_rfl
  m18 := by kernel_rfl
  m19 := by kernel_rfl
  c0 := by kernel_rfl
  c2 := by kernel_rfl
  c3 := by kernel_rfl
  c4 := by kernel_rfl
  c5 := by kernel_rfl
  c9 := by kernel_rfl
  c20 := by kernel_rfl
  c21 := by kernel_rfl
  c37 := by kernel_rfl
  c46 := by kernel_rfl
  c51 := by kernel_rfl
  c53 := by kernel_rfl
  c75 := by kernel_rfl
  c76 := by kernel_rfl
  c80 := by kernel_rfl
  c85 := by kernel_rfl
  c127 := by kernel_rfl
  c143 := by kernel_rfl
  c145 := by kernel_rfl
  c167 := by kernel_rfl
  c168 := by kernel_rfl
  c171 := by kernel_rfl
  c173 := by kernel_rfl
  c175 := by kernel_rfl
  c210 := by kernel_rfl
  c212 := by kernel_rfl
  c213 := by kernel_rfl
  c232 := by kernel_rfl
  c233 := by kernel_rfl }
open Go.RowKit in
theorem Tryd.strconv_Atoi_ok (s : ByteArray) (hmax : s.size ≤ 9223372036854775806) (v : Int) (h : Lib.atoiAll s.data.toList = .ok v) (w : World) :
    Calls Tryd.prog 45 #[.string s] w fun e w' => e = .returned (.tuple #[.int .i64 v, .nilIface]) ∧ (w' = w ∨ ∃ t, w' = Lib.bytesWorld w 5 t) := Any.strconv_Atoi_ok Tryd.laysC172 s hmax v h w
open Go.RowKit in
theorem Tryd.strconv_Atoi_syntax (s : ByteArray) (hlim : s.size ≤ 281474976710656) (h : Lib.atoiAll s.data.toList = .syntax) (ev : Value) (w : World) (hv : w.cell? ⟨4, 0, none⟩ = some ev) (hev : ev = .nilIface ∨ ∃ te pe, ev = .iface te pe) :
    Calls Tryd.prog 45 #[.string s] w fun e w' => ∃ N, e = .returned (.tuple #[.int .i64 (0), .iface 121 (.pointer (some ⟨N, 0, none⟩))]) ∧ w.heap.size ≤ N ∧ w'.heap[N]? = some (.cells #[.string ⟨#[65, 116, 111, 105]⟩, .string s, ev] 139 (0, 0)) ∧ Below w.heap.size w w' := Any.strconv_Atoi_syntax Tryd.laysC172 s hlim h ev w hv hev
open Go.RowKit in
theorem Tryd.strconv_Atoi_range (s : ByteArray) (hlim : s.size ≤ 281474976710656) (h : Lib.atoiAll s.data.toList = .range) (ev : Value) (w : World) (hv : w.cell? ⟨5, 0, none⟩ = some ev) (hev : ev = .nilIface ∨ ∃ te pe, ev = .iface te pe) :
    Calls Tryd.prog 45 #[.string s] w fun e w' => ∃ N, e = .returned (.tuple #[.int .i64 (Lib.atoiSat s.data.toList), .iface 121 (.pointer (some ⟨N, 0, none⟩))]) ∧ w.heap.size ≤ N ∧ w'.heap[N]? = some (.cells #[.string ⟨#[65, 116, 111, 105]⟩, .string s, ev] 139 (0, 0)) ∧ Below w.heap.size w w' := Any.strconv_Atoi_range Tryd.laysC172 s hlim h ev w hv hev
def Tryd.lays102_ren : Go.Shelf.Ren := ⟨fun | 102 => 17 | 209 => 31 | 207 => 43 | n => n, fun | 9 => 9 | 4 => 4 | 3 => 3 | n => n, fun | n => n⟩
theorem Tryd.lays102 : Go.Proofs.Lays.n102 Tryd.prog Tryd.lays102_ren := {
  mixed := by kernel_rfl
  f102 := Tryd.func17.trans (congrArg some (by kernel_rfl))
  f207 := Tryd.func43.trans (congrArg some (by kernel_rfl))
  f209 := Tryd.func31.trans (congrArg some (by kernel_rfl))
  t3 := Tryd.underlying3
  a3 := Tryd.isAgg3
  z3 := Tryd.sizeOf3
  v3 := Tryd.zeroValue3
  t4 := Tryd.underlying4
  a4 := Tryd.isAgg4
  z4 := Tryd.sizeOf4
  v4 := Tryd.zeroValue4
  t9 := Tryd.underlying9
  a9 := Tryd.isAgg9
  z9 := Tryd.sizeOf9
  v9 := Tryd.zeroValue9 }
open Go.RowKit Go.Lib in
theorem Tryd.strings_TrimSuffix (s p : ByteArray) (w : World) (hs : s.size ≤ 9223372036854775807) :
    Calls Tryd.prog 17 #[.string s, .string p] w fun e w' => e = .returned (.string ⟨(Lib.trimSuffix s.data.toList p.data.toList).toArray⟩) ∧ w' = w := Any.strings_TrimSuffix Tryd.lays102 s p w hs
def Tryd.lays146_ren : Go.Shelf.Ren := ⟨fun | 146 => 16 | 221 => 30 | 268 => 40 | 138 => 41 | 143 => 42 | 195 => 50 | 197 => 51 | 218 => 52 | 219 => 53 | 260 => 62 | 217 => 63 | 225 => 64 | 224 => 65 | 267 => 66 | 266 => 77 | 314 => 78 | n => n, fun | 9 => 9 | 31 => 22 | 3 => 3 | 4 => 4 | 0 => 0 | 105 => 106 | 21 => 21 | 5 => 5 | 46 => 117 | 119 => 129 | 139 => 132 | 138 => 131 | 146 => 133 | 51 => 126 | n => n, fun | 1 => 0 | 3 => 2 | 4 => 3 | n => n⟩
theorem Tryd.lays146 : Go.Proofs.Lays.n146 Tryd.prog Tryd.lays146_ren := {
  mixed := by kernel_rfl
  f138 := Tryd.func41.trans (congrArg some (by kernel_rfl))
  f143 := Tryd.func42.trans (congrArg some (by kernel_rfl))
  f146 := Tryd.func16.trans (congrArg some (by kernel_rfl))
  f195 := Tryd.func50.trans (congrArg some (by kernel_rfl))
  f197 := Tryd.func51.trans (congrArg some (by kernel_rfl))
  f217 := Tryd.func63.trans (congrArg some (by kernel_rfl))
  f218 := Tryd.func52.trans (congrArg some (by kernel_rfl))
  f219 := Tryd.func53.trans (congrArg some (by kernel_rfl))
  f221 := Tryd.func30.trans (congrArg some (by kernel_rfl))
  f224 := Tryd.func65.trans (congrArg some (by kernel_rfl))
  f225 := Tryd.func64.trans (congrArg some (by kernel_rfl))
  f260 := Tryd.func62.trans (congrArg some (by kernel_rfl))
  f266 := Tryd.func77.trans (congrArg some (by kernel_rfl))
  f267 := Tryd.func66.trans (congrArg some (by kernel_rfl))
  f268 := Tryd.func40.trans (congrArg some (by kernel_rfl))
  f314 := Tryd.func78.trans (congrArg some (by kernel_rfl))
  t0 := Tryd.underlying0
  a0 := Tryd.isAgg0
  z0 := Tryd.sizeOf0
  v0 := Tryd.zeroValue0
  t3 := Tryd.underlying3
  a3 := Tryd.isAgg3
  z3 := Tryd.sizeOf3
  v3 := Tryd.zeroValue3
  t4 := Tryd.underlying4
  a4 := Tryd.isAgg4
  z4 := Tryd.sizeOf4
  v4 := Tryd.zeroValue4
  t5 := Tryd.underlying5
  a5 := Tryd.isAgg5
  z5 := Tryd.sizeOf5
  v5 := Tryd.zeroValue5
  t9 := Tryd.underlying9
  a9 := Tryd.isAgg9
  z9 := Tryd.sizeOf9
  v9 := Tryd.zeroValue9
  t21 := Tryd.underlying21
  a21 := Tryd.isAgg21
  z21 := Tryd.sizeOf21
  v21 := Tryd.zeroValue21
  t31 := Tryd.underlying22
  a31 := Tryd.isAgg22
  z31 := Tryd.sizeOf22
  v31 := Tryd.zeroValue22
  t46 := Tryd.underlying117
  a46 := Tryd.isAgg117
  z46 := Tryd.sizeOf117
  v46 := Tryd.zeroValue117
  t51 := Tryd.underlying126
  a51 := Tryd.isAgg126
  z51 := Tryd.sizeOf126
  v51 := Tryd.zeroValue126
  t105 := Tryd.underlying106
  a105 := Tryd.isAgg106
  z105 := Tryd.sizeOf106
  v105 := Tryd.zeroValue106
  t119 := Tryd.underlying129
  a119 := Tryd.isAgg129
  z119 := Tryd.sizeOf129
  t138 := Tryd.underlying131
  a138 := Tryd.isAgg131
  z138 := Tryd.sizeOf131
  v138 := Tryd.zeroValue131
  t139 := Tryd.underlying132
  a139 := Tryd.isAgg132
  z139 := Tryd.sizeOf132
  v139 := Tryd.zeroValue132
  t146 := Tryd.underlying133
  a146 := Tryd.isAgg133
  z146 := Tryd.sizeOf133
  v146 := Tryd.zeroValue133
  g1 := by kernel_rfl
  g3 := by kernel_rfl
  g4 := by kernel_rfl }
open Go.RowKit Go.Lib in
theorem Tryd.strings_Split (s sep : ByteArray) (m : Int) (w : World) (hs : s.size < 4294967281) (hm : w.cell? ⟨0, 0, none⟩ = some (.int .i64 m)) (h1 : 1 ≤ sep.size) :
    Calls Tryd.prog 16 #[.string s, .string sep] w fun e w' =>
      e = .returned (.slice (some ⟨w.heap.size, 0, none⟩) (Lib.countB s sep + 1) (Lib.countB s sep + 1)) ∧ w' = w.alloc (.cells ((Lib.splitB sep 0 (Lib.countB s sep) s).map Value.string).toArray 9) := Any.strings_Split Tryd.lays146 (by kernel_rfl) s sep m w hs hm h1
end Go.Proofs.YtgokjhhcfemnhacDoor

namespace Go.Proofs.YtgokjhhcfemnhacDoor
open Go.Vg Go.Mrl
theorem below_grow (w : World) (k : Nat) (os : Array Obj) : Vg.Below w.heap.size w (Sort.grow (w.drewN k) os) := by
  refine ⟨rfl, rfl, ?_, fun i hi => ?_⟩
  · show w.heap.size ≤ (w.heap ++ os).size
    simp
  · show (w.heap ++ os)[i]? = w.heap[i]?
    rw [Array.getElem?_append, if_pos hi]
theorem one_int {eT : TypeId} {n : Int} {O : Avoid} {w : World} {v : Value} (h : VR eT (.int .i64) n O w v) : v = .int .i64 n ∧ -9223372036854775808 ≤ n ∧ n ≤ 9223372036854775807 := by
  obtain ⟨h1, h2, h3⟩ := VR.one rfl h
  exact ⟨by simpa using h1, h2, h3⟩
theorem one_str {eT : TypeId} {s : List UInt8} {O : Avoid} {w : World} {v : Value} (h : VR eT .str s O w v) : v = .string ⟨s.toArray⟩ ∧ s.length ≤ big := by
  obtain ⟨h1, h2⟩ := VR.one rfl h
  exact ⟨by simpa using h1, h2⟩
theorem mk_str {eT : TypeId} {s : List UInt8} {O : Avoid} {w : World} (h : s.length ≤ big) : VR eT .str s O w (.string ⟨s.toArray⟩) := VR.of_one rfl ⟨rfl, h⟩
theorem nDigits_le : ∀ (k u : Nat), u < 10 ^ (k + 1) → Lib.nDigits u ≤ k + 1
  | 0, u, h => by rw [Lib.nDigits_small (by simpa using h)]; exact Nat.le_refl _
  | k + 1, u, h => by
    by_cases hu : u < 10
    · rw [Lib.nDigits_small hu]; omega
    · rw [Lib.nDigits_big hu]
      have := nDigits_le k (u / 10) (by rw [Nat.pow_succ] at h; omega)
      omega
theorem itoa_len {n : Int} (h0 : -9223372036854775808 ≤ n) (h1 : n ≤ 9223372036854775807) : (Lib.itoa n).length ≤ 21 := by
  unfold Lib.itoa
  split
  · rw [List.length_cons, Lib.decDigits_length]
    have := nDigits_le 19 n.natAbs (by omega)
    omega
  · rw [Lib.decDigits_length]
    have := nDigits_le 19 n.toNat (by omega)
    omega
theorem Tryd.ok_ItoaS : PureOK Tryd.prog Tryd.B.eT Tryd.X 20 [.int .i64] [.str] (fun _ => True) (fun n y => y = Lib.itoa n) := by
  refine ⟨⟨Tryd.f20, Tryd.func20, by kernel_rfl, by kernel_rfl⟩, fun O w n vs hG hO ha _ => ?_⟩
  obtain ⟨v, rfl, hv⟩ := ha
  obtain ⟨rfl, h0, h1⟩ := one_int hv
  refine (Tryd.strconv_Itoa n h0 h1 w hG.pow).mono ?_
  rintro e w' ⟨rfl, k, os, rfl⟩
  exact ⟨[.string ⟨(Lib.itoa n).toArray⟩], Lib.itoa n, rfl, rfl, ⟨_, rfl, mk_str (by have := itoa_len h0 h1; unfold big; omega)⟩, below_grow w k os⟩
theorem Tryd.ok_AtoiS : PureOK Tryd.prog Tryd.B.eT Tryd.X 45 [.str] [.int .i64, .err] (fun s => s.length ≤ 281474976710656) (fun s y => y = atoiF s) := by
  refine ⟨⟨Tryd.f45, Tryd.func45, by kernel_rfl, by kernel_rfl⟩, fun O w s vs hG hO ha hs => ?_⟩
  obtain ⟨v, rfl, hv⟩ := ha
  obtain ⟨rfl, hl⟩ := one_str hv
  have hsz : (⟨s.toArray⟩ : ByteArray).size = s.length := by simp [ByteArray.size]
  have hsl : (⟨s.toArray⟩ : ByteArray).data.toList = s := by simp
  cases ha : Lib.atoiAll s with
  | ok n =>
    refine (Tryd.strconv_Atoi_ok ⟨s.toArray⟩ (by rw [hsz]; omega) n (by rw [hsl]; exact ha) w).mono ?_
    rintro e w' ⟨rfl, hw⟩
    obtain ⟨b0, b1⟩ := Lib.atoiAll_bounds ha
    refine ⟨[.int .i64 n, .nilIface], (n, .nil), rfl, by unfold atoiF; rw [ha], ⟨_, _, rfl, VR.of_one rfl ⟨rfl, b0, b1⟩, ⟨_, rfl, VR.of_one rfl ⟨_, rfl, rfl⟩⟩⟩, ?_⟩
    rcases hw with rfl | ⟨t, rfl⟩
    · exact Vg.Below.refl _ _
    · exact .of (Lib.bytesWorld_below _ _ _)
  | range =>
    obtain ⟨ev, hv, he⟩ := hG.rng
    obtain ⟨b0, b1⟩ := Lib.atoiSat_bounds s
    have hA := Tryd.strconv_Atoi_range ⟨s.toArray⟩ (by rw [hsz]; exact hs) (by rw [hsl]; exact ha) ev w hv he
    rw [hsl] at hA
    refine hA.mono ?_
    rintro e w' ⟨N, rfl, _, _, hb⟩
    exact ⟨[.int .i64 (Lib.atoiSat s), _], (Lib.atoiSat s, .other), rfl, by unfold atoiF; rw [ha], ⟨_, _, rfl, VR.of_one rfl ⟨rfl, b0, b1⟩, ⟨_, rfl, VR.of_one rfl ⟨_, rfl, _, _, rfl, by decide +kernel⟩⟩⟩, .of hb⟩
  | _ =>
    obtain ⟨ev, hv, he⟩ := hG.syn
    refine (Tryd.strconv_Atoi_syntax ⟨s.toArray⟩ (by rw [hsz]; exact hs) (by rw [hsl]; exact ha) ev w hv he).mono ?_
    rintro e w' ⟨N, rfl, _, _, hb⟩
    exact ⟨[.int .i64 0, _], (0, .other), rfl, by unfold atoiF; rw [ha], ⟨_, _, rfl, VR.of_one rfl ⟨rfl, by decide, by decide⟩, ⟨_, rfl, VR.of_one rfl ⟨_, rfl, _, _, rfl, by decide +kernel⟩⟩⟩, .of hb⟩
theorem Tryd.ok_CutPrefix : PureOK Tryd.prog Tryd.B.eT Tryd.X 32 [.str, .str] [.str, .bool] (fun _ => True) (fun x y => y = (Lib.trimPrefix x.1 x.2, Lib.hasPrefix x.1 x.2)) := by
  refine ⟨⟨Tryd.f32, Tryd.func32, by kernel_rfl, by kernel_rfl⟩, fun O w x vs hG hO ha _ => ?_⟩
  obtain ⟨s, p⟩ := x
  obtain ⟨v, vs', rfl, hv, u, rfl, hu⟩ := ha
  obtain ⟨rfl, hl⟩ := one_str hv
  obtain ⟨rfl, _⟩ := one_str hu
  refine (Tryd.strings_CutPrefix ⟨s.toArray⟩ ⟨p.toArray⟩ w).mono ?_
  rintro e w' ⟨rfl, rfl⟩
  have hle : (Lib.trimPrefix s p).length ≤ s.length := by unfold Lib.trimPrefix; split <;> simp
  exact ⟨[.string ⟨(Lib.trimPrefix s p).toArray⟩, .bool (Lib.hasPrefix s p)], _, rfl, rfl, ⟨_, _, rfl, mk_str (Nat.le_trans hle hl), _, rfl, VR.of_one rfl rfl⟩, Vg.Below.refl _ _⟩
theorem Tryd.ok_TrimSuffix : PureOK Tryd.prog Tryd.B.eT Tryd.X 17 [.str, .str] [.str] (fun _ => True) (fun x y => y = Lib.trimSuffix x.1 x.2) := by
  refine ⟨⟨Tryd.f17, Tryd.func17, by kernel_rfl, by kernel_rfl⟩, fun O w x vs hG hO ha _ => ?_⟩
  obtain ⟨s, p⟩ := x
  obtain ⟨v, vs', rfl, hv, u, rfl, hu⟩ := ha
  obtain ⟨rfl, hl⟩ := one_str hv
  obtain ⟨rfl, _⟩ := one_str hu
  have hl : s.length ≤ big := hl
  have hsz : (⟨s.toArray⟩ : ByteArray).size = s.length := by simp [ByteArray.size]
  refine (Tryd.strings_TrimSuffix ⟨s.toArray⟩ ⟨p.toArray⟩ w (by rw [hsz]; exact hl)).mono ?_
  rintro e w' ⟨rfl, rfl⟩
  have hle : (Lib.trimSuffix s p).length ≤ s.length := by unfold Lib.trimSuffix; split <;> simp
  exact ⟨[.string ⟨(Lib.trimSuffix s p).toArray⟩], _, rfl, rfl, ⟨_, rfl, mk_str (Nat.le_trans hle hl)⟩, Vg.Below.refl _ _⟩
theorem Tryd.ok_Split : PureOK Tryd.prog Tryd.B.eT Tryd.X 16 [.str, .str] [.slice .str] (fun x => x.1.length < 4294967281 ∧ x.2.length = 1) (fun x y => y = parts (hd0 x.2) x.1) := by
  refine ⟨⟨Tryd.f16, Tryd.func16, by kernel_rfl, by kernel_rfl⟩, fun O w x vs hG hO ha hp => ?_⟩
  obtain ⟨s, p⟩ := x
  obtain ⟨hs, hp⟩ := hp
  obtain ⟨c, rfl⟩ : ∃ c, p = [c] := List.length_eq_one_iff.1 hp
  obtain ⟨v, vs', rfl, hv, u, rfl, hu⟩ := ha
  obtain ⟨rfl, hl⟩ := one_str hv
  obtain ⟨rfl, _⟩ := one_str hu
  obtain ⟨m, hm⟩ := hG.max
  have hsz : (⟨s.toArray⟩ : ByteArray).size = s.length := by simp [ByteArray.size]
  have h1 : 1 ≤ (⟨#[c]⟩ : ByteArray).size := Nat.le_refl 1
  refine (Tryd.strings_Split ⟨s.toArray⟩ ⟨#[c]⟩ m w (by rw [hsz]; exact hs) hm h1).mono ?_
  rintro e w' ⟨rfl, rfl⟩
  have hlen := Lib.splitB_all ⟨#[c]⟩ h1 0 _ ⟨s.toArray⟩ rfl
  have hdat := Lib.splitB_data ⟨#[c]⟩ 0 (Lib.countB ⟨s.toArray⟩ ⟨#[c]⟩) ⟨s.toArray⟩
  have hcb := Lib.countB_le ⟨#[c]⟩ h1 _ ⟨s.toArray⟩ (Nat.le_refl _)
  have hd : (Lib.splitB ⟨#[c]⟩ 0 (Lib.countB ⟨s.toArray⟩ ⟨#[c]⟩) ⟨s.toArray⟩).map (·.data.toList) = parts c s := by rw [hdat, ← splitK_parts, ← Lib.count_one]
  have hlf : (parts c s).length = Lib.countB ⟨s.toArray⟩ ⟨#[c]⟩ + 1 := by rw [← hd, List.length_map, hlen]
  refine ⟨[_], parts c s, rfl, rfl, ⟨_, rfl, VR.of_one rfl ⟨_, rfl, ?_, .inr ⟨w.heap.size, 0, Lib.countB ⟨s.toArray⟩ ⟨#[c]⟩ + 1, by rw [hlf], by rw [hlf]; exact Nat.le_refl _, fun i y hy => ?_⟩⟩⟩, (Vg.Below.refl _ w).alloc (Nat.le_refl _) _⟩
  · rw [hlf]; have hs : s.length < 4294967281 := hs; rw [hsz] at hcb; unfold big; omega
  · have hyl := parts_le c s y (List.mem_of_getElem? hy)
    refine ⟨[.string ⟨y.toArray⟩], ⟨rfl, Nat.le_trans hyl hl⟩, fun j u hj => ⟨?_, fun hh => ?_⟩⟩
    · have hj0 : j = 0 := by
        rcases j with _ | j
        · rfl
        · simp at hj
      subst hj0
      simp at hj
      subst hj
      rw [← hd, List.getElem?_map, Option.map_eq_some_iff] at hy
      obtain ⟨q, hq, rfl⟩ := hy
      have hh : (w.alloc (.cells ((Lib.splitB ⟨#[c]⟩ 0 (Lib.countB ⟨s.toArray⟩ ⟨#[c]⟩) ⟨s.toArray⟩).map Value.string).toArray 9)).heap[w.heap.size]? = some (.cells ((Lib.splitB ⟨#[c]⟩ 0 (Lib.countB ⟨s.toArray⟩ ⟨#[c]⟩) ⟨s.toArray⟩).map Value.string).toArray 9 (0, 0)) := heap_alloc_new w _
      rw [Lib.cell_of_heap hh]
      simp only [Ty.size, Nat.mul_one, Nat.zero_add, Nat.add_zero, List.getElem?_toArray, List.getElem?_map, hq, Option.map_some]
    · have := hO _ _ hh
      simp at this
end Go.Proofs.YtgokjhhcfemnhacDoor

namespace Go.Proofs.YtgokjhhcfemnhacDoor
open Go.Vg Go.Mrl
@[reducible] def Tryd.badObs : List Ob := [.box 4 [.d .bool]]
@[reducible] def Tryd.lineObs : List Ob := [.box 27 [.obj 1, .obj 2, .obj 3, .obj 4], .tok .str, .tok (.int .i64), .tok tSymbol, .tok tTie, .box 4 [.d .bool]]
def Tryd.numberAlts : List (Alt Tryd.badObs [.d .str, .obj 0]) := [{ obs' := Tryd.badObs, res := [.d (.int .i64)], out := fun a x => ((x.1.1 || (numA a.1).isNone, ()), ()), ret := fun a _ => ((atoiF a.1).1, ()) }]
noncomputable def Tryd.numberCtx : List (FuncId × (Bool × CSpec)) := [(20, (true, funSpec [.int .i64] [.str] (fun _ => True) (fun n => Lib.itoa n))),
  (45, (true, funSpec [.str] [.int .i64, .err] (fun s => s.length ≤ 281474976710656) (fun s => atoiF s))),
  (32, (true, funSpec [.str, .str] [.str, .bool] (fun _ => True) (fun x => (Lib.trimPrefix x.1 x.2, Lib.hasPrefix x.1 x.2)))),
  (17, (true, funSpec [.str, .str] [.str] (fun _ => True) (fun x => Lib.trimSuffix x.1 x.2))),
  (16, (true, funSpec [.str, .str] [.slice .str] (fun x => x.1.length < 4294967281 ∧ x.2.length = 1) (fun x => parts (hd0 x.2) x.1)))]
theorem Tryd.numberCtxOK : CtxOK Tryd.prog Tryd.B Tryd.X Tryd.numberCtx :=
  ctx1 (callOK_of_fun Tryd.ok_ItoaS) (ctx1 (callOK_of_fun Tryd.ok_AtoiS) (ctx1 (callOK_of_fun Tryd.ok_CutPrefix) (ctx1 (callOK_of_fun Tryd.ok_TrimSuffix) (ctx1 (callOK_of_fun Tryd.ok_Split) (ctx0 Tryd.tyOK)))))
set_option maxRecDepth 100000 in
set_option maxHeartbeats 4000000 in
theorem vc_NumberO (s : List UInt8) (b : Bool) (hw : wfC [.d .str, .obj 0] (s, ())) (hp : (fun a _ => a.1.length ≤ 1000000) (s, ()) ((b, ()), ())) : (objVCs Tryd.B Tryd.numberCtx Tryd.f33 [] Tryd.badObs [.d .str, .obj 0] Tryd.numberAlts (s, ()) ((b, ()), ())).holds := by
  refine holds_of (p :=
    (List.length s ≤ (281474976710656 : Nat)) ∧ (((b) = true → (True ∧ ((true, ()), ()) = ((b || Option.isNone (numA s), ()), ()) ∧ ((atoiF s).1, ()) = ((atoiF s).1, ()))) ∧ ((b) = false → (((!Err.isNil (atoiF s).2) = true → (True ∧ ((true, ()), ()) = ((b || Option.isNone (numA s), ()), ()) ∧ ((atoiF s).1, ()) = ((atoiF s).1, ()))) ∧ ((!Err.isNil (atoiF s).2) = false → (True) ∧
    (True ∧ ((!Lib.itoa (atoiF s).1 == s, ()), ()) = ((b || Option.isNone (numA s), ()), ()) ∧ ((atoiF s).1, ()) = ((atoiF s).1, ()))))))) (by kernel_rfl) ?_
  try dsimp only at hp
  refine ⟨?_, ?_⟩
  · first | trivial | omega | (dsimp only [D] at *; omega) | (simp only [I64, big] at *; omega) | (simp_all; done)
  refine ⟨fun h0 => ?_, fun h0 => ?_⟩
  · try simp only [bl, reduceCtorEq] at h0
    first | trivial | omega | (dsimp only [D] at *; omega) | (simp only [I64, big] at *; omega) | (simp_all; done)
  · try simp only [bl, reduceCtorEq] at h0
    refine ⟨fun h1 => ?_, fun h1 => ?_⟩
    · try simp only [bl, reduceCtorEq] at h1
      exact ⟨trivial, by rw [numA_none, h1]; simp, rfl⟩
    · try simp only [bl, reduceCtorEq] at h1
      refine ⟨trivial, ?_⟩
      exact ⟨trivial, by rw [numA_none, h1]; cases b <;> simp_all <;> (rw [Bool.eq_iff_iff]; simp), rfl⟩
theorem Tryd.ok_NumberO : CallOK Tryd.prog Tryd.B.eT Tryd.X 33 false (objSpec Tryd.badObs [.d .str, .obj 0] (fun a _ => a.1.length ≤ 1000000) Tryd.numberAlts) :=
  callOK_of_obj (X := Tryd.X) Tryd.numberCtxOK Tryd.func33 (by kernel_rfl) (fun (a : CD [.d .str, .obj 0]) (x : PD Tryd.badObs) => []) (fun (a : CD [.d .str, .obj 0]) (x : PD Tryd.badObs) hw hp => vc_NumberO a.1 x.1.1 hw hp)
def Tryd.lineAlts : List (Alt Tryd.lineObs [.obj 0, .d .str, .obj 5]) := [{ obs' := Tryd.lineObs, res := [], out := fun a x => pdL (lineF (objP x) x.2.2.2.2.2.1.1 a.1), ret := fun _ _ => () }]
end Go.Proofs.YtgokjhhcfemnhacDoor

namespace Go.Proofs.YtgokjhhcfemnhacDoor
open Go.Vg Go.Mrl
noncomputable def Tryd.lineCtx : List (FuncId × (Bool × CSpec)) := [(20, (true, funSpec [.int .i64] [.str] (fun _ => True) (fun n => Lib.itoa n))),
  (45, (true, funSpec [.str] [.int .i64, .err] (fun s => s.length ≤ 281474976710656) (fun s => atoiF s))),
  (32, (true, funSpec [.str, .str] [.str, .bool] (fun _ => True) (fun x => (Lib.trimPrefix x.1 x.2, Lib.hasPrefix x.1 x.2)))),
  (17, (true, funSpec [.str, .str] [.str] (fun _ => True) (fun x => Lib.trimSuffix x.1 x.2))),
  (16, (true, funSpec [.str, .str] [.slice .str] (fun x => x.1.length < 4294967281 ∧ x.2.length = 1) (fun x => parts (hd0 x.2) x.1))),
  (33, (false, objSpec Tryd.badObs [.d .str, .obj 0] (fun a _ => a.1.length ≤ 1000000) Tryd.numberAlts))]
theorem Tryd.lineCtxOK : CtxOK Tryd.prog Tryd.B Tryd.X Tryd.lineCtx :=
  ctx1 (callOK_of_fun Tryd.ok_ItoaS) (ctx1 (callOK_of_fun Tryd.ok_AtoiS) (ctx1 (callOK_of_fun Tryd.ok_CutPrefix) (ctx1 (callOK_of_fun Tryd.ok_TrimSuffix) (ctx1 (callOK_of_fun Tryd.ok_Split) (ctx1 (Tryd.ok_NumberO) (ctx0 Tryd.tyOK))))))
def lineAnn (s : List UInt8) (_ : List (List UInt8)) (_ : List Int) (_ : List (D tSymbol)) (_ : List (D tTie)) (_ : Bool) : Anns := [
  (300001, fun st => { X := List (List UInt8), inv := fun w => w = parts 32 (Lib.trimPrefix s wWeakB), meas := fun _ => 0, slots := fun w => [(7, sD (.slice .str) w)], keep := [0, 2, 6] }),
  (300003, fun st => { X := Bool, inv := fun c => c = true ↔ (nth .str (tmpD (.slice .str) st 7) 0 = wNeed ∧ List.length (tmpD (.slice .str) st 7) = 2), meas := fun _ => 0, slots := fun c => [(18, sB c)], keep := [0, 2, 6, 7] }),
  (300005, fun st => { X := Bool, inv := fun c => c = true ↔ (nth .str (tmpD (.slice .str) st 7) 0 = wWord ∧ List.length (tmpD (.slice .str) st 7) = 2), meas := fun _ => 0, slots := fun c => [(40, sB c)], keep := [0, 2, 6, 7] }),
  (300007, fun st => { X := Bool, inv := fun c => c = true ↔ (nth .str (tmpD (.slice .str) st 7) 0 = wSymbol ∧ List.length (tmpD (.slice .str) st 7) = 3), meas := fun _ => 0, slots := fun c => [(64, sB c)], keep := [0, 2, 6, 7] }),
  (300009, fun st => { X := Bool, inv := fun c => c = true ↔ (nth .str (tmpD (.slice .str) st 7) 0 = wBase ∧ List.length (tmpD (.slice .str) st 7) = 3), meas := fun _ => 0, slots := fun c => [(93, sB c)], keep := [0, 2, 6, 7] }),
  (300011, fun st => { X := Bool, inv := fun c => c = true ↔ ((nth .str (tmpD (.slice .str) st 7) 0 = wWhole ∨ nth .str (tmpD (.slice .str) st 7) 0 = wNear) ∧ List.length (tmpD (.slice .str) st 7) = 4), meas := fun _ => 0, slots := fun c => [(123, sB c)], keep := [0, 2, 6, 7] })]
set_option maxRecDepth 100000 in
set_option maxHeartbeats 4000000 in
theorem vc_LineO (s : List UInt8) (n : List (List UInt8)) (w : List Int) (y : List (D tSymbol)) (t : List (D tTie)) (b : Bool) (hw : wfC [.obj 0, .d .str, .obj 5] (s, ())) (hp : (fun a x => a.1.length ≤ 1000000 ∧ x.2.1.length ≤ 1000000 ∧ x.2.2.1.length ≤ 1000000 ∧ x.2.2.2.1.length ≤ 1000000 ∧ x.2.2.2.2.1.length ≤ 1000000) (s, ()) ((), n, w, y, t, (b, ()), ())) : (objVCs Tryd.B Tryd.lineCtx Tryd.f18 (lineAnn s n w y t b) Tryd.lineObs [.obj 0, .d .str, .obj 5] Tryd.lineAlts (s, ()) ((), n, w, y, t, (b, ()), ())).holds := by
  refine holds_of (p :=
    (True) ∧
    (((List.length (Lib.trimPrefix s [(119 : UInt8), 101, 97, 107, 32]) < (4294967281 : Nat) ∧ List.length [(32 : UInt8)] = (1 : Nat)) ∧
    (∃ (x' : List (List UInt8)), x' = parts (32 : UInt8) (Lib.trimPrefix s wWeakB) ∧ (parts (32 : UInt8) (Lib.trimPrefix s [(119 : UInt8), 101, 97, 107, 32]) = x' ∧ True) ∧ (n = n ∧ w = w ∧ y = y ∧ t = t ∧ True) ∧ n = n ∧ w = w ∧ y = y ∧ t = t ∧ (b = b ∧ True) ∧ True)) ∧ ((∀ x_0 : List (List UInt8), ((x_0 = parts (32 : UInt8) (Lib.trimPrefix s wWeakB)) → ((((0 : Int) ≤ (0 : Int) ∧ (0 : Int) < (↑(List.length x_0) : Int)) ∧ (((nth Ty.str x_0 (0 : Nat) == [(110 : UInt8), 101, 101, 100]) = true → ((List.length x_0 ≤ big) →
    (∃ (x' : Bool), (x' = true ↔ nth Ty.str x_0 (0 : Nat) = wNeed ∧ List.length x_0 = (2 : Nat)) ∧ (((↑(List.length x_0) : Int) == (2 : Int)) = x' ∧ True) ∧ (n = n ∧ w = w ∧ y = y ∧ t = t ∧ True) ∧ n = n ∧ w = w ∧ y = y ∧ t = t ∧ (b = b ∧ True) ∧ True))) ∧ ((nth Ty.str x_0 (0 : Nat) == [(110 : UInt8), 101, 101, 100]) = false →
    (∃ (x' : Bool), (x' = true ↔ nth Ty.str x_0 (0 : Nat) = wNeed ∧ List.length x_0 = (2 : Nat)) ∧ (false = x' ∧ True) ∧ (n = n ∧ w = w ∧ y = y ∧ t = t ∧ True) ∧ n = n ∧ w = w ∧ y = y ∧ t = t ∧ (b = b ∧ True) ∧ True)))) ∧ ((∀ x_1 : Bool, ((x_1 = true ↔ nth Ty.str x_0 (0 : Nat) = wNeed ∧ List.length x_0 = (2 : Nat)) → (((x_1) = true → ((0 : Int) ≤ (1 : Int) ∧ (1 : Int) < (↑(List.length x_0) : Int)) ∧ (n = n ∧ List.length n + List.length [nth Ty.str x_0 (1 : Nat)] ≤ (1000000000 : Nat)) ∧
    (n ++ [nth Ty.str x_0 (1 : Nat)] = n ++ [nth Ty.str x_0 (1 : Nat)] ∧ w = w ∧ y = y ∧ t = t ∧ True ∧ ((), n ++ [nth Ty.str x_0 (1 : Nat)], w, y, t, (b, ()), ()) = pdL (lineF (objP ((), n, w, y, t, (b, ()), ())) b s) ∧ () = ())) ∧ ((x_1) = false → ((((0 : Int) ≤ (0 : Int) ∧ (0 : Int) < (↑(List.length x_0) : Int)) ∧ (((nth Ty.str x_0 (0 : Nat) == [(119 : UInt8), 111, 114, 100]) = true → ((List.length x_0 ≤ big) →
    (∃ (x' : Bool), (x' = true ↔ nth Ty.str x_0 (0 : Nat) = wWord ∧ List.length x_0 = (2 : Nat)) ∧ (((↑(List.length x_0) : Int) == (2 : Int)) = x' ∧ True) ∧ (n = n ∧ w = w ∧ y = y ∧ t = t ∧ True) ∧ n = n ∧ w = w ∧ y = y ∧ t = t ∧ (b = b ∧ True) ∧ True))) ∧ ((nth Ty.str x_0 (0 : Nat) == [(119 : UInt8), 111, 114, 100]) = false →
    (∃ (x' : Bool), (x' = true ↔ nth Ty.str x_0 (0 : Nat) = wWord ∧ List.length x_0 = (2 : Nat)) ∧ (false = x' ∧ True) ∧ (n = n ∧ w = w ∧ y = y ∧ t = t ∧ True) ∧ n = n ∧ w = w ∧ y = y ∧ t = t ∧ (b = b ∧ True) ∧ True)))) ∧ ((∀ x_2 : Bool, ((x_2 = true ↔ nth Ty.str x_0 (0 : Nat) = wWord ∧ List.length x_0 = (2 : Nat)) → (((x_2) = true → ((0 : Int) ≤ (1 : Int) ∧ (1 : Int) < (↑(List.length x_0) : Int)) ∧ ((fun a0 : Prop => a0 ∧ a0) ((List.length (nth Ty.str x_0 (1 : Nat)) ≤ (1000000 : Nat)) ∧ ((True) → (w = w ∧ List.length w + List.length [(atoiF (nth Ty.str x_0 (1 : Nat))).1] ≤ (1000000000 : Nat)) ∧
    (n = n ∧ w ++ [(atoiF (nth Ty.str x_0 (1 : Nat))).1] = w ++ [(atoiF (nth Ty.str x_0 (1 : Nat))).1] ∧ y = y ∧ t = t ∧ True ∧ ((), n, w ++ [(atoiF (nth Ty.str x_0 (1 : Nat))).1], y, t, (b || Option.isNone (numA (nth Ty.str x_0 (1 : Nat))), ()), ()) = pdL (lineF (objP ((), n, w, y, t, (b, ()), ())) b s) ∧ () = ()))))) ∧ ((x_2) = false → ((((0 : Int) ≤ (0 : Int) ∧ (0 : Int) < (↑(List.length x_0) : Int)) ∧ (((nth Ty.str x_0 (0 : Nat) == [(115 : UInt8), 121, 109, 98, 111, 108]) = true → ((List.length x_0 ≤ big) →
    (∃ (x' : Bool), (x' = true ↔ nth Ty.str x_0 (0 : Nat) = wSymbol ∧ List.length x_0 = (3 : Nat)) ∧ (((↑(List.length x_0) : Int) == (3 : Int)) = x' ∧ True) ∧ (n = n ∧ w = w ∧ y = y ∧ t = t ∧ True) ∧ n = n ∧ w = w ∧ y = y ∧ t = t ∧ (b = b ∧ True) ∧ True))) ∧ ((nth Ty.str x_0 (0 : Nat) == [(115 : UInt8), 121, 109, 98, 111, 108]) = false →
    (∃ (x' : Bool), (x' = true ↔ nth Ty.str x_0 (0 : Nat) = wSymbol ∧ List.length x_0 = (3 : Nat)) ∧ (false = x' ∧ True) ∧ (n = n ∧ w = w ∧ y = y ∧ t = t ∧ True) ∧ n = n ∧ w = w ∧ y = y ∧ t = t ∧ (b = b ∧ True) ∧ True)))) ∧ ((∀ x_3 : Bool, ((x_3 = true ↔ nth Ty.str x_0 (0 : Nat) = wSymbol ∧ List.length x_0 = (3 : Nat)) → (((x_3) = true → ((0 : Int) ≤ (1 : Int) ∧ (1 : Int) < (↑(List.length x_0) : Int)) ∧ ((0 : Int) ≤ (2 : Int) ∧ (2 : Int) < (↑(List.length x_0) : Int)) ∧ ((fun a0 : Prop => a0 ∧ a0) ((List.length (nth Ty.str x_0 (2 : Nat)) ≤ (1000000 : Nat)) ∧ ((True) →
    (y = y ∧ List.length y + List.length [(nth Ty.str x_0 (1 : Nat), (atoiF (nth Ty.str x_0 (2 : Nat))).1, Lib.hasPrefix s [(119 : UInt8), 101, 97, 107, 32], ())] ≤ (1000000000 : Nat)) ∧
    (n = n ∧ w = w ∧ y ++ [(nth Ty.str x_0 (1 : Nat), (atoiF (nth Ty.str x_0 (2 : Nat))).1, Lib.hasPrefix s [(119 : UInt8), 101, 97, 107, 32], ())] = y ++ [(nth Ty.str x_0 (1 : Nat), (atoiF (nth Ty.str x_0 (2 : Nat))).1, Lib.hasPrefix s [(119 : UInt8), 101, 97, 107, 32], ())] ∧ t = t ∧ True ∧ ((), n, w, y ++ [(nth Ty.str x_0 (1 : Nat), (atoiF (nth Ty.str x_0 (2 : Nat))).1, Lib.hasPrefix s [(119 : UInt8), 101, 97, 107, 32], ())], t, (b || Option.isNone (numA (nth Ty.str x_0 (2 : Nat))), ()), ()) = pdL (lineF (objP ((), n, w, y, t, (b, ()), ())) b s) ∧ () = ()))))) ∧ ((x_3) = false → ((((0 : Int) ≤ (0 : Int) ∧ (0 : Int) < (↑(List.length x_0) : Int)) ∧ (((nth Ty.str x_0 (0 : Nat) == [(98 : UInt8), 97, 115, 101]) = true → ((List.length x_0 ≤ big) →
    (∃ (x' : Bool), (x' = true ↔ nth Ty.str x_0 (0 : Nat) = wBase ∧ List.length x_0 = (3 : Nat)) ∧ (((↑(List.length x_0) : Int) == (3 : Int)) = x' ∧ True) ∧ (n = n ∧ w = w ∧ y = y ∧ t = t ∧ True) ∧ n = n ∧ w = w ∧ y = y ∧ t = t ∧ (b = b ∧ True) ∧ True))) ∧ ((nth Ty.str x_0 (0 : Nat) == [(98 : UInt8), 97, 115, 101]) = false →
    (∃ (x' : Bool), (x' = true ↔ nth Ty.str x_0 (0 : Nat) = wBase ∧ List.length x_0 = (3 : Nat)) ∧ (false = x' ∧ True) ∧ (n = n ∧ w = w ∧ y = y ∧ t = t ∧ True) ∧ n = n ∧ w = w ∧ y = y ∧ t = t ∧ (b = b ∧ True) ∧ True)))) ∧ ((∀ x_4 : Bool, ((x_4 = true ↔ nth Ty.str x_0 (0 : Nat) = wBase ∧ List.length x_0 = (3 : Nat)) → (((x_4) = true → ((0 : Int) ≤ (1 : Int) ∧ (1 : Int) < (↑(List.length x_0) : Int)) ∧ ((0 : Int) ≤ (2 : Int) ∧ (2 : Int) < (↑(List.length x_0) : Int)) ∧ (((List.length (nth Ty.str x_0 (1 : Nat)) ≤ (1000000 : Nat)) ∧ ((True) → (List.length (nth Ty.str x_0 (2 : Nat)) ≤ (1000000 : Nat)) ∧ ((True) →
    (t = t ∧ List.length t + List.length [((atoiF (nth Ty.str x_0 (1 : Nat))).1, (1 : Int), (atoiF (nth Ty.str x_0 (2 : Nat))).1, @List.nil UInt8, false, ())] ≤ (1000000000 : Nat)) ∧
    (n = n ∧ w = w ∧ y = y ∧ t ++ [((atoiF (nth Ty.str x_0 (1 : Nat))).1, (1 : Int), (atoiF (nth Ty.str x_0 (2 : Nat))).1, @List.nil UInt8, false, ())] = t ++ [((atoiF (nth Ty.str x_0 (1 : Nat))).1, (1 : Int), (atoiF (nth Ty.str x_0 (2 : Nat))).1, @List.nil UInt8, false, ())] ∧ True ∧ ((), n, w, y, t ++ [((atoiF (nth Ty.str x_0 (1 : Nat))).1, (1 : Int), (atoiF (nth Ty.str x_0 (2 : Nat))).1, @List.nil UInt8, false, ())], (b || Option.isNone (numA (nth Ty.str x_0 (1 : Nat))) || Option.isNone (numA (nth Ty.str x_0 (2 : Nat))), ()), ()) = pdL (lineF (objP ((), n, w, y, t, (b, ()), ())) b s) ∧ () = ())))) ∧ ((List.length (nth Ty.str x_0 (1 : Nat)) ≤ (1000000 : Nat)) ∧ ((True) → ((fun a0 : Prop => a0 ∧ a0) ((List.length (nth Ty.str x_0 (2 : Nat)) ≤ (1000000 : Nat)) ∧ ((True) →
    (t = t ∧ List.length t + List.length [((atoiF (nth Ty.str x_0 (1 : Nat))).1, (1 : Int), (atoiF (nth Ty.str x_0 (2 : Nat))).1, @List.nil UInt8, false, ())] ≤ (1000000000 : Nat)) ∧
    (n = n ∧ w = w ∧ y = y ∧ t ++ [((atoiF (nth Ty.str x_0 (1 : Nat))).1, (1 : Int), (atoiF (nth Ty.str x_0 (2 : Nat))).1, @List.nil UInt8, false, ())] = t ++ [((atoiF (nth Ty.str x_0 (1 : Nat))).1, (1 : Int), (atoiF (nth Ty.str x_0 (2 : Nat))).1, @List.nil UInt8, false, ())] ∧ True ∧ ((), n, w, y, t ++ [((atoiF (nth Ty.str x_0 (1 : Nat))).1, (1 : Int), (atoiF (nth Ty.str x_0 (2 : Nat))).1, @List.nil UInt8, false, ())], (b || Option.isNone (numA (nth Ty.str x_0 (1 : Nat))) || Option.isNone (numA (nth Ty.str x_0 (2 : Nat))), ()), ()) = pdL (lineF (objP ((), n, w, y, t, (b, ()), ())) b s) ∧ () = ())))))))) ∧ ((x_4) = false → ((((0 : Int) ≤ (0 : Int) ∧ (0 : Int) < (↑(List.length x_0) : Int)) ∧ (((nth Ty.str x_0 (0 : Nat) == [(119 : UInt8), 104, 111, 108, 101]) = true → ((List.length x_0 ≤ big) →
    (∃ (x' : Bool), (x' = true ↔ (nth Ty.str x_0 (0 : Nat) = wWhole ∨ nth Ty.str x_0 (0 : Nat) = wNear) ∧ List.length x_0 = (4 : Nat)) ∧ (((↑(List.length x_0) : Int) == (4 : Int)) = x' ∧ True) ∧ (n = n ∧ w = w ∧ y = y ∧ t = t ∧ True) ∧ n = n ∧ w = w ∧ y = y ∧ t = t ∧ (b = b ∧ True) ∧ True))) ∧ ((nth Ty.str x_0 (0 : Nat) == [(119 : UInt8), 104, 111, 108, 101]) = false → ((0 : Int) ≤ (0 : Int) ∧ (0 : Int) < (↑(List.length x_0) : Int)) ∧ (((nth Ty.str x_0 (0 : Nat) == [(110 : UInt8), 101, 97, 114]) = true → ((List.length x_0 ≤ big) →
    (∃ (x' : Bool), (x' = true ↔ (nth Ty.str x_0 (0 : Nat) = wWhole ∨ nth Ty.str x_0 (0 : Nat) = wNear) ∧ List.length x_0 = (4 : Nat)) ∧ (((↑(List.length x_0) : Int) == (4 : Int)) = x' ∧ True) ∧ (n = n ∧ w = w ∧ y = y ∧ t = t ∧ True) ∧ n = n ∧ w = w ∧ y = y ∧ t = t ∧ (b = b ∧ True) ∧ True))) ∧ ((nth Ty.str x_0 (0 : Nat) == [(110 : UInt8), 101, 97, 114]) = false →
    (∃ (x' : Bool), (x' = true ↔ (nth Ty.str x_0 (0 : Nat) = wWhole ∨ nth Ty.str x_0 (0 : Nat) = wNear) ∧ List.length x_0 = (4 : Nat)) ∧ (false = x' ∧ True) ∧ (n = n ∧ w = w ∧ y = y ∧ t = t ∧ True) ∧ n = n ∧ w = w ∧ y = y ∧ t = t ∧ (b = b ∧ True) ∧ True)))))) ∧ ((∀ x_5 : Bool, ((x_5 = true ↔ (nth Ty.str x_0 (0 : Nat) = wWhole ∨ nth Ty.str x_0 (0 : Nat) = wNear) ∧ List.length x_0 = (4 : Nat)) → (((x_5) = true → ((0 : Int) ≤ (0 : Int) ∧ (0 : Int) < (↑(List.length x_0) : Int)) ∧ (((nth Ty.str x_0 (0 : Nat) == [(110 : UInt8), 101, 97, 114]) = true → ((0 : Int) ≤ (1 : Int) ∧ (1 : Int) < (↑(List.length x_0) : Int)) ∧ ((0 : Int) ≤ (2 : Int) ∧ (2 : Int) < (↑(List.length x_0) : Int)) ∧ ((0 : Int) ≤ (3 : Int) ∧ (3 : Int) < (↑(List.length x_0) : Int)) ∧ (((List.length (nth Ty.str x_0 (1 : Nat)) ≤ (1000000 : Nat)) ∧ ((True) → (List.length (nth Ty.str x_0 (2 : Nat)) ≤ (1000000 : Nat)) ∧ ((True) →
    (t = t ∧ List.length t + List.length [((atoiF (nth Ty.str x_0 (1 : Nat))).1, (3 : Int), (atoiF (nth Ty.str x_0 (2 : Nat))).1, nth Ty.str x_0 (3 : Nat), Lib.hasPrefix s [(119 : UInt8), 101, 97, 107, 32], ())] ≤ (1000000000 : Nat)) ∧
    (n = n ∧ w = w ∧ y = y ∧ t ++ [((atoiF (nth Ty.str x_0 (1 : Nat))).1, (3 : Int), (atoiF (nth Ty.str x_0 (2 : Nat))).1, nth Ty.str x_0 (3 : Nat), Lib.hasPrefix s [(119 : UInt8), 101, 97, 107, 32], ())] = t ++ [((atoiF (nth Ty.str x_0 (1 : Nat))).1, (3 : Int), (atoiF (nth Ty.str x_0 (2 : Nat))).1, nth Ty.str x_0 (3 : Nat), Lib.hasPrefix s [(119 : UInt8), 101, 97, 107, 32], ())] ∧ True ∧ ((), n, w, y, t ++ [((atoiF (nth Ty.str x_0 (1 : Nat))).1, (3 : Int), (atoiF (nth Ty.str x_0 (2 : Nat))).1, nth Ty.str x_0 (3 : Nat), Lib.hasPrefix s [(119 : UInt8), 101, 97, 107, 32], ())], (b || Option.isNone (numA (nth Ty.str x_0 (1 : Nat))) || Option.isNone (numA (nth Ty.str x_0 (2 : Nat))), ()), ()) = pdL (lineF (objP ((), n, w, y, t, (b, ()), ())) b s) ∧ () = ())))) ∧ ((List.length (nth Ty.str x_0 (1 : Nat)) ≤ (1000000 : Nat)) ∧ ((True) → ((fun a0 : Prop => a0 ∧ a0) ((List.length (nth Ty.str x_0 (2 : Nat)) ≤ (1000000 : Nat)) ∧ ((True) →
    (t = t ∧ List.length t + List.length [((atoiF (nth Ty.str x_0 (1 : Nat))).1, (3 : Int), (atoiF (nth Ty.str x_0 (2 : Nat))).1, nth Ty.str x_0 (3 : Nat), Lib.hasPrefix s [(119 : UInt8), 101, 97, 107, 32], ())] ≤ (1000000000 : Nat)) ∧
    (n = n ∧ w = w ∧ y = y ∧ t ++ [((atoiF (nth Ty.str x_0 (1 : Nat))).1, (3 : Int), (atoiF (nth Ty.str x_0 (2 : Nat))).1, nth Ty.str x_0 (3 : Nat), Lib.hasPrefix s [(119 : UInt8), 101, 97, 107, 32], ())] = t ++ [((atoiF (nth Ty.str x_0 (1 : Nat))).1, (3 : Int), (atoiF (nth Ty.str x_0 (2 : Nat))).1, nth Ty.str x_0 (3 : Nat), Lib.hasPrefix s [(119 : UInt8), 101, 97, 107, 32], ())] ∧ True ∧ ((), n, w, y, t ++ [((atoiF (nth Ty.str x_0 (1 : Nat))).1, (3 : Int), (atoiF (nth Ty.str x_0 (2 : Nat))).1, nth Ty.str x_0 (3 : Nat), Lib.hasPrefix s [(119 : UInt8), 101, 97, 107, 32], ())], (b || Option.isNone (numA (nth Ty.str x_0 (1 : Nat))) || Option.isNone (numA (nth Ty.str x_0 (2 : Nat))), ()), ()) = pdL (lineF (objP ((), n, w, y, t, (b, ()), ())) b s) ∧ () = ())))))))) ∧ ((nth Ty.str x_0 (0 : Nat) == [(110 : UInt8), 101, 97, 114]) = false → ((0 : Int) ≤ (1 : Int) ∧ (1 : Int) < (↑(List.length x_0) : Int)) ∧ ((0 : Int) ≤ (2 : Int) ∧ (2 : Int) < (↑(List.length x_0) : Int)) ∧ ((0 : Int) ≤ (3 : Int) ∧ (3 : Int) < (↑(List.length x_0) : Int)) ∧ (((List.length (nth Ty.str x_0 (1 : Nat)) ≤ (1000000 : Nat)) ∧ ((True) → (List.length (nth Ty.str x_0 (2 : Nat)) ≤ (1000000 : Nat)) ∧ ((True) →
    (t = t ∧ List.length t + List.length [((atoiF (nth Ty.str x_0 (1 : Nat))).1, (2 : Int), (atoiF (nth Ty.str x_0 (2 : Nat))).1, nth Ty.str x_0 (3 : Nat), Lib.hasPrefix s [(119 : UInt8), 101, 97, 107, 32], ())] ≤ (1000000000 : Nat)) ∧
    (n = n ∧ w = w ∧ y = y ∧ t ++ [((atoiF (nth Ty.str x_0 (1 : Nat))).1, (2 : Int), (atoiF (nth Ty.str x_0 (2 : Nat))).1, nth Ty.str x_0 (3 : Nat), Lib.hasPrefix s [(119 : UInt8), 101, 97, 107, 32], ())] = t ++ [((atoiF (nth Ty.str x_0 (1 : Nat))).1, (2 : Int), (atoiF (nth Ty.str x_0 (2 : Nat))).1, nth Ty.str x_0 (3 : Nat), Lib.hasPrefix s [(119 : UInt8), 101, 97, 107, 32], ())] ∧ True ∧ ((), n, w, y, t ++ [((atoiF (nth Ty.str x_0 (1 : Nat))).1, (2 : Int), (atoiF (nth Ty.str x_0 (2 : Nat))).1, nth Ty.str x_0 (3 : Nat), Lib.hasPrefix s [(119 : UInt8), 101, 97, 107, 32], ())], (b || Option.isNone (numA (nth Ty.str x_0 (1 : Nat))) || Option.isNone (numA (nth Ty.str x_0 (2 : Nat))), ()), ()) = pdL (lineF (objP ((), n, w, y, t, (b, ()), ())) b s) ∧ () = ())))) ∧ ((List.length (nth Ty.str x_0 (1 : Nat)) ≤ (1000000 : Nat)) ∧ ((True) → ((fun a0 : Prop => a0 ∧ a0) ((List.length (nth Ty.str x_0 (2 : Nat)) ≤ (1000000 : Nat)) ∧ ((True) →
    (t = t ∧ List.length t + List.length [((atoiF (nth Ty.str x_0 (1 : Nat))).1, (2 : Int), (atoiF (nth Ty.str x_0 (2 : Nat))).1, nth Ty.str x_0 (3 : Nat), Lib.hasPrefix s [(119 : UInt8), 101, 97, 107, 32], ())] ≤ (1000000000 : Nat)) ∧
    (n = n ∧ w = w ∧ y = y ∧ t ++ [((atoiF (nth Ty.str x_0 (1 : Nat))).1, (2 : Int), (atoiF (nth Ty.str x_0 (2 : Nat))).1, nth Ty.str x_0 (3 : Nat), Lib.hasPrefix s [(119 : UInt8), 101, 97, 107, 32], ())] = t ++ [((atoiF (nth Ty.str x_0 (1 : Nat))).1, (2 : Int), (atoiF (nth Ty.str x_0 (2 : Nat))).1, nth Ty.str x_0 (3 : Nat), Lib.hasPrefix s [(119 : UInt8), 101, 97, 107, 32], ())] ∧ True ∧ ((), n, w, y, t ++ [((atoiF (nth Ty.str x_0 (1 : Nat))).1, (2 : Int), (atoiF (nth Ty.str x_0 (2 : Nat))).1, nth Ty.str x_0 (3 : Nat), Lib.hasPrefix s [(119 : UInt8), 101, 97, 107, 32], ())], (b || Option.isNone (numA (nth Ty.str x_0 (1 : Nat))) || Option.isNone (numA (nth Ty.str x_0 (2 : Nat))), ()), ()) = pdL (lineF (objP ((), n, w, y, t, (b, ()), ())) b s) ∧ () = ())))))))))) ∧ ((x_5) = false →
    (n = n ∧ w = w ∧ y = y ∧ t = t ∧ True ∧ ((), n, w, y, t, (true, ()), ()) = pdL (lineF (objP ((), n, w, y, t, (b, ()), ())) b s) ∧ () = ())))))))))))))))))))))))))))))))))))) (by kernel_rfl) ?_
  try dsimp only at hp
  refine ⟨trivial, ?_⟩
  refine ⟨?_, ?_⟩
  ·
    refine ⟨?_, ?_⟩
    · have := trim_len s [119, 101, 97, 107, 32]; exact ⟨by omega, rfl⟩
    exact ⟨_, rfl, ⟨rfl, trivial⟩, (by trivial)⟩
  ·
    intro x_0 q_0
    refine ⟨?_, ?_⟩
    ·
      refine ⟨?_, ?_⟩
      · have := line_pos q_0; omega
      refine ⟨fun h0 => ?_, fun h0 => ?_⟩
      · simp only [bl, reduceCtorEq] at h0
        intro h1
        exact ⟨_, by (simp_all <;> omega), ⟨rfl, trivial⟩, (by trivial)⟩
      · simp only [bl, reduceCtorEq] at h0
        exact ⟨_, by (simp_all <;> omega), ⟨rfl, trivial⟩, (by trivial)⟩
    ·
      intro x_1 q_1
      refine ⟨fun h0 => ?_, fun h0 => ?_⟩
      · refine ⟨?_, ?_⟩
        · simp_all; done
        refine ⟨?_, ?_⟩
        · exact ⟨rfl, by simp only [List.length_singleton]; omega⟩
        refine ⟨rfl, rfl, rfl, rfl, trivial, ?_, rfl⟩
        rw [lineF_need q_0 (q_1.1 (by assumption))]; rfl
      · refine ⟨?_, ?_⟩
        ·
          refine ⟨?_, ?_⟩
          · have := line_pos q_0; omega
          refine ⟨fun h1 => ?_, fun h1 => ?_⟩
          · simp only [bl, reduceCtorEq] at h1
            intro h2
            exact ⟨_, by (simp_all <;> omega), ⟨rfl, trivial⟩, (by trivial)⟩
          · simp only [bl, reduceCtorEq] at h1
            exact ⟨_, by (simp_all <;> omega), ⟨rfl, trivial⟩, (by trivial)⟩
        ·
          intro x_2 q_2
          refine ⟨fun h1 => ?_, fun h1 => ?_⟩
          · refine ⟨?_, ?_⟩
            · simp_all; done
            refine (show ∀ {a0 : Prop}, a0 → a0 ∧ a0 from fun g0 => ⟨g0, g0⟩) ?_
            ·
              refine ⟨?_, ?_⟩
              · have := line_le q_0 1; omega
              intro h2
              refine ⟨?_, ?_⟩
              · exact ⟨rfl, by simp only [List.length_singleton]; omega⟩
              refine ⟨rfl, rfl, rfl, rfl, trivial, ?_, rfl⟩
              rw [lineF_word q_0 (notP q_1 (by assumption)) (q_2.1 (by assumption))]; rfl
          · refine ⟨?_, ?_⟩
            ·
              refine ⟨?_, ?_⟩
              · have := line_pos q_0; omega
              refine ⟨fun h2 => ?_, fun h2 => ?_⟩
              · simp only [bl, reduceCtorEq] at h2
                intro h3
                exact ⟨_, by (simp_all <;> omega), ⟨rfl, trivial⟩, (by trivial)⟩
              · simp only [bl, reduceCtorEq] at h2
                exact ⟨_, by (simp_all <;> omega), ⟨rfl, trivial⟩, (by trivial)⟩
            ·
              intro x_3 q_3
              refine ⟨fun h2 => ?_, fun h2 => ?_⟩
              · refine ⟨?_, ?_⟩
                · simp_all; done
                refine ⟨?_, ?_⟩
                · simp_all; done
                refine (show ∀ {a0 : Prop}, a0 → a0 ∧ a0 from fun g0 => ⟨g0, g0⟩) ?_
                ·
                  refine ⟨?_, ?_⟩
                  · have := line_le q_0 2; omega
                  intro h3
                  refine ⟨?_, ?_⟩
                  · exact ⟨rfl, by simp only [List.length_singleton]; omega⟩
                  refine ⟨rfl, rfl, rfl, rfl, trivial, ?_, rfl⟩
                  rw [lineF_sym q_0 (notP q_1 (by assumption)) (notP q_2 (by assumption)) (q_3.1 (by assumption))]; rfl
              · refine ⟨?_, ?_⟩
                ·
                  refine ⟨?_, ?_⟩
                  · have := line_pos q_0; omega
                  refine ⟨fun h3 => ?_, fun h3 => ?_⟩
                  · simp only [bl, reduceCtorEq] at h3
                    intro h4
                    exact ⟨_, by (simp_all <;> omega), ⟨rfl, trivial⟩, (by trivial)⟩
                  · simp only [bl, reduceCtorEq] at h3
                    exact ⟨_, by (simp_all <;> omega), ⟨rfl, trivial⟩, (by trivial)⟩
                ·
                  intro x_4 q_4
                  refine ⟨fun h3 => ?_, fun h3 => ?_⟩
                  · refine ⟨?_, ?_⟩
                    · simp_all; done
                    refine ⟨?_, ?_⟩
                    · simp_all; done
                    refine ⟨?_, ?_⟩
                    ·
                      refine ⟨?_, ?_⟩
                      · have := line_le q_0 1; omega
                      intro h4
                      refine ⟨?_, ?_⟩
                      · have := line_le q_0 2; omega
                      intro h5
                      refine ⟨?_, ?_⟩
                      · exact ⟨rfl, by simp only [List.length_singleton]; omega⟩
                      refine ⟨rfl, rfl, rfl, rfl, trivial, ?_, rfl⟩
                      rw [lineF_base q_0 (notP q_1 (by assumption)) (notP q_2 (by assumption)) (notP q_3 (by assumption)) (q_4.1 (by assumption))]; rfl
                    ·
                      refine ⟨?_, ?_⟩
                      · have := line_le q_0 1; omega
                      intro h4
                      refine (show ∀ {a0 : Prop}, a0 → a0 ∧ a0 from fun g0 => ⟨g0, g0⟩) ?_
                      ·
                        refine ⟨?_, ?_⟩
                        · have := line_le q_0 2; omega
                        intro h5
                        refine ⟨?_, ?_⟩
                        · exact ⟨rfl, by simp only [List.length_singleton]; omega⟩
                        refine ⟨rfl, rfl, rfl, rfl, trivial, ?_, rfl⟩
                        rw [lineF_base q_0 (notP q_1 (by assumption)) (notP q_2 (by assumption)) (notP q_3 (by assumption)) (q_4.1 (by assumption))]; rfl
                  · refine ⟨?_, ?_⟩
                    ·
                      refine ⟨?_, ?_⟩
                      · have := line_pos q_0; omega
                      refine ⟨fun h4 => ?_, fun h4 => ?_⟩
                      · simp only [bl, reduceCtorEq] at h4
                        intro h5
                        exact ⟨_, by (simp_all <;> omega), ⟨rfl, trivial⟩, (by trivial)⟩
                      · simp only [bl, reduceCtorEq] at h4
                        refine ⟨?_, ?_⟩
                        · have := line_pos q_0; omega
                        refine ⟨fun h5 => ?_, fun h5 => ?_⟩
                        · simp only [bl, reduceCtorEq] at h5
                          intro h6
                          exact ⟨_, by (simp_all <;> omega), ⟨rfl, trivial⟩, (by trivial)⟩
                        · simp only [bl, reduceCtorEq] at h5
                          exact ⟨_, by (simp_all <;> omega), ⟨rfl, trivial⟩, (by trivial)⟩
                    ·
                      intro x_5 q_5
                      refine ⟨fun h4 => ?_, fun h4 => ?_⟩
                      · refine ⟨?_, ?_⟩
                        · have := line_pos q_0; omega
                        refine ⟨fun h5 => ?_, fun h5 => ?_⟩
                        · simp only [bl, reduceCtorEq] at h5
                          refine ⟨?_, ?_⟩
                          · simp_all; done
                          refine ⟨?_, ?_⟩
                          · simp_all; done
                          refine ⟨?_, ?_⟩
                          · simp_all; done
                          refine ⟨?_, ?_⟩
                          ·
                            refine ⟨?_, ?_⟩
                            · have := line_le q_0 1; omega
                            intro h6
                            refine ⟨?_, ?_⟩
                            · have := line_le q_0 2; omega
                            intro h7
                            refine ⟨?_, ?_⟩
                            · exact ⟨rfl, by simp only [List.length_singleton]; omega⟩
                            refine ⟨rfl, rfl, rfl, rfl, trivial, ?_, rfl⟩
                            rw [lineF_tie q_0 (notP q_1 (by assumption)) (notP q_2 (by assumption)) (notP q_3 (by assumption)) (notP q_4 (by assumption)) (q_5.1 (by assumption)) (k := 3) (if_pos (by assumption)).symm]; rfl
                          ·
                            refine ⟨?_, ?_⟩
                            · have := line_le q_0 1; omega
                            intro h6
                            refine (show ∀ {a0 : Prop}, a0 → a0 ∧ a0 from fun g0 => ⟨g0, g0⟩) ?_
                            ·
                              refine ⟨?_, ?_⟩
                              · have := line_le q_0 2; omega
                              intro h7
                              refine ⟨?_, ?_⟩
                              · exact ⟨rfl, by simp only [List.length_singleton]; omega⟩
                              refine ⟨rfl, rfl, rfl, rfl, trivial, ?_, rfl⟩
                              rw [lineF_tie q_0 (notP q_1 (by assumption)) (notP q_2 (by assumption)) (notP q_3 (by assumption)) (notP q_4 (by assumption)) (q_5.1 (by assumption)) (k := 3) (if_pos (by assumption)).symm]; rfl
                        · simp only [bl, reduceCtorEq] at h5
                          refine ⟨?_, ?_⟩
                          · simp_all; done
                          refine ⟨?_, ?_⟩
                          · simp_all; done
                          refine ⟨?_, ?_⟩
                          · simp_all; done
                          refine ⟨?_, ?_⟩
                          ·
                            refine ⟨?_, ?_⟩
                            · have := line_le q_0 1; omega
                            intro h6
                            refine ⟨?_, ?_⟩
                            · have := line_le q_0 2; omega
                            intro h7
                            refine ⟨?_, ?_⟩
                            · exact ⟨rfl, by simp only [List.length_singleton]; omega⟩
                            refine ⟨rfl, rfl, rfl, rfl, trivial, ?_, rfl⟩
                            rw [lineF_tie q_0 (notP q_1 (by assumption)) (notP q_2 (by assumption)) (notP q_3 (by assumption)) (notP q_4 (by assumption)) (q_5.1 (by assumption)) (k := 2) (if_neg (by assumption)).symm]; rfl
                          ·
                            refine ⟨?_, ?_⟩
                            · have := line_le q_0 1; omega
                            intro h6
                            refine (show ∀ {a0 : Prop}, a0 → a0 ∧ a0 from fun g0 => ⟨g0, g0⟩) ?_
                            ·
                              refine ⟨?_, ?_⟩
                              · have := line_le q_0 2; omega
                              intro h7
                              refine ⟨?_, ?_⟩
                              · exact ⟨rfl, by simp only [List.length_singleton]; omega⟩
                              refine ⟨rfl, rfl, rfl, rfl, trivial, ?_, rfl⟩
                              rw [lineF_tie q_0 (notP q_1 (by assumption)) (notP q_2 (by assumption)) (notP q_3 (by assumption)) (notP q_4 (by assumption)) (q_5.1 (by assumption)) (k := 2) (if_neg (by assumption)).symm]; rfl
                      · refine ⟨rfl, rfl, rfl, rfl, trivial, ?_, rfl⟩
                        rw [lineF_none q_0 (notP q_1 (by assumption)) (notP q_2 (by assumption)) (notP q_3 (by assumption)) (notP q_4 (by assumption)) (notP q_5 (by assumption))]; rfl
theorem Tryd.ok_LineO : CallOK Tryd.prog Tryd.B.eT Tryd.X 18 false (objSpec Tryd.lineObs [.obj 0, .d .str, .obj 5] (fun a x => a.1.length ≤ 1000000 ∧ x.2.1.length ≤ 1000000 ∧ x.2.2.1.length ≤ 1000000 ∧ x.2.2.2.1.length ≤ 1000000 ∧ x.2.2.2.2.1.length ≤ 1000000) Tryd.lineAlts) :=
  callOK_of_obj (X := Tryd.X) Tryd.lineCtxOK Tryd.func18 (by kernel_rfl) (fun (a : CD [.obj 0, .d .str, .obj 5]) (x : PD Tryd.lineObs) => lineAnn a.1 x.2.1 x.2.2.1 x.2.2.2.1 x.2.2.2.2.1 x.2.2.2.2.2.1.1) (fun (a : CD [.obj 0, .d .str, .obj 5]) (x : PD Tryd.lineObs) hw hp => vc_LineO a.1 x.2.1 x.2.2.1 x.2.2.2.1 x.2.2.2.2.1 x.2.2.2.2.2.1.1 hw hp)
end Go.Proofs.YtgokjhhcfemnhacDoor

namespace Go.Proofs.YtgokjhhcfemnhacDoor
open Go.Vg Go.Mrl
set_option maxRecDepth 100000 in
set_option maxHeartbeats 4000000 in
theorem vc_WordO (n : Int) (hw : wfL [.int .i64] n) : (fnVCs Tryd.B [] Tryd.f34 [] [.int .i64] [.bool] (fun x y => y = (fun n => wordB n) x) n).holds := by
  refine holds_of (p :=
    (((decide (n ≥ (-2147483648 : Int))) = true → (decide (n ≤ (2147483647 : Int)) = wordB n)) ∧ ((decide (n ≥ (-2147483648 : Int))) = false → (false = wordB n)))) (by kernel_rfl) ?_
  refine ⟨fun h0 => ?_, fun h0 => ?_⟩
  · simp only [bl, reduceCtorEq] at h0
    unfold wordB; rw [Bool.eq_iff_iff]; simp; omega
  · try simp only [bl, reduceCtorEq] at h0
    first | (unfold wordB; simp; done) | (unfold wordB; rw [Bool.eq_iff_iff]; simp; omega) | first | trivial | omega | (dsimp only [D] at *; omega) | (simp only [I64, big] at *; omega) | (simp_all; done)
theorem Tryd.ok_WordO : PureOK Tryd.prog Tryd.B.eT Tryd.X 34 [.int .i64] [.bool] (fun _ => True) (fun x y => y = (fun n => wordB n) x) :=
  pure_fn (X := Tryd.X) (ctx0 Tryd.tyOK) Tryd.func34 (by kernel_rfl) (fun _ => []) (fun x hw hp => vc_WordO x hw)
def indexSAnn (l : List (List UInt8)) (s : List UInt8) : Anns := [(0, fun st => { X := Nat, inv := fun i => i ≤ l.length ∧ ∀ j, j < i → nth .str l j ≠ s, meas := fun i => l.length - i, slots := fun i => [(8, sI i)], keep := [0, 1, 7] })]
set_option maxRecDepth 100000 in
set_option maxHeartbeats 4000000 in
theorem vc_IndexS (l : List (List UInt8)) (s : List UInt8) (hw : wfL [.slice .str, .str] (l, s)) : (fnVCs Tryd.B [] Tryd.f39 (indexSAnn l s) [.slice .str, .str] [.int .i64] (fun x y => (y = -1 ∧ ∀ j, j < x.1.length → nth .str x.1 j ≠ x.2) ∨ (0 ≤ y ∧ y.toNat < x.1.length ∧ nth .str x.1 y.toNat = x.2)) (l, s)).holds := by
  refine holds_of (p :=
    ((List.length l ≤ big) → (∃ (x : Nat), (x ≤ List.length l ∧ ∀ (j : Nat), j < x → nth Ty.str l j ≠ s) ∧ ((0 : Int) = (↑x : Int) ∧ True) ∧ True) ∧ (∀ x_0 : Nat, ((x_0 ≤ List.length l ∧ ∀ (j : Nat), j < x_0 → nth Ty.str l j ≠ s) → (((decide ((↑x_0 : Int) < (↑(List.length l) : Int))) = true → ((0 : Int) ≤ (↑x_0 : Int) ∧ (↑x_0 : Int) < (↑(List.length l) : Int)) ∧ (((s == nth Ty.str l x_0) = true →
    (((↑x_0 : Int) = (-1 : Int) ∧ ∀ (j : Nat), j < List.length l → nth Ty.str l j ≠ s) ∨ (0 : Int) ≤ (↑x_0 : Int) ∧ x_0 < List.length l ∧ nth Ty.str l x_0 = s)) ∧ ((s == nth Ty.str l x_0) = false → ((I64 (↑x_0 : Int)) → ((I64 (1 : Int)) → (I64 ((↑x_0 : Int) + (1 : Int))) ∧
    (∃ (x' : Nat), (x' ≤ List.length l ∧ ∀ (j : Nat), j < x' → nth Ty.str l j ≠ s) ∧ List.length l - x' < List.length l - x_0 ∧ ((↑x_0 : Int) + (1 : Int) = (↑x' : Int) ∧ True) ∧ True)))))) ∧ ((decide ((↑x_0 : Int) < (↑(List.length l) : Int))) = false →
    (((-1 : Int) = (-1 : Int) ∧ ∀ (j : Nat), j < List.length l → nth Ty.str l j ≠ s) ∨ (0 : Int) ≤ (-1 : Int) ∧ Int.toNat (-1 : Int) < List.length l ∧ nth Ty.str l (Int.toNat (-1 : Int)) = s))))))) (by kernel_rfl) ?_
  intro h0
  refine ⟨?_, ?_⟩
  · exact ⟨0, ⟨by omega, fun j hj => by omega⟩, ⟨rfl, trivial⟩, trivial⟩
  intro x_0 q_0
  refine ⟨fun h1 => ?_, fun h1 => ?_⟩
  · simp only [bl, reduceCtorEq] at h1
    refine ⟨?_, ?_⟩
    · omega
    refine ⟨fun h2 => ?_, fun h2 => ?_⟩
    · simp only [bl, reduceCtorEq] at h2
      simp_all; done
    · simp only [bl, reduceCtorEq] at h2
      intro h3
      intro h4
      refine ⟨?_, ?_⟩
      · simp only [I64, big] at *; omega
      exact ⟨x_0 + 1, ⟨by omega, upto1 q_0.2 fun e => (by assumption : ¬ _) e.symm⟩, by omega, ⟨by omega, trivial⟩, (by trivial)⟩
  · simp only [bl, reduceCtorEq] at h1
    exact .inl ⟨rfl, fun j hj => q_0.2 j (by omega)⟩
theorem Tryd.ok_IndexS : PureOK Tryd.prog Tryd.B.eT Tryd.X 39 [.slice .str, .str] [.int .i64] (fun _ => True) (fun x y => (y = -1 ∧ ∀ j, j < x.1.length → nth .str x.1 j ≠ x.2) ∨ (0 ≤ y ∧ y.toNat < x.1.length ∧ nth .str x.1 y.toNat = x.2)) :=
  pure_fn (X := Tryd.X) (ctx0 Tryd.tyOK) Tryd.func39 (by kernel_rfl) (fun x => indexSAnn x.1 x.2) (fun x hw hp => vc_IndexS x.1 x.2 hw)
noncomputable def Tryd.indexSCtx : List (FuncId × (Bool × CSpec)) := [(39, (true, pureSpec [.slice .str, .str] [.int .i64] (fun _ => True) (fun x y => (y = -1 ∧ ∀ j, j < x.1.length → nth .str x.1 j ≠ x.2) ∨ (0 ≤ y ∧ y.toNat < x.1.length ∧ nth .str x.1 y.toNat = x.2))))]
theorem Tryd.indexSCtxOK : CtxOK Tryd.prog Tryd.B Tryd.X Tryd.indexSCtx :=
  ctx1 (callOK_of_pure Tryd.ok_IndexS) (ctx0 Tryd.tyOK)
set_option maxRecDepth 100000 in
set_option maxHeartbeats 4000000 in
theorem vc_ContainsS (l : List (List UInt8)) (s : List UInt8) (hw : wfL [.slice .str, .str] (l, s)) : (fnVCs Tryd.B Tryd.indexSCtx Tryd.f27 [] [.slice .str, .str] [.bool] (fun x y => y = (fun x => x.1.any (· == x.2)) x) (l, s)).holds := by
  refine holds_of (p :=
    (True) ∧ (∀ x_0 : Int,
    (((x_0 = (-1 : Int) ∧ ∀ (j : Nat), j < List.length l → nth Ty.str l j ≠ s) ∨ (0 : Int) ≤ x_0 ∧ Int.toNat x_0 < List.length l ∧ nth Ty.str l (Int.toNat x_0) = s) → (decide (x_0 ≥ (0 : Int)) = List.any l fun (x : List UInt8) => x == s)))) (by kernel_rfl) ?_
  refine ⟨trivial, ?_⟩
  intro x_0 q_0
  exact contains_of q_0
theorem Tryd.ok_ContainsS : PureOK Tryd.prog Tryd.B.eT Tryd.X 27 [.slice .str, .str] [.bool] (fun _ => True) (fun x y => y = (fun x => x.1.any (· == x.2)) x) :=
  pure_fn (X := Tryd.X) Tryd.indexSCtxOK Tryd.func27 (by kernel_rfl) (fun _ => []) (fun x hw hp => vc_ContainsS x.1 x.2 hw)
noncomputable def Tryd.symCloCtx : List (FuncId × (Bool × CSpec)) := [(47, (false, inlineSpec Tryd.B [] Tryd.f47 []))]
theorem Tryd.symCloCtxOK : CtxOK Tryd.prog Tryd.B Tryd.X Tryd.symCloCtx :=
  ctx1 (callOK_inline (ctx0 Tryd.tyOK) Tryd.func47 (by kernel_rfl) []) (ctx0 Tryd.tyOK)
def indexYAnn : Anns := [(0, fun st => { X := Nat, inv := fun i => i ≤ (tmpD (.slice tSymbol) st 0).length ∧ ∀ j, j < i → (nth tSymbol (tmpD (.slice tSymbol) st 0) j).1 ≠ (boxD tSymbol st (capOf st 1 0)).1, meas := fun i => (tmpD (.slice tSymbol) st 0).length - i, slots := fun i => [(8, sI i)], keep := [0, 1, 7] })]
noncomputable def Tryd.sym2Ctx : List (FuncId × (Bool × CSpec)) := [(57, (false, inlineSpec Tryd.B Tryd.symCloCtx Tryd.f57 indexYAnn))]
theorem Tryd.sym2CtxOK : CtxOK Tryd.prog Tryd.B Tryd.X Tryd.sym2Ctx :=
  ctx1 (callOK_inline Tryd.symCloCtxOK Tryd.func57 (by kernel_rfl) indexYAnn) (ctx0 Tryd.tyOK)
noncomputable def Tryd.sym3Ctx : List (FuncId × (Bool × CSpec)) := [(26, (true, funSpec [.str] [.err] (fun _ => True) (fun s => errNo (nameFault s)))),
  (46, (false, inlineSpec Tryd.B Tryd.sym2Ctx Tryd.f46 []))]
theorem Tryd.sym3CtxOK : CtxOK Tryd.prog Tryd.B Tryd.X Tryd.sym3Ctx :=
  ctx1 (callOK_of_fun Tryd.ok_Check) (ctx1 (callOK_inline Tryd.sym2CtxOK Tryd.func46 (by kernel_rfl) []) (ctx0 Tryd.tyOK))
def symbolsAnn (o : D tObject) : Anns := [(0, fun st => { X := Nat, inv := fun i => SymsI o.2.1.length o.2.2.1 i, meas := fun i => o.2.2.1.length - i, slots := fun i => [(9, sI i)], keep := [1, 7, 8] })]
set_option maxRecDepth 100000 in
set_option maxHeartbeats 4000000 in
theorem vc_SymbolsO (o : D tObject) (hw : wfL [tObject] o) : (fnVCs Tryd.B Tryd.sym3Ctx Tryd.f35 (symbolsAnn o) [tObject] [.err] (fun x y => y = (fun o => errNo (symsG o.2.1.length [] o.2.2.1)) x) o).holds := by
  refine holds_of (p :=
    ((List.length o.2.2.1 ≤ big) → (∃ (x : Nat), SymsI (List.length o.2.1) o.2.2.1 x ∧ ((0 : Int) = (↑x : Int) ∧ True) ∧ True) ∧ (∀ x_0 : Nat, ((SymsI (List.length o.2.1) o.2.2.1 x_0) → (((decide ((↑x_0 : Int) < (↑(List.length o.2.2.1) : Int))) = true → ((0 : Int) ≤ (↑x_0 : Int) ∧ (↑x_0 : Int) < (↑(List.length o.2.2.1) : Int)) ∧ (True) ∧ (((!Err.isNil (errNo (nameFault (nth tSymbol o.2.2.1 x_0).1))) = true →
    (errNo (nameFault (nth tSymbol o.2.2.1 x_0).1) = errNo (symsG (List.length o.2.1) (@List.nil (List UInt8 × Int × Bool × Unit)) o.2.2.1))) ∧ ((!Err.isNil (errNo (nameFault (nth tSymbol o.2.2.1 x_0).1))) = false → (((decide ((nth tSymbol o.2.2.1 x_0).2.1 < (0 : Int))) = true → (Err.no (1 : Int) = errNo (symsG (List.length o.2.1) (@List.nil (List UInt8 × Int × Bool × Unit)) o.2.2.1))) ∧ ((decide ((nth tSymbol o.2.2.1 x_0).2.1 < (0 : Int))) = false → ((List.length o.2.1 ≤ big) → (((decide ((nth tSymbol o.2.2.1 x_0).2.1 ≥ (↑(List.length o.2.1) : Int))) = true → (Err.no (1 : Int) = errNo (symsG (List.length o.2.1) (@List.nil (List UInt8 × Int × Bool × Unit)) o.2.2.1))) ∧ ((decide ((nth tSymbol o.2.2.1 x_0).2.1 ≥ (↑(List.length o.2.1) : Int))) = false → ((0 : Int) ≤ (0 : Int) ∧ (0 : Int) ≤ (↑x_0 : Int) ∧ (↑x_0 : Int) ≤ (↑(List.length o.2.2.1) : Int)) ∧ ((List.length (List.drop (0 : Nat) (List.take x_0 o.2.2.1)) ≤ big) →
    (∃ (x : Nat), (x ≤ List.length (List.drop (0 : Nat) (List.take x_0 o.2.2.1)) ∧ ∀ (j : Nat), j < x → (nth tSymbol (List.drop (0 : Nat) (List.take x_0 o.2.2.1)) j).1 ≠ (nth tSymbol o.2.2.1 x_0).1) ∧ ((0 : Int) = (↑x : Int) ∧ True) ∧ True) ∧ (∀ x_1 : Nat,
    ((x_1 ≤ List.length (List.drop (0 : Nat) (List.take x_0 o.2.2.1)) ∧ ∀ (j : Nat), j < x_1 → (nth tSymbol (List.drop (0 : Nat) (List.take x_0 o.2.2.1)) j).1 ≠ (nth tSymbol o.2.2.1 x_0).1) → (((decide ((↑x_1 : Int) < (↑(List.length (List.drop (0 : Nat) (List.take x_0 o.2.2.1))) : Int))) = true → ((0 : Int) ≤ (↑x_1 : Int) ∧ (↑x_1 : Int) < (↑(List.length (List.drop (0 : Nat) (List.take x_0 o.2.2.1))) : Int)) ∧ ((((nth tSymbol (List.drop (0 : Nat) (List.take x_0 o.2.2.1)) x_1).1 == (nth tSymbol o.2.2.1 x_0).1) = true → (((decide ((↑x_1 : Int) ≥ (0 : Int))) = true → (Err.no (3 : Int) = errNo (symsG (List.length o.2.1) (@List.nil (List UInt8 × Int × Bool × Unit)) o.2.2.1))) ∧ ((decide ((↑x_1 : Int) ≥ (0 : Int))) = false → ((I64 (↑x_0 : Int)) → ((I64 (1 : Int)) → (I64 ((↑x_0 : Int) + (1 : Int))) ∧
    (∃ (x' : Nat), SymsI (List.length o.2.1) o.2.2.1 x' ∧ List.length o.2.2.1 - x' < List.length o.2.2.1 - x_0 ∧ ((↑x_0 : Int) + (1 : Int) = (↑x' : Int) ∧ True) ∧ (o.1 = o.1 ∧ o.2.1 = o.2.1 ∧ o.2.2.1 = o.2.2.1 ∧ o.2.2.2.1 = o.2.2.2.1 ∧ True) ∧ True)))))) ∧ (((nth tSymbol (List.drop (0 : Nat) (List.take x_0 o.2.2.1)) x_1).1 == (nth tSymbol o.2.2.1 x_0).1) = false → ((I64 (↑x_1 : Int)) → ((I64 (1 : Int)) → (I64 ((↑x_1 : Int) + (1 : Int))) ∧
    (∃ (x' : Nat), (x' ≤ List.length (List.drop (0 : Nat) (List.take x_0 o.2.2.1)) ∧ ∀ (j : Nat), j < x' → (nth tSymbol (List.drop (0 : Nat) (List.take x_0 o.2.2.1)) j).1 ≠ (nth tSymbol o.2.2.1 x_0).1) ∧ List.length (List.drop (0 : Nat) (List.take x_0 o.2.2.1)) - x' < List.length (List.drop (0 : Nat) (List.take x_0 o.2.2.1)) - x_1 ∧ ((↑x_1 : Int) + (1 : Int) = (↑x' : Int) ∧ True) ∧ ((nth tSymbol o.2.2.1 x_0).1 = (nth tSymbol o.2.2.1 x_0).1 ∧ (nth tSymbol o.2.2.1 x_0).2.1 = (nth tSymbol o.2.2.1 x_0).2.1 ∧ (nth tSymbol o.2.2.1 x_0).2.2.1 = (nth tSymbol o.2.2.1 x_0).2.2.1 ∧ True) ∧ (o.1 = o.1 ∧ o.2.1 = o.2.1 ∧ o.2.2.1 = o.2.2.1 ∧ o.2.2.2.1 = o.2.2.2.1 ∧ True) ∧ True)))))) ∧ ((decide ((↑x_1 : Int) < (↑(List.length (List.drop (0 : Nat) (List.take x_0 o.2.2.1))) : Int))) = false → (((decide ((-1 : Int) ≥ (0 : Int))) = true → (Err.no (3 : Int) = errNo (symsG (List.length o.2.1) (@List.nil (List UInt8 × Int × Bool × Unit)) o.2.2.1))) ∧ ((decide ((-1 : Int) ≥ (0 : Int))) = false → ((I64 (↑x_0 : Int)) → ((I64 (1 : Int)) → (I64 ((↑x_0 : Int) + (1 : Int))) ∧
    (∃ (x' : Nat), SymsI (List.length o.2.1) o.2.2.1 x' ∧ List.length o.2.2.1 - x' < List.length o.2.2.1 - x_0 ∧ ((↑x_0 : Int) + (1 : Int) = (↑x' : Int) ∧ True) ∧ (o.1 = o.1 ∧ o.2.1 = o.2.1 ∧ o.2.2.1 = o.2.2.1 ∧ o.2.2.2.1 = o.2.2.2.1 ∧ True) ∧ True)))))))))))))))))) ∧ ((decide ((↑x_0 : Int) < (↑(List.length o.2.2.1) : Int))) = false → (Err.nil = errNo (symsG (List.length o.2.1) (@List.nil (List UInt8 × Int × Bool × Unit)) o.2.2.1)))))))) (by kernel_rfl) ?_
  intro h0
  refine ⟨?_, ?_⟩
  · exact ⟨0, .zero _ _, ⟨rfl, trivial⟩, trivial⟩
  intro x_0 q_0
  refine ⟨fun h1 => ?_, fun h1 => ?_⟩
  · simp only [bl, reduceCtorEq] at h1
    refine ⟨?_, ?_⟩
    · omega
    refine ⟨trivial, ?_⟩
    refine ⟨fun h2 => ?_, fun h2 => ?_⟩
    · simp only [bl, reduceCtorEq] at h2
      rw [q_0.fault (by omega) (isNil_pos (nameFault_nonneg _) h2)]
    · simp only [bl, reduceCtorEq] at h2
      refine ⟨fun h3 => ?_, fun h3 => ?_⟩
      · simp only [bl, reduceCtorEq] at h3
        rw [q_0.out (by omega) (isNil_le h2) (.inl (by omega))]; rfl
      · simp only [bl, reduceCtorEq] at h3
        intro h4
        refine ⟨fun h5 => ?_, fun h5 => ?_⟩
        · simp only [bl, reduceCtorEq] at h5
          rw [q_0.out (by omega) (isNil_le h2) (.inr (by omega))]; rfl
        · simp only [bl, reduceCtorEq] at h5
          refine ⟨?_, ?_⟩
          · omega
          intro h6
          refine ⟨?_, ?_⟩
          · exact ⟨0, ⟨by omega, fun j hj => by omega⟩, ⟨rfl, trivial⟩, trivial⟩
          intro x_1 q_1
          refine ⟨fun h7 => ?_, fun h7 => ?_⟩
          · simp only [bl, reduceCtorEq] at h7
            refine ⟨?_, ?_⟩
            · omega
            refine ⟨fun h8 => ?_, fun h8 => ?_⟩
            · simp only [bl, reduceCtorEq] at h8
              refine ⟨fun h9 => ?_, fun h9 => ?_⟩
              ·
                rw [len_drop0 q_0.le] at h7; rw [nth_drop0 (i := x_0) (j := x_1) (by omega)] at h8; rw [q_0.dup (by omega) (isNil_le h2) (fun h => h.elim (fun h => absurd h (Int.not_lt.2 h3)) (fun h => absurd h (Int.not_le.2 h5))) (any_take (t := tSymbol) (j := x_1) (by omega) q_0.le (by simpa using h8))]; rfl
              · exact absurd (show true = false from h9) (by decide)
            · simp only [bl, reduceCtorEq] at h8
              intro h9
              intro h10
              refine ⟨?_, ?_⟩
              · simp only [I64, big] at *; omega
              exact ⟨x_1 + 1, ⟨by omega, upto1 q_1.2 (by assumption)⟩, by omega, ⟨by omega, trivial⟩, (by trivial)⟩
          · simp only [bl, reduceCtorEq] at h7
            refine ⟨fun h8 => ?_, fun h8 => ?_⟩
            · exact absurd (show false = true from h8) (by decide)
            ·
              intro h9
              intro h10
              refine ⟨?_, ?_⟩
              · simp only [I64, big] at *; omega
              have hx := len_drop0 q_0.le; exact ⟨x_0 + 1, q_0.next (by omega) (isNil_le h2) (fun h => h.elim (fun h => absurd h (Int.not_lt.2 h3)) (fun h => absurd h (Int.not_le.2 h5))) (none_take (t := tSymbol) fun j hj => by have := q_1.2 j (by omega); rw [nth_drop0 hj] at this; simpa using this), by omega, ⟨by omega, trivial⟩, (by trivial)⟩
  · simp only [bl, reduceCtorEq] at h1
    rw [q_0.done (by omega)]; rfl
theorem Tryd.ok_SymbolsO : PureOK Tryd.prog Tryd.B.eT Tryd.X 35 [tObject] [.err] (fun _ => True) (fun x y => y = (fun o => errNo (symsG o.2.1.length [] o.2.2.1)) x) :=
  pure_fn (X := Tryd.X) Tryd.sym3CtxOK Tryd.func35 (by kernel_rfl) (fun x => symbolsAnn x) (fun x hw hp => vc_SymbolsO x hw)
noncomputable def Tryd.tiesCtx : List (FuncId × (Bool × CSpec)) := [(26, (true, funSpec [.str] [.err] (fun _ => True) (fun s => errNo (nameFault s)))),
  (34, (true, funSpec [.int .i64] [.bool] (fun _ => True) (fun n => wordB n)))]
theorem Tryd.tiesCtxOK : CtxOK Tryd.prog Tryd.B Tryd.X Tryd.tiesCtx :=
  ctx1 (callOK_of_fun Tryd.ok_Check) (ctx1 (callOK_of_fun Tryd.ok_WordO) (ctx0 Tryd.tyOK))
def tiesAnn (o : D tObject) : Anns := [(0, fun st => { X := Nat, inv := fun i => TiesI o.2.1.length o.2.2.2.1 i, meas := fun i => o.2.2.2.1.length - i, slots := fun i => [(9, sI i)], keep := [1, 7, 8] })]
set_option maxRecDepth 100000 in
set_option maxHeartbeats 4000000 in
theorem vc_TiesO (o : D tObject) (hw : wfL [tObject] o) : (fnVCs Tryd.B Tryd.tiesCtx Tryd.f36 (tiesAnn o) [tObject] [.err] (fun x y => y = (fun o => errNo (tiesG o.2.1.length none o.2.2.2.1)) x) o).holds := by
  refine holds_of (p :=
    ((List.length o.2.2.2.1 ≤ big) → (∃ (x : Nat), TiesI (List.length o.2.1) o.2.2.2.1 x ∧ ((0 : Int) = (↑x : Int) ∧ True) ∧ True) ∧ (∀ x_0 : Nat, ((TiesI (List.length o.2.1) o.2.2.2.1 x_0) → (((decide ((↑x_0 : Int) < (↑(List.length o.2.2.2.1) : Int))) = true → ((0 : Int) ≤ (↑x_0 : Int) ∧ (↑x_0 : Int) < (↑(List.length o.2.2.2.1) : Int)) ∧ (((decide ((nth tTie o.2.2.2.1 x_0).1 < (0 : Int))) = true → (Err.no (1 : Int) = errNo (tiesG (List.length o.2.1) none o.2.2.2.1))) ∧ ((decide ((nth tTie o.2.2.2.1 x_0).1 < (0 : Int))) = false → ((List.length o.2.1 ≤ big) → (((decide ((nth tTie o.2.2.2.1 x_0).1 ≥ (↑(List.length o.2.1) : Int))) = true → (Err.no (1 : Int) = errNo (tiesG (List.length o.2.1) none o.2.2.2.1))) ∧ ((decide ((nth tTie o.2.2.2.1 x_0).1 ≥ (↑(List.length o.2.1) : Int))) = false → (True) ∧ (((!wordB (nth tTie o.2.2.2.1 x_0).2.2.1) = true → (Err.no (1 : Int) = errNo (tiesG (List.length o.2.1) none o.2.2.2.1))) ∧ ((!wordB (nth tTie o.2.2.2.1 x_0).2.2.1) = false → (((decide ((nth tTie o.2.2.2.1 x_0).2.1 < (1 : Int))) = true → (Err.no (3 : Int) = errNo (tiesG (List.length o.2.1) none o.2.2.2.1))) ∧ ((decide ((nth tTie o.2.2.2.1 x_0).2.1 < (1 : Int))) = false → (((decide ((nth tTie o.2.2.2.1 x_0).2.1 > (3 : Int))) = true → (Err.no (3 : Int) = errNo (tiesG (List.length o.2.1) none o.2.2.2.1))) ∧ ((decide ((nth tTie o.2.2.2.1 x_0).2.1 > (3 : Int))) = false → (((decide ((↑x_0 : Int) > (0 : Int))) = true → ((I64 (↑x_0 : Int)) → ((I64 (1 : Int)) → (I64 ((↑x_0 : Int) - (1 : Int))) ∧ ((0 : Int) ≤ (↑x_0 : Int) - (1 : Int) ∧ (↑x_0 : Int) - (1 : Int) < (↑(List.length o.2.2.2.1) : Int)) ∧ (((decide ((nth tTie o.2.2.2.1 (Int.toNat ((↑x_0 : Int) - (1 : Int)))).1 ≥ (nth tTie o.2.2.2.1 x_0).1)) = true → (Err.no (3 : Int) = errNo (tiesG (List.length o.2.1) none o.2.2.2.1))) ∧ ((decide ((nth tTie o.2.2.2.1 (Int.toNat ((↑x_0 : Int) - (1 : Int)))).1 ≥ (nth tTie o.2.2.2.1 x_0).1)) = false → ((((nth tTie o.2.2.2.1 x_0).2.1 == (1 : Int)) = true → (((!(nth tTie o.2.2.2.1 x_0).2.2.2.1 == @List.nil UInt8) = true → (Err.no (3 : Int) = errNo (tiesG (List.length o.2.1) none o.2.2.2.1))) ∧ ((!(nth tTie o.2.2.2.1 x_0).2.2.2.1 == @List.nil UInt8) = false → ((((nth tTie o.2.2.2.1 x_0).2.2.2.2.1) = true → (Err.no (3 : Int) = errNo (tiesG (List.length o.2.1) none o.2.2.2.1))) ∧ (((nth tTie o.2.2.2.1 x_0).2.2.2.2.1) = false → ((I64 (↑x_0 : Int)) → ((I64 (1 : Int)) → (I64 ((↑x_0 : Int) + (1 : Int))) ∧
    (∃ (x' : Nat), TiesI (List.length o.2.1) o.2.2.2.1 x' ∧ List.length o.2.2.2.1 - x' < List.length o.2.2.2.1 - x_0 ∧ ((↑x_0 : Int) + (1 : Int) = (↑x' : Int) ∧ True) ∧ (o.1 = o.1 ∧ o.2.1 = o.2.1 ∧ o.2.2.1 = o.2.2.1 ∧ o.2.2.2.1 = o.2.2.2.1 ∧ True) ∧ True)))))))) ∧ (((nth tTie o.2.2.2.1 x_0).2.1 == (1 : Int)) = false → (True) ∧ (((!Err.isNil (errNo (nameFault (nth tTie o.2.2.2.1 x_0).2.2.2.1))) = true → (errNo (nameFault (nth tTie o.2.2.2.1 x_0).2.2.2.1) = errNo (tiesG (List.length o.2.1) none o.2.2.2.1))) ∧ ((!Err.isNil (errNo (nameFault (nth tTie o.2.2.2.1 x_0).2.2.2.1))) = false → ((I64 (↑x_0 : Int)) → ((I64 (1 : Int)) → (I64 ((↑x_0 : Int) + (1 : Int))) ∧
    (∃ (x' : Nat), TiesI (List.length o.2.1) o.2.2.2.1 x' ∧ List.length o.2.2.2.1 - x' < List.length o.2.2.2.1 - x_0 ∧ ((↑x_0 : Int) + (1 : Int) = (↑x' : Int) ∧ True) ∧ (o.1 = o.1 ∧ o.2.1 = o.2.1 ∧ o.2.2.1 = o.2.2.1 ∧ o.2.2.2.1 = o.2.2.2.1 ∧ True) ∧ True)))))))))))) ∧ ((decide ((↑x_0 : Int) > (0 : Int))) = false → ((((nth tTie o.2.2.2.1 x_0).2.1 == (1 : Int)) = true → (((!(nth tTie o.2.2.2.1 x_0).2.2.2.1 == @List.nil UInt8) = true → (Err.no (3 : Int) = errNo (tiesG (List.length o.2.1) none o.2.2.2.1))) ∧ ((!(nth tTie o.2.2.2.1 x_0).2.2.2.1 == @List.nil UInt8) = false → ((((nth tTie o.2.2.2.1 x_0).2.2.2.2.1) = true → (Err.no (3 : Int) = errNo (tiesG (List.length o.2.1) none o.2.2.2.1))) ∧ (((nth tTie o.2.2.2.1 x_0).2.2.2.2.1) = false → ((I64 (↑x_0 : Int)) → ((I64 (1 : Int)) → (I64 ((↑x_0 : Int) + (1 : Int))) ∧
    (∃ (x' : Nat), TiesI (List.length o.2.1) o.2.2.2.1 x' ∧ List.length o.2.2.2.1 - x' < List.length o.2.2.2.1 - x_0 ∧ ((↑x_0 : Int) + (1 : Int) = (↑x' : Int) ∧ True) ∧ (o.1 = o.1 ∧ o.2.1 = o.2.1 ∧ o.2.2.1 = o.2.2.1 ∧ o.2.2.2.1 = o.2.2.2.1 ∧ True) ∧ True)))))))) ∧ (((nth tTie o.2.2.2.1 x_0).2.1 == (1 : Int)) = false → (True) ∧ (((!Err.isNil (errNo (nameFault (nth tTie o.2.2.2.1 x_0).2.2.2.1))) = true → (errNo (nameFault (nth tTie o.2.2.2.1 x_0).2.2.2.1) = errNo (tiesG (List.length o.2.1) none o.2.2.2.1))) ∧ ((!Err.isNil (errNo (nameFault (nth tTie o.2.2.2.1 x_0).2.2.2.1))) = false → ((I64 (↑x_0 : Int)) → ((I64 (1 : Int)) → (I64 ((↑x_0 : Int) + (1 : Int))) ∧
    (∃ (x' : Nat), TiesI (List.length o.2.1) o.2.2.2.1 x' ∧ List.length o.2.2.2.1 - x' < List.length o.2.2.2.1 - x_0 ∧ ((↑x_0 : Int) + (1 : Int) = (↑x' : Int) ∧ True) ∧ (o.1 = o.1 ∧ o.2.1 = o.2.1 ∧ o.2.2.1 = o.2.2.1 ∧ o.2.2.2.1 = o.2.2.2.1 ∧ True) ∧ True))))))))))))))))))))) ∧ ((decide ((↑x_0 : Int) < (↑(List.length o.2.2.2.1) : Int))) = false → (Err.nil = errNo (tiesG (List.length o.2.1) none o.2.2.2.1)))))))) (by kernel_rfl) ?_
  intro h0
  refine ⟨?_, ?_⟩
  · exact ⟨0, .zero _ _, ⟨rfl, trivial⟩, trivial⟩
  intro x_0 q_0
  refine ⟨fun h1 => ?_, fun h1 => ?_⟩
  · simp only [bl, reduceCtorEq] at h1
    refine ⟨?_, ?_⟩
    · omega
    refine ⟨fun h2 => ?_, fun h2 => ?_⟩
    · simp only [bl, reduceCtorEq] at h2
      rw [q_0.fault (by omega) (f := 1) (by unfold tieG; grind) (by decide)]; rfl
    · simp only [bl, reduceCtorEq] at h2
      intro h3
      refine ⟨fun h4 => ?_, fun h4 => ?_⟩
      · simp only [bl, reduceCtorEq] at h4
        rw [q_0.fault (by omega) (f := 1) (by unfold tieG; grind) (by decide)]; rfl
      · simp only [bl, reduceCtorEq] at h4
        refine ⟨trivial, ?_⟩
        refine ⟨fun h5 => ?_, fun h5 => ?_⟩
        · simp only [bl, reduceCtorEq] at h5
          rw [q_0.fault (by omega) (f := 1) (by unfold tieG; grind) (by decide)]; rfl
        · simp only [bl, reduceCtorEq] at h5
          refine ⟨fun h6 => ?_, fun h6 => ?_⟩
          · simp only [bl, reduceCtorEq] at h6
            rw [q_0.fault (by omega) (f := 3) (by unfold tieG prevT laterB; grind) (by decide)]; rfl
          · simp only [bl, reduceCtorEq] at h6
            refine ⟨fun h7 => ?_, fun h7 => ?_⟩
            · simp only [bl, reduceCtorEq] at h7
              rw [q_0.fault (by omega) (f := 3) (by unfold tieG prevT laterB; grind) (by decide)]; rfl
            · simp only [bl, reduceCtorEq] at h7
              refine ⟨fun h8 => ?_, fun h8 => ?_⟩
              · simp only [bl, reduceCtorEq] at h8
                intro h9
                intro h10
                refine ⟨?_, ?_⟩
                · simp only [I64, big] at *; omega
                refine ⟨?_, ?_⟩
                · omega
                refine ⟨fun h11 => ?_, fun h11 => ?_⟩
                · simp only [bl, reduceCtorEq] at h11
                  rw [q_0.fault (by omega) (f := 3) (by unfold tieG prevT laterB; grind) (by decide)]; rfl
                · simp only [bl, reduceCtorEq] at h11
                  refine ⟨fun h12 => ?_, fun h12 => ?_⟩
                  · simp only [bl, reduceCtorEq] at h12
                    refine ⟨fun h13 => ?_, fun h13 => ?_⟩
                    · simp only [bl, reduceCtorEq] at h13
                      rw [q_0.fault (by omega) (f := 3) (by unfold tieG prevT laterB; grind) (by decide)]; rfl
                    · simp only [bl, reduceCtorEq] at h13
                      refine ⟨fun h14 => ?_, fun h14 => ?_⟩
                      · rw [q_0.fault (by omega) (f := 3) (by unfold tieG prevT laterB; grind) (by decide)]; rfl
                      · intro h15
                        intro h16
                        refine ⟨?_, ?_⟩
                        · simp only [I64, big] at *; omega
                        exact ⟨x_0 + 1, q_0.next (by omega) (by unfold tieG prevT laterB; grind), by omega, ⟨by omega, trivial⟩, (by trivial)⟩
                  · simp only [bl, reduceCtorEq] at h12
                    refine ⟨trivial, ?_⟩
                    refine ⟨fun h13 => ?_, fun h13 => ?_⟩
                    · simp only [bl, reduceCtorEq] at h13
                      rw [q_0.fault (by omega) (f := nameFault (nth tTie o.2.2.2.1 x_0).2.2.2.1) (by unfold tieG prevT laterB; grind) (by have := isNil_pos (nameFault_nonneg _) h13; omega)]
                    · simp only [bl, reduceCtorEq] at h13
                      intro h14
                      intro h15
                      refine ⟨?_, ?_⟩
                      · simp only [I64, big] at *; omega
                      have := errNo_nil.1 h13; exact ⟨x_0 + 1, q_0.next (by omega) (by unfold tieG prevT laterB; grind), by omega, ⟨by omega, trivial⟩, (by trivial)⟩
              · simp only [bl, reduceCtorEq] at h8
                refine ⟨fun h9 => ?_, fun h9 => ?_⟩
                · simp only [bl, reduceCtorEq] at h9
                  refine ⟨fun h10 => ?_, fun h10 => ?_⟩
                  · simp only [bl, reduceCtorEq] at h10
                    rw [q_0.fault (by omega) (f := 3) (by unfold tieG prevT laterB; grind) (by decide)]; rfl
                  · simp only [bl, reduceCtorEq] at h10
                    refine ⟨fun h11 => ?_, fun h11 => ?_⟩
                    · rw [q_0.fault (by omega) (f := 3) (by unfold tieG prevT laterB; grind) (by decide)]; rfl
                    · intro h12
                      intro h13
                      refine ⟨?_, ?_⟩
                      · simp only [I64, big] at *; omega
                      exact ⟨x_0 + 1, q_0.next (by omega) (by unfold tieG prevT laterB; grind), by omega, ⟨by omega, trivial⟩, (by trivial)⟩
                · simp only [bl, reduceCtorEq] at h9
                  refine ⟨trivial, ?_⟩
                  refine ⟨fun h10 => ?_, fun h10 => ?_⟩
                  · simp only [bl, reduceCtorEq] at h10
                    rw [q_0.fault (by omega) (f := nameFault (nth tTie o.2.2.2.1 x_0).2.2.2.1) (by unfold tieG prevT laterB; grind) (by have := isNil_pos (nameFault_nonneg _) h10; omega)]
                  · simp only [bl, reduceCtorEq] at h10
                    intro h11
                    intro h12
                    refine ⟨?_, ?_⟩
                    · simp only [I64, big] at *; omega
                    have := errNo_nil.1 h10; exact ⟨x_0 + 1, q_0.next (by omega) (by unfold tieG prevT laterB; grind), by omega, ⟨by omega, trivial⟩, (by trivial)⟩
  · simp only [bl, reduceCtorEq] at h1
    rw [q_0.done (by omega)]; rfl
theorem Tryd.ok_TiesO : PureOK Tryd.prog Tryd.B.eT Tryd.X 36 [tObject] [.err] (fun _ => True) (fun x y => y = (fun o => errNo (tiesG o.2.1.length none o.2.2.2.1)) x) :=
  pure_fn (X := Tryd.X) Tryd.tiesCtxOK Tryd.func36 (by kernel_rfl) (fun x => tiesAnn x) (fun x hw hp => vc_TiesO x hw)
noncomputable def Tryd.checkOCtx : List (FuncId × (Bool × CSpec)) := [(26, (true, funSpec [.str] [.err] (fun _ => True) (fun s => errNo (nameFault s)))),
  (27, (true, funSpec [.slice .str, .str] [.bool] (fun _ => True) (fun x => x.1.any (· == x.2)))),
  (34, (true, funSpec [.int .i64] [.bool] (fun _ => True) (fun n => wordB n))),
  (35, (true, funSpec [tObject] [.err] (fun _ => True) (fun o => errNo (symsG o.2.1.length [] o.2.2.1)))),
  (36, (true, funSpec [tObject] [.err] (fun _ => True) (fun o => errNo (tiesG o.2.1.length none o.2.2.2.1))))]
theorem Tryd.checkOCtxOK : CtxOK Tryd.prog Tryd.B Tryd.X Tryd.checkOCtx :=
  ctx1 (callOK_of_fun Tryd.ok_Check) (ctx1 (callOK_of_fun Tryd.ok_ContainsS) (ctx1 (callOK_of_fun Tryd.ok_WordO) (ctx1 (callOK_of_fun Tryd.ok_SymbolsO) (ctx1 (callOK_of_fun Tryd.ok_TiesO) (ctx0 Tryd.tyOK)))))
def checkOAnn (o : D tObject) : Anns := [
  (0, fun st => { X := Nat, inv := fun i => NeedsI o.1 i, meas := fun i => o.1.length - i, slots := fun i => [(41, sI i)], keep := [1, 39, 40] }),
  (2, fun st => { X := Nat, inv := fun i => WordsI o.2.1 i, meas := fun i => o.2.1.length - i, slots := fun i => [(62, sI i)], keep := [1, 60, 61] })]
set_option maxRecDepth 100000 in
set_option maxHeartbeats 4000000 in
theorem vc_CheckO (o : D tObject) (hw : wfL [tObject] o) : (fnVCs Tryd.B Tryd.checkOCtx Tryd.f19 (checkOAnn o) [tObject] [.err] (fun x y => y = (fun o => errNo (faultO o)) x) o).holds := by
  refine holds_of (p :=
    ((List.length o.1 ≤ big) → (((decide ((↑(List.length o.1) : Int) > (4 : Int))) = true → (Err.no (2 : Int) = errNo (faultO o))) ∧ ((decide ((↑(List.length o.1) : Int) > (4 : Int))) = false → ((List.length o.2.1 ≤ big) → (((decide ((↑(List.length o.2.1) : Int) < (1 : Int))) = true → (Err.no (2 : Int) = errNo (faultO o))) ∧ ((decide ((↑(List.length o.2.1) : Int) < (1 : Int))) = false → ((List.length o.2.1 ≤ big) → (((decide ((↑(List.length o.2.1) : Int) > (40 : Int))) = true → (Err.no (2 : Int) = errNo (faultO o))) ∧ ((decide ((↑(List.length o.2.1) : Int) > (40 : Int))) = false → ((List.length o.2.2.1 ≤ big) → (((decide ((↑(List.length o.2.2.1) : Int) > (8 : Int))) = true → (Err.no (2 : Int) = errNo (faultO o))) ∧ ((decide ((↑(List.length o.2.2.1) : Int) > (8 : Int))) = false → ((List.length o.2.2.2.1 ≤ big) → (((decide ((↑(List.length o.2.2.2.1) : Int) > (6 : Int))) = true → (Err.no (2 : Int) = errNo (faultO o))) ∧ ((decide ((↑(List.length o.2.2.2.1) : Int) > (6 : Int))) = false → ((List.length o.1 ≤ big) → (∃ (x : Nat), NeedsI o.1 x ∧ ((0 : Int) = (↑x : Int) ∧ True) ∧ True) ∧ (∀ x_0 : Nat, ((NeedsI o.1 x_0) → (((decide ((↑x_0 : Int) < (↑(List.length o.1) : Int))) = true → ((0 : Int) ≤ (↑x_0 : Int) ∧ (↑x_0 : Int) < (↑(List.length o.1) : Int)) ∧ (True) ∧ (((!Err.isNil (errNo (nameFault (nth Ty.str o.1 x_0)))) = true → (errNo (nameFault (nth Ty.str o.1 x_0)) = errNo (faultO o))) ∧ ((!Err.isNil (errNo (nameFault (nth Ty.str o.1 x_0)))) = false → ((0 : Int) ≤ (0 : Int) ∧ (0 : Int) ≤ (↑x_0 : Int) ∧ (↑x_0 : Int) ≤ (↑(List.length o.1) : Int)) ∧ (True) ∧ (((List.any (List.drop (0 : Nat) (List.take x_0 o.1)) fun (x : List UInt8) => x == nth Ty.str o.1 x_0) = true → (Err.no (3 : Int) = errNo (faultO o))) ∧ ((List.any (List.drop (0 : Nat) (List.take x_0 o.1)) fun (x : List UInt8) => x == nth Ty.str o.1 x_0) = false → ((I64 (↑x_0 : Int)) → ((I64 (1 : Int)) → (I64 ((↑x_0 : Int) + (1 : Int))) ∧
    (∃ (x' : Nat), NeedsI o.1 x' ∧ List.length o.1 - x' < List.length o.1 - x_0 ∧ ((↑x_0 : Int) + (1 : Int) = (↑x' : Int) ∧ True) ∧ (o.1 = o.1 ∧ o.2.1 = o.2.1 ∧ o.2.2.1 = o.2.2.1 ∧ o.2.2.2.1 = o.2.2.2.1 ∧ True) ∧ True)))))))) ∧ ((decide ((↑x_0 : Int) < (↑(List.length o.1) : Int))) = false → ((List.length o.2.1 ≤ big) → (∃ (x : Nat), WordsI o.2.1 x ∧ ((0 : Int) = (↑x : Int) ∧ True) ∧ True) ∧ (∀ x_1 : Nat, ((WordsI o.2.1 x_1) → (((decide ((↑x_1 : Int) < (↑(List.length o.2.1) : Int))) = true → ((0 : Int) ≤ (↑x_1 : Int) ∧ (↑x_1 : Int) < (↑(List.length o.2.1) : Int)) ∧ (True) ∧ (((!wordB (nth (Ty.int IntKind.i64) o.2.1 x_1)) = true → (Err.no (1 : Int) = errNo (faultO o))) ∧ ((!wordB (nth (Ty.int IntKind.i64) o.2.1 x_1)) = false → ((I64 (↑x_1 : Int)) → ((I64 (1 : Int)) → (I64 ((↑x_1 : Int) + (1 : Int))) ∧
    (∃ (x' : Nat), WordsI o.2.1 x' ∧ List.length o.2.1 - x' < List.length o.2.1 - x_1 ∧ ((↑x_1 : Int) + (1 : Int) = (↑x' : Int) ∧ True) ∧ (o.1 = o.1 ∧ o.2.1 = o.2.1 ∧ o.2.2.1 = o.2.2.1 ∧ o.2.2.2.1 = o.2.2.2.1 ∧ True) ∧ True)))))) ∧ ((decide ((↑x_1 : Int) < (↑(List.length o.2.1) : Int))) = false → (True) ∧ (((!Err.isNil (errNo (symsG (List.length o.2.1) (@List.nil (List UInt8 × Int × Bool × Unit)) o.2.2.1))) = true → (errNo (symsG (List.length o.2.1) (@List.nil (List UInt8 × Int × Bool × Unit)) o.2.2.1) = errNo (faultO o))) ∧ ((!Err.isNil (errNo (symsG (List.length o.2.1) (@List.nil (List UInt8 × Int × Bool × Unit)) o.2.2.1))) = false → (True) ∧ (errNo (tiesG (List.length o.2.1) none o.2.2.2.1) = errNo (faultO o)))))))))))))))))))))))))))))) (by kernel_rfl) ?_
  intro h0
  refine ⟨fun h1 => ?_, fun h1 => ?_⟩
  · simp only [bl, reduceCtorEq] at h1
    rw [faultO_many (by unfold manyO; omega)]; rfl
  · simp only [bl, reduceCtorEq] at h1
    intro h2
    refine ⟨fun h3 => ?_, fun h3 => ?_⟩
    · simp only [bl, reduceCtorEq] at h3
      rw [faultO_many (by unfold manyO; omega)]; rfl
    · simp only [bl, reduceCtorEq] at h3
      intro h4
      refine ⟨fun h5 => ?_, fun h5 => ?_⟩
      · simp only [bl, reduceCtorEq] at h5
        rw [faultO_many (by unfold manyO; omega)]; rfl
      · simp only [bl, reduceCtorEq] at h5
        intro h6
        refine ⟨fun h7 => ?_, fun h7 => ?_⟩
        · simp only [bl, reduceCtorEq] at h7
          rw [faultO_many (by unfold manyO; omega)]; rfl
        · simp only [bl, reduceCtorEq] at h7
          intro h8
          refine ⟨fun h9 => ?_, fun h9 => ?_⟩
          · simp only [bl, reduceCtorEq] at h9
            rw [faultO_many (by unfold manyO; omega)]; rfl
          · simp only [bl, reduceCtorEq] at h9
            intro h10
            refine ⟨?_, ?_⟩
            · exact ⟨0, .zero _, ⟨rfl, trivial⟩, trivial⟩
            intro x_0 q_0
            refine ⟨fun h11 => ?_, fun h11 => ?_⟩
            · simp only [bl, reduceCtorEq] at h11
              refine ⟨?_, ?_⟩
              · omega
              refine ⟨trivial, ?_⟩
              refine ⟨fun h12 => ?_, fun h12 => ?_⟩
              · simp only [bl, reduceCtorEq] at h12
                have hf := isNil_pos (nameFault_nonneg _) h12; rw [faultO_needs (by unfold manyO; omega) (q_0.fault (by omega) hf) (by omega)]
              · simp only [bl, reduceCtorEq] at h12
                refine ⟨?_, ?_⟩
                · omega
                refine ⟨trivial, ?_⟩
                refine ⟨fun h13 => ?_, fun h13 => ?_⟩
                · rw [List.drop_zero] at h13; rw [faultO_needs (by unfold manyO; omega) (q_0.dup (by omega) (isNil_le h12) h13) (by decide)]; rfl
                · intro h14
                  intro h15
                  refine ⟨?_, ?_⟩
                  · simp only [I64, big] at *; omega
                  rw [List.drop_zero] at h13; exact ⟨x_0 + 1, q_0.next (by omega) (isNil_le h12) h13, by omega, ⟨by omega, trivial⟩, (by trivial)⟩
            · simp only [bl, reduceCtorEq] at h11
              intro h12
              refine ⟨?_, ?_⟩
              · exact ⟨0, .zero _, ⟨rfl, trivial⟩, trivial⟩
              intro x_1 q_1
              refine ⟨fun h13 => ?_, fun h13 => ?_⟩
              · simp only [bl, reduceCtorEq] at h13
                refine ⟨?_, ?_⟩
                · omega
                refine ⟨trivial, ?_⟩
                refine ⟨fun h14 => ?_, fun h14 => ?_⟩
                · simp only [bl, reduceCtorEq] at h14
                  rw [faultO_words (by unfold manyO; omega) (q_0.done (by omega)) (q_1.fault (by omega) h14) (by decide)]; rfl
                · simp only [bl, reduceCtorEq] at h14
                  intro h15
                  intro h16
                  refine ⟨?_, ?_⟩
                  · simp only [I64, big] at *; omega
                  exact ⟨x_1 + 1, q_1.next (by omega) h14, by omega, ⟨by omega, trivial⟩, (by trivial)⟩
              · simp only [bl, reduceCtorEq] at h13
                refine ⟨trivial, ?_⟩
                refine ⟨fun h14 => ?_, fun h14 => ?_⟩
                · simp only [bl, reduceCtorEq] at h14
                  have hf := isNil_pos (symsG_nonneg _ _ _) h14; rw [faultO_syms (by unfold manyO; omega) (q_0.done (by omega)) (q_1.done (by omega)) rfl (by omega)]
                · simp only [bl, reduceCtorEq] at h14
                  refine ⟨trivial, ?_⟩
                  rw [faultO_ties (by unfold manyO; omega) (q_0.done (by omega)) (q_1.done (by omega)) (errNo_nil.1 h14) rfl]
theorem Tryd.ok_CheckO : PureOK Tryd.prog Tryd.B.eT Tryd.X 19 [tObject] [.err] (fun _ => True) (fun x y => y = (fun o => errNo (faultO o)) x) :=
  pure_fn (X := Tryd.X) Tryd.checkOCtxOK Tryd.func19 (by kernel_rfl) (fun x => checkOAnn x) (fun x hw hp => vc_CheckO x hw)
set_option maxRecDepth 100000 in
set_option maxHeartbeats 4000000 in
theorem vc_WeaklyO (b : Bool) (hw : wfL [.bool] b) : (fnVCs Tryd.B [] Tryd.f22 [] [.bool] [.str] (fun x y => y = (fun b => weakT b) x) b).holds := by
  refine holds_of (p :=
    (((b) = true → ([(119 : UInt8), 101, 97, 107, 32] = weakT b)) ∧ ((b) = false → (@List.nil UInt8 = weakT b)))) (by kernel_rfl) ?_
  refine ⟨fun h0 => ?_, fun h0 => ?_⟩
  · cases b <;> first | rfl | simp_all
  · cases b <;> first | rfl | simp_all
theorem Tryd.ok_WeaklyO : PureOK Tryd.prog Tryd.B.eT Tryd.X 22 [.bool] [.str] (fun _ => True) (fun x y => y = (fun b => weakT b) x) :=
  pure_fn (X := Tryd.X) (ctx0 Tryd.tyOK) Tryd.func22 (by kernel_rfl) (fun _ => []) (fun x hw hp => vc_WeaklyO x hw)
end Go.Proofs.YtgokjhhcfemnhacDoor

namespace Go.Proofs.YtgokjhhcfemnhacDoor
open Go.RowKit Go.Vg
theorem Tryd.szB : (Tryd.prog.info? 64).map (·.size) = some 2 := by kernel_rfl
theorem Tryd.lyB : liesAt Tryd.prog Tryd.prog.depth 64 (2 / Tryd.prog.cellsOf 64) 0 64 1 = true := by kernel_rfl
set_option maxHeartbeats 1000000 in
set_option maxRecDepth 100000 in
theorem Tryd.check_used (b : Nat) (v : Value) (w : World) (hb : w.heap[b]? = some (.cells #[.pointer (some ⟨b, 0, none⟩), v] 64 (0, 0))) :
    Calls Tryd.prog 38 #[.pointer (some ⟨b, 0, none⟩)] w fun e w' => e = .returned (.tuple #[]) ∧ w' = w := by
  obtain ⟨j, hj, _⟩ := Option.map_eq_some_iff.1 Tryd.szB
  have h0 : w.cell? ⟨b, 0, none⟩ = some (.pointer (some ⟨b, 0, none⟩)) := by rw [Lib.cell_of_heap hb]; rfl
  go_enter Tryd.func38, Tryd.ntmps38
  go_wp2
  rw [Lib.run_neq_ptr_same w _ Tryd.underlying61 hj]
  go_wp2
  go_end0
  exact ⟨rfl, rfl⟩
set_option maxHeartbeats 1000000 in
set_option maxRecDepth 100000 in
theorem Tryd.check_fresh (b : Nat) (v : Value) (w : World) (hb : w.heap[b]? = some (.cells #[.pointer none, v] 64 (0, 0))) :
    Calls Tryd.prog 38 #[.pointer (some ⟨b, 0, none⟩)] w fun e w' => e = .returned (.tuple #[]) ∧ w' = w.setCell ⟨b, 0, none⟩ (.pointer (some ⟨b, 0, none⟩)) := by
  obtain ⟨j, hj, hjs⟩ := Option.map_eq_some_iff.1 Tryd.szB
  have h0 : w.cell? ⟨b, 0, none⟩ = some (.pointer none) := by rw [Lib.cell_of_heap hb]; rfl
  have hsh : w.shape? b = some (64, 2) := by simp [World.shape?, hb]
  have hfz : w.frozen? ⟨b, 0, none⟩ = false := Lib.frozen_of_heap hb 0
  go_enter Tryd.func38, Tryd.ntmps38
  go_wp2
  rw [Lib.run_to_unsafe w ⟨b, 0, none⟩ Tryd.underlying61 Tryd.underlying103 hj (by rw [hjs]; decide) hsh (Nat.zero_lt_succ 1)]
  simp only [Result.andThen]
  rw [Oper.upon_value]
  go_wp2
  rw [run_callFunc_extern Tryd.func49 (by kernel_rfl) (by kernel_rfl) (by kernel_rfl) (e := Extern.AbiNoEscape.same) (by kernel_rfl)]
  rw [Lib.run_noEscape]
  simp only [Result.andThen]
  rw [Oper.upon_value]
  go_wp2
  rw [Lib.run_from_unsafe w ⟨b, 0, none⟩ Tryd.underlying103 Tryd.underlying61 hj hsh Tryd.lyB]
  simp only [Result.andThen]
  rw [Oper.upon_value]
  go_wp2
  go_end0
  exact ⟨rfl, rfl⟩
theorem Tryd.byI : (Tryd.prog.info? 5).map (fun i => (i.zero, i.size, i.bytes)) = some (some (.int .u8 0), 1, 1) := by kernel_rfl
theorem Tryd.celB : Tryd.prog.cellsOf 5 = 1 := by kernel_rfl
set_option maxHeartbeats 2000000 in
set_option maxRecDepth 100000 in
theorem Tryd.bld_write (b : Nat) (p v : Value) (xs : List Value) (s : ByteArray) (w : World) (hb : w.heap[b]? = some (.cells #[p, v] 64 (0, 0))) (hp : p = .pointer none ∨ p = .pointer (some ⟨b, 0, none⟩))
    (hown : w.ownsRow 0 5 1 v xs.length xs) (hne : v.ownBlock ≠ some b) (hcap : ∀ a n c, v = .slice (some a) n c → 0 < c) (hlen : xs.length + s.size ≤ 140737488355328) :
    Calls Tryd.prog 21 #[.pointer (some ⟨b, 0, none⟩), .string s] w fun e w' => e = .returned (.tuple #[.int .i64 s.size, .nilIface]) ∧
      ∃ v', w'.heap[b]? = some (.cells #[.pointer (some ⟨b, 0, none⟩), v'] 64 (0, 0)) ∧ w'.ownsRow 0 5 1 v' (xs.length + s.size) (xs ++ Lib.strCells s) ∧ v'.ownBlock ≠ some b ∧ Kept b v w w' ∧
        (∀ a n c, v' = .slice (some a) n c → 0 < c) ∧ (∀ g, v'.ownBlock = some g → v.ownBlock = some g ∨ w.heap.size ≤ g) := by
  obtain ⟨i0, hi, hz0⟩ := Option.map_eq_some_iff.1 Tryd.byI
  simp only [Prod.mk.injEq] at hz0
  obtain ⟨hz0, hz1, hz2⟩ := hz0
  have hchk : Calls Tryd.prog 38 #[.pointer (some ⟨b, 0, none⟩)] w fun e w1 => e = .returned (.tuple #[]) ∧ w1.heap[b]? = some (.cells #[.pointer (some ⟨b, 0, none⟩), v] 64 (0, 0)) ∧
      w1.os = w.os ∧ w1.output = w.output ∧ w1.heap.size = w.heap.size ∧ ∀ k, k ≠ b → w1.heap[k]? = w.heap[k]? := by
    rcases hp with rfl | rfl
    · refine (Tryd.check_fresh b v w hb).mono ?_
      rintro e w1 ⟨rfl, rfl⟩
      exact ⟨rfl, (setc hb).trans (by simp), rfl, rfl, Go.Deep.nblk_setCell _ _ _, fun k hk => Go.Deep.blk_setCell_other _ _ _ _ hk⟩
    · refine (Tryd.check_used b v w hb).mono ?_
      rintro e w1 ⟨rfl, rfl⟩
      exact ⟨rfl, hb, rfl, rfl, rfl, fun _ _ => rfl⟩
  go_enter Tryd.func21, Tryd.ntmps21
  go_wp2_with (go_at_call 38; refine hchk.mono ?_)
  rintro e w1 ⟨rfl, hb1, ho1, hu1, hs1, hk1⟩
  have hown1 : w1.ownsRow 0 5 1 v xs.length xs := by
    refine ⟨hown.1, ?_⟩
    rcases hown.2 with h | ⟨g, cap, cur, h1, h2, h3, h4⟩
    · exact .inl h
    · refine .inr ⟨g, cap, cur, h1, h2, ?_, h4⟩
      rw [hk1 g (fun e => hne (by rw [h1, e]; rfl))]; exact h3
  have c0 : w1.cell? ⟨b, 0, none⟩ = some (.pointer (some ⟨b, 0, none⟩)) := by rw [Lib.cell_of_heap hb1]; rfl
  have c1 : w1.cell? ⟨b, 1, none⟩ = some v := by rw [Lib.cell_of_heap hb1]; rfl
  obtain ⟨v', w2, hrun, hown', hgrow, hcap', hnew⟩ := app_str (t := 62) (u := 9) (ty := 62) Tryd.underlying62 Tryd.underlying9 hi hz0 hz1 hz2 hown1 hcap s hlen
  have hlt : b < w1.heap.size := (Array.getElem?_eq_some_iff.1 hb1).1
  have hb2 : w2.heap[b]? = some (.cells #[.pointer (some ⟨b, 0, none⟩), v] 64 (0, 0)) := by rw [hgrow.block b hlt (fun e => hne e.symm)]; exact hb1
  have d1 : w2.cell? ⟨b, 1, none⟩ = some v := by rw [Lib.cell_of_heap hb2]; rfl
  have f1 : w2.frozen? ⟨b, 1, none⟩ = false := Lib.frozen_of_heap hb2 1
  have hne' : v'.ownBlock ≠ some b := by
    intro e
    rcases hown'.2 with ⟨h, _⟩ | ⟨g', cap, cur, h, _, h3, _⟩
    · rw [h] at e; cases e
    · rw [h] at e
      cases e
      rw [hb2] at h3
      cases h3
  have hv1 : ∃ a n c, v' = .slice a n c := by
    rcases hown'.2 with ⟨h, _⟩ | ⟨g', cap, cur, h, _⟩ <;> exact ⟨_, _, _, h⟩
  obtain ⟨va, vn, vc, rfl⟩ := hv1
  rw [hs1] at hnew
  go_wp2_with (at_builtin; refine wpList_append_run rfl _ _ 62 9 rfl rfl rfl hrun ?_)
  go_ret2
  refine ⟨rfl, .slice va vn vc, (setc hb2).trans (by simp), ⟨hown'.1, ?_⟩, hne', ⟨hgrow.os.trans ho1, hgrow.output.trans hu1, ?_, fun k h1 h2 h3 => ?_⟩, hcap', hnew⟩
  · rcases hown'.2 with h | ⟨g, cap, cur, h1, h2, h3, h4⟩
    · exact .inl h
    · refine .inr ⟨g, cap, cur, h1, h2, ?_, h4⟩
      rw [Go.Deep.blk_setCell_other _ _ _ _ (fun e => hne' (by rw [h1, show g = b from e]; rfl))]
      exact h3
  · rw [Go.Deep.nblk_setCell]; have := hgrow.size; omega
  · rw [Go.Deep.blk_setCell_other _ _ _ _ (show k ≠ b from h2), hgrow.block k (by omega) (fun e => h3 e.symm), hk1 k h2]
set_option maxHeartbeats 2000000 in
set_option maxRecDepth 100000 in
theorem Tryd.bld_string (b : Nat) (p v : Value) (l : List UInt8) (w : World) (hb : w.heap[b]? = some (.cells #[p, v] 64 (0, 0))) (hown : w.ownsRow 0 5 1 v l.length (l.map fun c => Value.int .u8 c.toNat)) (hcap : ∀ a n c, v = .slice (some a) n c → 0 < c) :
    Calls Tryd.prog 24 #[.pointer (some ⟨b, 0, none⟩)] w fun e w' => e = .returned (.string ⟨l.toArray⟩) ∧ Kept1 v w w' := by
  have c1 : w.drew.cell? ⟨b, 1, none⟩ = some v := by
    have : w.drew.heap[b]? = some (.cells #[p, v] 64 (0, 0)) := hb
    rw [Lib.cell_of_heap this]; rfl
  have mixed : Tryd.prog.follows .mixedOrders = true := by kernel_rfl
  by_cases h0 : l = []
  · subst h0
    obtain ⟨q, n, c, rfl, hn, hSD⟩ : ∃ q n c, v = .slice q n c ∧ n = 0 ∧ (Builtin.unsafeSliceData_ #[62] 93 #[v]).run Tryd.prog w.drew = .ok (.pointer q) w.drew := by
      rcases hown.2 with ⟨rfl, _⟩ | ⟨g, cap, cur, rfl, _⟩
      · exact ⟨none, 0, 0, rfl, rfl, Lib.run_unsafeSliceData_nil _ _ _ _ _⟩
      · exact ⟨_, _, _, rfl, rfl, Lib.run_unsafeSliceData_row _ _ _ _ _ _ (by have := hcap _ _ _ rfl; omega)⟩
    subst hn
    have hUS : (Builtin.unsafeString_ #[93, 3] 9 #[.pointer q, .int .i64 0]).run Tryd.prog w.drew = .ok (.string .empty) w.drew := Lib.run_unsafeString_none _ _ _ _ q
    go_enter Tryd.func24, Tryd.ntmps24
    go_wp2
    go_region_o
    all_goals (go_wp2; go_ret; exact ⟨rfl, rfl, rfl, rfl, fun _ _ => rfl⟩)
  · have hl0 : l.length ≠ 0 := by simpa using h0
    rcases hown.2 with ⟨_, hz⟩ | ⟨g, cap, cur, rfl, hbg, hg, hnc, hcm, hcs, htake⟩
    · exact absurd hz hl0
    have hSD : (Builtin.unsafeSliceData_ #[62] 93 #[.slice (some ⟨g, 0, none⟩) l.length cap]).run Tryd.prog w.drew = .ok (.pointer (some ⟨g, 0, none⟩)) w.drew := Lib.run_unsafeSliceData_row _ _ _ _ _ _ (by omega)
    have hUS : (Builtin.unsafeString_ #[93, 3] 9 #[.pointer (some ⟨g, 0, none⟩), .int .i64 l.length]).run Tryd.prog w.drew = .ok (.string ⟨l.toArray⟩) (w.drew.freeze ⟨g, 0, none⟩ l.length) := by
      refine Lib.run_unsafeString_row w.drew 93 3 9 5 Tryd.underlying93 Tryd.celB g cur.size (by have hg' : w.drew.heap[g]? = some (.cells cur 5 (0, 0)) := hg; simp [World.shape?, hg']) l h0 (by omega) (by unfold maxLen at hcm; omega) ?_
      intro j x hx
      exact hown.cells (g := g) rfl j (.int .u8 x.toNat) (by simp [hx])
    go_enter Tryd.func24, Tryd.ntmps24
    go_wp2
    go_region_o
    all_goals (go_wp2; go_ret; exact ⟨rfl, kept_freeze⟩)
theorem Tryd.bld_len (b : Nat) (p _q : Value) (a : Option Addr) (n c : Nat) (w : World) (hb : w.heap[b]? = some (.cells #[p, .slice a n c] 64 (0, 0))) :
    Calls Tryd.prog 23 #[.pointer (some ⟨b, 0, none⟩)] w fun r w' => r = .returned (.int .i64 n) ∧ w' = w := by
  have c1 : w.cell? ⟨b, 1, none⟩ = some (.slice a n c) := by rw [Lib.cell_of_heap hb]; rfl
  go_enter Tryd.func23, Tryd.ntmps23
  go_wp2
  go_ret
  exact ⟨rfl, rfl⟩
theorem Tryd.ok_BldWrite : CallOK Tryd.prog Tryd.B.eT Tryd.X 21 false (bldWrite 64 5) :=
  callOK_bldWrite ⟨Tryd.f21, Tryd.func21, by kernel_rfl, by kernel_rfl⟩ Tryd.bld_write
theorem Tryd.ok_BldString : CallOK Tryd.prog Tryd.B.eT Tryd.X 24 false (bldString 64 5) :=
  callOK_bldString ⟨Tryd.f24, Tryd.func24, by kernel_rfl, by kernel_rfl⟩ Tryd.bld_string
theorem Tryd.ok_BldLen : CallOK Tryd.prog Tryd.B.eT Tryd.X 23 true (bldLen 64 5) :=
  callOK_bldLen ⟨Tryd.f23, Tryd.func23, by kernel_rfl, by kernel_rfl⟩ Tryd.bld_len
end Go.Proofs.YtgokjhhcfemnhacDoor

namespace Go.Proofs.YtgokjhhcfemnhacDoor
open Go.Vg Go.Mrl
noncomputable def Tryd.textOCtx : List (FuncId × (Bool × CSpec)) := [(26, (true, funSpec [.str] [.err] (fun _ => True) (fun s => errNo (nameFault s)))),
  (21, (false, bldWrite 64 5)),
  (24, (false, bldString 64 5)),
  (23, (true, bldLen 64 5)),
  (20, (true, funSpec [.int .i64] [.str] (fun _ => True) (fun n => Lib.itoa n))),
  (19, (true, funSpec [tObject] [.err] (fun _ => True) (fun o => errNo (faultO o)))),
  (22, (true, funSpec [.bool] [.str] (fun _ => True) (fun b => weakT b)))]
theorem Tryd.textOCtxOK : CtxOK Tryd.prog Tryd.B Tryd.X Tryd.textOCtx :=
  ctx1 (callOK_of_fun Tryd.ok_Check) (ctx1 (Tryd.ok_BldWrite) (ctx1 (Tryd.ok_BldString) (ctx1 (Tryd.ok_BldLen) (ctx1 (callOK_of_fun Tryd.ok_ItoaS) (ctx1 (callOK_of_fun Tryd.ok_CheckO) (ctx1 (callOK_of_fun Tryd.ok_WeaklyO) (ctx0 Tryd.tyOK)))))))
def textOAnn (o : D tObject) : Anns := [
  (0, fun st => { X := Nat, inv := fun i => i ≤ o.1.length, meas := fun i => o.1.length - i, slots := fun i => [(23, sI i)], keep := [1, 2, 3, 5, 6, 21, 22], objs := fun i => [(objOf st 5, .ext 2 bldT (bytesIn (pre0 o i), (64 : Int), (5 : Int), ()))], mods := [objOf st 5] }),
  (2, fun st => { X := Nat, inv := fun i => i ≤ o.2.1.length, meas := fun i => o.2.1.length - i, slots := fun i => [(35, sI i)], keep := [1, 2, 3, 5, 6, 33, 34], objs := fun i => [(objOf st 5, .ext 2 bldT (bytesIn (pre1 o i), (64 : Int), (5 : Int), ()))], mods := [objOf st 5] }),
  (4, fun st => { X := Nat, inv := fun i => i ≤ o.2.2.1.length, meas := fun i => o.2.2.1.length - i, slots := fun i => [(49, sI i)], keep := [1, 2, 3, 5, 6, 47, 48], objs := fun i => [(objOf st 5, .ext 2 bldT (bytesIn (pre2 o i), (64 : Int), (5 : Int), ()))], mods := [objOf st 5] }),
  (6, fun st => { X := Nat, inv := fun i => i ≤ o.2.2.2.1.length, meas := fun i => o.2.2.2.1.length - i, slots := fun i => [(72, sI i)], keep := [2, 3, 5, 6, 70, 71], objs := fun i => [(objOf st 5, .ext 2 bldT (bytesIn (pre3 o i), (64 : Int), (5 : Int), ()))], mods := [objOf st 5] })]
set_option maxRecDepth 100000 in
set_option maxHeartbeats 4000000 in
theorem vc_TextO (o : D tObject) (hw : wfL [tObject] o) : (fnVCs (hintB Tryd.B [41, 64, 91, 85, 104, 110, 123, 129]) Tryd.textOCtx Tryd.f7 (textOAnn o) [tObject] [.str, .err] (fun x y => y = (fun o => textR o) x) o).holds := by
  refine holds_of (p :=
    (True) ∧ (((!Err.isNil (errNo (faultO o))) = true → (([], errNo (faultO o)) = textR o)) ∧ ((!Err.isNil (errNo (faultO o))) = false → ((List.length o.1 ≤ big) →
    (∃ (x : Nat), x ≤ List.length o.1 ∧ ((0 : Int) = (↑x : Int) ∧ True) ∧ ([], (↑(64 : Nat) : Int), (↑(5 : TypeId) : Int), ()) = (List.map (fun (b : UInt8) => (↑(UInt8.toNat b) : Int)) (pre0 o x), (64 : Int), (5 : Int), ()) ∧ True) ∧ (∀ x_0 : Nat, ((x_0 ≤ List.length o.1) → (((decide ((↑x_0 : Int) < (↑(List.length o.1) : Int))) = true → ((0 : Int) ≤ (↑x_0 : Int) ∧ (↑x_0 : Int) < (↑(List.length o.1) : Int)) ∧ (List.length [(110 : UInt8), 101, 101, 100, 32] + List.length (nth Ty.str o.1 x_0) ≤ big) ∧ (List.length ([(110 : UInt8), 101, 101, 100, 32] ++ nth Ty.str o.1 x_0) + List.length [(10 : UInt8)] ≤ big) ∧
    ((64 : Int) = (↑(64 : Nat) : Int) ∧ (5 : Int) = (↑(5 : Nat) : Int) ∧ List.length (List.map (fun (b : UInt8) => (↑(UInt8.toNat b) : Int)) (pre0 o x_0)) + List.length ([(110 : UInt8), 101, 101, 100, 32] ++ nth Ty.str o.1 x_0 ++ [(10 : UInt8)]) ≤ (140737488355328 : Nat)) ∧ ((I64 (↑x_0 : Int)) → ((I64 (1 : Int)) → (I64 ((↑x_0 : Int) + (1 : Int))) ∧
    (∃ (x' : Nat), x' ≤ List.length o.1 ∧ List.length o.1 - x' < List.length o.1 - x_0 ∧ ((↑x_0 : Int) + (1 : Int) = (↑x' : Int) ∧ True) ∧ (List.map (fun (b : UInt8) => (↑(UInt8.toNat b) : Int)) (pre0 o x_0) ++ List.map (fun (b : UInt8) => (↑(UInt8.toNat b) : Int)) ([(110 : UInt8), 101, 101, 100, 32] ++ nth Ty.str o.1 x_0 ++ [(10 : UInt8)]), (↑(64 : Nat) : Int), (↑(5 : Nat) : Int), ()) = (List.map (fun (b : UInt8) => (↑(UInt8.toNat b) : Int)) (pre0 o x'), (64 : Int), (5 : Int), ()) ∧ (o.1 = o.1 ∧ o.2.1 = o.2.1 ∧ o.2.2.1 = o.2.2.1 ∧ o.2.2.2.1 = o.2.2.2.1 ∧ True) ∧ True)))) ∧ ((decide ((↑x_0 : Int) < (↑(List.length o.1) : Int))) = false → ((List.length o.2.1 ≤ big) →
    (∃ (x : Nat), x ≤ List.length o.2.1 ∧ ((0 : Int) = (↑x : Int) ∧ True) ∧ (List.map (fun (b : UInt8) => (↑(UInt8.toNat b) : Int)) (pre0 o x_0), (64 : Int), (5 : Int), ()) = (List.map (fun (b : UInt8) => (↑(UInt8.toNat b) : Int)) (pre1 o x), (64 : Int), (5 : Int), ()) ∧ True) ∧ (∀ x_1 : Nat, ((x_1 ≤ List.length o.2.1) → (((decide ((↑x_1 : Int) < (↑(List.length o.2.1) : Int))) = true → ((0 : Int) ≤ (↑x_1 : Int) ∧ (↑x_1 : Int) < (↑(List.length o.2.1) : Int)) ∧ (True) ∧ (List.length [(119 : UInt8), 111, 114, 100, 32] + List.length (Lib.itoa (nth (Ty.int IntKind.i64) o.2.1 x_1)) ≤ big) ∧
    (List.length ([(119 : UInt8), 111, 114, 100, 32] ++ Lib.itoa (nth (Ty.int IntKind.i64) o.2.1 x_1)) + List.length [(10 : UInt8)] ≤ big) ∧
    ((64 : Int) = (↑(64 : Nat) : Int) ∧ (5 : Int) = (↑(5 : Nat) : Int) ∧ List.length (List.map (fun (b : UInt8) => (↑(UInt8.toNat b) : Int)) (pre1 o x_1)) + List.length ([(119 : UInt8), 111, 114, 100, 32] ++ Lib.itoa (nth (Ty.int IntKind.i64) o.2.1 x_1) ++ [(10 : UInt8)]) ≤ (140737488355328 : Nat)) ∧ ((I64 (↑x_1 : Int)) → ((I64 (1 : Int)) → (I64 ((↑x_1 : Int) + (1 : Int))) ∧
    (∃ (x' : Nat), x' ≤ List.length o.2.1 ∧ List.length o.2.1 - x' < List.length o.2.1 - x_1 ∧ ((↑x_1 : Int) + (1 : Int) = (↑x' : Int) ∧ True) ∧ (List.map (fun (b : UInt8) => (↑(UInt8.toNat b) : Int)) (pre1 o x_1) ++ List.map (fun (b : UInt8) => (↑(UInt8.toNat b) : Int)) ([(119 : UInt8), 111, 114, 100, 32] ++ Lib.itoa (nth (Ty.int IntKind.i64) o.2.1 x_1) ++ [(10 : UInt8)]), (↑(64 : Nat) : Int), (↑(5 : Nat) : Int), ()) = (List.map (fun (b : UInt8) => (↑(UInt8.toNat b) : Int)) (pre1 o x'), (64 : Int), (5 : Int), ()) ∧ (o.1 = o.1 ∧ o.2.1 = o.2.1 ∧ o.2.2.1 = o.2.2.1 ∧ o.2.2.2.1 = o.2.2.2.1 ∧ True) ∧ True)))) ∧ ((decide ((↑x_1 : Int) < (↑(List.length o.2.1) : Int))) = false → ((List.length o.2.2.1 ≤ big) →
    (∃ (x : Nat), x ≤ List.length o.2.2.1 ∧ ((0 : Int) = (↑x : Int) ∧ True) ∧ (List.map (fun (b : UInt8) => (↑(UInt8.toNat b) : Int)) (pre1 o x_1), (64 : Int), (5 : Int), ()) = (List.map (fun (b : UInt8) => (↑(UInt8.toNat b) : Int)) (pre2 o x), (64 : Int), (5 : Int), ()) ∧ True) ∧ (∀ x_2 : Nat, ((x_2 ≤ List.length o.2.2.1) → (((decide ((↑x_2 : Int) < (↑(List.length o.2.2.1) : Int))) = true → ((0 : Int) ≤ (↑x_2 : Int) ∧ (↑x_2 : Int) < (↑(List.length o.2.2.1) : Int)) ∧ (True) ∧ (List.length (weakT (nth tSymbol o.2.2.1 x_2).2.2.1) + List.length [(115 : UInt8), 121, 109, 98, 111, 108, 32] ≤ big) ∧
    (List.length (weakT (nth tSymbol o.2.2.1 x_2).2.2.1 ++ [(115 : UInt8), 121, 109, 98, 111, 108, 32]) + List.length (nth tSymbol o.2.2.1 x_2).1 ≤ big) ∧
    (List.length (weakT (nth tSymbol o.2.2.1 x_2).2.2.1 ++ [(115 : UInt8), 121, 109, 98, 111, 108, 32] ++ (nth tSymbol o.2.2.1 x_2).1) + List.length [(32 : UInt8)] ≤ big) ∧ (True) ∧
    (List.length (weakT (nth tSymbol o.2.2.1 x_2).2.2.1 ++ [(115 : UInt8), 121, 109, 98, 111, 108, 32] ++ (nth tSymbol o.2.2.1 x_2).1 ++ [(32 : UInt8)]) + List.length (Lib.itoa (nth tSymbol o.2.2.1 x_2).2.1) ≤ big) ∧
    (List.length (weakT (nth tSymbol o.2.2.1 x_2).2.2.1 ++ [(115 : UInt8), 121, 109, 98, 111, 108, 32] ++ (nth tSymbol o.2.2.1 x_2).1 ++ [(32 : UInt8)] ++ Lib.itoa (nth tSymbol o.2.2.1 x_2).2.1) + List.length [(10 : UInt8)] ≤ big) ∧
    ((64 : Int) = (↑(64 : Nat) : Int) ∧ (5 : Int) = (↑(5 : Nat) : Int) ∧ List.length (List.map (fun (b : UInt8) => (↑(UInt8.toNat b) : Int)) (pre2 o x_2)) + List.length (weakT (nth tSymbol o.2.2.1 x_2).2.2.1 ++ [(115 : UInt8), 121, 109, 98, 111, 108, 32] ++ (nth tSymbol o.2.2.1 x_2).1 ++ [(32 : UInt8)] ++ Lib.itoa (nth tSymbol o.2.2.1 x_2).2.1 ++ [(10 : UInt8)]) ≤ (140737488355328 : Nat)) ∧ ((I64 (↑x_2 : Int)) → ((I64 (1 : Int)) → (I64 ((↑x_2 : Int) + (1 : Int))) ∧
    (∃ (x' : Nat), x' ≤ List.length o.2.2.1 ∧ List.length o.2.2.1 - x' < List.length o.2.2.1 - x_2 ∧ ((↑x_2 : Int) + (1 : Int) = (↑x' : Int) ∧ True) ∧ (List.map (fun (b : UInt8) => (↑(UInt8.toNat b) : Int)) (pre2 o x_2) ++ List.map (fun (b : UInt8) => (↑(UInt8.toNat b) : Int)) (weakT (nth tSymbol o.2.2.1 x_2).2.2.1 ++ [(115 : UInt8), 121, 109, 98, 111, 108, 32] ++ (nth tSymbol o.2.2.1 x_2).1 ++ [(32 : UInt8)] ++ Lib.itoa (nth tSymbol o.2.2.1 x_2).2.1 ++ [(10 : UInt8)]), (↑(64 : Nat) : Int), (↑(5 : Nat) : Int), ()) = (List.map (fun (b : UInt8) => (↑(UInt8.toNat b) : Int)) (pre2 o x'), (64 : Int), (5 : Int), ()) ∧ (o.1 = o.1 ∧ o.2.1 = o.2.1 ∧ o.2.2.1 = o.2.2.1 ∧ o.2.2.2.1 = o.2.2.2.1 ∧ True) ∧ True)))) ∧ ((decide ((↑x_2 : Int) < (↑(List.length o.2.2.1) : Int))) = false → ((List.length o.2.2.2.1 ≤ big) →
    (∃ (x : Nat), x ≤ List.length o.2.2.2.1 ∧ ((0 : Int) = (↑x : Int) ∧ True) ∧ (List.map (fun (b : UInt8) => (↑(UInt8.toNat b) : Int)) (pre2 o x_2), (64 : Int), (5 : Int), ()) = (List.map (fun (b : UInt8) => (↑(UInt8.toNat b) : Int)) (pre3 o x), (64 : Int), (5 : Int), ()) ∧ True) ∧ (∀ x_3 : Nat, ((x_3 ≤ List.length o.2.2.2.1) → (((decide ((↑x_3 : Int) < (↑(List.length o.2.2.2.1) : Int))) = true → ((0 : Int) ≤ (↑x_3 : Int) ∧ (↑x_3 : Int) < (↑(List.length o.2.2.2.1) : Int)) ∧ ((((nth tTie o.2.2.2.1 x_3).2.1 == (1 : Int)) = true → (True) ∧ (List.length [(98 : UInt8), 97, 115, 101, 32] + List.length (Lib.itoa (nth tTie o.2.2.2.1 x_3).1) ≤ big) ∧
    (List.length ([(98 : UInt8), 97, 115, 101, 32] ++ Lib.itoa (nth tTie o.2.2.2.1 x_3).1) + List.length [(32 : UInt8)] ≤ big) ∧ (True) ∧
    (List.length ([(98 : UInt8), 97, 115, 101, 32] ++ Lib.itoa (nth tTie o.2.2.2.1 x_3).1 ++ [(32 : UInt8)]) + List.length (Lib.itoa (nth tTie o.2.2.2.1 x_3).2.2.1) ≤ big) ∧
    (List.length ([(98 : UInt8), 97, 115, 101, 32] ++ Lib.itoa (nth tTie o.2.2.2.1 x_3).1 ++ [(32 : UInt8)] ++ Lib.itoa (nth tTie o.2.2.2.1 x_3).2.2.1) + List.length [(10 : UInt8)] ≤ big) ∧
    ((64 : Int) = (↑(64 : Nat) : Int) ∧ (5 : Int) = (↑(5 : Nat) : Int) ∧ List.length (List.map (fun (b : UInt8) => (↑(UInt8.toNat b) : Int)) (pre3 o x_3)) + List.length ([(98 : UInt8), 97, 115, 101, 32] ++ Lib.itoa (nth tTie o.2.2.2.1 x_3).1 ++ [(32 : UInt8)] ++ Lib.itoa (nth tTie o.2.2.2.1 x_3).2.2.1 ++ [(10 : UInt8)]) ≤ (140737488355328 : Nat)) ∧ ((I64 (↑x_3 : Int)) → ((I64 (1 : Int)) → (I64 ((↑x_3 : Int) + (1 : Int))) ∧
    (∃ (x' : Nat), x' ≤ List.length o.2.2.2.1 ∧ List.length o.2.2.2.1 - x' < List.length o.2.2.2.1 - x_3 ∧ ((↑x_3 : Int) + (1 : Int) = (↑x' : Int) ∧ True) ∧ (List.map (fun (b : UInt8) => (↑(UInt8.toNat b) : Int)) (pre3 o x_3) ++ List.map (fun (b : UInt8) => (↑(UInt8.toNat b) : Int)) ([(98 : UInt8), 97, 115, 101, 32] ++ Lib.itoa (nth tTie o.2.2.2.1 x_3).1 ++ [(32 : UInt8)] ++ Lib.itoa (nth tTie o.2.2.2.1 x_3).2.2.1 ++ [(10 : UInt8)]), (↑(64 : Nat) : Int), (↑(5 : Nat) : Int), ()) = (List.map (fun (b : UInt8) => (↑(UInt8.toNat b) : Int)) (pre3 o x'), (64 : Int), (5 : Int), ()) ∧ (o.1 = o.1 ∧ o.2.1 = o.2.1 ∧ o.2.2.1 = o.2.2.1 ∧ o.2.2.2.1 = o.2.2.2.1 ∧ True) ∧ True)))) ∧ (((nth tTie o.2.2.2.1 x_3).2.1 == (1 : Int)) = false → ((((nth tTie o.2.2.2.1 x_3).2.1 == (2 : Int)) = true → (True) ∧ (List.length (weakT (nth tTie o.2.2.2.1 x_3).2.2.2.2.1) + List.length [(119 : UInt8), 104, 111, 108, 101, 32] ≤ big) ∧ (True) ∧
    (List.length (weakT (nth tTie o.2.2.2.1 x_3).2.2.2.2.1 ++ [(119 : UInt8), 104, 111, 108, 101, 32]) + List.length (Lib.itoa (nth tTie o.2.2.2.1 x_3).1) ≤ big) ∧
    (List.length (weakT (nth tTie o.2.2.2.1 x_3).2.2.2.2.1 ++ [(119 : UInt8), 104, 111, 108, 101, 32] ++ Lib.itoa (nth tTie o.2.2.2.1 x_3).1) + List.length [(32 : UInt8)] ≤ big) ∧ (True) ∧
    (List.length (weakT (nth tTie o.2.2.2.1 x_3).2.2.2.2.1 ++ [(119 : UInt8), 104, 111, 108, 101, 32] ++ Lib.itoa (nth tTie o.2.2.2.1 x_3).1 ++ [(32 : UInt8)]) + List.length (Lib.itoa (nth tTie o.2.2.2.1 x_3).2.2.1) ≤ big) ∧
    (List.length (weakT (nth tTie o.2.2.2.1 x_3).2.2.2.2.1 ++ [(119 : UInt8), 104, 111, 108, 101, 32] ++ Lib.itoa (nth tTie o.2.2.2.1 x_3).1 ++ [(32 : UInt8)] ++ Lib.itoa (nth tTie o.2.2.2.1 x_3).2.2.1) + List.length [(32 : UInt8)] ≤ big) ∧
    (List.length (weakT (nth tTie o.2.2.2.1 x_3).2.2.2.2.1 ++ [(119 : UInt8), 104, 111, 108, 101, 32] ++ Lib.itoa (nth tTie o.2.2.2.1 x_3).1 ++ [(32 : UInt8)] ++ Lib.itoa (nth tTie o.2.2.2.1 x_3).2.2.1 ++ [(32 : UInt8)]) + List.length (nth tTie o.2.2.2.1 x_3).2.2.2.1 ≤ big) ∧
    (List.length (weakT (nth tTie o.2.2.2.1 x_3).2.2.2.2.1 ++ [(119 : UInt8), 104, 111, 108, 101, 32] ++ Lib.itoa (nth tTie o.2.2.2.1 x_3).1 ++ [(32 : UInt8)] ++ Lib.itoa (nth tTie o.2.2.2.1 x_3).2.2.1 ++ [(32 : UInt8)] ++ (nth tTie o.2.2.2.1 x_3).2.2.2.1) + List.length [(10 : UInt8)] ≤ big) ∧
    ((64 : Int) = (↑(64 : Nat) : Int) ∧ (5 : Int) = (↑(5 : Nat) : Int) ∧ List.length (List.map (fun (b : UInt8) => (↑(UInt8.toNat b) : Int)) (pre3 o x_3)) + List.length (weakT (nth tTie o.2.2.2.1 x_3).2.2.2.2.1 ++ [(119 : UInt8), 104, 111, 108, 101, 32] ++ Lib.itoa (nth tTie o.2.2.2.1 x_3).1 ++ [(32 : UInt8)] ++ Lib.itoa (nth tTie o.2.2.2.1 x_3).2.2.1 ++ [(32 : UInt8)] ++ (nth tTie o.2.2.2.1 x_3).2.2.2.1 ++ [(10 : UInt8)]) ≤ (140737488355328 : Nat)) ∧ ((I64 (↑x_3 : Int)) → ((I64 (1 : Int)) → (I64 ((↑x_3 : Int) + (1 : Int))) ∧
    (∃ (x' : Nat), x' ≤ List.length o.2.2.2.1 ∧ List.length o.2.2.2.1 - x' < List.length o.2.2.2.1 - x_3 ∧ ((↑x_3 : Int) + (1 : Int) = (↑x' : Int) ∧ True) ∧ (List.map (fun (b : UInt8) => (↑(UInt8.toNat b) : Int)) (pre3 o x_3) ++ List.map (fun (b : UInt8) => (↑(UInt8.toNat b) : Int)) (weakT (nth tTie o.2.2.2.1 x_3).2.2.2.2.1 ++ [(119 : UInt8), 104, 111, 108, 101, 32] ++ Lib.itoa (nth tTie o.2.2.2.1 x_3).1 ++ [(32 : UInt8)] ++ Lib.itoa (nth tTie o.2.2.2.1 x_3).2.2.1 ++ [(32 : UInt8)] ++ (nth tTie o.2.2.2.1 x_3).2.2.2.1 ++ [(10 : UInt8)]), (↑(64 : Nat) : Int), (↑(5 : Nat) : Int), ()) = (List.map (fun (b : UInt8) => (↑(UInt8.toNat b) : Int)) (pre3 o x'), (64 : Int), (5 : Int), ()) ∧ (o.1 = o.1 ∧ o.2.1 = o.2.1 ∧ o.2.2.1 = o.2.2.1 ∧ o.2.2.2.1 = o.2.2.2.1 ∧ True) ∧ True)))) ∧ (((nth tTie o.2.2.2.1 x_3).2.1 == (2 : Int)) = false → (True) ∧ (List.length (weakT (nth tTie o.2.2.2.1 x_3).2.2.2.2.1) + List.length [(110 : UInt8), 101, 97, 114, 32] ≤ big) ∧ (True) ∧
    (List.length (weakT (nth tTie o.2.2.2.1 x_3).2.2.2.2.1 ++ [(110 : UInt8), 101, 97, 114, 32]) + List.length (Lib.itoa (nth tTie o.2.2.2.1 x_3).1) ≤ big) ∧
    (List.length (weakT (nth tTie o.2.2.2.1 x_3).2.2.2.2.1 ++ [(110 : UInt8), 101, 97, 114, 32] ++ Lib.itoa (nth tTie o.2.2.2.1 x_3).1) + List.length [(32 : UInt8)] ≤ big) ∧ (True) ∧
    (List.length (weakT (nth tTie o.2.2.2.1 x_3).2.2.2.2.1 ++ [(110 : UInt8), 101, 97, 114, 32] ++ Lib.itoa (nth tTie o.2.2.2.1 x_3).1 ++ [(32 : UInt8)]) + List.length (Lib.itoa (nth tTie o.2.2.2.1 x_3).2.2.1) ≤ big) ∧
    (List.length (weakT (nth tTie o.2.2.2.1 x_3).2.2.2.2.1 ++ [(110 : UInt8), 101, 97, 114, 32] ++ Lib.itoa (nth tTie o.2.2.2.1 x_3).1 ++ [(32 : UInt8)] ++ Lib.itoa (nth tTie o.2.2.2.1 x_3).2.2.1) + List.length [(32 : UInt8)] ≤ big) ∧
    (List.length (weakT (nth tTie o.2.2.2.1 x_3).2.2.2.2.1 ++ [(110 : UInt8), 101, 97, 114, 32] ++ Lib.itoa (nth tTie o.2.2.2.1 x_3).1 ++ [(32 : UInt8)] ++ Lib.itoa (nth tTie o.2.2.2.1 x_3).2.2.1 ++ [(32 : UInt8)]) + List.length (nth tTie o.2.2.2.1 x_3).2.2.2.1 ≤ big) ∧
    (List.length (weakT (nth tTie o.2.2.2.1 x_3).2.2.2.2.1 ++ [(110 : UInt8), 101, 97, 114, 32] ++ Lib.itoa (nth tTie o.2.2.2.1 x_3).1 ++ [(32 : UInt8)] ++ Lib.itoa (nth tTie o.2.2.2.1 x_3).2.2.1 ++ [(32 : UInt8)] ++ (nth tTie o.2.2.2.1 x_3).2.2.2.1) + List.length [(10 : UInt8)] ≤ big) ∧
    ((64 : Int) = (↑(64 : Nat) : Int) ∧ (5 : Int) = (↑(5 : Nat) : Int) ∧ List.length (List.map (fun (b : UInt8) => (↑(UInt8.toNat b) : Int)) (pre3 o x_3)) + List.length (weakT (nth tTie o.2.2.2.1 x_3).2.2.2.2.1 ++ [(110 : UInt8), 101, 97, 114, 32] ++ Lib.itoa (nth tTie o.2.2.2.1 x_3).1 ++ [(32 : UInt8)] ++ Lib.itoa (nth tTie o.2.2.2.1 x_3).2.2.1 ++ [(32 : UInt8)] ++ (nth tTie o.2.2.2.1 x_3).2.2.2.1 ++ [(10 : UInt8)]) ≤ (140737488355328 : Nat)) ∧ ((I64 (↑x_3 : Int)) → ((I64 (1 : Int)) → (I64 ((↑x_3 : Int) + (1 : Int))) ∧
    (∃ (x' : Nat), x' ≤ List.length o.2.2.2.1 ∧ List.length o.2.2.2.1 - x' < List.length o.2.2.2.1 - x_3 ∧ ((↑x_3 : Int) + (1 : Int) = (↑x' : Int) ∧ True) ∧ (List.map (fun (b : UInt8) => (↑(UInt8.toNat b) : Int)) (pre3 o x_3) ++ List.map (fun (b : UInt8) => (↑(UInt8.toNat b) : Int)) (weakT (nth tTie o.2.2.2.1 x_3).2.2.2.2.1 ++ [(110 : UInt8), 101, 97, 114, 32] ++ Lib.itoa (nth tTie o.2.2.2.1 x_3).1 ++ [(32 : UInt8)] ++ Lib.itoa (nth tTie o.2.2.2.1 x_3).2.2.1 ++ [(32 : UInt8)] ++ (nth tTie o.2.2.2.1 x_3).2.2.2.1 ++ [(10 : UInt8)]), (↑(64 : Nat) : Int), (↑(5 : Nat) : Int), ()) = (List.map (fun (b : UInt8) => (↑(UInt8.toNat b) : Int)) (pre3 o x'), (64 : Int), (5 : Int), ()) ∧ (o.1 = o.1 ∧ o.2.1 = o.2.1 ∧ o.2.2.1 = o.2.2.1 ∧ o.2.2.2.1 = o.2.2.2.1 ∧ True) ∧ True)))))))) ∧ ((decide ((↑x_3 : Int) < (↑(List.length o.2.2.2.1) : Int))) = false → ((64 : Int) = (↑(64 : Nat) : Int) ∧ (5 : Int) = (↑(5 : Nat) : Int)) ∧
    (((decide ((↑(List.length (List.map (fun (b : UInt8) => (↑(UInt8.toNat b) : Int)) (pre3 o x_3))) : Int) > (1200 : Int))) = true → (([], Err.no (2 : Int)) = textR o)) ∧
    ((decide ((↑(List.length (List.map (fun (b : UInt8) => (↑(UInt8.toNat b) : Int)) (pre3 o x_3))) : Int) > (1200 : Int))) = false → ((64 : Int) = (↑(64 : Nat) : Int) ∧ (5 : Int) = (↑(5 : Nat) : Int)) ∧
    ((bytesOf (List.map (fun (b : UInt8) => (↑(UInt8.toNat b) : Int)) (pre3 o x_3)), Err.nil) = textR o)))))))))))))))))))))))))) (by kernel_rfl) ?_
  refine ⟨trivial, ?_⟩
  refine ⟨fun h0 => ?_, fun h0 => ?_⟩
  · simp only [bl, reduceCtorEq] at h0
    rw [textR_bad (fun e => by rw [errNo_nil.2 e] at h0; cases h0)]
  · simp only [bl, reduceCtorEq] at h0
    intro h1
    refine ⟨?_, ?_⟩
    · exact ⟨0, by omega, ⟨rfl, trivial⟩, rfl, trivial⟩
    intro x_0 q_0
    refine ⟨fun h2 => ?_, fun h2 => ?_⟩
    · simp only [bl, reduceCtorEq] at h2
      refine ⟨?_, ?_⟩
      · omega
      refine ⟨?_, ?_⟩
      · have a := need_lens (okO_of (errNo_nil.1 h0)) (i := x_0) (by omega); simp only [List.length_append, List.length_cons, List.length_nil, List.length_map, big]; omega
      refine ⟨?_, ?_⟩
      · have a := need_lens (okO_of (errNo_nil.1 h0)) (i := x_0) (by omega); simp only [List.length_append, List.length_cons, List.length_nil, List.length_map, big]; omega
      refine ⟨?_, ?_⟩
      · exact ⟨rfl, rfl, by first | (have a := tie_lens (okO_of (errNo_nil.1 h0)) (i := x_3) (by omega); simp only [List.length_append, List.length_cons, List.length_nil, List.length_map, big]; omega) | (have a := sym_lens (okO_of (errNo_nil.1 h0)) (i := x_2) (by omega); simp only [List.length_append, List.length_cons, List.length_nil, List.length_map, big]; omega) | (have a := word_lens (okO_of (errNo_nil.1 h0)) (i := x_1) (by omega); simp only [List.length_append, List.length_cons, List.length_nil, List.length_map, big]; omega) | (have a := need_lens (okO_of (errNo_nil.1 h0)) (i := x_0) (by omega); simp only [List.length_append, List.length_cons, List.length_nil, List.length_map, big]; omega)⟩
      intro h3
      intro h4
      refine ⟨?_, ?_⟩
      · simp only [I64, big] at *; omega
      exact ⟨x_0 + 1, by omega, by omega, ⟨by omega, trivial⟩, bld_step (pre0_next (by omega)), (by trivial)⟩
    · simp only [bl, reduceCtorEq] at h2
      intro h3
      refine ⟨?_, ?_⟩
      · exact ⟨0, by omega, ⟨rfl, trivial⟩, bld_same (by rw [pre1_zero, show x_0 = o.1.length by omega]), trivial⟩
      intro x_1 q_1
      refine ⟨fun h4 => ?_, fun h4 => ?_⟩
      · simp only [bl, reduceCtorEq] at h4
        refine ⟨?_, ?_⟩
        · omega
        refine ⟨trivial, ?_⟩
        refine ⟨?_, ?_⟩
        · have a := word_lens (okO_of (errNo_nil.1 h0)) (i := x_1) (by omega); simp only [List.length_append, List.length_cons, List.length_nil, List.length_map, big]; omega
        refine ⟨?_, ?_⟩
        · have a := word_lens (okO_of (errNo_nil.1 h0)) (i := x_1) (by omega); simp only [List.length_append, List.length_cons, List.length_nil, List.length_map, big]; omega
        refine ⟨?_, ?_⟩
        · exact ⟨rfl, rfl, by first | (have a := tie_lens (okO_of (errNo_nil.1 h0)) (i := x_3) (by omega); simp only [List.length_append, List.length_cons, List.length_nil, List.length_map, big]; omega) | (have a := sym_lens (okO_of (errNo_nil.1 h0)) (i := x_2) (by omega); simp only [List.length_append, List.length_cons, List.length_nil, List.length_map, big]; omega) | (have a := word_lens (okO_of (errNo_nil.1 h0)) (i := x_1) (by omega); simp only [List.length_append, List.length_cons, List.length_nil, List.length_map, big]; omega) | (have a := need_lens (okO_of (errNo_nil.1 h0)) (i := x_0) (by omega); simp only [List.length_append, List.length_cons, List.length_nil, List.length_map, big]; omega)⟩
        intro h5
        intro h6
        refine ⟨?_, ?_⟩
        · simp only [I64, big] at *; omega
        exact ⟨x_1 + 1, by omega, by omega, ⟨by omega, trivial⟩, bld_step (pre1_next (by omega)), (by trivial)⟩
      · simp only [bl, reduceCtorEq] at h4
        intro h5
        refine ⟨?_, ?_⟩
        · exact ⟨0, by omega, ⟨rfl, trivial⟩, bld_same (by rw [pre2_zero, show x_1 = o.2.1.length by omega]), trivial⟩
        intro x_2 q_2
        refine ⟨fun h6 => ?_, fun h6 => ?_⟩
        · simp only [bl, reduceCtorEq] at h6
          refine ⟨?_, ?_⟩
          · omega
          refine ⟨trivial, ?_⟩
          refine ⟨?_, ?_⟩
          · have a := sym_lens (okO_of (errNo_nil.1 h0)) (i := x_2) (by omega); simp only [List.length_append, List.length_cons, List.length_nil, List.length_map, big]; omega
          refine ⟨?_, ?_⟩
          · have a := sym_lens (okO_of (errNo_nil.1 h0)) (i := x_2) (by omega); simp only [List.length_append, List.length_cons, List.length_nil, List.length_map, big]; omega
          refine ⟨?_, ?_⟩
          · have a := sym_lens (okO_of (errNo_nil.1 h0)) (i := x_2) (by omega); simp only [List.length_append, List.length_cons, List.length_nil, List.length_map, big]; omega
          refine ⟨trivial, ?_⟩
          refine ⟨?_, ?_⟩
          · have a := sym_lens (okO_of (errNo_nil.1 h0)) (i := x_2) (by omega); simp only [List.length_append, List.length_cons, List.length_nil, List.length_map, big]; omega
          refine ⟨?_, ?_⟩
          · have a := sym_lens (okO_of (errNo_nil.1 h0)) (i := x_2) (by omega); simp only [List.length_append, List.length_cons, List.length_nil, List.length_map, big]; omega
          refine ⟨?_, ?_⟩
          · exact ⟨rfl, rfl, by first | (have a := tie_lens (okO_of (errNo_nil.1 h0)) (i := x_3) (by omega); simp only [List.length_append, List.length_cons, List.length_nil, List.length_map, big]; omega) | (have a := sym_lens (okO_of (errNo_nil.1 h0)) (i := x_2) (by omega); simp only [List.length_append, List.length_cons, List.length_nil, List.length_map, big]; omega) | (have a := word_lens (okO_of (errNo_nil.1 h0)) (i := x_1) (by omega); simp only [List.length_append, List.length_cons, List.length_nil, List.length_map, big]; omega) | (have a := need_lens (okO_of (errNo_nil.1 h0)) (i := x_0) (by omega); simp only [List.length_append, List.length_cons, List.length_nil, List.length_map, big]; omega)⟩
          intro h7
          intro h8
          refine ⟨?_, ?_⟩
          · simp only [I64, big] at *; omega
          exact ⟨x_2 + 1, by omega, by omega, ⟨by omega, trivial⟩, bld_step (pre2_next (by omega)), (by trivial)⟩
        · simp only [bl, reduceCtorEq] at h6
          intro h7
          refine ⟨?_, ?_⟩
          · exact ⟨0, by omega, ⟨rfl, trivial⟩, bld_same (by rw [pre3_zero, show x_2 = o.2.2.1.length by omega]), trivial⟩
          intro x_3 q_3
          refine ⟨fun h8 => ?_, fun h8 => ?_⟩
          · simp only [bl, reduceCtorEq] at h8
            refine ⟨?_, ?_⟩
            · omega
            refine ⟨fun h9 => ?_, fun h9 => ?_⟩
            · simp only [bl, reduceCtorEq] at h9
              refine ⟨trivial, ?_⟩
              refine ⟨?_, ?_⟩
              · have a := tie_lens (okO_of (errNo_nil.1 h0)) (i := x_3) (by omega); simp only [List.length_append, List.length_cons, List.length_nil, List.length_map, big]; omega
              refine ⟨?_, ?_⟩
              · have a := tie_lens (okO_of (errNo_nil.1 h0)) (i := x_3) (by omega); simp only [List.length_append, List.length_cons, List.length_nil, List.length_map, big]; omega
              refine ⟨trivial, ?_⟩
              refine ⟨?_, ?_⟩
              · have a := tie_lens (okO_of (errNo_nil.1 h0)) (i := x_3) (by omega); simp only [List.length_append, List.length_cons, List.length_nil, List.length_map, big]; omega
              refine ⟨?_, ?_⟩
              · have a := tie_lens (okO_of (errNo_nil.1 h0)) (i := x_3) (by omega); simp only [List.length_append, List.length_cons, List.length_nil, List.length_map, big]; omega
              refine ⟨?_, ?_⟩
              · exact ⟨rfl, rfl, by first | (have a := tie_lens (okO_of (errNo_nil.1 h0)) (i := x_3) (by omega); simp only [List.length_append, List.length_cons, List.length_nil, List.length_map, big]; omega) | (have a := sym_lens (okO_of (errNo_nil.1 h0)) (i := x_2) (by omega); simp only [List.length_append, List.length_cons, List.length_nil, List.length_map, big]; omega) | (have a := word_lens (okO_of (errNo_nil.1 h0)) (i := x_1) (by omega); simp only [List.length_append, List.length_cons, List.length_nil, List.length_map, big]; omega) | (have a := need_lens (okO_of (errNo_nil.1 h0)) (i := x_0) (by omega); simp only [List.length_append, List.length_cons, List.length_nil, List.length_map, big]; omega)⟩
              intro h10
              intro h11
              refine ⟨?_, ?_⟩
              · simp only [I64, big] at *; omega
              exact ⟨x_3 + 1, by omega, by omega, ⟨by omega, trivial⟩, bld_step (pre3_step1 (by omega) h9), (by trivial)⟩
            · simp only [bl, reduceCtorEq] at h9
              refine ⟨fun h10 => ?_, fun h10 => ?_⟩
              · simp only [bl, reduceCtorEq] at h10
                refine ⟨trivial, ?_⟩
                refine ⟨?_, ?_⟩
                · have a := tie_lens (okO_of (errNo_nil.1 h0)) (i := x_3) (by omega); simp only [List.length_append, List.length_cons, List.length_nil, List.length_map, big]; omega
                refine ⟨trivial, ?_⟩
                refine ⟨?_, ?_⟩
                · have a := tie_lens (okO_of (errNo_nil.1 h0)) (i := x_3) (by omega); simp only [List.length_append, List.length_cons, List.length_nil, List.length_map, big]; omega
                refine ⟨?_, ?_⟩
                · have a := tie_lens (okO_of (errNo_nil.1 h0)) (i := x_3) (by omega); simp only [List.length_append, List.length_cons, List.length_nil, List.length_map, big]; omega
                refine ⟨trivial, ?_⟩
                refine ⟨?_, ?_⟩
                · have a := tie_lens (okO_of (errNo_nil.1 h0)) (i := x_3) (by omega); simp only [List.length_append, List.length_cons, List.length_nil, List.length_map, big]; omega
                refine ⟨?_, ?_⟩
                · have a := tie_lens (okO_of (errNo_nil.1 h0)) (i := x_3) (by omega); simp only [List.length_append, List.length_cons, List.length_nil, List.length_map, big]; omega
                refine ⟨?_, ?_⟩
                · have a := tie_lens (okO_of (errNo_nil.1 h0)) (i := x_3) (by omega); simp only [List.length_append, List.length_cons, List.length_nil, List.length_map, big]; omega
                refine ⟨?_, ?_⟩
                · have a := tie_lens (okO_of (errNo_nil.1 h0)) (i := x_3) (by omega); simp only [List.length_append, List.length_cons, List.length_nil, List.length_map, big]; omega
                refine ⟨?_, ?_⟩
                · exact ⟨rfl, rfl, by first | (have a := tie_lens (okO_of (errNo_nil.1 h0)) (i := x_3) (by omega); simp only [List.length_append, List.length_cons, List.length_nil, List.length_map, big]; omega) | (have a := sym_lens (okO_of (errNo_nil.1 h0)) (i := x_2) (by omega); simp only [List.length_append, List.length_cons, List.length_nil, List.length_map, big]; omega) | (have a := word_lens (okO_of (errNo_nil.1 h0)) (i := x_1) (by omega); simp only [List.length_append, List.length_cons, List.length_nil, List.length_map, big]; omega) | (have a := need_lens (okO_of (errNo_nil.1 h0)) (i := x_0) (by omega); simp only [List.length_append, List.length_cons, List.length_nil, List.length_map, big]; omega)⟩
                intro h11
                intro h12
                refine ⟨?_, ?_⟩
                · simp only [I64, big] at *; omega
                exact ⟨x_3 + 1, by omega, by omega, ⟨by omega, trivial⟩, bld_step (pre3_step2 (by omega) h9 h10), (by trivial)⟩
              · simp only [bl, reduceCtorEq] at h10
                refine ⟨trivial, ?_⟩
                refine ⟨?_, ?_⟩
                · have a := tie_lens (okO_of (errNo_nil.1 h0)) (i := x_3) (by omega); simp only [List.length_append, List.length_cons, List.length_nil, List.length_map, big]; omega
                refine ⟨trivial, ?_⟩
                refine ⟨?_, ?_⟩
                · have a := tie_lens (okO_of (errNo_nil.1 h0)) (i := x_3) (by omega); simp only [List.length_append, List.length_cons, List.length_nil, List.length_map, big]; omega
                refine ⟨?_, ?_⟩
                · have a := tie_lens (okO_of (errNo_nil.1 h0)) (i := x_3) (by omega); simp only [List.length_append, List.length_cons, List.length_nil, List.length_map, big]; omega
                refine ⟨trivial, ?_⟩
                refine ⟨?_, ?_⟩
                · have a := tie_lens (okO_of (errNo_nil.1 h0)) (i := x_3) (by omega); simp only [List.length_append, List.length_cons, List.length_nil, List.length_map, big]; omega
                refine ⟨?_, ?_⟩
                · have a := tie_lens (okO_of (errNo_nil.1 h0)) (i := x_3) (by omega); simp only [List.length_append, List.length_cons, List.length_nil, List.length_map, big]; omega
                refine ⟨?_, ?_⟩
                · have a := tie_lens (okO_of (errNo_nil.1 h0)) (i := x_3) (by omega); simp only [List.length_append, List.length_cons, List.length_nil, List.length_map, big]; omega
                refine ⟨?_, ?_⟩
                · have a := tie_lens (okO_of (errNo_nil.1 h0)) (i := x_3) (by omega); simp only [List.length_append, List.length_cons, List.length_nil, List.length_map, big]; omega
                refine ⟨?_, ?_⟩
                · exact ⟨rfl, rfl, by first | (have a := tie_lens (okO_of (errNo_nil.1 h0)) (i := x_3) (by omega); simp only [List.length_append, List.length_cons, List.length_nil, List.length_map, big]; omega) | (have a := sym_lens (okO_of (errNo_nil.1 h0)) (i := x_2) (by omega); simp only [List.length_append, List.length_cons, List.length_nil, List.length_map, big]; omega) | (have a := word_lens (okO_of (errNo_nil.1 h0)) (i := x_1) (by omega); simp only [List.length_append, List.length_cons, List.length_nil, List.length_map, big]; omega) | (have a := need_lens (okO_of (errNo_nil.1 h0)) (i := x_0) (by omega); simp only [List.length_append, List.length_cons, List.length_nil, List.length_map, big]; omega)⟩
                intro h11
                intro h12
                refine ⟨?_, ?_⟩
                · simp only [I64, big] at *; omega
                exact ⟨x_3 + 1, by omega, by omega, ⟨by omega, trivial⟩, bld_step (pre3_step3 (by omega) h9 h10), (by trivial)⟩
          · simp only [bl, reduceCtorEq] at h8
            refine ⟨?_, ?_⟩
            · trivial
            refine ⟨fun h9 => ?_, fun h9 => ?_⟩
            · simp only [bl, reduceCtorEq] at h9
              rw [textR_many (errNo_nil.1 h0) (show x_3 = _ by omega) (by simp only [List.length_map] at h9; omega)]
            · simp only [bl, reduceCtorEq] at h9
              refine ⟨?_, ?_⟩
              · trivial
              rw [textR_ok (errNo_nil.1 h0) (show x_3 = _ by omega) (by simp only [List.length_map] at h9; omega)]; exact congrArg (·, Err.nil) (bytesOf_in _)
theorem Tryd.ok_TextO : PureOK Tryd.prog Tryd.B.eT Tryd.X 7 [tObject] [.str, .err] (fun _ => True) (fun x y => y = (fun o => textR o) x) :=
  pure_fn (B := (hintB Tryd.B [41, 64, 91, 85, 104, 110, 123, 129])) (X := Tryd.X) (CtxOK.hint (l := [41, 64, 91, 85, 104, 110, 123, 129]) Tryd.textOCtxOK) Tryd.func7 (by kernel_rfl) (fun x => textOAnn x) (fun x hw hp => vc_TextO x hw)
end Go.Proofs.YtgokjhhcfemnhacDoor

namespace Go.Proofs.YtgokjhhcfemnhacDoor
open Go.Vg Go.Mrl
noncomputable def Tryd.parseCtx : List (FuncId × (Bool × CSpec)) := [(20, (true, funSpec [.int .i64] [.str] (fun _ => True) (fun n => Lib.itoa n))),
  (45, (true, funSpec [.str] [.int .i64, .err] (fun s => s.length ≤ 281474976710656) (fun s => atoiF s))),
  (32, (true, funSpec [.str, .str] [.str, .bool] (fun _ => True) (fun x => (Lib.trimPrefix x.1 x.2, Lib.hasPrefix x.1 x.2)))),
  (17, (true, funSpec [.str, .str] [.str] (fun _ => True) (fun x => Lib.trimSuffix x.1 x.2))),
  (16, (true, funSpec [.str, .str] [.slice .str] (fun x => x.1.length < 4294967281 ∧ x.2.length = 1) (fun x => parts (hd0 x.2) x.1))),
  (7, (true, funSpec [tObject] [.str, .err] (fun _ => True) (fun o => textR o))),
  (18, (false, objSpec Tryd.lineObs [.obj 0, .d .str, .obj 5] (fun a x => a.1.length ≤ 1000000 ∧ x.2.1.length ≤ 1000000 ∧ x.2.2.1.length ≤ 1000000 ∧ x.2.2.2.1.length ≤ 1000000 ∧ x.2.2.2.2.1.length ≤ 1000000) Tryd.lineAlts))]
theorem Tryd.parseCtxOK : CtxOK Tryd.prog Tryd.B Tryd.X Tryd.parseCtx :=
  ctx1 (callOK_of_fun Tryd.ok_ItoaS) (ctx1 (callOK_of_fun Tryd.ok_AtoiS) (ctx1 (callOK_of_fun Tryd.ok_CutPrefix) (ctx1 (callOK_of_fun Tryd.ok_TrimSuffix) (ctx1 (callOK_of_fun Tryd.ok_Split) (ctx1 (callOK_of_fun Tryd.ok_TextO) (ctx1 (Tryd.ok_LineO) (ctx0 Tryd.tyOK)))))))
def parseAnn (s : List UInt8) : Anns := [(200000, fun st => { X := Nat × D tObject × Bool, inv := fun x => ParseI (parts 10 (Lib.trimSuffix s [10])) x.1 x.2.1 x.2.2, meas := fun x => List.length (parts 10 (Lib.trimSuffix s [10])) - x.1, slots := fun x => [(19, sI x.1)], keep := [0, 2, 3, 4, 5, 17, 18], obs := Tryd.lineObs, refs := [(4, 0), (5, 5)], pd := fun x => pdL x.2 })]
set_option maxRecDepth 100000 in
set_option maxHeartbeats 4000000 in
theorem vc_ParseO (s : List UInt8) (hw : wfL [.str] s) : (fnVCs Tryd.B Tryd.parseCtx Tryd.f5 (parseAnn s) [.str] [tObject, .err] (fun x y => y = (fun s => parseF s) x) s).holds := by
  refine holds_of (p :=
    ((List.length s ≤ big) → (((decide ((↑(List.length s) : Int) > (1200 : Int))) = true → ((([], [], [], [], ()), Err.no (2 : Int)) = parseF s)) ∧ ((decide ((↑(List.length s) : Int) > (1200 : Int))) = false → (True) ∧ (List.length (Lib.trimSuffix s [(10 : UInt8)]) < (4294967281 : Nat) ∧ List.length [(10 : UInt8)] = (1 : Nat)) ∧ ((List.length (parts (10 : UInt8) (Lib.trimSuffix s [(10 : UInt8)])) ≤ big) →
    (((@List.nil (List UInt8) = @List.nil (List UInt8) ∧ @List.nil Int = @List.nil Int ∧ @List.nil (List UInt8 × Int × Bool × Unit) = @List.nil (List UInt8 × Int × Bool × Unit) ∧ @List.nil (Int × Int × Int × List UInt8 × Bool × Unit) = @List.nil (Int × Int × Int × List UInt8 × Bool × Unit) ∧ ∃ (x' : Nat × (List (List UInt8) × List Int × List (List UInt8 × Int × Bool × Unit) × List (Int × Int × Int × List UInt8 × Bool × Unit) × Unit) × Bool), ParseI (parts (10 : UInt8) (Lib.trimSuffix s [(10 : UInt8)])) x'.1 x'.2.1 x'.2.2 ∧ True ∧ ((0 : Int) = (↑x'.1 : Int) ∧ True) ∧ ((@List.nil (List UInt8) = @List.nil (List UInt8) ∧ @List.nil Int = @List.nil Int ∧ @List.nil (List UInt8 × Int × Bool × Unit) = @List.nil (List UInt8 × Int × Bool × Unit) ∧ @List.nil (Int × Int × Int × List UInt8 × Bool × Unit) = @List.nil (Int × Int × Int × List UInt8 × Bool × Unit) ∧ True) ∧ @List.nil (Int × Int × Int × List UInt8 × Bool × Unit) = @List.nil (Int × Int × Int × List UInt8 × Bool × Unit) ∧ @List.nil (List UInt8 × Int × Bool × Unit) = @List.nil (List UInt8 × Int × Bool × Unit) ∧ @List.nil Int = @List.nil Int ∧ @List.nil (List UInt8) = @List.nil (List UInt8) ∧ True) ∧ (!false && (!false && (!false && (!false && (!false && true))))) = true ∧ ((), [], [], [], [], (false, ()), ()) = pdL x'.2)) ∧
    ((∀ x_0 : Nat × (List (List UInt8) × List Int × List (List UInt8 × Int × Bool × Unit) × List (Int × Int × Int × List UInt8 × Bool × Unit) × Unit) × Bool, ((ParseI (parts (10 : UInt8) (Lib.trimSuffix s [(10 : UInt8)])) x_0.1 x_0.2.1 x_0.2.2) → (((decide ((↑x_0.1 : Int) < (↑(List.length (parts (10 : UInt8) (Lib.trimSuffix s [(10 : UInt8)]))) : Int))) = true →
    ((0 : Int) ≤ (↑x_0.1 : Int) ∧ (↑x_0.1 : Int) < (↑(List.length (parts (10 : UInt8) (Lib.trimSuffix s [(10 : UInt8)]))) : Int)) ∧ (x_0.2.1.1 = x_0.2.1.1) ∧ (x_0.2.1.2.1 = x_0.2.1.2.1) ∧ (x_0.2.1.2.2.1 = x_0.2.1.2.2.1) ∧ (x_0.2.1.2.2.2.1 = x_0.2.1.2.2.2.1) ∧
    (List.length (nth Ty.str (parts (10 : UInt8) (Lib.trimSuffix s [(10 : UInt8)])) x_0.1) ≤ (1000000 : Nat) ∧ List.length x_0.2.1.1 ≤ (1000000 : Nat) ∧ List.length x_0.2.1.2.1 ≤ (1000000 : Nat) ∧ List.length x_0.2.1.2.2.1 ≤ (1000000 : Nat) ∧ List.length x_0.2.1.2.2.2.1 ≤ (1000000 : Nat)) ∧ ((True) → ((I64 (↑x_0.1 : Int)) → ((I64 (1 : Int)) → (I64 ((↑x_0.1 : Int) + (1 : Int))) ∧
    ((lineF (objP ((), x_0.2.1.1, x_0.2.1.2.1, x_0.2.1.2.2.1, x_0.2.1.2.2.2.1, (x_0.2.2, ()), ())) x_0.2.2 (nth Ty.str (parts (10 : UInt8) (Lib.trimSuffix s [(10 : UInt8)])) x_0.1)).1.1 = (lineF (objP ((), x_0.2.1.1, x_0.2.1.2.1, x_0.2.1.2.2.1, x_0.2.1.2.2.2.1, (x_0.2.2, ()), ())) x_0.2.2 (nth Ty.str (parts (10 : UInt8) (Lib.trimSuffix s [(10 : UInt8)])) x_0.1)).1.1 ∧ (lineF (objP ((), x_0.2.1.1, x_0.2.1.2.1, x_0.2.1.2.2.1, x_0.2.1.2.2.2.1, (x_0.2.2, ()), ())) x_0.2.2 (nth Ty.str (parts (10 : UInt8) (Lib.trimSuffix s [(10 : UInt8)])) x_0.1)).1.2.1 = (lineF (objP ((), x_0.2.1.1, x_0.2.1.2.1, x_0.2.1.2.2.1, x_0.2.1.2.2.2.1, (x_0.2.2, ()), ())) x_0.2.2 (nth Ty.str (parts (10 : UInt8) (Lib.trimSuffix s [(10 : UInt8)])) x_0.1)).1.2.1 ∧ (lineF (objP ((), x_0.2.1.1, x_0.2.1.2.1, x_0.2.1.2.2.1, x_0.2.1.2.2.2.1, (x_0.2.2, ()), ())) x_0.2.2 (nth Ty.str (parts (10 : UInt8) (Lib.trimSuffix s [(10 : UInt8)])) x_0.1)).1.2.2.1 = (lineF (objP ((), x_0.2.1.1, x_0.2.1.2.1, x_0.2.1.2.2.1, x_0.2.1.2.2.2.1, (x_0.2.2, ()), ())) x_0.2.2 (nth Ty.str (parts (10 : UInt8) (Lib.trimSuffix s [(10 : UInt8)])) x_0.1)).1.2.2.1 ∧ (lineF (objP ((), x_0.2.1.1, x_0.2.1.2.1, x_0.2.1.2.2.1, x_0.2.1.2.2.2.1, (x_0.2.2, ()), ())) x_0.2.2 (nth Ty.str (parts (10 : UInt8) (Lib.trimSuffix s [(10 : UInt8)])) x_0.1)).1.2.2.2.1 = (lineF (objP ((), x_0.2.1.1, x_0.2.1.2.1, x_0.2.1.2.2.1, x_0.2.1.2.2.2.1, (x_0.2.2, ()), ())) x_0.2.2 (nth Ty.str (parts (10 : UInt8) (Lib.trimSuffix s [(10 : UInt8)])) x_0.1)).1.2.2.2.1 ∧ ∃ (x' : Nat × (List (List UInt8) × List Int × List (List UInt8 × Int × Bool × Unit) × List (Int × Int × Int × List UInt8 × Bool × Unit) × Unit) × Bool), ParseI (parts (10 : UInt8) (Lib.trimSuffix s [(10 : UInt8)])) x'.1 x'.2.1 x'.2.2 ∧ List.length (parts (10 : UInt8) (Lib.trimSuffix s [(10 : UInt8)])) - x'.1 < List.length (parts (10 : UInt8) (Lib.trimSuffix s [(10 : UInt8)])) - x_0.1 ∧ ((↑x_0.1 : Int) + (1 : Int) = (↑x'.1 : Int) ∧ True) ∧ ((@List.nil (List UInt8) = @List.nil (List UInt8) ∧ @List.nil Int = @List.nil Int ∧ @List.nil (List UInt8 × Int × Bool × Unit) = @List.nil (List UInt8 × Int × Bool × Unit) ∧ @List.nil (Int × Int × Int × List UInt8 × Bool × Unit) = @List.nil (Int × Int × Int × List UInt8 × Bool × Unit) ∧ True) ∧ @List.nil (Int × Int × Int × List UInt8 × Bool × Unit) = @List.nil (Int × Int × Int × List UInt8 × Bool × Unit) ∧ @List.nil (List UInt8 × Int × Bool × Unit) = @List.nil (List UInt8 × Int × Bool × Unit) ∧ @List.nil Int = @List.nil Int ∧ @List.nil (List UInt8) = @List.nil (List UInt8) ∧ True) ∧ (!false && (!false && (!false && (!false && (!false && true))))) = true ∧ ((), (lineF (objP ((), x_0.2.1.1, x_0.2.1.2.1, x_0.2.1.2.2.1, x_0.2.1.2.2.2.1, (x_0.2.2, ()), ())) x_0.2.2 (nth Ty.str (parts (10 : UInt8) (Lib.trimSuffix s [(10 : UInt8)])) x_0.1)).1.1, (lineF (objP ((), x_0.2.1.1, x_0.2.1.2.1, x_0.2.1.2.2.1, x_0.2.1.2.2.2.1, (x_0.2.2, ()), ())) x_0.2.2 (nth Ty.str (parts (10 : UInt8) (Lib.trimSuffix s [(10 : UInt8)])) x_0.1)).1.2.1, (lineF (objP ((), x_0.2.1.1, x_0.2.1.2.1, x_0.2.1.2.2.1, x_0.2.1.2.2.2.1, (x_0.2.2, ()), ())) x_0.2.2 (nth Ty.str (parts (10 : UInt8) (Lib.trimSuffix s [(10 : UInt8)])) x_0.1)).1.2.2.1, (lineF (objP ((), x_0.2.1.1, x_0.2.1.2.1, x_0.2.1.2.2.1, x_0.2.1.2.2.2.1, (x_0.2.2, ()), ())) x_0.2.2 (nth Ty.str (parts (10 : UInt8) (Lib.trimSuffix s [(10 : UInt8)])) x_0.1)).1.2.2.2.1, ((lineF (objP ((), x_0.2.1.1, x_0.2.1.2.1, x_0.2.1.2.2.1, x_0.2.1.2.2.2.1, (x_0.2.2, ()), ())) x_0.2.2 (nth Ty.str (parts (10 : UInt8) (Lib.trimSuffix s [(10 : UInt8)])) x_0.1)).2, ()), ()) = pdL x'.2))))) ∧ ((decide ((↑x_0.1 : Int) < (↑(List.length (parts (10 : UInt8) (Lib.trimSuffix s [(10 : UInt8)]))) : Int))) = false → (True) ∧ (((x_0.2.2) = true → ((([], [], [], [], ()), Err.no (4 : Int)) = parseF s)) ∧ ((x_0.2.2) = false → (((!Err.isNil (textR (x_0.2.1.1, x_0.2.1.2.1, x_0.2.1.2.2.1, x_0.2.1.2.2.2.1, ())).2) = true → ((([], [], [], [], ()), Err.no (4 : Int)) = parseF s)) ∧ ((!Err.isNil (textR (x_0.2.1.1, x_0.2.1.2.1, x_0.2.1.2.2.1, x_0.2.1.2.2.2.1, ())).2) = false → (((!(textR (x_0.2.1.1, x_0.2.1.2.1, x_0.2.1.2.2.1, x_0.2.1.2.2.2.1, ())).1 == s) = true → ((([], [], [], [], ()), Err.no (4 : Int)) = parseF s)) ∧ ((!(textR (x_0.2.1.1, x_0.2.1.2.1, x_0.2.1.2.2.1, x_0.2.1.2.2.2.1, ())).1 == s) = false → (((x_0.2.1.1, x_0.2.1.2.1, x_0.2.1.2.2.1, x_0.2.1.2.2.2.1, ()), Err.nil) = parseF s)))))))))))))))))) (by kernel_rfl) ?_
  intro h0
  refine ⟨fun h1 => ?_, fun h1 => ?_⟩
  · simp only [bl, reduceCtorEq] at h1
    exact parse_many (by omega)
  · simp only [bl, reduceCtorEq] at h1
    refine ⟨trivial, ?_⟩
    refine ⟨?_, ?_⟩
    · have := suf_len s [10]; exact ⟨by omega, rfl⟩
    intro h2
    refine ⟨?_, ?_⟩
    ·
      exact ⟨rfl, rfl, rfl, rfl, (0, zeroD tObject, false), ParseI.zero _, trivial, ⟨rfl, trivial⟩, ⟨⟨rfl, rfl, rfl, rfl, trivial⟩, rfl, rfl, rfl, rfl, trivial⟩, rfl, rfl⟩
    ·
      intro x_0 q_0
      refine ⟨fun h3 => ?_, fun h3 => ?_⟩
      · simp only [bl, reduceCtorEq] at h3
        refine ⟨?_, ?_⟩
        · omega
        refine ⟨rfl, ?_⟩
        refine ⟨rfl, ?_⟩
        refine ⟨rfl, ?_⟩
        refine ⟨rfl, ?_⟩
        refine ⟨?_, ?_⟩
        · have hf := parts_few s (by omega); have a0 := q_0.le; have a1 := q_0.l1; have a2 := q_0.l2; have a3 := q_0.l3; have a4 := q_0.l4
          exact ⟨Nat.le_trans (line_short (by omega) _) (by decide), by omega, by omega, by omega, by omega⟩
        intro h4
        intro h5
        intro h6
        refine ⟨?_, ?_⟩
        · simp only [I64, big] at *; omega
        exact ⟨rfl, rfl, rfl, rfl, (x_0.1 + 1, lineF x_0.2.1 x_0.2.2 (nth .str (parts 10 (Lib.trimSuffix s [10])) x_0.1)), q_0.next (by omega), by simp only; omega, ⟨by simp only; omega, trivial⟩, (by trivial), rfl, rfl⟩
      · simp only [bl, reduceCtorEq] at h3
        refine ⟨trivial, ?_⟩
        refine ⟨fun h4 => ?_, fun h4 => ?_⟩
        · exact parse_bad q_0 (by omega) (by omega) (.inl h4)
        · refine ⟨fun h5 => ?_, fun h5 => ?_⟩
          · simp only [bl, reduceCtorEq] at h5
            exact parse_bad q_0 (by omega) (by omega) (.inr (.inl h5))
          · simp only [bl, reduceCtorEq] at h5
            refine ⟨fun h6 => ?_, fun h6 => ?_⟩
            · simp only [bl, reduceCtorEq] at h6
              exact parse_bad q_0 (by omega) (by omega) (.inr (.inr h6))
            · simp only [bl, reduceCtorEq] at h6
              exact parse_ok (by omega) ‹Err.isNil _ = true› h6
theorem Tryd.ok_ParseO : PureOK Tryd.prog Tryd.B.eT Tryd.X 5 [.str] [tObject, .err] (fun _ => True) (fun x y => y = (fun s => parseF s) x) :=
  pure_fn (X := Tryd.X) Tryd.parseCtxOK Tryd.func5 (by kernel_rfl) (fun x => parseAnn x) (fun x hw hp => vc_ParseO x hw)
end Go.Proofs.YtgokjhhcfemnhacDoor

