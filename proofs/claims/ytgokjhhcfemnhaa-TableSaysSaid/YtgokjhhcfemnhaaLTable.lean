/- A part of the proof that the law TableSays holds of the given program: facts that are used there. -/
import Derived.Test.YtgokjhhcfemnhaaTable
import Derived.Test.YtgokjhhcfemnhaaRows
set_option linter.unusedSimpArgs false
set_option linter.unusedVariables false
namespace Go.Proofs.Ytgokjhhcfemnhaa
open Go.Vg Go.Mrl
/-! The laws of tables. -/
set_option maxRecDepth 100000 in
set_option maxHeartbeats 1000000 in
theorem vc_tables  (hw : wfL [] ()) : (fnVCs Try.B Try.tableCtx Try.f16 [] [] [.bool] (fun x y => y = (fun _ => true) x) ()).holds := by
  refine holds_of (p :=
    (True) ∧
      (((decide ((3 : Int) < (1 : Int))) = true →
        (True) ∧
        (((sameE (Err.no (1 : Int)) (0 : Int)) = true →
          (List.length (@List.nil Int) ≤ (40 : Nat)) ∧
          (((findF (([], [], ()), [([(97 : UInt8)], (0 : Int), false, ()), ([(98 : UInt8)], (0 : Int), false, ())], [(98 : UInt8)]) == (1 : Int)) = true →
            (List.length (@List.nil Int) ≤ (40 : Nat)) ∧
            (decide (findF (([], [], ()), [([(97 : UInt8)], (0 : Int), false, ()), ([(98 : UInt8)], (0 : Int), false, ())], [(99 : UInt8)]) < (0 : Int)) = true)) ∧
          ((findF (([], [], ()), [([(97 : UInt8)], (0 : Int), false, ()), ([(98 : UInt8)], (0 : Int), false, ())], [(98 : UInt8)]) == (1 : Int)) = false →
            (false = true)))) ∧
        ((sameE (Err.no (1 : Int)) (0 : Int)) = false →
          (false = true)))) ∧
      ((decide ((3 : Int) < (1 : Int))) = false →
        (((decide ((16 : Int) < (3 : Int))) = true →
          (True) ∧
          (((sameE (Err.no (1 : Int)) (0 : Int)) = true →
            (List.length (@List.nil Int) ≤ (40 : Nat)) ∧
            (((findF (([], [], ()), [([(97 : UInt8)], (0 : Int), false, ()), ([(98 : UInt8)], (0 : Int), false, ())], [(98 : UInt8)]) == (1 : Int)) = true →
              (List.length (@List.nil Int) ≤ (40 : Nat)) ∧
              (decide (findF (([], [], ()), [([(97 : UInt8)], (0 : Int), false, ()), ([(98 : UInt8)], (0 : Int), false, ())], [(99 : UInt8)]) < (0 : Int)) = true)) ∧
            ((findF (([], [], ()), [([(97 : UInt8)], (0 : Int), false, ()), ([(98 : UInt8)], (0 : Int), false, ())], [(98 : UInt8)]) == (1 : Int)) = false →
              (false = true)))) ∧
          ((sameE (Err.no (1 : Int)) (0 : Int)) = false →
            (false = true)))) ∧
        ((decide ((16 : Int) < (3 : Int))) = false →
          (((decide ((8 : Nat) < List.length [([(97 : UInt8)], (0 : Int), false, ()), ([(98 : UInt8)], (0 : Int), false, ())])) = true →
            (True) ∧
            (((sameE (Err.no (2 : Int)) (0 : Int)) = true →
              (List.length (@List.nil Int) ≤ (40 : Nat)) ∧
              (((findF (([], [], ()), [([(97 : UInt8)], (0 : Int), false, ()), ([(98 : UInt8)], (0 : Int), false, ())], [(98 : UInt8)]) == (1 : Int)) = true →
                (List.length (@List.nil Int) ≤ (40 : Nat)) ∧
                (decide (findF (([], [], ()), [([(97 : UInt8)], (0 : Int), false, ()), ([(98 : UInt8)], (0 : Int), false, ())], [(99 : UInt8)]) < (0 : Int)) = true)) ∧
              ((findF (([], [], ()), [([(97 : UInt8)], (0 : Int), false, ()), ([(98 : UInt8)], (0 : Int), false, ())], [(98 : UInt8)]) == (1 : Int)) = false →
                (false = true)))) ∧
            ((sameE (Err.no (2 : Int)) (0 : Int)) = false →
              (false = true)))) ∧
          ((decide ((8 : Nat) < List.length [([(97 : UInt8)], (0 : Int), false, ()), ([(98 : UInt8)], (0 : Int), false, ())])) = false →
            (True) ∧
            (((sameE Err.nil (0 : Int)) = true →
              (List.length (firstT [([(97 : UInt8)], (0 : Int), false, ()), ([(98 : UInt8)], (0 : Int), false, ())] (Int.toNat (3 : Int)) (0 : Nat)) ≤ (40 : Nat)) ∧
              (((findF ((firstT [([(97 : UInt8)], (0 : Int), false, ()), ([(98 : UInt8)], (0 : Int), false, ())] (Int.toNat (3 : Int)) (0 : Nat), nextT [([(97 : UInt8)], (0 : Int), false, ()), ([(98 : UInt8)], (0 : Int), false, ())] (Int.toNat (3 : Int)) (0 : Nat), ()), [([(97 : UInt8)], (0 : Int), false, ()), ([(98 : UInt8)], (0 : Int), false, ())], [(98 : UInt8)]) == (1 : Int)) = true →
                (List.length (firstT [([(97 : UInt8)], (0 : Int), false, ()), ([(98 : UInt8)], (0 : Int), false, ())] (Int.toNat (3 : Int)) (0 : Nat)) ≤ (40 : Nat)) ∧
                (decide (findF ((firstT [([(97 : UInt8)], (0 : Int), false, ()), ([(98 : UInt8)], (0 : Int), false, ())] (Int.toNat (3 : Int)) (0 : Nat), nextT [([(97 : UInt8)], (0 : Int), false, ()), ([(98 : UInt8)], (0 : Int), false, ())] (Int.toNat (3 : Int)) (0 : Nat), ()), [([(97 : UInt8)], (0 : Int), false, ()), ([(98 : UInt8)], (0 : Int), false, ())], [(99 : UInt8)]) < (0 : Int)) = true)) ∧
              ((findF ((firstT [([(97 : UInt8)], (0 : Int), false, ()), ([(98 : UInt8)], (0 : Int), false, ())] (Int.toNat (3 : Int)) (0 : Nat), nextT [([(97 : UInt8)], (0 : Int), false, ()), ([(98 : UInt8)], (0 : Int), false, ())] (Int.toNat (3 : Int)) (0 : Nat), ()), [([(97 : UInt8)], (0 : Int), false, ()), ([(98 : UInt8)], (0 : Int), false, ())], [(98 : UInt8)]) == (1 : Int)) = false →
                (false = true)))) ∧
            ((sameE Err.nil (0 : Int)) = false →
              (false = true)))))))))) (by kernel_rfl) ?_
  refine ⟨?_, ?_⟩
  · first | exact True.intro | rfl | omega | assumption | (simp only [I64, big] at *; omega) | (simp_all; done)
  refine ⟨fun h0 => ?_, fun h0 => ?_⟩
  · exact absurd (show false = true from h0) (by decide)
  ·
    refine ⟨fun h1 => ?_, fun h1 => ?_⟩
    · exact absurd (show false = true from h1) (by decide)
    ·
      refine ⟨fun h2 => ?_, fun h2 => ?_⟩
      · exact absurd (show false = true from h2) (by decide)
      ·
        refine ⟨?_, ?_⟩
        · first | exact True.intro | rfl | omega | assumption | (simp only [I64, big] at *; omega) | (simp_all; done)
        refine ⟨fun h3 => ?_, fun h3 => ?_⟩
        ·
          refine ⟨?_, ?_⟩
          · rw [firstT_length]; decide
          refine ⟨fun h4 => ?_, fun h4 => ?_⟩
          ·
            refine ⟨?_, ?_⟩
            · rw [firstT_length]; decide
            first | exact True.intro | rfl | omega | assumption | (simp only [I64, big] at *; omega) | (simp_all; done)
          · exact absurd (show true = false from h4) (by decide)
        · exact absurd (show true = false from h3) (by decide)
theorem Try.ok_tables : PureOK Try.prog Try.B.eT 16 [] [.bool] (fun _ => True) (fun x y => y = (fun _ => true) x) :=
  pure_fn (X := noExt) Try.tableCtxOK Try.func16 (by kernel_rfl) (fun _ => []) (fun x hw hp => vc_tables  hw)
def Try.ltableCtx : List (FuncId × (Bool × CSpec)) := [(12, (true, funSpec [.str] [.err] (fun _ => True) (fun s => errNo (nameFault s)))),
  (13, (true, funSpec [.str] [.int .i64] (fun _ => True) (fun s => nameFault s))),
  (14, (true, funSpec [.str] [.int .u32] (fun _ => True) (fun s => (hashF s : Int)))),
  (15, (true, funSpec [.str] [.int .i64] (fun _ => True) (fun s => (hashF s : Int)))),
  (11, (true, funSpec [.err, .int .i64] [.bool] (fun _ => True) (fun x => sameE x.1 x.2))),
  (17, (true, treeSpec [.slice tSymbol, .int .i64] [tTable, .err] (fun _ => True) makeT)),
  (18, (true, funSpec [tTable, .slice tSymbol, .str] [.int .i64] (fun x => x.1.1.length ≤ 40) (fun x => findF x))),
  (16, (true, funSpec [] [.bool] (fun _ => True) (fun _ => true)))]
theorem Try.ltableCtxOK {X : Ext} : CtxOK Try.prog Try.B X Try.ltableCtx :=
  ctx1 (callOK_of_fun Try.ok_Check) (ctx1 (callOK_of_fun Try.ok_NameFault) (ctx1 (callOK_of_fun Try.ok_Hash) (ctx1 (callOK_of_fun Try.ok_RHash) (ctx1 (callOK_of_fun Try.ok_same) (ctx1 (callOK_of_tree (PureOK.of_eq Try.ok_Make fun x => makeT_eval x)) (ctx1 (callOK_of_fun Try.ok_Find) (ctx1 (callOK_of_fun Try.ok_tables) (ctx0 Try.tyOK))))))))
def tsAnn (l : List (D tSymbol)) (many : Int) (s : List UInt8) (o : D tTable) : Anns := [
  (0, fun st => { X := Nat, inv := fun i => i ≤ l.length, meas := fun i => l.length - i, slots := fun i => [(10, sI i)], keep := [0, 1, 2, 7] }),
  (3, fun st => { X := Nat, inv := fun b => b ≤ many.toNat, meas := fun b => many.toNat - b, slots := fun b => [(13, sI b)], keep := [0, 1, 2, 7, 11] }),
  (5, fun st => { X := Nat, inv := fun i => i ≤ l.length, meas := fun i => l.length - i, slots := fun i => [(15, sI i), (14, sI (firstOf l many.toNat (tmpD (.int .i64) st 13).toNat i))], keep := [0, 1, 2, 7, 11, 13, 81, 82, 83, 86, 87, 88, 89, 90] }),
  (7, fun st => { X := Nat, inv := fun k => k ≤ l.length, meas := fun k => k, slots := fun k => [(17, sI ((k : Int) - 1)), (16, sI (wantF l s k))], keep := [0, 2, 7, 8, 11] })]
set_option maxRecDepth 100000 in
set_option maxHeartbeats 1000000 in
theorem vc_TableSays (l : List (D tSymbol)) (many : Int) (s : List UInt8) (o : D tTable) (hw : wfL [.slice tSymbol, .int .i64, .str, tTable] (l, many, s, o)) : (fnVCs Try.B Try.ltableCtx Try.f4 (tsAnn l many s o) [.slice tSymbol, .int .i64, .str, tTable] [.bool] (fun _ y => y = true) (l, many, s, o)).holds := by
  refine holds_of (p :=
    (True) ∧
      (((!true) = true →
        (true = true)) ∧
      ((!true) = false →
        ((List.length l ≤ big) →
        (((decide ((↑(List.length l) : Int) > (12 : Int))) = true →
          (true = true)) ∧
        ((decide ((↑(List.length l) : Int) > (12 : Int))) = false →
          ((List.length s ≤ big) →
          (((decide ((↑(List.length s) : Int) > (30 : Int))) = true →
            (true = true)) ∧
          ((decide ((↑(List.length s) : Int) > (30 : Int))) = false →
            ((List.length o.fst ≤ big) →
            (((decide ((↑(List.length o.fst) : Int) > (40 : Int))) = true →
              (true = true)) ∧
            ((decide ((↑(List.length o.fst) : Int) > (40 : Int))) = false →
              ((List.length o.snd.fst ≤ big) →
              (((decide ((↑(List.length o.snd.fst) : Int) > (40 : Int))) = true →
                (true = true)) ∧
              ((decide ((↑(List.length o.snd.fst) : Int) > (40 : Int))) = false →
                (∃ (x : Nat), x ≤ List.length l ∧ ((0 : Int) = (↑x : Int) ∧ True) ∧ True) ∧
                (∀ x_0 : Nat,
                ((x_0 ≤ List.length l) →
                ((List.length l ≤ big) →
                (((decide ((↑x_0 : Int) < (↑(List.length l) : Int))) = true →
                  ((0 : Int) ≤ (↑x_0 : Int) ∧ (↑x_0 : Int) < (↑(List.length l) : Int)) ∧
                  ((List.length (nth tSymbol l (Int.toNat (↑x_0 : Int))).fst ≤ big) →
                  (((decide ((↑(List.length (nth tSymbol l (Int.toNat (↑x_0 : Int))).fst) : Int) > (30 : Int))) = true →
                    (true = true)) ∧
                  ((decide ((↑(List.length (nth tSymbol l (Int.toNat (↑x_0 : Int))).fst) : Int) > (30 : Int))) = false →
                    ((I64 (↑x_0 : Int)) →
                    ((I64 (1 : Int)) →
                    (I64 ((↑x_0 : Int) + (1 : Int))) ∧
                    (∃ (x' : Nat), x' ≤ List.length l ∧ List.length l - x' < List.length l - x_0 ∧ ((↑x_0 : Int) + (1 : Int) = (↑x' : Int) ∧ True) ∧ (o.fst = o.fst ∧ o.snd.fst = o.snd.fst ∧ True) ∧ True))))))) ∧
                ((decide ((↑x_0 : Int) < (↑(List.length l) : Int))) = false →
                  (True) ∧
                  (((decide (many < (1 : Int))) = true →
                    (((decide (many < (1 : Int))) = true →
                      (True) ∧
                      (((!sameE (Err.no (1 : Int)) (1 : Int)) = true →
                        (false = true)) ∧
                      ((!sameE (Err.no (1 : Int)) (1 : Int)) = false →
                        ((List.length (@List.nil Int) ≤ big) →
                        ((List.length (@List.nil Int) ≤ big) →
                        ((I64 (↑(List.length (@List.nil Int)) : Int)) →
                        ((I64 (↑(List.length (@List.nil Int)) : Int)) →
                        (I64 ((↑(List.length (@List.nil Int)) : Int) + (↑(List.length (@List.nil Int)) : Int))) ∧
                        (((decide ((↑(List.length (@List.nil Int)) : Int) + (↑(List.length (@List.nil Int)) : Int) > (0 : Int))) = true →
                          (false = true)) ∧
                        ((decide ((↑(List.length (@List.nil Int)) : Int) + (↑(List.length (@List.nil Int)) : Int) > (0 : Int))) = false →
                          (List.length o.fst ≤ (40 : Nat)) ∧
                          (((decide (findF ((o.fst, o.snd.fst, ()), l, s) < (0 : Int))) = true →
                            (true = true)) ∧
                          ((decide (findF ((o.fst, o.snd.fst, ()), l, s) < (0 : Int))) = false →
                            ((List.length l ≤ big) →
                            (((decide (findF ((o.fst, o.snd.fst, ()), l, s) < (↑(List.length l) : Int))) = true →
                              ((0 : Int) ≤ findF ((o.fst, o.snd.fst, ()), l, s) ∧ findF ((o.fst, o.snd.fst, ()), l, s) < (↑(List.length l) : Int)) ∧
                              (((nth tSymbol l (Int.toNat (findF ((o.fst, o.snd.fst, ()), l, s)))).fst == s) = true)) ∧
                            ((decide (findF ((o.fst, o.snd.fst, ()), l, s) < (↑(List.length l) : Int))) = false →
                              (false = true))))))))))))))) ∧
                    ((decide (many < (1 : Int))) = false →
                      (((decide (many > (16 : Int))) = true →
                        (True) ∧
                        (((!sameE (Err.no (1 : Int)) (1 : Int)) = true →
                          (false = true)) ∧
                        ((!sameE (Err.no (1 : Int)) (1 : Int)) = false →
                          ((List.length (@List.nil Int) ≤ big) →
                          ((List.length (@List.nil Int) ≤ big) →
                          ((I64 (↑(List.length (@List.nil Int)) : Int)) →
                          ((I64 (↑(List.length (@List.nil Int)) : Int)) →
                          (I64 ((↑(List.length (@List.nil Int)) : Int) + (↑(List.length (@List.nil Int)) : Int))) ∧
                          (((decide ((↑(List.length (@List.nil Int)) : Int) + (↑(List.length (@List.nil Int)) : Int) > (0 : Int))) = true →
                            (false = true)) ∧
                          ((decide ((↑(List.length (@List.nil Int)) : Int) + (↑(List.length (@List.nil Int)) : Int) > (0 : Int))) = false →
                            (List.length o.fst ≤ (40 : Nat)) ∧
                            (((decide (findF ((o.fst, o.snd.fst, ()), l, s) < (0 : Int))) = true →
                              (true = true)) ∧
                            ((decide (findF ((o.fst, o.snd.fst, ()), l, s) < (0 : Int))) = false →
                              ((List.length l ≤ big) →
                              (((decide (findF ((o.fst, o.snd.fst, ()), l, s) < (↑(List.length l) : Int))) = true →
                                ((0 : Int) ≤ findF ((o.fst, o.snd.fst, ()), l, s) ∧ findF ((o.fst, o.snd.fst, ()), l, s) < (↑(List.length l) : Int)) ∧
                                (((nth tSymbol l (Int.toNat (findF ((o.fst, o.snd.fst, ()), l, s)))).fst == s) = true)) ∧
                              ((decide (findF ((o.fst, o.snd.fst, ()), l, s) < (↑(List.length l) : Int))) = false →
                                (false = true))))))))))))))) ∧
                      ((decide (many > (16 : Int))) = false →
                        ((List.length l ≤ big) →
                        (((decide ((↑(List.length l) : Int) > (8 : Int))) = true →
                          (True) ∧
                          (((!sameE (Err.no (1 : Int)) (2 : Int)) = true →
                            (false = true)) ∧
                          ((!sameE (Err.no (1 : Int)) (2 : Int)) = false →
                            ((List.length (@List.nil Int) ≤ big) →
                            ((List.length (@List.nil Int) ≤ big) →
                            ((I64 (↑(List.length (@List.nil Int)) : Int)) →
                            ((I64 (↑(List.length (@List.nil Int)) : Int)) →
                            (I64 ((↑(List.length (@List.nil Int)) : Int) + (↑(List.length (@List.nil Int)) : Int))) ∧
                            (((decide ((↑(List.length (@List.nil Int)) : Int) + (↑(List.length (@List.nil Int)) : Int) > (0 : Int))) = true →
                              (false = true)) ∧
                            ((decide ((↑(List.length (@List.nil Int)) : Int) + (↑(List.length (@List.nil Int)) : Int) > (0 : Int))) = false →
                              (List.length o.fst ≤ (40 : Nat)) ∧
                              (((decide (findF ((o.fst, o.snd.fst, ()), l, s) < (0 : Int))) = true →
                                (true = true)) ∧
                              ((decide (findF ((o.fst, o.snd.fst, ()), l, s) < (0 : Int))) = false →
                                ((List.length l ≤ big) →
                                (((decide (findF ((o.fst, o.snd.fst, ()), l, s) < (↑(List.length l) : Int))) = true →
                                  ((0 : Int) ≤ findF ((o.fst, o.snd.fst, ()), l, s) ∧ findF ((o.fst, o.snd.fst, ()), l, s) < (↑(List.length l) : Int)) ∧
                                  (((nth tSymbol l (Int.toNat (findF ((o.fst, o.snd.fst, ()), l, s)))).fst == s) = true)) ∧
                                ((decide (findF ((o.fst, o.snd.fst, ()), l, s) < (↑(List.length l) : Int))) = false →
                                  (false = true))))))))))))))) ∧
                        ((decide ((↑(List.length l) : Int) > (8 : Int))) = false →
                          (((!Err.isNil (Err.no (1 : Int))) = true →
                            (false = true)) ∧
                          ((!Err.isNil (Err.no (1 : Int))) = false →
                            ((List.length (@List.nil Int) ≤ big) →
                            ((((↑(List.length (@List.nil Int)) : Int) != many) = true →
                              (false = true)) ∧
                            (((↑(List.length (@List.nil Int)) : Int) != many) = false →
                              ((List.length (@List.nil Int) ≤ big) →
                              ((List.length l ≤ big) →
                              ((((↑(List.length (@List.nil Int)) : Int) != (↑(List.length l) : Int)) = true →
                                (false = true)) ∧
                              (((↑(List.length (@List.nil Int)) : Int) != (↑(List.length l) : Int)) = false →
                                (∃ (x : Nat), x ≤ Int.toNat many ∧ ((0 : Int) = (↑x : Int) ∧ True) ∧ True) ∧
                                (∀ x_1 : Nat,
                                ((x_1 ≤ Int.toNat many) →
                                (((decide ((↑x_1 : Int) < many)) = true →
                                  ((0 : Int) ≤ (↑x_1 : Int) ∧ (↑x_1 : Int) < (↑(List.length (@List.nil Int)) : Int)) ∧
                                  (∃ (x : Nat), x ≤ List.length l ∧ ((0 : Int) = (↑x : Int) ∧ nth (Ty.int IntKind.i64) (@List.nil Int) (Int.toNat (↑x_1 : Int)) = firstOf l (Int.toNat many) (Int.toNat (↑x_1 : Int)) x ∧ True) ∧ True) ∧
                                  (∀ x_2 : Nat,
                                  ((x_2 ≤ List.length l) →
                                  ((List.length l ≤ big) →
                                  (((decide ((↑x_2 : Int) < (↑(List.length l) : Int))) = true →
                                    ((0 : Int) ≤ (↑x_2 : Int) ∧ (↑x_2 : Int) < (↑(List.length l) : Int)) ∧
                                    (True) ∧
                                    (many ≠ (0 : Int)) ∧
                                    (∀ x_3 : Int,
                                    ((x_3 = Int.tmod (↑(hashF (nth tSymbol l (Int.toNat (↑x_2 : Int))).fst) : Int) many) →
                                    (((x_3 != (↑x_1 : Int)) = true →
                                      ((I64 (↑x_2 : Int)) →
                                      ((I64 (1 : Int)) →
                                      (I64 ((↑x_2 : Int) + (1 : Int))) ∧
                                      (∃ (x' : Nat), x' ≤ List.length l ∧ List.length l - x' < List.length l - x_2 ∧ ((↑x_2 : Int) + (1 : Int) = (↑x' : Int) ∧ firstOf l (Int.toNat many) (Int.toNat (↑x_1 : Int)) x_2 = firstOf l (Int.toNat many) (Int.toNat (↑x_1 : Int)) x' ∧ True) ∧ (@List.nil Int = @List.nil Int ∧ @List.nil Int = @List.nil Int ∧ True) ∧ @List.nil Int = @List.nil Int ∧ @List.nil Int = @List.nil Int ∧ (o.fst = o.fst ∧ o.snd.fst = o.snd.fst ∧ True) ∧ True)))) ∧
                                    ((x_3 != (↑x_1 : Int)) = false →
                                      (((firstOf l (Int.toNat many) (Int.toNat (↑x_1 : Int)) x_2 != (↑x_2 : Int)) = true →
                                        (false = true)) ∧
                                      ((firstOf l (Int.toNat many) (Int.toNat (↑x_1 : Int)) x_2 != (↑x_2 : Int)) = false →
                                        ((0 : Int) ≤ (↑x_2 : Int) ∧ (↑x_2 : Int) < (↑(List.length (@List.nil Int)) : Int)) ∧
                                        ((I64 (↑x_2 : Int)) →
                                        ((I64 (1 : Int)) →
                                        (I64 ((↑x_2 : Int) + (1 : Int))) ∧
                                        (∃ (x' : Nat), x' ≤ List.length l ∧ List.length l - x' < List.length l - x_2 ∧ ((↑x_2 : Int) + (1 : Int) = (↑x' : Int) ∧ nth (Ty.int IntKind.i64) (@List.nil Int) (Int.toNat (↑x_2 : Int)) = firstOf l (Int.toNat many) (Int.toNat (↑x_1 : Int)) x' ∧ True) ∧ (@List.nil Int = @List.nil Int ∧ @List.nil Int = @List.nil Int ∧ True) ∧ @List.nil Int = @List.nil Int ∧ @List.nil Int = @List.nil Int ∧ (o.fst = o.fst ∧ o.snd.fst = o.snd.fst ∧ True) ∧ True)))))))))) ∧
                                  ((decide ((↑x_2 : Int) < (↑(List.length l) : Int))) = false →
                                    (((firstOf l (Int.toNat many) (Int.toNat (↑x_1 : Int)) x_2 != (-1 : Int)) = true →
                                      (false = true)) ∧
                                    ((firstOf l (Int.toNat many) (Int.toNat (↑x_1 : Int)) x_2 != (-1 : Int)) = false →
                                      ((I64 (↑x_1 : Int)) →
                                      ((I64 (1 : Int)) →
                                      (I64 ((↑x_1 : Int) + (1 : Int))) ∧
                                      (∃ (x' : Nat), x' ≤ Int.toNat many ∧ Int.toNat many - x' < Int.toNat many - x_1 ∧ ((↑x_1 : Int) + (1 : Int) = (↑x' : Int) ∧ True) ∧ (@List.nil Int = @List.nil Int ∧ @List.nil Int = @List.nil Int ∧ True) ∧ @List.nil Int = @List.nil Int ∧ @List.nil Int = @List.nil Int ∧ (o.fst = o.fst ∧ o.snd.fst = o.snd.fst ∧ True) ∧ True))))))))))) ∧
                                ((decide ((↑x_1 : Int) < many)) = false →
                                  ((List.length l ≤ big) →
                                  ((I64 (↑(List.length l) : Int)) →
                                  ((I64 (1 : Int)) →
                                  (I64 ((↑(List.length l) : Int) - (1 : Int))) ∧
                                  (∃ (x : Nat), x ≤ List.length l ∧ ((↑(List.length l) : Int) - (1 : Int) = (↑x : Int) - (1 : Int) ∧ (-1 : Int) = wantF l s x ∧ True) ∧ True) ∧
                                  (∀ x_2 : Nat,
                                  ((x_2 ≤ List.length l) →
                                  (((decide ((↑x_2 : Int) - (1 : Int) ≥ (0 : Int))) = true →
                                    ((0 : Int) ≤ (↑x_2 : Int) - (1 : Int) ∧ (↑x_2 : Int) - (1 : Int) < (↑(List.length l) : Int)) ∧
                                    ((((nth tSymbol l (Int.toNat ((↑x_2 : Int) - (1 : Int)))).fst == s) = true →
                                      ((I64 ((↑x_2 : Int) - (1 : Int))) →
                                      ((I64 (1 : Int)) →
                                      (I64 ((↑x_2 : Int) - (1 : Int) - (1 : Int))) ∧
                                      (∃ (x' : Nat), x' ≤ List.length l ∧ x' < x_2 ∧ ((↑x_2 : Int) - (1 : Int) - (1 : Int) = (↑x' : Int) - (1 : Int) ∧ (↑x_2 : Int) - (1 : Int) = wantF l s x' ∧ True) ∧ (@List.nil Int = @List.nil Int ∧ @List.nil Int = @List.nil Int ∧ True) ∧ @List.nil Int = @List.nil Int ∧ @List.nil Int = @List.nil Int ∧ (o.fst = o.fst ∧ o.snd.fst = o.snd.fst ∧ True) ∧ True)))) ∧
                                    (((nth tSymbol l (Int.toNat ((↑x_2 : Int) - (1 : Int)))).fst == s) = false →
                                      ((I64 ((↑x_2 : Int) - (1 : Int))) →
                                      ((I64 (1 : Int)) →
                                      (I64 ((↑x_2 : Int) - (1 : Int) - (1 : Int))) ∧
                                      (∃ (x' : Nat), x' ≤ List.length l ∧ x' < x_2 ∧ ((↑x_2 : Int) - (1 : Int) - (1 : Int) = (↑x' : Int) - (1 : Int) ∧ wantF l s x_2 = wantF l s x' ∧ True) ∧ (@List.nil Int = @List.nil Int ∧ @List.nil Int = @List.nil Int ∧ True) ∧ @List.nil Int = @List.nil Int ∧ @List.nil Int = @List.nil Int ∧ (o.fst = o.fst ∧ o.snd.fst = o.snd.fst ∧ True) ∧ True)))))) ∧
                                  ((decide ((↑x_2 : Int) - (1 : Int) ≥ (0 : Int))) = false →
                                    (List.length (@List.nil Int) ≤ (40 : Nat)) ∧
                                    (((findF (([], [], ()), l, s) != wantF l s x_2) = true →
                                      (false = true)) ∧
                                    ((findF (([], [], ()), l, s) != wantF l s x_2) = false →
                                      (List.length o.fst ≤ (40 : Nat)) ∧
                                      (((decide (findF ((o.fst, o.snd.fst, ()), l, s) < (0 : Int))) = true →
                                        (true = true)) ∧
                                      ((decide (findF ((o.fst, o.snd.fst, ()), l, s) < (0 : Int))) = false →
                                        ((List.length l ≤ big) →
                                        (((decide (findF ((o.fst, o.snd.fst, ()), l, s) < (↑(List.length l) : Int))) = true →
                                          ((0 : Int) ≤ findF ((o.fst, o.snd.fst, ()), l, s) ∧ findF ((o.fst, o.snd.fst, ()), l, s) < (↑(List.length l) : Int)) ∧
                                          (((nth tSymbol l (Int.toNat (findF ((o.fst, o.snd.fst, ()), l, s)))).fst == s) = true)) ∧
                                        ((decide (findF ((o.fst, o.snd.fst, ()), l, s) < (↑(List.length l) : Int))) = false →
                                          (false = true)))))))))))))))))))))))))))))))))))) ∧
                  ((decide (many < (1 : Int))) = false →
                    (((decide ((16 : Int) < many)) = true →
                      (((decide (many < (1 : Int))) = true →
                        (True) ∧
                        (((!sameE (Err.no (1 : Int)) (1 : Int)) = true →
                          (false = true)) ∧
                        ((!sameE (Err.no (1 : Int)) (1 : Int)) = false →
                          ((List.length (@List.nil Int) ≤ big) →
                          ((List.length (@List.nil Int) ≤ big) →
                          ((I64 (↑(List.length (@List.nil Int)) : Int)) →
                          ((I64 (↑(List.length (@List.nil Int)) : Int)) →
                          (I64 ((↑(List.length (@List.nil Int)) : Int) + (↑(List.length (@List.nil Int)) : Int))) ∧
                          (((decide ((↑(List.length (@List.nil Int)) : Int) + (↑(List.length (@List.nil Int)) : Int) > (0 : Int))) = true →
                            (false = true)) ∧
                          ((decide ((↑(List.length (@List.nil Int)) : Int) + (↑(List.length (@List.nil Int)) : Int) > (0 : Int))) = false →
                            (List.length o.fst ≤ (40 : Nat)) ∧
                            (((decide (findF ((o.fst, o.snd.fst, ()), l, s) < (0 : Int))) = true →
                              (true = true)) ∧
                            ((decide (findF ((o.fst, o.snd.fst, ()), l, s) < (0 : Int))) = false →
                              ((List.length l ≤ big) →
                              (((decide (findF ((o.fst, o.snd.fst, ()), l, s) < (↑(List.length l) : Int))) = true →
                                ((0 : Int) ≤ findF ((o.fst, o.snd.fst, ()), l, s) ∧ findF ((o.fst, o.snd.fst, ()), l, s) < (↑(List.length l) : Int)) ∧
                                (((nth tSymbol l (Int.toNat (findF ((o.fst, o.snd.fst, ()), l, s)))).fst == s) = true)) ∧
                              ((decide (findF ((o.fst, o.snd.fst, ()), l, s) < (↑(List.length l) : Int))) = false →
                                (false = true))))))))))))))) ∧
                      ((decide (many < (1 : Int))) = false →
                        (((decide (many > (16 : Int))) = true →
                          (True) ∧
                          (((!sameE (Err.no (1 : Int)) (1 : Int)) = true →
                            (false = true)) ∧
                          ((!sameE (Err.no (1 : Int)) (1 : Int)) = false →
                            ((List.length (@List.nil Int) ≤ big) →
                            ((List.length (@List.nil Int) ≤ big) →
                            ((I64 (↑(List.length (@List.nil Int)) : Int)) →
                            ((I64 (↑(List.length (@List.nil Int)) : Int)) →
                            (I64 ((↑(List.length (@List.nil Int)) : Int) + (↑(List.length (@List.nil Int)) : Int))) ∧
                            (((decide ((↑(List.length (@List.nil Int)) : Int) + (↑(List.length (@List.nil Int)) : Int) > (0 : Int))) = true →
                              (false = true)) ∧
                            ((decide ((↑(List.length (@List.nil Int)) : Int) + (↑(List.length (@List.nil Int)) : Int) > (0 : Int))) = false →
                              (List.length o.fst ≤ (40 : Nat)) ∧
                              (((decide (findF ((o.fst, o.snd.fst, ()), l, s) < (0 : Int))) = true →
                                (true = true)) ∧
                              ((decide (findF ((o.fst, o.snd.fst, ()), l, s) < (0 : Int))) = false →
                                ((List.length l ≤ big) →
                                (((decide (findF ((o.fst, o.snd.fst, ()), l, s) < (↑(List.length l) : Int))) = true →
                                  ((0 : Int) ≤ findF ((o.fst, o.snd.fst, ()), l, s) ∧ findF ((o.fst, o.snd.fst, ()), l, s) < (↑(List.length l) : Int)) ∧
                                  (((nth tSymbol l (Int.toNat (findF ((o.fst, o.snd.fst, ()), l, s)))).fst == s) = true)) ∧
                                ((decide (findF ((o.fst, o.snd.fst, ()), l, s) < (↑(List.length l) : Int))) = false →
                                  (false = true))))))))))))))) ∧
                        ((decide (many > (16 : Int))) = false →
                          ((List.length l ≤ big) →
                          (((decide ((↑(List.length l) : Int) > (8 : Int))) = true →
                            (True) ∧
                            (((!sameE (Err.no (1 : Int)) (2 : Int)) = true →
                              (false = true)) ∧
                            ((!sameE (Err.no (1 : Int)) (2 : Int)) = false →
                              ((List.length (@List.nil Int) ≤ big) →
                              ((List.length (@List.nil Int) ≤ big) →
                              ((I64 (↑(List.length (@List.nil Int)) : Int)) →
                              ((I64 (↑(List.length (@List.nil Int)) : Int)) →
                              (I64 ((↑(List.length (@List.nil Int)) : Int) + (↑(List.length (@List.nil Int)) : Int))) ∧
                              (((decide ((↑(List.length (@List.nil Int)) : Int) + (↑(List.length (@List.nil Int)) : Int) > (0 : Int))) = true →
                                (false = true)) ∧
                              ((decide ((↑(List.length (@List.nil Int)) : Int) + (↑(List.length (@List.nil Int)) : Int) > (0 : Int))) = false →
                                (List.length o.fst ≤ (40 : Nat)) ∧
                                (((decide (findF ((o.fst, o.snd.fst, ()), l, s) < (0 : Int))) = true →
                                  (true = true)) ∧
                                ((decide (findF ((o.fst, o.snd.fst, ()), l, s) < (0 : Int))) = false →
                                  ((List.length l ≤ big) →
                                  (((decide (findF ((o.fst, o.snd.fst, ()), l, s) < (↑(List.length l) : Int))) = true →
                                    ((0 : Int) ≤ findF ((o.fst, o.snd.fst, ()), l, s) ∧ findF ((o.fst, o.snd.fst, ()), l, s) < (↑(List.length l) : Int)) ∧
                                    (((nth tSymbol l (Int.toNat (findF ((o.fst, o.snd.fst, ()), l, s)))).fst == s) = true)) ∧
                                  ((decide (findF ((o.fst, o.snd.fst, ()), l, s) < (↑(List.length l) : Int))) = false →
                                    (false = true))))))))))))))) ∧
                          ((decide ((↑(List.length l) : Int) > (8 : Int))) = false →
                            (((!Err.isNil (Err.no (1 : Int))) = true →
                              (false = true)) ∧
                            ((!Err.isNil (Err.no (1 : Int))) = false →
                              ((List.length (@List.nil Int) ≤ big) →
                              ((((↑(List.length (@List.nil Int)) : Int) != many) = true →
                                (false = true)) ∧
                              (((↑(List.length (@List.nil Int)) : Int) != many) = false →
                                ((List.length (@List.nil Int) ≤ big) →
                                ((List.length l ≤ big) →
                                ((((↑(List.length (@List.nil Int)) : Int) != (↑(List.length l) : Int)) = true →
                                  (false = true)) ∧
                                (((↑(List.length (@List.nil Int)) : Int) != (↑(List.length l) : Int)) = false →
                                  (∃ (x : Nat), x ≤ Int.toNat many ∧ ((0 : Int) = (↑x : Int) ∧ True) ∧ True) ∧
                                  (∀ x_1 : Nat,
                                  ((x_1 ≤ Int.toNat many) →
                                  (((decide ((↑x_1 : Int) < many)) = true →
                                    ((0 : Int) ≤ (↑x_1 : Int) ∧ (↑x_1 : Int) < (↑(List.length (@List.nil Int)) : Int)) ∧
                                    (∃ (x : Nat), x ≤ List.length l ∧ ((0 : Int) = (↑x : Int) ∧ nth (Ty.int IntKind.i64) (@List.nil Int) (Int.toNat (↑x_1 : Int)) = firstOf l (Int.toNat many) (Int.toNat (↑x_1 : Int)) x ∧ True) ∧ True) ∧
                                    (∀ x_2 : Nat,
                                    ((x_2 ≤ List.length l) →
                                    ((List.length l ≤ big) →
                                    (((decide ((↑x_2 : Int) < (↑(List.length l) : Int))) = true →
                                      ((0 : Int) ≤ (↑x_2 : Int) ∧ (↑x_2 : Int) < (↑(List.length l) : Int)) ∧
                                      (True) ∧
                                      (many ≠ (0 : Int)) ∧
                                      (∀ x_3 : Int,
                                      ((x_3 = Int.tmod (↑(hashF (nth tSymbol l (Int.toNat (↑x_2 : Int))).fst) : Int) many) →
                                      (((x_3 != (↑x_1 : Int)) = true →
                                        ((I64 (↑x_2 : Int)) →
                                        ((I64 (1 : Int)) →
                                        (I64 ((↑x_2 : Int) + (1 : Int))) ∧
                                        (∃ (x' : Nat), x' ≤ List.length l ∧ List.length l - x' < List.length l - x_2 ∧ ((↑x_2 : Int) + (1 : Int) = (↑x' : Int) ∧ firstOf l (Int.toNat many) (Int.toNat (↑x_1 : Int)) x_2 = firstOf l (Int.toNat many) (Int.toNat (↑x_1 : Int)) x' ∧ True) ∧ (@List.nil Int = @List.nil Int ∧ @List.nil Int = @List.nil Int ∧ True) ∧ @List.nil Int = @List.nil Int ∧ @List.nil Int = @List.nil Int ∧ (o.fst = o.fst ∧ o.snd.fst = o.snd.fst ∧ True) ∧ True)))) ∧
                                      ((x_3 != (↑x_1 : Int)) = false →
                                        (((firstOf l (Int.toNat many) (Int.toNat (↑x_1 : Int)) x_2 != (↑x_2 : Int)) = true →
                                          (false = true)) ∧
                                        ((firstOf l (Int.toNat many) (Int.toNat (↑x_1 : Int)) x_2 != (↑x_2 : Int)) = false →
                                          ((0 : Int) ≤ (↑x_2 : Int) ∧ (↑x_2 : Int) < (↑(List.length (@List.nil Int)) : Int)) ∧
                                          ((I64 (↑x_2 : Int)) →
                                          ((I64 (1 : Int)) →
                                          (I64 ((↑x_2 : Int) + (1 : Int))) ∧
                                          (∃ (x' : Nat), x' ≤ List.length l ∧ List.length l - x' < List.length l - x_2 ∧ ((↑x_2 : Int) + (1 : Int) = (↑x' : Int) ∧ nth (Ty.int IntKind.i64) (@List.nil Int) (Int.toNat (↑x_2 : Int)) = firstOf l (Int.toNat many) (Int.toNat (↑x_1 : Int)) x' ∧ True) ∧ (@List.nil Int = @List.nil Int ∧ @List.nil Int = @List.nil Int ∧ True) ∧ @List.nil Int = @List.nil Int ∧ @List.nil Int = @List.nil Int ∧ (o.fst = o.fst ∧ o.snd.fst = o.snd.fst ∧ True) ∧ True)))))))))) ∧
                                    ((decide ((↑x_2 : Int) < (↑(List.length l) : Int))) = false →
                                      (((firstOf l (Int.toNat many) (Int.toNat (↑x_1 : Int)) x_2 != (-1 : Int)) = true →
                                        (false = true)) ∧
                                      ((firstOf l (Int.toNat many) (Int.toNat (↑x_1 : Int)) x_2 != (-1 : Int)) = false →
                                        ((I64 (↑x_1 : Int)) →
                                        ((I64 (1 : Int)) →
                                        (I64 ((↑x_1 : Int) + (1 : Int))) ∧
                                        (∃ (x' : Nat), x' ≤ Int.toNat many ∧ Int.toNat many - x' < Int.toNat many - x_1 ∧ ((↑x_1 : Int) + (1 : Int) = (↑x' : Int) ∧ True) ∧ (@List.nil Int = @List.nil Int ∧ @List.nil Int = @List.nil Int ∧ True) ∧ @List.nil Int = @List.nil Int ∧ @List.nil Int = @List.nil Int ∧ (o.fst = o.fst ∧ o.snd.fst = o.snd.fst ∧ True) ∧ True))))))))))) ∧
                                  ((decide ((↑x_1 : Int) < many)) = false →
                                    ((List.length l ≤ big) →
                                    ((I64 (↑(List.length l) : Int)) →
                                    ((I64 (1 : Int)) →
                                    (I64 ((↑(List.length l) : Int) - (1 : Int))) ∧
                                    (∃ (x : Nat), x ≤ List.length l ∧ ((↑(List.length l) : Int) - (1 : Int) = (↑x : Int) - (1 : Int) ∧ (-1 : Int) = wantF l s x ∧ True) ∧ True) ∧
                                    (∀ x_2 : Nat,
                                    ((x_2 ≤ List.length l) →
                                    (((decide ((↑x_2 : Int) - (1 : Int) ≥ (0 : Int))) = true →
                                      ((0 : Int) ≤ (↑x_2 : Int) - (1 : Int) ∧ (↑x_2 : Int) - (1 : Int) < (↑(List.length l) : Int)) ∧
                                      ((((nth tSymbol l (Int.toNat ((↑x_2 : Int) - (1 : Int)))).fst == s) = true →
                                        ((I64 ((↑x_2 : Int) - (1 : Int))) →
                                        ((I64 (1 : Int)) →
                                        (I64 ((↑x_2 : Int) - (1 : Int) - (1 : Int))) ∧
                                        (∃ (x' : Nat), x' ≤ List.length l ∧ x' < x_2 ∧ ((↑x_2 : Int) - (1 : Int) - (1 : Int) = (↑x' : Int) - (1 : Int) ∧ (↑x_2 : Int) - (1 : Int) = wantF l s x' ∧ True) ∧ (@List.nil Int = @List.nil Int ∧ @List.nil Int = @List.nil Int ∧ True) ∧ @List.nil Int = @List.nil Int ∧ @List.nil Int = @List.nil Int ∧ (o.fst = o.fst ∧ o.snd.fst = o.snd.fst ∧ True) ∧ True)))) ∧
                                      (((nth tSymbol l (Int.toNat ((↑x_2 : Int) - (1 : Int)))).fst == s) = false →
                                        ((I64 ((↑x_2 : Int) - (1 : Int))) →
                                        ((I64 (1 : Int)) →
                                        (I64 ((↑x_2 : Int) - (1 : Int) - (1 : Int))) ∧
                                        (∃ (x' : Nat), x' ≤ List.length l ∧ x' < x_2 ∧ ((↑x_2 : Int) - (1 : Int) - (1 : Int) = (↑x' : Int) - (1 : Int) ∧ wantF l s x_2 = wantF l s x' ∧ True) ∧ (@List.nil Int = @List.nil Int ∧ @List.nil Int = @List.nil Int ∧ True) ∧ @List.nil Int = @List.nil Int ∧ @List.nil Int = @List.nil Int ∧ (o.fst = o.fst ∧ o.snd.fst = o.snd.fst ∧ True) ∧ True)))))) ∧
                                    ((decide ((↑x_2 : Int) - (1 : Int) ≥ (0 : Int))) = false →
                                      (List.length (@List.nil Int) ≤ (40 : Nat)) ∧
                                      (((findF (([], [], ()), l, s) != wantF l s x_2) = true →
                                        (false = true)) ∧
                                      ((findF (([], [], ()), l, s) != wantF l s x_2) = false →
                                        (List.length o.fst ≤ (40 : Nat)) ∧
                                        (((decide (findF ((o.fst, o.snd.fst, ()), l, s) < (0 : Int))) = true →
                                          (true = true)) ∧
                                        ((decide (findF ((o.fst, o.snd.fst, ()), l, s) < (0 : Int))) = false →
                                          ((List.length l ≤ big) →
                                          (((decide (findF ((o.fst, o.snd.fst, ()), l, s) < (↑(List.length l) : Int))) = true →
                                            ((0 : Int) ≤ findF ((o.fst, o.snd.fst, ()), l, s) ∧ findF ((o.fst, o.snd.fst, ()), l, s) < (↑(List.length l) : Int)) ∧
                                            (((nth tSymbol l (Int.toNat (findF ((o.fst, o.snd.fst, ()), l, s)))).fst == s) = true)) ∧
                                          ((decide (findF ((o.fst, o.snd.fst, ()), l, s) < (↑(List.length l) : Int))) = false →
                                            (false = true)))))))))))))))))))))))))))))))))))) ∧
                    ((decide ((16 : Int) < many)) = false →
                      (((decide ((8 : Nat) < List.length l)) = true →
                        (((decide (many < (1 : Int))) = true →
                          (True) ∧
                          (((!sameE (Err.no (2 : Int)) (1 : Int)) = true →
                            (false = true)) ∧
                          ((!sameE (Err.no (2 : Int)) (1 : Int)) = false →
                            ((List.length (@List.nil Int) ≤ big) →
                            ((List.length (@List.nil Int) ≤ big) →
                            ((I64 (↑(List.length (@List.nil Int)) : Int)) →
                            ((I64 (↑(List.length (@List.nil Int)) : Int)) →
                            (I64 ((↑(List.length (@List.nil Int)) : Int) + (↑(List.length (@List.nil Int)) : Int))) ∧
                            (((decide ((↑(List.length (@List.nil Int)) : Int) + (↑(List.length (@List.nil Int)) : Int) > (0 : Int))) = true →
                              (false = true)) ∧
                            ((decide ((↑(List.length (@List.nil Int)) : Int) + (↑(List.length (@List.nil Int)) : Int) > (0 : Int))) = false →
                              (List.length o.fst ≤ (40 : Nat)) ∧
                              (((decide (findF ((o.fst, o.snd.fst, ()), l, s) < (0 : Int))) = true →
                                (true = true)) ∧
                              ((decide (findF ((o.fst, o.snd.fst, ()), l, s) < (0 : Int))) = false →
                                ((List.length l ≤ big) →
                                (((decide (findF ((o.fst, o.snd.fst, ()), l, s) < (↑(List.length l) : Int))) = true →
                                  ((0 : Int) ≤ findF ((o.fst, o.snd.fst, ()), l, s) ∧ findF ((o.fst, o.snd.fst, ()), l, s) < (↑(List.length l) : Int)) ∧
                                  (((nth tSymbol l (Int.toNat (findF ((o.fst, o.snd.fst, ()), l, s)))).fst == s) = true)) ∧
                                ((decide (findF ((o.fst, o.snd.fst, ()), l, s) < (↑(List.length l) : Int))) = false →
                                  (false = true))))))))))))))) ∧
                        ((decide (many < (1 : Int))) = false →
                          (((decide (many > (16 : Int))) = true →
                            (True) ∧
                            (((!sameE (Err.no (2 : Int)) (1 : Int)) = true →
                              (false = true)) ∧
                            ((!sameE (Err.no (2 : Int)) (1 : Int)) = false →
                              ((List.length (@List.nil Int) ≤ big) →
                              ((List.length (@List.nil Int) ≤ big) →
                              ((I64 (↑(List.length (@List.nil Int)) : Int)) →
                              ((I64 (↑(List.length (@List.nil Int)) : Int)) →
                              (I64 ((↑(List.length (@List.nil Int)) : Int) + (↑(List.length (@List.nil Int)) : Int))) ∧
                              (((decide ((↑(List.length (@List.nil Int)) : Int) + (↑(List.length (@List.nil Int)) : Int) > (0 : Int))) = true →
                                (false = true)) ∧
                              ((decide ((↑(List.length (@List.nil Int)) : Int) + (↑(List.length (@List.nil Int)) : Int) > (0 : Int))) = false →
                                (List.length o.fst ≤ (40 : Nat)) ∧
                                (((decide (findF ((o.fst, o.snd.fst, ()), l, s) < (0 : Int))) = true →
                                  (true = true)) ∧
                                ((decide (findF ((o.fst, o.snd.fst, ()), l, s) < (0 : Int))) = false →
                                  ((List.length l ≤ big) →
                                  (((decide (findF ((o.fst, o.snd.fst, ()), l, s) < (↑(List.length l) : Int))) = true →
                                    ((0 : Int) ≤ findF ((o.fst, o.snd.fst, ()), l, s) ∧ findF ((o.fst, o.snd.fst, ()), l, s) < (↑(List.length l) : Int)) ∧
                                    (((nth tSymbol l (Int.toNat (findF ((o.fst, o.snd.fst, ()), l, s)))).fst == s) = true)) ∧
                                  ((decide (findF ((o.fst, o.snd.fst, ()), l, s) < (↑(List.length l) : Int))) = false →
                                    (false = true))))))))))))))) ∧
                          ((decide (many > (16 : Int))) = false →
                            ((List.length l ≤ big) →
                            (((decide ((↑(List.length l) : Int) > (8 : Int))) = true →
                              (True) ∧
                              (((!sameE (Err.no (2 : Int)) (2 : Int)) = true →
                                (false = true)) ∧
                              ((!sameE (Err.no (2 : Int)) (2 : Int)) = false →
                                ((List.length (@List.nil Int) ≤ big) →
                                ((List.length (@List.nil Int) ≤ big) →
                                ((I64 (↑(List.length (@List.nil Int)) : Int)) →
                                ((I64 (↑(List.length (@List.nil Int)) : Int)) →
                                (I64 ((↑(List.length (@List.nil Int)) : Int) + (↑(List.length (@List.nil Int)) : Int))) ∧
                                (((decide ((↑(List.length (@List.nil Int)) : Int) + (↑(List.length (@List.nil Int)) : Int) > (0 : Int))) = true →
                                  (false = true)) ∧
                                ((decide ((↑(List.length (@List.nil Int)) : Int) + (↑(List.length (@List.nil Int)) : Int) > (0 : Int))) = false →
                                  (List.length o.fst ≤ (40 : Nat)) ∧
                                  (((decide (findF ((o.fst, o.snd.fst, ()), l, s) < (0 : Int))) = true →
                                    (true = true)) ∧
                                  ((decide (findF ((o.fst, o.snd.fst, ()), l, s) < (0 : Int))) = false →
                                    ((List.length l ≤ big) →
                                    (((decide (findF ((o.fst, o.snd.fst, ()), l, s) < (↑(List.length l) : Int))) = true →
                                      ((0 : Int) ≤ findF ((o.fst, o.snd.fst, ()), l, s) ∧ findF ((o.fst, o.snd.fst, ()), l, s) < (↑(List.length l) : Int)) ∧
                                      (((nth tSymbol l (Int.toNat (findF ((o.fst, o.snd.fst, ()), l, s)))).fst == s) = true)) ∧
                                    ((decide (findF ((o.fst, o.snd.fst, ()), l, s) < (↑(List.length l) : Int))) = false →
                                      (false = true))))))))))))))) ∧
                            ((decide ((↑(List.length l) : Int) > (8 : Int))) = false →
                              (((!Err.isNil (Err.no (2 : Int))) = true →
                                (false = true)) ∧
                              ((!Err.isNil (Err.no (2 : Int))) = false →
                                ((List.length (@List.nil Int) ≤ big) →
                                ((((↑(List.length (@List.nil Int)) : Int) != many) = true →
                                  (false = true)) ∧
                                (((↑(List.length (@List.nil Int)) : Int) != many) = false →
                                  ((List.length (@List.nil Int) ≤ big) →
                                  ((List.length l ≤ big) →
                                  ((((↑(List.length (@List.nil Int)) : Int) != (↑(List.length l) : Int)) = true →
                                    (false = true)) ∧
                                  (((↑(List.length (@List.nil Int)) : Int) != (↑(List.length l) : Int)) = false →
                                    (∃ (x : Nat), x ≤ Int.toNat many ∧ ((0 : Int) = (↑x : Int) ∧ True) ∧ True) ∧
                                    (∀ x_1 : Nat,
                                    ((x_1 ≤ Int.toNat many) →
                                    (((decide ((↑x_1 : Int) < many)) = true →
                                      ((0 : Int) ≤ (↑x_1 : Int) ∧ (↑x_1 : Int) < (↑(List.length (@List.nil Int)) : Int)) ∧
                                      (∃ (x : Nat), x ≤ List.length l ∧ ((0 : Int) = (↑x : Int) ∧ nth (Ty.int IntKind.i64) (@List.nil Int) (Int.toNat (↑x_1 : Int)) = firstOf l (Int.toNat many) (Int.toNat (↑x_1 : Int)) x ∧ True) ∧ True) ∧
                                      (∀ x_2 : Nat,
                                      ((x_2 ≤ List.length l) →
                                      ((List.length l ≤ big) →
                                      (((decide ((↑x_2 : Int) < (↑(List.length l) : Int))) = true →
                                        ((0 : Int) ≤ (↑x_2 : Int) ∧ (↑x_2 : Int) < (↑(List.length l) : Int)) ∧
                                        (True) ∧
                                        (many ≠ (0 : Int)) ∧
                                        (∀ x_3 : Int,
                                        ((x_3 = Int.tmod (↑(hashF (nth tSymbol l (Int.toNat (↑x_2 : Int))).fst) : Int) many) →
                                        (((x_3 != (↑x_1 : Int)) = true →
                                          ((I64 (↑x_2 : Int)) →
                                          ((I64 (1 : Int)) →
                                          (I64 ((↑x_2 : Int) + (1 : Int))) ∧
                                          (∃ (x' : Nat), x' ≤ List.length l ∧ List.length l - x' < List.length l - x_2 ∧ ((↑x_2 : Int) + (1 : Int) = (↑x' : Int) ∧ firstOf l (Int.toNat many) (Int.toNat (↑x_1 : Int)) x_2 = firstOf l (Int.toNat many) (Int.toNat (↑x_1 : Int)) x' ∧ True) ∧ (@List.nil Int = @List.nil Int ∧ @List.nil Int = @List.nil Int ∧ True) ∧ @List.nil Int = @List.nil Int ∧ @List.nil Int = @List.nil Int ∧ (o.fst = o.fst ∧ o.snd.fst = o.snd.fst ∧ True) ∧ True)))) ∧
                                        ((x_3 != (↑x_1 : Int)) = false →
                                          (((firstOf l (Int.toNat many) (Int.toNat (↑x_1 : Int)) x_2 != (↑x_2 : Int)) = true →
                                            (false = true)) ∧
                                          ((firstOf l (Int.toNat many) (Int.toNat (↑x_1 : Int)) x_2 != (↑x_2 : Int)) = false →
                                            ((0 : Int) ≤ (↑x_2 : Int) ∧ (↑x_2 : Int) < (↑(List.length (@List.nil Int)) : Int)) ∧
                                            ((I64 (↑x_2 : Int)) →
                                            ((I64 (1 : Int)) →
                                            (I64 ((↑x_2 : Int) + (1 : Int))) ∧
                                            (∃ (x' : Nat), x' ≤ List.length l ∧ List.length l - x' < List.length l - x_2 ∧ ((↑x_2 : Int) + (1 : Int) = (↑x' : Int) ∧ nth (Ty.int IntKind.i64) (@List.nil Int) (Int.toNat (↑x_2 : Int)) = firstOf l (Int.toNat many) (Int.toNat (↑x_1 : Int)) x' ∧ True) ∧ (@List.nil Int = @List.nil Int ∧ @List.nil Int = @List.nil Int ∧ True) ∧ @List.nil Int = @List.nil Int ∧ @List.nil Int = @List.nil Int ∧ (o.fst = o.fst ∧ o.snd.fst = o.snd.fst ∧ True) ∧ True)))))))))) ∧
                                      ((decide ((↑x_2 : Int) < (↑(List.length l) : Int))) = false →
                                        (((firstOf l (Int.toNat many) (Int.toNat (↑x_1 : Int)) x_2 != (-1 : Int)) = true →
                                          (false = true)) ∧
                                        ((firstOf l (Int.toNat many) (Int.toNat (↑x_1 : Int)) x_2 != (-1 : Int)) = false →
                                          ((I64 (↑x_1 : Int)) →
                                          ((I64 (1 : Int)) →
                                          (I64 ((↑x_1 : Int) + (1 : Int))) ∧
                                          (∃ (x' : Nat), x' ≤ Int.toNat many ∧ Int.toNat many - x' < Int.toNat many - x_1 ∧ ((↑x_1 : Int) + (1 : Int) = (↑x' : Int) ∧ True) ∧ (@List.nil Int = @List.nil Int ∧ @List.nil Int = @List.nil Int ∧ True) ∧ @List.nil Int = @List.nil Int ∧ @List.nil Int = @List.nil Int ∧ (o.fst = o.fst ∧ o.snd.fst = o.snd.fst ∧ True) ∧ True))))))))))) ∧
                                    ((decide ((↑x_1 : Int) < many)) = false →
                                      ((List.length l ≤ big) →
                                      ((I64 (↑(List.length l) : Int)) →
                                      ((I64 (1 : Int)) →
                                      (I64 ((↑(List.length l) : Int) - (1 : Int))) ∧
                                      (∃ (x : Nat), x ≤ List.length l ∧ ((↑(List.length l) : Int) - (1 : Int) = (↑x : Int) - (1 : Int) ∧ (-1 : Int) = wantF l s x ∧ True) ∧ True) ∧
                                      (∀ x_2 : Nat,
                                      ((x_2 ≤ List.length l) →
                                      (((decide ((↑x_2 : Int) - (1 : Int) ≥ (0 : Int))) = true →
                                        ((0 : Int) ≤ (↑x_2 : Int) - (1 : Int) ∧ (↑x_2 : Int) - (1 : Int) < (↑(List.length l) : Int)) ∧
                                        ((((nth tSymbol l (Int.toNat ((↑x_2 : Int) - (1 : Int)))).fst == s) = true →
                                          ((I64 ((↑x_2 : Int) - (1 : Int))) →
                                          ((I64 (1 : Int)) →
                                          (I64 ((↑x_2 : Int) - (1 : Int) - (1 : Int))) ∧
                                          (∃ (x' : Nat), x' ≤ List.length l ∧ x' < x_2 ∧ ((↑x_2 : Int) - (1 : Int) - (1 : Int) = (↑x' : Int) - (1 : Int) ∧ (↑x_2 : Int) - (1 : Int) = wantF l s x' ∧ True) ∧ (@List.nil Int = @List.nil Int ∧ @List.nil Int = @List.nil Int ∧ True) ∧ @List.nil Int = @List.nil Int ∧ @List.nil Int = @List.nil Int ∧ (o.fst = o.fst ∧ o.snd.fst = o.snd.fst ∧ True) ∧ True)))) ∧
                                        (((nth tSymbol l (Int.toNat ((↑x_2 : Int) - (1 : Int)))).fst == s) = false →
                                          ((I64 ((↑x_2 : Int) - (1 : Int))) →
                                          ((I64 (1 : Int)) →
                                          (I64 ((↑x_2 : Int) - (1 : Int) - (1 : Int))) ∧
                                          (∃ (x' : Nat), x' ≤ List.length l ∧ x' < x_2 ∧ ((↑x_2 : Int) - (1 : Int) - (1 : Int) = (↑x' : Int) - (1 : Int) ∧ wantF l s x_2 = wantF l s x' ∧ True) ∧ (@List.nil Int = @List.nil Int ∧ @List.nil Int = @List.nil Int ∧ True) ∧ @List.nil Int = @List.nil Int ∧ @List.nil Int = @List.nil Int ∧ (o.fst = o.fst ∧ o.snd.fst = o.snd.fst ∧ True) ∧ True)))))) ∧
                                      ((decide ((↑x_2 : Int) - (1 : Int) ≥ (0 : Int))) = false →
                                        (List.length (@List.nil Int) ≤ (40 : Nat)) ∧
                                        (((findF (([], [], ()), l, s) != wantF l s x_2) = true →
                                          (false = true)) ∧
                                        ((findF (([], [], ()), l, s) != wantF l s x_2) = false →
                                          (List.length o.fst ≤ (40 : Nat)) ∧
                                          (((decide (findF ((o.fst, o.snd.fst, ()), l, s) < (0 : Int))) = true →
                                            (true = true)) ∧
                                          ((decide (findF ((o.fst, o.snd.fst, ()), l, s) < (0 : Int))) = false →
                                            ((List.length l ≤ big) →
                                            (((decide (findF ((o.fst, o.snd.fst, ()), l, s) < (↑(List.length l) : Int))) = true →
                                              ((0 : Int) ≤ findF ((o.fst, o.snd.fst, ()), l, s) ∧ findF ((o.fst, o.snd.fst, ()), l, s) < (↑(List.length l) : Int)) ∧
                                              (((nth tSymbol l (Int.toNat (findF ((o.fst, o.snd.fst, ()), l, s)))).fst == s) = true)) ∧
                                            ((decide (findF ((o.fst, o.snd.fst, ()), l, s) < (↑(List.length l) : Int))) = false →
                                              (false = true)))))))))))))))))))))))))))))))))))) ∧
                      ((decide ((8 : Nat) < List.length l)) = false →
                        (((decide (many < (1 : Int))) = true →
                          (True) ∧
                          (((!sameE Err.nil (1 : Int)) = true →
                            (false = true)) ∧
                          ((!sameE Err.nil (1 : Int)) = false →
                            ((List.length (firstT l (Int.toNat many) (0 : Nat)) ≤ big) →
                            ((List.length (nextT l (Int.toNat many) (0 : Nat)) ≤ big) →
                            ((I64 (↑(List.length (firstT l (Int.toNat many) (0 : Nat))) : Int)) →
                            ((I64 (↑(List.length (nextT l (Int.toNat many) (0 : Nat))) : Int)) →
                            (I64 ((↑(List.length (firstT l (Int.toNat many) (0 : Nat))) : Int) + (↑(List.length (nextT l (Int.toNat many) (0 : Nat))) : Int))) ∧
                            (((decide ((↑(List.length (firstT l (Int.toNat many) (0 : Nat))) : Int) + (↑(List.length (nextT l (Int.toNat many) (0 : Nat))) : Int) > (0 : Int))) = true →
                              (false = true)) ∧
                            ((decide ((↑(List.length (firstT l (Int.toNat many) (0 : Nat))) : Int) + (↑(List.length (nextT l (Int.toNat many) (0 : Nat))) : Int) > (0 : Int))) = false →
                              (List.length o.fst ≤ (40 : Nat)) ∧
                              (((decide (findF ((o.fst, o.snd.fst, ()), l, s) < (0 : Int))) = true →
                                (true = true)) ∧
                              ((decide (findF ((o.fst, o.snd.fst, ()), l, s) < (0 : Int))) = false →
                                ((List.length l ≤ big) →
                                (((decide (findF ((o.fst, o.snd.fst, ()), l, s) < (↑(List.length l) : Int))) = true →
                                  ((0 : Int) ≤ findF ((o.fst, o.snd.fst, ()), l, s) ∧ findF ((o.fst, o.snd.fst, ()), l, s) < (↑(List.length l) : Int)) ∧
                                  (((nth tSymbol l (Int.toNat (findF ((o.fst, o.snd.fst, ()), l, s)))).fst == s) = true)) ∧
                                ((decide (findF ((o.fst, o.snd.fst, ()), l, s) < (↑(List.length l) : Int))) = false →
                                  (false = true))))))))))))))) ∧
                        ((decide (many < (1 : Int))) = false →
                          (((decide (many > (16 : Int))) = true →
                            (True) ∧
                            (((!sameE Err.nil (1 : Int)) = true →
                              (false = true)) ∧
                            ((!sameE Err.nil (1 : Int)) = false →
                              ((List.length (firstT l (Int.toNat many) (0 : Nat)) ≤ big) →
                              ((List.length (nextT l (Int.toNat many) (0 : Nat)) ≤ big) →
                              ((I64 (↑(List.length (firstT l (Int.toNat many) (0 : Nat))) : Int)) →
                              ((I64 (↑(List.length (nextT l (Int.toNat many) (0 : Nat))) : Int)) →
                              (I64 ((↑(List.length (firstT l (Int.toNat many) (0 : Nat))) : Int) + (↑(List.length (nextT l (Int.toNat many) (0 : Nat))) : Int))) ∧
                              (((decide ((↑(List.length (firstT l (Int.toNat many) (0 : Nat))) : Int) + (↑(List.length (nextT l (Int.toNat many) (0 : Nat))) : Int) > (0 : Int))) = true →
                                (false = true)) ∧
                              ((decide ((↑(List.length (firstT l (Int.toNat many) (0 : Nat))) : Int) + (↑(List.length (nextT l (Int.toNat many) (0 : Nat))) : Int) > (0 : Int))) = false →
                                (List.length o.fst ≤ (40 : Nat)) ∧
                                (((decide (findF ((o.fst, o.snd.fst, ()), l, s) < (0 : Int))) = true →
                                  (true = true)) ∧
                                ((decide (findF ((o.fst, o.snd.fst, ()), l, s) < (0 : Int))) = false →
                                  ((List.length l ≤ big) →
                                  (((decide (findF ((o.fst, o.snd.fst, ()), l, s) < (↑(List.length l) : Int))) = true →
                                    ((0 : Int) ≤ findF ((o.fst, o.snd.fst, ()), l, s) ∧ findF ((o.fst, o.snd.fst, ()), l, s) < (↑(List.length l) : Int)) ∧
                                    (((nth tSymbol l (Int.toNat (findF ((o.fst, o.snd.fst, ()), l, s)))).fst == s) = true)) ∧
                                  ((decide (findF ((o.fst, o.snd.fst, ()), l, s) < (↑(List.length l) : Int))) = false →
                                    (false = true))))))))))))))) ∧
                          ((decide (many > (16 : Int))) = false →
                            ((List.length l ≤ big) →
                            (((decide ((↑(List.length l) : Int) > (8 : Int))) = true →
                              (True) ∧
                              (((!sameE Err.nil (2 : Int)) = true →
                                (false = true)) ∧
                              ((!sameE Err.nil (2 : Int)) = false →
                                ((List.length (firstT l (Int.toNat many) (0 : Nat)) ≤ big) →
                                ((List.length (nextT l (Int.toNat many) (0 : Nat)) ≤ big) →
                                ((I64 (↑(List.length (firstT l (Int.toNat many) (0 : Nat))) : Int)) →
                                ((I64 (↑(List.length (nextT l (Int.toNat many) (0 : Nat))) : Int)) →
                                (I64 ((↑(List.length (firstT l (Int.toNat many) (0 : Nat))) : Int) + (↑(List.length (nextT l (Int.toNat many) (0 : Nat))) : Int))) ∧
                                (((decide ((↑(List.length (firstT l (Int.toNat many) (0 : Nat))) : Int) + (↑(List.length (nextT l (Int.toNat many) (0 : Nat))) : Int) > (0 : Int))) = true →
                                  (false = true)) ∧
                                ((decide ((↑(List.length (firstT l (Int.toNat many) (0 : Nat))) : Int) + (↑(List.length (nextT l (Int.toNat many) (0 : Nat))) : Int) > (0 : Int))) = false →
                                  (List.length o.fst ≤ (40 : Nat)) ∧
                                  (((decide (findF ((o.fst, o.snd.fst, ()), l, s) < (0 : Int))) = true →
                                    (true = true)) ∧
                                  ((decide (findF ((o.fst, o.snd.fst, ()), l, s) < (0 : Int))) = false →
                                    ((List.length l ≤ big) →
                                    (((decide (findF ((o.fst, o.snd.fst, ()), l, s) < (↑(List.length l) : Int))) = true →
                                      ((0 : Int) ≤ findF ((o.fst, o.snd.fst, ()), l, s) ∧ findF ((o.fst, o.snd.fst, ()), l, s) < (↑(List.length l) : Int)) ∧
                                      (((nth tSymbol l (Int.toNat (findF ((o.fst, o.snd.fst, ()), l, s)))).fst == s) = true)) ∧
                                    ((decide (findF ((o.fst, o.snd.fst, ()), l, s) < (↑(List.length l) : Int))) = false →
                                      (false = true))))))))))))))) ∧
                            ((decide ((↑(List.length l) : Int) > (8 : Int))) = false →
                              (((!Err.isNil Err.nil) = true →
                                (false = true)) ∧
                              ((!Err.isNil Err.nil) = false →
                                ((List.length (firstT l (Int.toNat many) (0 : Nat)) ≤ big) →
                                ((((↑(List.length (firstT l (Int.toNat many) (0 : Nat))) : Int) != many) = true →
                                  (false = true)) ∧
                                (((↑(List.length (firstT l (Int.toNat many) (0 : Nat))) : Int) != many) = false →
                                  ((List.length (nextT l (Int.toNat many) (0 : Nat)) ≤ big) →
                                  ((List.length l ≤ big) →
                                  ((((↑(List.length (nextT l (Int.toNat many) (0 : Nat))) : Int) != (↑(List.length l) : Int)) = true →
                                    (false = true)) ∧
                                  (((↑(List.length (nextT l (Int.toNat many) (0 : Nat))) : Int) != (↑(List.length l) : Int)) = false →
                                    (∃ (x : Nat), x ≤ Int.toNat many ∧ ((0 : Int) = (↑x : Int) ∧ True) ∧ True) ∧
                                    (∀ x_1 : Nat,
                                    ((x_1 ≤ Int.toNat many) →
                                    (((decide ((↑x_1 : Int) < many)) = true →
                                      ((0 : Int) ≤ (↑x_1 : Int) ∧ (↑x_1 : Int) < (↑(List.length (firstT l (Int.toNat many) (0 : Nat))) : Int)) ∧
                                      (∃ (x : Nat), x ≤ List.length l ∧ ((0 : Int) = (↑x : Int) ∧ nth (Ty.int IntKind.i64) (firstT l (Int.toNat many) (0 : Nat)) (Int.toNat (↑x_1 : Int)) = firstOf l (Int.toNat many) (Int.toNat (↑x_1 : Int)) x ∧ True) ∧ True) ∧
                                      (∀ x_2 : Nat,
                                      ((x_2 ≤ List.length l) →
                                      ((List.length l ≤ big) →
                                      (((decide ((↑x_2 : Int) < (↑(List.length l) : Int))) = true →
                                        ((0 : Int) ≤ (↑x_2 : Int) ∧ (↑x_2 : Int) < (↑(List.length l) : Int)) ∧
                                        (True) ∧
                                        (many ≠ (0 : Int)) ∧
                                        (∀ x_3 : Int,
                                        ((x_3 = Int.tmod (↑(hashF (nth tSymbol l (Int.toNat (↑x_2 : Int))).fst) : Int) many) →
                                        (((x_3 != (↑x_1 : Int)) = true →
                                          ((I64 (↑x_2 : Int)) →
                                          ((I64 (1 : Int)) →
                                          (I64 ((↑x_2 : Int) + (1 : Int))) ∧
                                          (∃ (x' : Nat), x' ≤ List.length l ∧ List.length l - x' < List.length l - x_2 ∧ ((↑x_2 : Int) + (1 : Int) = (↑x' : Int) ∧ firstOf l (Int.toNat many) (Int.toNat (↑x_1 : Int)) x_2 = firstOf l (Int.toNat many) (Int.toNat (↑x_1 : Int)) x' ∧ True) ∧ (firstT l (Int.toNat many) (0 : Nat) = firstT l (Int.toNat many) (0 : Nat) ∧ nextT l (Int.toNat many) (0 : Nat) = nextT l (Int.toNat many) (0 : Nat) ∧ True) ∧ @List.nil Int = @List.nil Int ∧ @List.nil Int = @List.nil Int ∧ (o.fst = o.fst ∧ o.snd.fst = o.snd.fst ∧ True) ∧ True)))) ∧
                                        ((x_3 != (↑x_1 : Int)) = false →
                                          (((firstOf l (Int.toNat many) (Int.toNat (↑x_1 : Int)) x_2 != (↑x_2 : Int)) = true →
                                            (false = true)) ∧
                                          ((firstOf l (Int.toNat many) (Int.toNat (↑x_1 : Int)) x_2 != (↑x_2 : Int)) = false →
                                            ((0 : Int) ≤ (↑x_2 : Int) ∧ (↑x_2 : Int) < (↑(List.length (nextT l (Int.toNat many) (0 : Nat))) : Int)) ∧
                                            ((I64 (↑x_2 : Int)) →
                                            ((I64 (1 : Int)) →
                                            (I64 ((↑x_2 : Int) + (1 : Int))) ∧
                                            (∃ (x' : Nat), x' ≤ List.length l ∧ List.length l - x' < List.length l - x_2 ∧ ((↑x_2 : Int) + (1 : Int) = (↑x' : Int) ∧ nth (Ty.int IntKind.i64) (nextT l (Int.toNat many) (0 : Nat)) (Int.toNat (↑x_2 : Int)) = firstOf l (Int.toNat many) (Int.toNat (↑x_1 : Int)) x' ∧ True) ∧ (firstT l (Int.toNat many) (0 : Nat) = firstT l (Int.toNat many) (0 : Nat) ∧ nextT l (Int.toNat many) (0 : Nat) = nextT l (Int.toNat many) (0 : Nat) ∧ True) ∧ @List.nil Int = @List.nil Int ∧ @List.nil Int = @List.nil Int ∧ (o.fst = o.fst ∧ o.snd.fst = o.snd.fst ∧ True) ∧ True)))))))))) ∧
                                      ((decide ((↑x_2 : Int) < (↑(List.length l) : Int))) = false →
                                        (((firstOf l (Int.toNat many) (Int.toNat (↑x_1 : Int)) x_2 != (-1 : Int)) = true →
                                          (false = true)) ∧
                                        ((firstOf l (Int.toNat many) (Int.toNat (↑x_1 : Int)) x_2 != (-1 : Int)) = false →
                                          ((I64 (↑x_1 : Int)) →
                                          ((I64 (1 : Int)) →
                                          (I64 ((↑x_1 : Int) + (1 : Int))) ∧
                                          (∃ (x' : Nat), x' ≤ Int.toNat many ∧ Int.toNat many - x' < Int.toNat many - x_1 ∧ ((↑x_1 : Int) + (1 : Int) = (↑x' : Int) ∧ True) ∧ (firstT l (Int.toNat many) (0 : Nat) = firstT l (Int.toNat many) (0 : Nat) ∧ nextT l (Int.toNat many) (0 : Nat) = nextT l (Int.toNat many) (0 : Nat) ∧ True) ∧ @List.nil Int = @List.nil Int ∧ @List.nil Int = @List.nil Int ∧ (o.fst = o.fst ∧ o.snd.fst = o.snd.fst ∧ True) ∧ True))))))))))) ∧
                                    ((decide ((↑x_1 : Int) < many)) = false →
                                      ((List.length l ≤ big) →
                                      ((I64 (↑(List.length l) : Int)) →
                                      ((I64 (1 : Int)) →
                                      (I64 ((↑(List.length l) : Int) - (1 : Int))) ∧
                                      (∃ (x : Nat), x ≤ List.length l ∧ ((↑(List.length l) : Int) - (1 : Int) = (↑x : Int) - (1 : Int) ∧ (-1 : Int) = wantF l s x ∧ True) ∧ True) ∧
                                      (∀ x_2 : Nat,
                                      ((x_2 ≤ List.length l) →
                                      (((decide ((↑x_2 : Int) - (1 : Int) ≥ (0 : Int))) = true →
                                        ((0 : Int) ≤ (↑x_2 : Int) - (1 : Int) ∧ (↑x_2 : Int) - (1 : Int) < (↑(List.length l) : Int)) ∧
                                        ((((nth tSymbol l (Int.toNat ((↑x_2 : Int) - (1 : Int)))).fst == s) = true →
                                          ((I64 ((↑x_2 : Int) - (1 : Int))) →
                                          ((I64 (1 : Int)) →
                                          (I64 ((↑x_2 : Int) - (1 : Int) - (1 : Int))) ∧
                                          (∃ (x' : Nat), x' ≤ List.length l ∧ x' < x_2 ∧ ((↑x_2 : Int) - (1 : Int) - (1 : Int) = (↑x' : Int) - (1 : Int) ∧ (↑x_2 : Int) - (1 : Int) = wantF l s x' ∧ True) ∧ (firstT l (Int.toNat many) (0 : Nat) = firstT l (Int.toNat many) (0 : Nat) ∧ nextT l (Int.toNat many) (0 : Nat) = nextT l (Int.toNat many) (0 : Nat) ∧ True) ∧ @List.nil Int = @List.nil Int ∧ @List.nil Int = @List.nil Int ∧ (o.fst = o.fst ∧ o.snd.fst = o.snd.fst ∧ True) ∧ True)))) ∧
                                        (((nth tSymbol l (Int.toNat ((↑x_2 : Int) - (1 : Int)))).fst == s) = false →
                                          ((I64 ((↑x_2 : Int) - (1 : Int))) →
                                          ((I64 (1 : Int)) →
                                          (I64 ((↑x_2 : Int) - (1 : Int) - (1 : Int))) ∧
                                          (∃ (x' : Nat), x' ≤ List.length l ∧ x' < x_2 ∧ ((↑x_2 : Int) - (1 : Int) - (1 : Int) = (↑x' : Int) - (1 : Int) ∧ wantF l s x_2 = wantF l s x' ∧ True) ∧ (firstT l (Int.toNat many) (0 : Nat) = firstT l (Int.toNat many) (0 : Nat) ∧ nextT l (Int.toNat many) (0 : Nat) = nextT l (Int.toNat many) (0 : Nat) ∧ True) ∧ @List.nil Int = @List.nil Int ∧ @List.nil Int = @List.nil Int ∧ (o.fst = o.fst ∧ o.snd.fst = o.snd.fst ∧ True) ∧ True)))))) ∧
                                      ((decide ((↑x_2 : Int) - (1 : Int) ≥ (0 : Int))) = false →
                                        (List.length (firstT l (Int.toNat many) (0 : Nat)) ≤ (40 : Nat)) ∧
                                        (((findF ((firstT l (Int.toNat many) (0 : Nat), nextT l (Int.toNat many) (0 : Nat), ()), l, s) != wantF l s x_2) = true →
                                          (false = true)) ∧
                                        ((findF ((firstT l (Int.toNat many) (0 : Nat), nextT l (Int.toNat many) (0 : Nat), ()), l, s) != wantF l s x_2) = false →
                                          (List.length o.fst ≤ (40 : Nat)) ∧
                                          (((decide (findF ((o.fst, o.snd.fst, ()), l, s) < (0 : Int))) = true →
                                            (true = true)) ∧
                                          ((decide (findF ((o.fst, o.snd.fst, ()), l, s) < (0 : Int))) = false →
                                            ((List.length l ≤ big) →
                                            (((decide (findF ((o.fst, o.snd.fst, ()), l, s) < (↑(List.length l) : Int))) = true →
                                              ((0 : Int) ≤ findF ((o.fst, o.snd.fst, ()), l, s) ∧ findF ((o.fst, o.snd.fst, ()), l, s) < (↑(List.length l) : Int)) ∧
                                              (((nth tSymbol l (Int.toNat (findF ((o.fst, o.snd.fst, ()), l, s)))).fst == s) = true)) ∧
                                            ((decide (findF ((o.fst, o.snd.fst, ()), l, s) < (↑(List.length l) : Int))) = false →
                                              (false = true))))))))))))))))))))))))))))))))))))))))))))))))))))))))))))) (by kernel_rfl) ?_
  refine ⟨?_, ?_⟩
  · first | exact True.intro | rfl | omega | assumption | (simp only [I64, big] at *; omega) | (simp_all; done)
  refine ⟨fun h0 => ?_, fun h0 => ?_⟩
  · exact absurd (show false = true from h0) (by decide)
  ·
    intro h1
    refine ⟨fun h2 => ?_, fun h2 => ?_⟩
    · try simp only [decide_eq_true_eq, decide_eq_false_iff_not, beq_iff_eq, beq_eq_false_iff_ne, bne_iff_ne, bne_eq_false_iff_eq, Bool.not_eq_true', Bool.not_eq_false', Bool.not_eq_true, Bool.not_eq_false, ne_eq, Bool.and_eq_true, Bool.or_eq_true, Bool.and_eq_false_iff, Bool.or_eq_false_iff, reduceCtorEq, Int.not_lt, Int.not_le] at h2
      first | exact True.intro | rfl | omega | assumption | (simp only [I64, big] at *; omega) | (simp_all; done)
    · try simp only [decide_eq_true_eq, decide_eq_false_iff_not, beq_iff_eq, beq_eq_false_iff_ne, bne_iff_ne, bne_eq_false_iff_eq, Bool.not_eq_true', Bool.not_eq_false', Bool.not_eq_true, Bool.not_eq_false, ne_eq, Bool.and_eq_true, Bool.or_eq_true, Bool.and_eq_false_iff, Bool.or_eq_false_iff, reduceCtorEq, Int.not_lt, Int.not_le] at h2
      intro h3
      refine ⟨fun h4 => ?_, fun h4 => ?_⟩
      · try simp only [decide_eq_true_eq, decide_eq_false_iff_not, beq_iff_eq, beq_eq_false_iff_ne, bne_iff_ne, bne_eq_false_iff_eq, Bool.not_eq_true', Bool.not_eq_false', Bool.not_eq_true, Bool.not_eq_false, ne_eq, Bool.and_eq_true, Bool.or_eq_true, Bool.and_eq_false_iff, Bool.or_eq_false_iff, reduceCtorEq, Int.not_lt, Int.not_le] at h4
        first | exact True.intro | rfl | omega | assumption | (simp only [I64, big] at *; omega) | (simp_all; done)
      · try simp only [decide_eq_true_eq, decide_eq_false_iff_not, beq_iff_eq, beq_eq_false_iff_ne, bne_iff_ne, bne_eq_false_iff_eq, Bool.not_eq_true', Bool.not_eq_false', Bool.not_eq_true, Bool.not_eq_false, ne_eq, Bool.and_eq_true, Bool.or_eq_true, Bool.and_eq_false_iff, Bool.or_eq_false_iff, reduceCtorEq, Int.not_lt, Int.not_le] at h4
        intro h5
        refine ⟨fun h6 => ?_, fun h6 => ?_⟩
        · try simp only [decide_eq_true_eq, decide_eq_false_iff_not, beq_iff_eq, beq_eq_false_iff_ne, bne_iff_ne, bne_eq_false_iff_eq, Bool.not_eq_true', Bool.not_eq_false', Bool.not_eq_true, Bool.not_eq_false, ne_eq, Bool.and_eq_true, Bool.or_eq_true, Bool.and_eq_false_iff, Bool.or_eq_false_iff, reduceCtorEq, Int.not_lt, Int.not_le] at h6
          first | exact True.intro | rfl | omega | assumption | (simp only [I64, big] at *; omega) | (simp_all; done)
        · try simp only [decide_eq_true_eq, decide_eq_false_iff_not, beq_iff_eq, beq_eq_false_iff_ne, bne_iff_ne, bne_eq_false_iff_eq, Bool.not_eq_true', Bool.not_eq_false', Bool.not_eq_true, Bool.not_eq_false, ne_eq, Bool.and_eq_true, Bool.or_eq_true, Bool.and_eq_false_iff, Bool.or_eq_false_iff, reduceCtorEq, Int.not_lt, Int.not_le] at h6
          intro h7
          refine ⟨fun h8 => ?_, fun h8 => ?_⟩
          · try simp only [decide_eq_true_eq, decide_eq_false_iff_not, beq_iff_eq, beq_eq_false_iff_ne, bne_iff_ne, bne_eq_false_iff_eq, Bool.not_eq_true', Bool.not_eq_false', Bool.not_eq_true, Bool.not_eq_false, ne_eq, Bool.and_eq_true, Bool.or_eq_true, Bool.and_eq_false_iff, Bool.or_eq_false_iff, reduceCtorEq, Int.not_lt, Int.not_le] at h8
            first | exact True.intro | rfl | omega | assumption | (simp only [I64, big] at *; omega) | (simp_all; done)
          · try simp only [decide_eq_true_eq, decide_eq_false_iff_not, beq_iff_eq, beq_eq_false_iff_ne, bne_iff_ne, bne_eq_false_iff_eq, Bool.not_eq_true', Bool.not_eq_false', Bool.not_eq_true, Bool.not_eq_false, ne_eq, Bool.and_eq_true, Bool.or_eq_true, Bool.and_eq_false_iff, Bool.or_eq_false_iff, reduceCtorEq, Int.not_lt, Int.not_le] at h8
            refine ⟨?_, ?_⟩
            · refine ⟨0, ?_⟩; (repeat' (first | exact trivial | rfl | omega | assumption | apply And.intro))
            intro x_0
            intro h9
            intro h10
            refine ⟨fun h11 => ?_, fun h11 => ?_⟩
            · try simp only [decide_eq_true_eq, decide_eq_false_iff_not, beq_iff_eq, beq_eq_false_iff_ne, bne_iff_ne, bne_eq_false_iff_eq, Bool.not_eq_true', Bool.not_eq_false', Bool.not_eq_true, Bool.not_eq_false, ne_eq, Bool.and_eq_true, Bool.or_eq_true, Bool.and_eq_false_iff, Bool.or_eq_false_iff, reduceCtorEq, Int.not_lt, Int.not_le] at h11
              refine ⟨?_, ?_⟩
              · first | exact True.intro | rfl | omega | assumption | (simp only [I64, big] at *; omega) | (simp_all; done)
              intro h12
              refine ⟨fun h13 => ?_, fun h13 => ?_⟩
              · try simp only [decide_eq_true_eq, decide_eq_false_iff_not, beq_iff_eq, beq_eq_false_iff_ne, bne_iff_ne, bne_eq_false_iff_eq, Bool.not_eq_true', Bool.not_eq_false', Bool.not_eq_true, Bool.not_eq_false, ne_eq, Bool.and_eq_true, Bool.or_eq_true, Bool.and_eq_false_iff, Bool.or_eq_false_iff, reduceCtorEq, Int.not_lt, Int.not_le] at h13
                first | exact True.intro | rfl | omega | assumption | (simp only [I64, big] at *; omega) | (simp_all; done)
              · try simp only [decide_eq_true_eq, decide_eq_false_iff_not, beq_iff_eq, beq_eq_false_iff_ne, bne_iff_ne, bne_eq_false_iff_eq, Bool.not_eq_true', Bool.not_eq_false', Bool.not_eq_true, Bool.not_eq_false, ne_eq, Bool.and_eq_true, Bool.or_eq_true, Bool.and_eq_false_iff, Bool.or_eq_false_iff, reduceCtorEq, Int.not_lt, Int.not_le] at h13
                intro h14
                intro h15
                refine ⟨?_, ?_⟩
                · first | exact True.intro | rfl | omega | assumption | (simp only [I64, big] at *; omega) | (simp_all; done)
                refine ⟨x_0 + 1, ?_⟩; (repeat' (first | exact trivial | rfl | omega | assumption | apply And.intro))
            · try simp only [decide_eq_true_eq, decide_eq_false_iff_not, beq_iff_eq, beq_eq_false_iff_ne, bne_iff_ne, bne_eq_false_iff_eq, Bool.not_eq_true', Bool.not_eq_false', Bool.not_eq_true, Bool.not_eq_false, ne_eq, Bool.and_eq_true, Bool.or_eq_true, Bool.and_eq_false_iff, Bool.or_eq_false_iff, reduceCtorEq, Int.not_lt, Int.not_le] at h11
              refine ⟨?_, ?_⟩
              · first | exact True.intro | rfl | omega | assumption | (simp only [I64, big] at *; omega) | (simp_all; done)
              refine ⟨fun h12 => ?_, fun h12 => ?_⟩
              · try simp only [decide_eq_true_eq, decide_eq_false_iff_not, beq_iff_eq, beq_eq_false_iff_ne, bne_iff_ne, bne_eq_false_iff_eq, Bool.not_eq_true', Bool.not_eq_false', Bool.not_eq_true, Bool.not_eq_false, ne_eq, Bool.and_eq_true, Bool.or_eq_true, Bool.and_eq_false_iff, Bool.or_eq_false_iff, reduceCtorEq, Int.not_lt, Int.not_le] at h12
                refine ⟨fun h13 => ?_, fun h13 => ?_⟩
                · try simp only [decide_eq_true_eq, decide_eq_false_iff_not, beq_iff_eq, beq_eq_false_iff_ne, bne_iff_ne, bne_eq_false_iff_eq, Bool.not_eq_true', Bool.not_eq_false', Bool.not_eq_true, Bool.not_eq_false, ne_eq, Bool.and_eq_true, Bool.or_eq_true, Bool.and_eq_false_iff, Bool.or_eq_false_iff, reduceCtorEq, Int.not_lt, Int.not_le] at h13
                  refine ⟨?_, ?_⟩
                  · first | exact True.intro | rfl | omega | assumption | (simp only [I64, big] at *; omega) | (simp_all; done)
                  refine ⟨fun h14 => ?_, fun h14 => ?_⟩
                  · exact absurd (show false = true from h14) (by decide)
                  ·
                    intro h15
                    intro h16
                    intro h17
                    intro h18
                    refine ⟨?_, ?_⟩
                    · first | exact True.intro | rfl | omega | assumption | (simp only [I64, big] at *; omega) | (simp_all; done)
                    refine ⟨fun h19 => ?_, fun h19 => ?_⟩
                    · exact absurd (show false = true from h19) (by decide)
                    ·
                      refine ⟨?_, ?_⟩
                      · first | exact True.intro | rfl | omega | assumption | (simp only [I64, big] at *; omega) | (simp_all; done)
                      refine ⟨fun h20 => ?_, fun h20 => ?_⟩
                      · try simp only [decide_eq_true_eq, decide_eq_false_iff_not, beq_iff_eq, beq_eq_false_iff_ne, bne_iff_ne, bne_eq_false_iff_eq, Bool.not_eq_true', Bool.not_eq_false', Bool.not_eq_true, Bool.not_eq_false, ne_eq, Bool.and_eq_true, Bool.or_eq_true, Bool.and_eq_false_iff, Bool.or_eq_false_iff, reduceCtorEq, Int.not_lt, Int.not_le] at h20
                        first | exact True.intro | rfl | omega | assumption | (simp only [I64, big] at *; omega) | (simp_all; done)
                      · try simp only [decide_eq_true_eq, decide_eq_false_iff_not, beq_iff_eq, beq_eq_false_iff_ne, bne_iff_ne, bne_eq_false_iff_eq, Bool.not_eq_true', Bool.not_eq_false', Bool.not_eq_true, Bool.not_eq_false, ne_eq, Bool.and_eq_true, Bool.or_eq_true, Bool.and_eq_false_iff, Bool.or_eq_false_iff, reduceCtorEq, Int.not_lt, Int.not_le] at h20
                        intro h21
                        refine ⟨fun h22 => ?_, fun h22 => ?_⟩
                        · try simp only [decide_eq_true_eq, decide_eq_false_iff_not, beq_iff_eq, beq_eq_false_iff_ne, bne_iff_ne, bne_eq_false_iff_eq, Bool.not_eq_true', Bool.not_eq_false', Bool.not_eq_true, Bool.not_eq_false, ne_eq, Bool.and_eq_true, Bool.or_eq_true, Bool.and_eq_false_iff, Bool.or_eq_false_iff, reduceCtorEq, Int.not_lt, Int.not_le] at h22
                          refine ⟨?_, ?_⟩
                          · first | exact True.intro | rfl | omega | assumption | (simp only [I64, big] at *; omega) | (simp_all; done)
                          rcases findF_sound (o.1, o.2.1, ()) l s with h | h
                          · omega
                          · exact h.2
                        · try simp only [decide_eq_true_eq, decide_eq_false_iff_not, beq_iff_eq, beq_eq_false_iff_ne, bne_iff_ne, bne_eq_false_iff_eq, Bool.not_eq_true', Bool.not_eq_false', Bool.not_eq_true, Bool.not_eq_false, ne_eq, Bool.and_eq_true, Bool.or_eq_true, Bool.and_eq_false_iff, Bool.or_eq_false_iff, reduceCtorEq, Int.not_lt, Int.not_le] at h22
                          rcases findF_sound (o.1, o.2.1, ()) l s with h | h
                          · omega
                          · have := h.1; omega
                · try simp only [decide_eq_true_eq, decide_eq_false_iff_not, beq_iff_eq, beq_eq_false_iff_ne, bne_iff_ne, bne_eq_false_iff_eq, Bool.not_eq_true', Bool.not_eq_false', Bool.not_eq_true, Bool.not_eq_false, ne_eq, Bool.and_eq_true, Bool.or_eq_true, Bool.and_eq_false_iff, Bool.or_eq_false_iff, reduceCtorEq, Int.not_lt, Int.not_le] at h13
                  refine ⟨fun h14 => ?_, fun h14 => ?_⟩
                  · try simp only [decide_eq_true_eq, decide_eq_false_iff_not, beq_iff_eq, beq_eq_false_iff_ne, bne_iff_ne, bne_eq_false_iff_eq, Bool.not_eq_true', Bool.not_eq_false', Bool.not_eq_true, Bool.not_eq_false, ne_eq, Bool.and_eq_true, Bool.or_eq_true, Bool.and_eq_false_iff, Bool.or_eq_false_iff, reduceCtorEq, Int.not_lt, Int.not_le] at h14
                    refine ⟨?_, ?_⟩
                    · first | exact True.intro | rfl | omega | assumption | (simp only [I64, big] at *; omega) | (simp_all; done)
                    refine ⟨fun h15 => ?_, fun h15 => ?_⟩
                    · exact absurd (show false = true from h15) (by decide)
                    ·
                      intro h16
                      intro h17
                      intro h18
                      intro h19
                      refine ⟨?_, ?_⟩
                      · first | exact True.intro | rfl | omega | assumption | (simp only [I64, big] at *; omega) | (simp_all; done)
                      refine ⟨fun h20 => ?_, fun h20 => ?_⟩
                      · exact absurd (show false = true from h20) (by decide)
                      ·
                        refine ⟨?_, ?_⟩
                        · first | exact True.intro | rfl | omega | assumption | (simp only [I64, big] at *; omega) | (simp_all; done)
                        refine ⟨fun h21 => ?_, fun h21 => ?_⟩
                        · try simp only [decide_eq_true_eq, decide_eq_false_iff_not, beq_iff_eq, beq_eq_false_iff_ne, bne_iff_ne, bne_eq_false_iff_eq, Bool.not_eq_true', Bool.not_eq_false', Bool.not_eq_true, Bool.not_eq_false, ne_eq, Bool.and_eq_true, Bool.or_eq_true, Bool.and_eq_false_iff, Bool.or_eq_false_iff, reduceCtorEq, Int.not_lt, Int.not_le] at h21
                          first | exact True.intro | rfl | omega | assumption | (simp only [I64, big] at *; omega) | (simp_all; done)
                        · try simp only [decide_eq_true_eq, decide_eq_false_iff_not, beq_iff_eq, beq_eq_false_iff_ne, bne_iff_ne, bne_eq_false_iff_eq, Bool.not_eq_true', Bool.not_eq_false', Bool.not_eq_true, Bool.not_eq_false, ne_eq, Bool.and_eq_true, Bool.or_eq_true, Bool.and_eq_false_iff, Bool.or_eq_false_iff, reduceCtorEq, Int.not_lt, Int.not_le] at h21
                          intro h22
                          refine ⟨fun h23 => ?_, fun h23 => ?_⟩
                          · try simp only [decide_eq_true_eq, decide_eq_false_iff_not, beq_iff_eq, beq_eq_false_iff_ne, bne_iff_ne, bne_eq_false_iff_eq, Bool.not_eq_true', Bool.not_eq_false', Bool.not_eq_true, Bool.not_eq_false, ne_eq, Bool.and_eq_true, Bool.or_eq_true, Bool.and_eq_false_iff, Bool.or_eq_false_iff, reduceCtorEq, Int.not_lt, Int.not_le] at h23
                            refine ⟨?_, ?_⟩
                            · first | exact True.intro | rfl | omega | assumption | (simp only [I64, big] at *; omega) | (simp_all; done)
                            rcases findF_sound (o.1, o.2.1, ()) l s with h | h
                            · omega
                            · exact h.2
                          · try simp only [decide_eq_true_eq, decide_eq_false_iff_not, beq_iff_eq, beq_eq_false_iff_ne, bne_iff_ne, bne_eq_false_iff_eq, Bool.not_eq_true', Bool.not_eq_false', Bool.not_eq_true, Bool.not_eq_false, ne_eq, Bool.and_eq_true, Bool.or_eq_true, Bool.and_eq_false_iff, Bool.or_eq_false_iff, reduceCtorEq, Int.not_lt, Int.not_le] at h23
                            first | exact True.intro | rfl | omega | assumption | (simp only [I64, big] at *; omega) | (simp_all; done)
                  · try simp only [decide_eq_true_eq, decide_eq_false_iff_not, beq_iff_eq, beq_eq_false_iff_ne, bne_iff_ne, bne_eq_false_iff_eq, Bool.not_eq_true', Bool.not_eq_false', Bool.not_eq_true, Bool.not_eq_false, ne_eq, Bool.and_eq_true, Bool.or_eq_true, Bool.and_eq_false_iff, Bool.or_eq_false_iff, reduceCtorEq, Int.not_lt, Int.not_le] at h14
                    intro h15
                    refine ⟨fun h16 => ?_, fun h16 => ?_⟩
                    · try simp only [decide_eq_true_eq, decide_eq_false_iff_not, beq_iff_eq, beq_eq_false_iff_ne, bne_iff_ne, bne_eq_false_iff_eq, Bool.not_eq_true', Bool.not_eq_false', Bool.not_eq_true, Bool.not_eq_false, ne_eq, Bool.and_eq_true, Bool.or_eq_true, Bool.and_eq_false_iff, Bool.or_eq_false_iff, reduceCtorEq, Int.not_lt, Int.not_le] at h16
                      refine ⟨?_, ?_⟩
                      · first | exact True.intro | rfl | omega | assumption | (simp only [I64, big] at *; omega) | (simp_all; done)
                      refine ⟨fun h17 => ?_, fun h17 => ?_⟩
                      ·
                        first | exact True.intro | rfl | omega | assumption | (simp only [I64, big] at *; omega) | (simp_all; done)
                      · exact absurd (show true = false from h17) (by decide)
                    · try simp only [decide_eq_true_eq, decide_eq_false_iff_not, beq_iff_eq, beq_eq_false_iff_ne, bne_iff_ne, bne_eq_false_iff_eq, Bool.not_eq_true', Bool.not_eq_false', Bool.not_eq_true, Bool.not_eq_false, ne_eq, Bool.and_eq_true, Bool.or_eq_true, Bool.and_eq_false_iff, Bool.or_eq_false_iff, reduceCtorEq, Int.not_lt, Int.not_le] at h16
                      refine ⟨fun h17 => ?_, fun h17 => ?_⟩
                      ·
                        first | exact True.intro | rfl | omega | assumption | (simp only [I64, big] at *; omega) | (simp_all; done)
                      · exact absurd (show true = false from h17) (by decide)
              · try simp only [decide_eq_true_eq, decide_eq_false_iff_not, beq_iff_eq, beq_eq_false_iff_ne, bne_iff_ne, bne_eq_false_iff_eq, Bool.not_eq_true', Bool.not_eq_false', Bool.not_eq_true, Bool.not_eq_false, ne_eq, Bool.and_eq_true, Bool.or_eq_true, Bool.and_eq_false_iff, Bool.or_eq_false_iff, reduceCtorEq, Int.not_lt, Int.not_le] at h12
                refine ⟨fun h13 => ?_, fun h13 => ?_⟩
                · try simp only [decide_eq_true_eq, decide_eq_false_iff_not, beq_iff_eq, beq_eq_false_iff_ne, bne_iff_ne, bne_eq_false_iff_eq, Bool.not_eq_true', Bool.not_eq_false', Bool.not_eq_true, Bool.not_eq_false, ne_eq, Bool.and_eq_true, Bool.or_eq_true, Bool.and_eq_false_iff, Bool.or_eq_false_iff, reduceCtorEq, Int.not_lt, Int.not_le] at h13
                  refine ⟨fun h14 => ?_, fun h14 => ?_⟩
                  · try simp only [decide_eq_true_eq, decide_eq_false_iff_not, beq_iff_eq, beq_eq_false_iff_ne, bne_iff_ne, bne_eq_false_iff_eq, Bool.not_eq_true', Bool.not_eq_false', Bool.not_eq_true, Bool.not_eq_false, ne_eq, Bool.and_eq_true, Bool.or_eq_true, Bool.and_eq_false_iff, Bool.or_eq_false_iff, reduceCtorEq, Int.not_lt, Int.not_le] at h14
                    refine ⟨?_, ?_⟩
                    · first | exact True.intro | rfl | omega | assumption | (simp only [I64, big] at *; omega) | (simp_all; done)
                    refine ⟨fun h15 => ?_, fun h15 => ?_⟩
                    · exact absurd (show false = true from h15) (by decide)
                    ·
                      intro h16
                      intro h17
                      intro h18
                      intro h19
                      refine ⟨?_, ?_⟩
                      · first | exact True.intro | rfl | omega | assumption | (simp only [I64, big] at *; omega) | (simp_all; done)
                      refine ⟨fun h20 => ?_, fun h20 => ?_⟩
                      · exact absurd (show false = true from h20) (by decide)
                      ·
                        refine ⟨?_, ?_⟩
                        · first | exact True.intro | rfl | omega | assumption | (simp only [I64, big] at *; omega) | (simp_all; done)
                        refine ⟨fun h21 => ?_, fun h21 => ?_⟩
                        · try simp only [decide_eq_true_eq, decide_eq_false_iff_not, beq_iff_eq, beq_eq_false_iff_ne, bne_iff_ne, bne_eq_false_iff_eq, Bool.not_eq_true', Bool.not_eq_false', Bool.not_eq_true, Bool.not_eq_false, ne_eq, Bool.and_eq_true, Bool.or_eq_true, Bool.and_eq_false_iff, Bool.or_eq_false_iff, reduceCtorEq, Int.not_lt, Int.not_le] at h21
                          first | exact True.intro | rfl | omega | assumption | (simp only [I64, big] at *; omega) | (simp_all; done)
                        · try simp only [decide_eq_true_eq, decide_eq_false_iff_not, beq_iff_eq, beq_eq_false_iff_ne, bne_iff_ne, bne_eq_false_iff_eq, Bool.not_eq_true', Bool.not_eq_false', Bool.not_eq_true, Bool.not_eq_false, ne_eq, Bool.and_eq_true, Bool.or_eq_true, Bool.and_eq_false_iff, Bool.or_eq_false_iff, reduceCtorEq, Int.not_lt, Int.not_le] at h21
                          intro h22
                          refine ⟨fun h23 => ?_, fun h23 => ?_⟩
                          · try simp only [decide_eq_true_eq, decide_eq_false_iff_not, beq_iff_eq, beq_eq_false_iff_ne, bne_iff_ne, bne_eq_false_iff_eq, Bool.not_eq_true', Bool.not_eq_false', Bool.not_eq_true, Bool.not_eq_false, ne_eq, Bool.and_eq_true, Bool.or_eq_true, Bool.and_eq_false_iff, Bool.or_eq_false_iff, reduceCtorEq, Int.not_lt, Int.not_le] at h23
                            refine ⟨?_, ?_⟩
                            · first | exact True.intro | rfl | omega | assumption | (simp only [I64, big] at *; omega) | (simp_all; done)
                            rcases findF_sound (o.1, o.2.1, ()) l s with h | h
                            · omega
                            · exact h.2
                          · try simp only [decide_eq_true_eq, decide_eq_false_iff_not, beq_iff_eq, beq_eq_false_iff_ne, bne_iff_ne, bne_eq_false_iff_eq, Bool.not_eq_true', Bool.not_eq_false', Bool.not_eq_true, Bool.not_eq_false, ne_eq, Bool.and_eq_true, Bool.or_eq_true, Bool.and_eq_false_iff, Bool.or_eq_false_iff, reduceCtorEq, Int.not_lt, Int.not_le] at h23
                            first | exact True.intro | rfl | omega | assumption | (simp only [I64, big] at *; omega) | (simp_all; done)
                  · try simp only [decide_eq_true_eq, decide_eq_false_iff_not, beq_iff_eq, beq_eq_false_iff_ne, bne_iff_ne, bne_eq_false_iff_eq, Bool.not_eq_true', Bool.not_eq_false', Bool.not_eq_true, Bool.not_eq_false, ne_eq, Bool.and_eq_true, Bool.or_eq_true, Bool.and_eq_false_iff, Bool.or_eq_false_iff, reduceCtorEq, Int.not_lt, Int.not_le] at h14
                    refine ⟨fun h15 => ?_, fun h15 => ?_⟩
                    · try simp only [decide_eq_true_eq, decide_eq_false_iff_not, beq_iff_eq, beq_eq_false_iff_ne, bne_iff_ne, bne_eq_false_iff_eq, Bool.not_eq_true', Bool.not_eq_false', Bool.not_eq_true, Bool.not_eq_false, ne_eq, Bool.and_eq_true, Bool.or_eq_true, Bool.and_eq_false_iff, Bool.or_eq_false_iff, reduceCtorEq, Int.not_lt, Int.not_le] at h15
                      refine ⟨?_, ?_⟩
                      · first | exact True.intro | rfl | omega | assumption | (simp only [I64, big] at *; omega) | (simp_all; done)
                      refine ⟨fun h16 => ?_, fun h16 => ?_⟩
                      · exact absurd (show false = true from h16) (by decide)
                      ·
                        intro h17
                        intro h18
                        intro h19
                        intro h20
                        refine ⟨?_, ?_⟩
                        · first | exact True.intro | rfl | omega | assumption | (simp only [I64, big] at *; omega) | (simp_all; done)
                        refine ⟨fun h21 => ?_, fun h21 => ?_⟩
                        · exact absurd (show false = true from h21) (by decide)
                        ·
                          refine ⟨?_, ?_⟩
                          · first | exact True.intro | rfl | omega | assumption | (simp only [I64, big] at *; omega) | (simp_all; done)
                          refine ⟨fun h22 => ?_, fun h22 => ?_⟩
                          · try simp only [decide_eq_true_eq, decide_eq_false_iff_not, beq_iff_eq, beq_eq_false_iff_ne, bne_iff_ne, bne_eq_false_iff_eq, Bool.not_eq_true', Bool.not_eq_false', Bool.not_eq_true, Bool.not_eq_false, ne_eq, Bool.and_eq_true, Bool.or_eq_true, Bool.and_eq_false_iff, Bool.or_eq_false_iff, reduceCtorEq, Int.not_lt, Int.not_le] at h22
                            first | exact True.intro | rfl | omega | assumption | (simp only [I64, big] at *; omega) | (simp_all; done)
                          · try simp only [decide_eq_true_eq, decide_eq_false_iff_not, beq_iff_eq, beq_eq_false_iff_ne, bne_iff_ne, bne_eq_false_iff_eq, Bool.not_eq_true', Bool.not_eq_false', Bool.not_eq_true, Bool.not_eq_false, ne_eq, Bool.and_eq_true, Bool.or_eq_true, Bool.and_eq_false_iff, Bool.or_eq_false_iff, reduceCtorEq, Int.not_lt, Int.not_le] at h22
                            intro h23
                            refine ⟨fun h24 => ?_, fun h24 => ?_⟩
                            · try simp only [decide_eq_true_eq, decide_eq_false_iff_not, beq_iff_eq, beq_eq_false_iff_ne, bne_iff_ne, bne_eq_false_iff_eq, Bool.not_eq_true', Bool.not_eq_false', Bool.not_eq_true, Bool.not_eq_false, ne_eq, Bool.and_eq_true, Bool.or_eq_true, Bool.and_eq_false_iff, Bool.or_eq_false_iff, reduceCtorEq, Int.not_lt, Int.not_le] at h24
                              refine ⟨?_, ?_⟩
                              · first | exact True.intro | rfl | omega | assumption | (simp only [I64, big] at *; omega) | (simp_all; done)
                              rcases findF_sound (o.1, o.2.1, ()) l s with h | h
                              · omega
                              · exact h.2
                            · try simp only [decide_eq_true_eq, decide_eq_false_iff_not, beq_iff_eq, beq_eq_false_iff_ne, bne_iff_ne, bne_eq_false_iff_eq, Bool.not_eq_true', Bool.not_eq_false', Bool.not_eq_true, Bool.not_eq_false, ne_eq, Bool.and_eq_true, Bool.or_eq_true, Bool.and_eq_false_iff, Bool.or_eq_false_iff, reduceCtorEq, Int.not_lt, Int.not_le] at h24
                              rcases findF_sound (o.1, o.2.1, ()) l s with h | h
                              · omega
                              · have := h.1; omega
                    · try simp only [decide_eq_true_eq, decide_eq_false_iff_not, beq_iff_eq, beq_eq_false_iff_ne, bne_iff_ne, bne_eq_false_iff_eq, Bool.not_eq_true', Bool.not_eq_false', Bool.not_eq_true, Bool.not_eq_false, ne_eq, Bool.and_eq_true, Bool.or_eq_true, Bool.and_eq_false_iff, Bool.or_eq_false_iff, reduceCtorEq, Int.not_lt, Int.not_le] at h15
                      intro h16
                      refine ⟨fun h17 => ?_, fun h17 => ?_⟩
                      · try simp only [decide_eq_true_eq, decide_eq_false_iff_not, beq_iff_eq, beq_eq_false_iff_ne, bne_iff_ne, bne_eq_false_iff_eq, Bool.not_eq_true', Bool.not_eq_false', Bool.not_eq_true, Bool.not_eq_false, ne_eq, Bool.and_eq_true, Bool.or_eq_true, Bool.and_eq_false_iff, Bool.or_eq_false_iff, reduceCtorEq, Int.not_lt, Int.not_le] at h17
                        refine ⟨?_, ?_⟩
                        · first | exact True.intro | rfl | omega | assumption | (simp only [I64, big] at *; omega) | (simp_all; done)
                        refine ⟨fun h18 => ?_, fun h18 => ?_⟩
                        ·
                          first | exact True.intro | rfl | omega | assumption | (simp only [I64, big] at *; omega) | (simp_all; done)
                        · exact absurd (show true = false from h18) (by decide)
                      · try simp only [decide_eq_true_eq, decide_eq_false_iff_not, beq_iff_eq, beq_eq_false_iff_ne, bne_iff_ne, bne_eq_false_iff_eq, Bool.not_eq_true', Bool.not_eq_false', Bool.not_eq_true, Bool.not_eq_false, ne_eq, Bool.and_eq_true, Bool.or_eq_true, Bool.and_eq_false_iff, Bool.or_eq_false_iff, reduceCtorEq, Int.not_lt, Int.not_le] at h17
                        refine ⟨fun h18 => ?_, fun h18 => ?_⟩
                        ·
                          first | exact True.intro | rfl | omega | assumption | (simp only [I64, big] at *; omega) | (simp_all; done)
                        · exact absurd (show true = false from h18) (by decide)
                · try simp only [decide_eq_true_eq, decide_eq_false_iff_not, beq_iff_eq, beq_eq_false_iff_ne, bne_iff_ne, bne_eq_false_iff_eq, Bool.not_eq_true', Bool.not_eq_false', Bool.not_eq_true, Bool.not_eq_false, ne_eq, Bool.and_eq_true, Bool.or_eq_true, Bool.and_eq_false_iff, Bool.or_eq_false_iff, reduceCtorEq, Int.not_lt, Int.not_le] at h13
                  refine ⟨fun h14 => ?_, fun h14 => ?_⟩
                  · try simp only [decide_eq_true_eq, decide_eq_false_iff_not, beq_iff_eq, beq_eq_false_iff_ne, bne_iff_ne, bne_eq_false_iff_eq, Bool.not_eq_true', Bool.not_eq_false', Bool.not_eq_true, Bool.not_eq_false, ne_eq, Bool.and_eq_true, Bool.or_eq_true, Bool.and_eq_false_iff, Bool.or_eq_false_iff, reduceCtorEq, Int.not_lt, Int.not_le] at h14
                    refine ⟨fun h15 => ?_, fun h15 => ?_⟩
                    · try simp only [decide_eq_true_eq, decide_eq_false_iff_not, beq_iff_eq, beq_eq_false_iff_ne, bne_iff_ne, bne_eq_false_iff_eq, Bool.not_eq_true', Bool.not_eq_false', Bool.not_eq_true, Bool.not_eq_false, ne_eq, Bool.and_eq_true, Bool.or_eq_true, Bool.and_eq_false_iff, Bool.or_eq_false_iff, reduceCtorEq, Int.not_lt, Int.not_le] at h15
                      refine ⟨?_, ?_⟩
                      · first | exact True.intro | rfl | omega | assumption | (simp only [I64, big] at *; omega) | (simp_all; done)
                      refine ⟨fun h16 => ?_, fun h16 => ?_⟩
                      ·
                        first | exact True.intro | rfl | omega | assumption | (simp only [I64, big] at *; omega) | (simp_all; done)
                      · exact absurd (show true = false from h16) (by decide)
                    · try simp only [decide_eq_true_eq, decide_eq_false_iff_not, beq_iff_eq, beq_eq_false_iff_ne, bne_iff_ne, bne_eq_false_iff_eq, Bool.not_eq_true', Bool.not_eq_false', Bool.not_eq_true, Bool.not_eq_false, ne_eq, Bool.and_eq_true, Bool.or_eq_true, Bool.and_eq_false_iff, Bool.or_eq_false_iff, reduceCtorEq, Int.not_lt, Int.not_le] at h15
                      refine ⟨fun h16 => ?_, fun h16 => ?_⟩
                      · try simp only [decide_eq_true_eq, decide_eq_false_iff_not, beq_iff_eq, beq_eq_false_iff_ne, bne_iff_ne, bne_eq_false_iff_eq, Bool.not_eq_true', Bool.not_eq_false', Bool.not_eq_true, Bool.not_eq_false, ne_eq, Bool.and_eq_true, Bool.or_eq_true, Bool.and_eq_false_iff, Bool.or_eq_false_iff, reduceCtorEq, Int.not_lt, Int.not_le] at h16
                        refine ⟨?_, ?_⟩
                        · first | exact True.intro | rfl | omega | assumption | (simp only [I64, big] at *; omega) | (simp_all; done)
                        refine ⟨fun h17 => ?_, fun h17 => ?_⟩
                        ·
                          first | exact True.intro | rfl | omega | assumption | (simp only [I64, big] at *; omega) | (simp_all; done)
                        · exact absurd (show true = false from h17) (by decide)
                      · try simp only [decide_eq_true_eq, decide_eq_false_iff_not, beq_iff_eq, beq_eq_false_iff_ne, bne_iff_ne, bne_eq_false_iff_eq, Bool.not_eq_true', Bool.not_eq_false', Bool.not_eq_true, Bool.not_eq_false, ne_eq, Bool.and_eq_true, Bool.or_eq_true, Bool.and_eq_false_iff, Bool.or_eq_false_iff, reduceCtorEq, Int.not_lt, Int.not_le] at h16
                        intro h17
                        refine ⟨fun h18 => ?_, fun h18 => ?_⟩
                        · try simp only [decide_eq_true_eq, decide_eq_false_iff_not, beq_iff_eq, beq_eq_false_iff_ne, bne_iff_ne, bne_eq_false_iff_eq, Bool.not_eq_true', Bool.not_eq_false', Bool.not_eq_true, Bool.not_eq_false, ne_eq, Bool.and_eq_true, Bool.or_eq_true, Bool.and_eq_false_iff, Bool.or_eq_false_iff, reduceCtorEq, Int.not_lt, Int.not_le] at h18
                          refine ⟨?_, ?_⟩
                          · first | exact True.intro | rfl | omega | assumption | (simp only [I64, big] at *; omega) | (simp_all; done)
                          refine ⟨fun h19 => ?_, fun h19 => ?_⟩
                          · exact absurd (show false = true from h19) (by decide)
                          ·
                            intro h20
                            intro h21
                            intro h22
                            intro h23
                            refine ⟨?_, ?_⟩
                            · first | exact True.intro | rfl | omega | assumption | (simp only [I64, big] at *; omega) | (simp_all; done)
                            refine ⟨fun h24 => ?_, fun h24 => ?_⟩
                            · exact absurd (show false = true from h24) (by decide)
                            ·
                              refine ⟨?_, ?_⟩
                              · first | exact True.intro | rfl | omega | assumption | (simp only [I64, big] at *; omega) | (simp_all; done)
                              refine ⟨fun h25 => ?_, fun h25 => ?_⟩
                              · try simp only [decide_eq_true_eq, decide_eq_false_iff_not, beq_iff_eq, beq_eq_false_iff_ne, bne_iff_ne, bne_eq_false_iff_eq, Bool.not_eq_true', Bool.not_eq_false', Bool.not_eq_true, Bool.not_eq_false, ne_eq, Bool.and_eq_true, Bool.or_eq_true, Bool.and_eq_false_iff, Bool.or_eq_false_iff, reduceCtorEq, Int.not_lt, Int.not_le] at h25
                                first | exact True.intro | rfl | omega | assumption | (simp only [I64, big] at *; omega) | (simp_all; done)
                              · try simp only [decide_eq_true_eq, decide_eq_false_iff_not, beq_iff_eq, beq_eq_false_iff_ne, bne_iff_ne, bne_eq_false_iff_eq, Bool.not_eq_true', Bool.not_eq_false', Bool.not_eq_true, Bool.not_eq_false, ne_eq, Bool.and_eq_true, Bool.or_eq_true, Bool.and_eq_false_iff, Bool.or_eq_false_iff, reduceCtorEq, Int.not_lt, Int.not_le] at h25
                                intro h26
                                refine ⟨fun h27 => ?_, fun h27 => ?_⟩
                                · try simp only [decide_eq_true_eq, decide_eq_false_iff_not, beq_iff_eq, beq_eq_false_iff_ne, bne_iff_ne, bne_eq_false_iff_eq, Bool.not_eq_true', Bool.not_eq_false', Bool.not_eq_true, Bool.not_eq_false, ne_eq, Bool.and_eq_true, Bool.or_eq_true, Bool.and_eq_false_iff, Bool.or_eq_false_iff, reduceCtorEq, Int.not_lt, Int.not_le] at h27
                                  refine ⟨?_, ?_⟩
                                  · first | exact True.intro | rfl | omega | assumption | (simp only [I64, big] at *; omega) | (simp_all; done)
                                  rcases findF_sound (o.1, o.2.1, ()) l s with h | h
                                  · omega
                                  · exact h.2
                                · try simp only [decide_eq_true_eq, decide_eq_false_iff_not, beq_iff_eq, beq_eq_false_iff_ne, bne_iff_ne, bne_eq_false_iff_eq, Bool.not_eq_true', Bool.not_eq_false', Bool.not_eq_true, Bool.not_eq_false, ne_eq, Bool.and_eq_true, Bool.or_eq_true, Bool.and_eq_false_iff, Bool.or_eq_false_iff, reduceCtorEq, Int.not_lt, Int.not_le] at h27
                                  rcases findF_sound (o.1, o.2.1, ()) l s with h | h
                                  · omega
                                  · have := h.1; omega
                        · try simp only [decide_eq_true_eq, decide_eq_false_iff_not, beq_iff_eq, beq_eq_false_iff_ne, bne_iff_ne, bne_eq_false_iff_eq, Bool.not_eq_true', Bool.not_eq_false', Bool.not_eq_true, Bool.not_eq_false, ne_eq, Bool.and_eq_true, Bool.or_eq_true, Bool.and_eq_false_iff, Bool.or_eq_false_iff, reduceCtorEq, Int.not_lt, Int.not_le] at h18
                          refine ⟨fun h19 => ?_, fun h19 => ?_⟩
                          ·
                            first | exact True.intro | rfl | omega | assumption | (simp only [I64, big] at *; omega) | (simp_all; done)
                          · exact absurd (show true = false from h19) (by decide)
                  · try simp only [decide_eq_true_eq, decide_eq_false_iff_not, beq_iff_eq, beq_eq_false_iff_ne, bne_iff_ne, bne_eq_false_iff_eq, Bool.not_eq_true', Bool.not_eq_false', Bool.not_eq_true, Bool.not_eq_false, ne_eq, Bool.and_eq_true, Bool.or_eq_true, Bool.and_eq_false_iff, Bool.or_eq_false_iff, reduceCtorEq, Int.not_lt, Int.not_le] at h14
                    refine ⟨fun h15 => ?_, fun h15 => ?_⟩
                    · try simp only [decide_eq_true_eq, decide_eq_false_iff_not, beq_iff_eq, beq_eq_false_iff_ne, bne_iff_ne, bne_eq_false_iff_eq, Bool.not_eq_true', Bool.not_eq_false', Bool.not_eq_true, Bool.not_eq_false, ne_eq, Bool.and_eq_true, Bool.or_eq_true, Bool.and_eq_false_iff, Bool.or_eq_false_iff, reduceCtorEq, Int.not_lt, Int.not_le] at h15
                      refine ⟨?_, ?_⟩
                      · first | exact True.intro | rfl | omega | assumption | (simp only [I64, big] at *; omega) | (simp_all; done)
                      refine ⟨fun h16 => ?_, fun h16 => ?_⟩
                      ·
                        first | exact True.intro | rfl | omega | assumption | (simp only [I64, big] at *; omega) | (simp_all; done)
                      · exact absurd (show true = false from h16) (by decide)
                    · try simp only [decide_eq_true_eq, decide_eq_false_iff_not, beq_iff_eq, beq_eq_false_iff_ne, bne_iff_ne, bne_eq_false_iff_eq, Bool.not_eq_true', Bool.not_eq_false', Bool.not_eq_true, Bool.not_eq_false, ne_eq, Bool.and_eq_true, Bool.or_eq_true, Bool.and_eq_false_iff, Bool.or_eq_false_iff, reduceCtorEq, Int.not_lt, Int.not_le] at h15
                      refine ⟨fun h16 => ?_, fun h16 => ?_⟩
                      · try simp only [decide_eq_true_eq, decide_eq_false_iff_not, beq_iff_eq, beq_eq_false_iff_ne, bne_iff_ne, bne_eq_false_iff_eq, Bool.not_eq_true', Bool.not_eq_false', Bool.not_eq_true, Bool.not_eq_false, ne_eq, Bool.and_eq_true, Bool.or_eq_true, Bool.and_eq_false_iff, Bool.or_eq_false_iff, reduceCtorEq, Int.not_lt, Int.not_le] at h16
                        refine ⟨?_, ?_⟩
                        · first | exact True.intro | rfl | omega | assumption | (simp only [I64, big] at *; omega) | (simp_all; done)
                        refine ⟨fun h17 => ?_, fun h17 => ?_⟩
                        ·
                          first | exact True.intro | rfl | omega | assumption | (simp only [I64, big] at *; omega) | (simp_all; done)
                        · exact absurd (show true = false from h17) (by decide)
                      · try simp only [decide_eq_true_eq, decide_eq_false_iff_not, beq_iff_eq, beq_eq_false_iff_ne, bne_iff_ne, bne_eq_false_iff_eq, Bool.not_eq_true', Bool.not_eq_false', Bool.not_eq_true, Bool.not_eq_false, ne_eq, Bool.and_eq_true, Bool.or_eq_true, Bool.and_eq_false_iff, Bool.or_eq_false_iff, reduceCtorEq, Int.not_lt, Int.not_le] at h16
                        intro h17
                        refine ⟨fun h18 => ?_, fun h18 => ?_⟩
                        · try simp only [decide_eq_true_eq, decide_eq_false_iff_not, beq_iff_eq, beq_eq_false_iff_ne, bne_iff_ne, bne_eq_false_iff_eq, Bool.not_eq_true', Bool.not_eq_false', Bool.not_eq_true, Bool.not_eq_false, ne_eq, Bool.and_eq_true, Bool.or_eq_true, Bool.and_eq_false_iff, Bool.or_eq_false_iff, reduceCtorEq, Int.not_lt, Int.not_le] at h18
                          refine ⟨?_, ?_⟩
                          · first | exact True.intro | rfl | omega | assumption | (simp only [I64, big] at *; omega) | (simp_all; done)
                          refine ⟨fun h19 => ?_, fun h19 => ?_⟩
                          ·
                            first | exact True.intro | rfl | omega | assumption | (simp only [I64, big] at *; omega) | (simp_all; done)
                          · exact absurd (show true = false from h19) (by decide)
                        · try simp only [decide_eq_true_eq, decide_eq_false_iff_not, beq_iff_eq, beq_eq_false_iff_ne, bne_iff_ne, bne_eq_false_iff_eq, Bool.not_eq_true', Bool.not_eq_false', Bool.not_eq_true, Bool.not_eq_false, ne_eq, Bool.and_eq_true, Bool.or_eq_true, Bool.and_eq_false_iff, Bool.or_eq_false_iff, reduceCtorEq, Int.not_lt, Int.not_le] at h18
                          refine ⟨fun h19 => ?_, fun h19 => ?_⟩
                          · exact absurd (show false = true from h19) (by decide)
                          ·
                            intro h20
                            refine ⟨fun h21 => ?_, fun h21 => ?_⟩
                            · try simp only [decide_eq_true_eq, decide_eq_false_iff_not, beq_iff_eq, beq_eq_false_iff_ne, bne_iff_ne, bne_eq_false_iff_eq, Bool.not_eq_true', Bool.not_eq_false', Bool.not_eq_true, Bool.not_eq_false, ne_eq, Bool.and_eq_true, Bool.or_eq_true, Bool.and_eq_false_iff, Bool.or_eq_false_iff, reduceCtorEq, Int.not_lt, Int.not_le] at h21
                              exact absurd (firstT_length l many.toNat 0) (by omega)
                            · try simp only [decide_eq_true_eq, decide_eq_false_iff_not, beq_iff_eq, beq_eq_false_iff_ne, bne_iff_ne, bne_eq_false_iff_eq, Bool.not_eq_true', Bool.not_eq_false', Bool.not_eq_true, Bool.not_eq_false, ne_eq, Bool.and_eq_true, Bool.or_eq_true, Bool.and_eq_false_iff, Bool.or_eq_false_iff, reduceCtorEq, Int.not_lt, Int.not_le] at h21
                              intro h22
                              intro h23
                              refine ⟨fun h24 => ?_, fun h24 => ?_⟩
                              · try simp only [decide_eq_true_eq, decide_eq_false_iff_not, beq_iff_eq, beq_eq_false_iff_ne, bne_iff_ne, bne_eq_false_iff_eq, Bool.not_eq_true', Bool.not_eq_false', Bool.not_eq_true, Bool.not_eq_false, ne_eq, Bool.and_eq_true, Bool.or_eq_true, Bool.and_eq_false_iff, Bool.or_eq_false_iff, reduceCtorEq, Int.not_lt, Int.not_le] at h24
                                exact absurd (nextT_length l many.toNat 0) (by omega)
                              · try simp only [decide_eq_true_eq, decide_eq_false_iff_not, beq_iff_eq, beq_eq_false_iff_ne, bne_iff_ne, bne_eq_false_iff_eq, Bool.not_eq_true', Bool.not_eq_false', Bool.not_eq_true, Bool.not_eq_false, ne_eq, Bool.and_eq_true, Bool.or_eq_true, Bool.and_eq_false_iff, Bool.or_eq_false_iff, reduceCtorEq, Int.not_lt, Int.not_le] at h24
                                refine ⟨?_, ?_⟩
                                · refine ⟨0, ?_⟩; (repeat' (first | exact trivial | rfl | omega | assumption | apply And.intro))
                                intro x_1
                                intro h25
                                refine ⟨fun h26 => ?_, fun h26 => ?_⟩
                                · try simp only [decide_eq_true_eq, decide_eq_false_iff_not, beq_iff_eq, beq_eq_false_iff_ne, bne_iff_ne, bne_eq_false_iff_eq, Bool.not_eq_true', Bool.not_eq_false', Bool.not_eq_true, Bool.not_eq_false, ne_eq, Bool.and_eq_true, Bool.or_eq_true, Bool.and_eq_false_iff, Bool.or_eq_false_iff, reduceCtorEq, Int.not_lt, Int.not_le] at h26
                                  refine ⟨?_, ?_⟩
                                  · rw [firstT_length]; omega
                                  refine ⟨?_, ?_⟩
                                  · exact ⟨0, by omega, ⟨rfl, firstT_nth (by omega), trivial⟩, trivial⟩
                                  intro x_2
                                  intro h27
                                  intro h28
                                  refine ⟨fun h29 => ?_, fun h29 => ?_⟩
                                  · try simp only [decide_eq_true_eq, decide_eq_false_iff_not, beq_iff_eq, beq_eq_false_iff_ne, bne_iff_ne, bne_eq_false_iff_eq, Bool.not_eq_true', Bool.not_eq_false', Bool.not_eq_true, Bool.not_eq_false, ne_eq, Bool.and_eq_true, Bool.or_eq_true, Bool.and_eq_false_iff, Bool.or_eq_false_iff, reduceCtorEq, Int.not_lt, Int.not_le] at h29
                                    refine ⟨?_, ?_⟩
                                    · first | exact True.intro | rfl | omega | assumption | (simp only [I64, big] at *; omega) | (simp_all; done)
                                    refine ⟨?_, ?_⟩
                                    · first | exact True.intro | rfl | omega | assumption | (simp only [I64, big] at *; omega) | (simp_all; done)
                                    refine ⟨?_, ?_⟩
                                    · first | exact True.intro | rfl | omega | assumption | (simp only [I64, big] at *; omega) | (simp_all; done)
                                    intro x_3
                                    intro h30
                                    refine ⟨fun h31 => ?_, fun h31 => ?_⟩
                                    · try simp only [decide_eq_true_eq, decide_eq_false_iff_not, beq_iff_eq, beq_eq_false_iff_ne, bne_iff_ne, bne_eq_false_iff_eq, Bool.not_eq_true', Bool.not_eq_false', Bool.not_eq_true, Bool.not_eq_false, ne_eq, Bool.and_eq_true, Bool.or_eq_true, Bool.and_eq_false_iff, Bool.or_eq_false_iff, reduceCtorEq, Int.not_lt, Int.not_le] at h31
                                      intro h32
                                      intro h33
                                      refine ⟨?_, ?_⟩
                                      · first | exact True.intro | rfl | omega | assumption | (simp only [I64, big] at *; omega) | (simp_all; done)
                                      have hb := rem_bucket (by omega) ‹x_3 = _›
                                      rw [Int.toNat_natCast] at hb
                                      exact ⟨x_2 + 1, by omega, by omega, ⟨by omega, firstOf_other (by omega) (by omega), trivial⟩, (by repeat' (first | exact trivial | rfl | apply And.intro))⟩
                                    · try simp only [decide_eq_true_eq, decide_eq_false_iff_not, beq_iff_eq, beq_eq_false_iff_ne, bne_iff_ne, bne_eq_false_iff_eq, Bool.not_eq_true', Bool.not_eq_false', Bool.not_eq_true, Bool.not_eq_false, ne_eq, Bool.and_eq_true, Bool.or_eq_true, Bool.and_eq_false_iff, Bool.or_eq_false_iff, reduceCtorEq, Int.not_lt, Int.not_le] at h31
                                      refine ⟨fun h32 => ?_, fun h32 => ?_⟩
                                      · try simp only [decide_eq_true_eq, decide_eq_false_iff_not, beq_iff_eq, beq_eq_false_iff_ne, bne_iff_ne, bne_eq_false_iff_eq, Bool.not_eq_true', Bool.not_eq_false', Bool.not_eq_true, Bool.not_eq_false, ne_eq, Bool.and_eq_true, Bool.or_eq_true, Bool.and_eq_false_iff, Bool.or_eq_false_iff, reduceCtorEq, Int.not_lt, Int.not_le] at h32
                                        have hb := rem_bucket (by omega) ‹x_3 = _›
                                        rw [Int.toNat_natCast] at hb
                                        exact absurd (firstOf_here (l := l) (m := many.toNat) (b := Int.toNat x_1) (k := x_2) (by omega) (by omega)) (by assumption)
                                      · try simp only [decide_eq_true_eq, decide_eq_false_iff_not, beq_iff_eq, beq_eq_false_iff_ne, bne_iff_ne, bne_eq_false_iff_eq, Bool.not_eq_true', Bool.not_eq_false', Bool.not_eq_true, Bool.not_eq_false, ne_eq, Bool.and_eq_true, Bool.or_eq_true, Bool.and_eq_false_iff, Bool.or_eq_false_iff, reduceCtorEq, Int.not_lt, Int.not_le] at h32
                                        refine ⟨?_, ?_⟩
                                        · rw [nextT_length]; omega
                                        intro h33
                                        intro h34
                                        refine ⟨?_, ?_⟩
                                        · first | exact True.intro | rfl | omega | assumption | (simp only [I64, big] at *; omega) | (simp_all; done)
                                        have hb := rem_bucket (by omega) ‹x_3 = _›
                                        rw [Int.toNat_natCast] at hb
                                        exact ⟨x_2 + 1, by omega, by omega, ⟨by omega, by rw [Int.toNat_natCast, nextT_nth (by omega), show bucketN l many.toNat x_2 = Int.toNat x_1 by omega], trivial⟩, (by repeat' (first | exact trivial | rfl | apply And.intro))⟩
                                  · try simp only [decide_eq_true_eq, decide_eq_false_iff_not, beq_iff_eq, beq_eq_false_iff_ne, bne_iff_ne, bne_eq_false_iff_eq, Bool.not_eq_true', Bool.not_eq_false', Bool.not_eq_true, Bool.not_eq_false, ne_eq, Bool.and_eq_true, Bool.or_eq_true, Bool.and_eq_false_iff, Bool.or_eq_false_iff, reduceCtorEq, Int.not_lt, Int.not_le] at h29
                                    refine ⟨fun h30 => ?_, fun h30 => ?_⟩
                                    · try simp only [decide_eq_true_eq, decide_eq_false_iff_not, beq_iff_eq, beq_eq_false_iff_ne, bne_iff_ne, bne_eq_false_iff_eq, Bool.not_eq_true', Bool.not_eq_false', Bool.not_eq_true, Bool.not_eq_false, ne_eq, Bool.and_eq_true, Bool.or_eq_true, Bool.and_eq_false_iff, Bool.or_eq_false_iff, reduceCtorEq, Int.not_lt, Int.not_le] at h30
                                      have : x_2 = l.length := by omega
                                      subst this
                                      exact absurd (firstOf_end l many.toNat (Int.toNat x_1)) (by assumption)
                                    · try simp only [decide_eq_true_eq, decide_eq_false_iff_not, beq_iff_eq, beq_eq_false_iff_ne, bne_iff_ne, bne_eq_false_iff_eq, Bool.not_eq_true', Bool.not_eq_false', Bool.not_eq_true, Bool.not_eq_false, ne_eq, Bool.and_eq_true, Bool.or_eq_true, Bool.and_eq_false_iff, Bool.or_eq_false_iff, reduceCtorEq, Int.not_lt, Int.not_le] at h30
                                      intro h31
                                      intro h32
                                      refine ⟨?_, ?_⟩
                                      · first | exact True.intro | rfl | omega | assumption | (simp only [I64, big] at *; omega) | (simp_all; done)
                                      refine ⟨x_1 + 1, ?_⟩; (repeat' (first | exact trivial | rfl | omega | assumption | apply And.intro))
                                · try simp only [decide_eq_true_eq, decide_eq_false_iff_not, beq_iff_eq, beq_eq_false_iff_ne, bne_iff_ne, bne_eq_false_iff_eq, Bool.not_eq_true', Bool.not_eq_false', Bool.not_eq_true, Bool.not_eq_false, ne_eq, Bool.and_eq_true, Bool.or_eq_true, Bool.and_eq_false_iff, Bool.or_eq_false_iff, reduceCtorEq, Int.not_lt, Int.not_le] at h26
                                  intro h27
                                  intro h28
                                  intro h29
                                  refine ⟨?_, ?_⟩
                                  · first | exact True.intro | rfl | omega | assumption | (simp only [I64, big] at *; omega) | (simp_all; done)
                                  refine ⟨?_, ?_⟩
                                  · exact ⟨l.length, by omega, ⟨rfl, (wantF_end (Nat.le_refl _)).symm, trivial⟩, trivial⟩
                                  intro x_2
                                  intro h30
                                  refine ⟨fun h31 => ?_, fun h31 => ?_⟩
                                  · try simp only [decide_eq_true_eq, decide_eq_false_iff_not, beq_iff_eq, beq_eq_false_iff_ne, bne_iff_ne, bne_eq_false_iff_eq, Bool.not_eq_true', Bool.not_eq_false', Bool.not_eq_true, Bool.not_eq_false, ne_eq, Bool.and_eq_true, Bool.or_eq_true, Bool.and_eq_false_iff, Bool.or_eq_false_iff, reduceCtorEq, Int.not_lt, Int.not_le] at h31
                                    refine ⟨?_, ?_⟩
                                    · first | exact True.intro | rfl | omega | assumption | (simp only [I64, big] at *; omega) | (simp_all; done)
                                    refine ⟨fun h32 => ?_, fun h32 => ?_⟩
                                    · try simp only [decide_eq_true_eq, decide_eq_false_iff_not, beq_iff_eq, beq_eq_false_iff_ne, bne_iff_ne, bne_eq_false_iff_eq, Bool.not_eq_true', Bool.not_eq_false', Bool.not_eq_true, Bool.not_eq_false, ne_eq, Bool.and_eq_true, Bool.or_eq_true, Bool.and_eq_false_iff, Bool.or_eq_false_iff, reduceCtorEq, Int.not_lt, Int.not_le] at h32
                                      intro h33
                                      intro h34
                                      refine ⟨?_, ?_⟩
                                      · first | exact True.intro | rfl | omega | assumption | (simp only [I64, big] at *; omega) | (simp_all; done)
                                      obtain ⟨k, rfl⟩ : ∃ k, x_2 = k + 1 := ⟨x_2 - 1, by omega⟩
                                      have hj : Int.toNat (((k + 1 : Nat) : Int) - 1) = k := by omega
                                      exact ⟨k, by omega, by omega, ⟨by omega, by rw [wantF_here (by omega) (by rw [← hj]; assumption)]; omega, trivial⟩, (by repeat' (first | exact trivial | rfl | apply And.intro))⟩
                                    · try simp only [decide_eq_true_eq, decide_eq_false_iff_not, beq_iff_eq, beq_eq_false_iff_ne, bne_iff_ne, bne_eq_false_iff_eq, Bool.not_eq_true', Bool.not_eq_false', Bool.not_eq_true, Bool.not_eq_false, ne_eq, Bool.and_eq_true, Bool.or_eq_true, Bool.and_eq_false_iff, Bool.or_eq_false_iff, reduceCtorEq, Int.not_lt, Int.not_le] at h32
                                      intro h33
                                      intro h34
                                      refine ⟨?_, ?_⟩
                                      · first | exact True.intro | rfl | omega | assumption | (simp only [I64, big] at *; omega) | (simp_all; done)
                                      obtain ⟨k, rfl⟩ : ∃ k, x_2 = k + 1 := ⟨x_2 - 1, by omega⟩
                                      have hj : Int.toNat (((k + 1 : Nat) : Int) - 1) = k := by omega
                                      exact ⟨k, by omega, by omega, ⟨by omega, (wantF_other (k := k) (by omega) (by rw [← hj]; assumption)).symm, trivial⟩, (by repeat' (first | exact trivial | rfl | apply And.intro))⟩
                                  · try simp only [decide_eq_true_eq, decide_eq_false_iff_not, beq_iff_eq, beq_eq_false_iff_ne, bne_iff_ne, bne_eq_false_iff_eq, Bool.not_eq_true', Bool.not_eq_false', Bool.not_eq_true, Bool.not_eq_false, ne_eq, Bool.and_eq_true, Bool.or_eq_true, Bool.and_eq_false_iff, Bool.or_eq_false_iff, reduceCtorEq, Int.not_lt, Int.not_le] at h31
                                    refine ⟨?_, ?_⟩
                                    · rw [firstT_length]; omega
                                    refine ⟨fun h32 => ?_, fun h32 => ?_⟩
                                    · try simp only [decide_eq_true_eq, decide_eq_false_iff_not, beq_iff_eq, beq_eq_false_iff_ne, bne_iff_ne, bne_eq_false_iff_eq, Bool.not_eq_true', Bool.not_eq_false', Bool.not_eq_true, Bool.not_eq_false, ne_eq, Bool.and_eq_true, Bool.or_eq_true, Bool.and_eq_false_iff, Bool.or_eq_false_iff, reduceCtorEq, Int.not_lt, Int.not_le] at h32
                                      have : x_2 = 0 := by omega
                                      subst this
                                      exact absurd (findF_table (l := l) (m := many.toNat) (s := s) (by omega)) (by assumption)
                                    · try simp only [decide_eq_true_eq, decide_eq_false_iff_not, beq_iff_eq, beq_eq_false_iff_ne, bne_iff_ne, bne_eq_false_iff_eq, Bool.not_eq_true', Bool.not_eq_false', Bool.not_eq_true, Bool.not_eq_false, ne_eq, Bool.and_eq_true, Bool.or_eq_true, Bool.and_eq_false_iff, Bool.or_eq_false_iff, reduceCtorEq, Int.not_lt, Int.not_le] at h32
                                      refine ⟨?_, ?_⟩
                                      · first | exact True.intro | rfl | omega | assumption | (simp only [I64, big] at *; omega) | (simp_all; done)
                                      refine ⟨fun h33 => ?_, fun h33 => ?_⟩
                                      · try simp only [decide_eq_true_eq, decide_eq_false_iff_not, beq_iff_eq, beq_eq_false_iff_ne, bne_iff_ne, bne_eq_false_iff_eq, Bool.not_eq_true', Bool.not_eq_false', Bool.not_eq_true, Bool.not_eq_false, ne_eq, Bool.and_eq_true, Bool.or_eq_true, Bool.and_eq_false_iff, Bool.or_eq_false_iff, reduceCtorEq, Int.not_lt, Int.not_le] at h33
                                        first | exact True.intro | rfl | omega | assumption | (simp only [I64, big] at *; omega) | (simp_all; done)
                                      · try simp only [decide_eq_true_eq, decide_eq_false_iff_not, beq_iff_eq, beq_eq_false_iff_ne, bne_iff_ne, bne_eq_false_iff_eq, Bool.not_eq_true', Bool.not_eq_false', Bool.not_eq_true, Bool.not_eq_false, ne_eq, Bool.and_eq_true, Bool.or_eq_true, Bool.and_eq_false_iff, Bool.or_eq_false_iff, reduceCtorEq, Int.not_lt, Int.not_le] at h33
                                        intro h34
                                        refine ⟨fun h35 => ?_, fun h35 => ?_⟩
                                        · try simp only [decide_eq_true_eq, decide_eq_false_iff_not, beq_iff_eq, beq_eq_false_iff_ne, bne_iff_ne, bne_eq_false_iff_eq, Bool.not_eq_true', Bool.not_eq_false', Bool.not_eq_true, Bool.not_eq_false, ne_eq, Bool.and_eq_true, Bool.or_eq_true, Bool.and_eq_false_iff, Bool.or_eq_false_iff, reduceCtorEq, Int.not_lt, Int.not_le] at h35
                                          refine ⟨?_, ?_⟩
                                          · first | exact True.intro | rfl | omega | assumption | (simp only [I64, big] at *; omega) | (simp_all; done)
                                          rcases findF_sound (o.1, o.2.1, ()) l s with h | h
                                          · omega
                                          · exact h.2
                                        · try simp only [decide_eq_true_eq, decide_eq_false_iff_not, beq_iff_eq, beq_eq_false_iff_ne, bne_iff_ne, bne_eq_false_iff_eq, Bool.not_eq_true', Bool.not_eq_false', Bool.not_eq_true, Bool.not_eq_false, ne_eq, Bool.and_eq_true, Bool.or_eq_true, Bool.and_eq_false_iff, Bool.or_eq_false_iff, reduceCtorEq, Int.not_lt, Int.not_le] at h35
                                          rcases findF_sound (o.1, o.2.1, ()) l s with h | h
                                          · omega
                                          · have := h.1; omega
theorem Try.ok_TableSays : PureOK Try.prog Try.B.eT 4 [.slice tSymbol, .int .i64, .str, tTable] [.bool] (fun _ => True) (fun _ y => y = true) :=
  pure_fn (X := noExt) Try.ltableCtxOK Try.func4 (by kernel_rfl) (fun x => tsAnn x.1 x.2.1 x.2.2.1 x.2.2.2) (fun x hw hp => vc_TableSays x.1 x.2.1 x.2.2.1 x.2.2.2 hw)
open Go.ChangeShapes Go.WideShapes Go.ChangeAt Go.RowKit in
set_option maxRecDepth 100000 in
theorem tableSays_lifted (os : Os) (started : os.Started) (H : Type) (enc : TypeId × Value → H) :
    ReturnsInHanded {} Try.checked os 4 .any (Rows.tableSaysSpec.pre6 enc Try.prog Try.f4 Rows.tableSaysRow.domain false) (Rows.tableSaysSpec.post enc Try.prog Try.f4 false true false false) := by
  refine returnsInHanded_of_change (C := Try.checked) (by kernel_rfl) started (by kernel_rfl) Try.func4
    (ChangeSpec.witness6 (enc := enc) (C := Try.checked) false ⟨#[], #[.slice none 0 0, .int .i64 0, .string ⟨#[]⟩, .agg #[.slice none 0 0, .slice none 0 0]], []⟩ 8 (by kernel_rfl) (by kernel_rfl) (by kernel_rfl) (by kernel_rfl)) ?_
  intro W base args ds gs before hval hW hcnd _
  exact law_calls (C := Try.checked) (n := 16) rfl (by kernel_rfl) (fun ds h => by match ds, h with | [_, _, _, _], _ => rfl) (by kernel_rfl) (by kernel_rfl) (by kernel_rfl) (tb := 4) (by kernel_rfl) Try.ok_TableSays hval hW (fun _ _ => trivial)
open Go.ChangeShapes Go.WideShapes Go.ChangeAt Go.RowKit in
theorem tableSays_holds : Rows.TableSaysSaid :=
  OpenClaim.holds_of_wide 4 Try.f4 rfl rfl rfl rfl rfl rfl rfl ⟨rfl, rfl, rfl, rfl, rfl⟩ rfl rfl rfl rfl rfl (by kernel_rfl) Try.func4 (by kernel_rfl)
    (of_decide_eq_true (by kernel_rfl)) (by unfold Func.isWrapper; first | (rw [if_pos (by decide +kernel)]; kernel_rfl) | (rw [if_neg (by decide +kernel)]; exact ⟨rfl, rfl⟩))
    (fun os started H enc _ => tableSays_lifted os started H enc)
#print axioms tableSays_holds
end Go.Proofs.Ytgokjhhcfemnhaa

