/- A part of the proof that the law ObjectSaysCard holds of the given program: facts that are used there. -/
import Derived.Test.YtgokjhhcfemnhaaDoorPart3
import Derived.Handed
import Derived.Clock
import Derived.Lib.LaidTab
import Derived.Lib.LaidU8
import Derived.Lay
set_option linter.unusedSimpArgs false
set_option linter.unusedVariables false
namespace Go.Mrl
open Go.Vg
structure RunB (L : List Str) (i : Nat) (o : D tObject) : Prop where
  le : i ≤ L.length
  st : run lineB (zeroD tObject) (L.take i) = some o
  l1 : o.1.length ≤ i
  l2 : o.2.1.length ≤ i
  l3 : o.2.2.1.length ≤ i
  l4 : o.2.2.2.1.length ≤ i
theorem RunB.zero (L : List Str) : RunB L 0 (zeroD tObject) := ⟨Nat.zero_le _, rfl, Nat.le_refl _, Nat.le_refl _, Nat.le_refl _, Nat.le_refl _⟩
structure More (o p : D tObject) : Prop where
  l1 : p.1.length ≤ o.1.length + 1
  l2 : p.2.1.length ≤ o.2.1.length + 1
  l3 : p.2.2.1.length ≤ o.2.2.1.length + 1
  l4 : p.2.2.2.1.length ≤ o.2.2.2.1.length + 1
theorem snoc_le {α : Type} (l : List α) (x : α) : (l ++ [x]).length ≤ l.length + 1 := by simp
theorem More.need (o : D tObject) (s : Str) : More o (addNeed o s) := ⟨snoc_le _ _, Nat.le_succ _, Nat.le_succ _, Nat.le_succ _⟩
theorem More.word (o : D tObject) (n : Int) : More o (addWord o n) := ⟨Nat.le_succ _, snoc_le _ _, Nat.le_succ _, Nat.le_succ _⟩
theorem More.sym (o : D tObject) (y : D tSymbol) : More o (addSym o y) := ⟨Nat.le_succ _, Nat.le_succ _, snoc_le _ _, Nat.le_succ _⟩
theorem More.tie (o : D tObject) (t : D tTie) : More o (addTie o t) := ⟨Nat.le_succ _, Nat.le_succ _, Nat.le_succ _, snoc_le _ _⟩
theorem RunB.next {L : List Str} {i : Nat} {o p : D tObject} (h : RunB L i o) (hi : i < L.length) (hl : lineB o (nth .str L i) = some p) (hm : More o p) : RunB L (i + 1) p := by
  have a1 := h.l1; have a2 := h.l2; have a3 := h.l3; have a4 := h.l4
  have b1 := hm.l1; have b2 := hm.l2; have b3 := hm.l3; have b4 := hm.l4
  refine ⟨hi, ?_, by omega, by omega, by omega, by omega⟩
  rw [take_nth (t := .str) hi, run_snoc, h.st, Option.bind_some]; exact hl
theorem RunB.fail {L : List Str} {i : Nat} {o : D tObject} (h : RunB L i o) (hi : i < L.length) (hl : lineB o (nth .str L i) = none) : run lineB (zeroD tObject) L = none := by
  have := run_app (m := L.drop i) h.st
  rw [List.take_append_drop, drop_nth (t := .str) hi] at this
  rw [this]; simp only [run]; rw [hl]
theorem RunB.done {L : List Str} {i : Nat} {o : D tObject} (h : RunB L i o) (hi : ¬ i < L.length) : run lineB (zeroD tObject) L = some o := by
  have := h.st
  rwa [List.take_of_length_le (by omega)] at this
theorem two_of {w : List Str} (h : w.length = 2) : w = [nth .str w 0, nth .str w 1] := by
  match w, h with
  | [a, b], _ => rfl
theorem three_of {w : List Str} (h : w.length = 3) : w = [nth .str w 0, nth .str w 1, nth .str w 2] := by
  match w, h with
  | [a, b, c], _ => rfl
theorem four_of {w : List Str} (h : w.length = 4) : w = [nth .str w 0, nth .str w 1, nth .str w 2, nth .str w 3] := by
  match w, h with
  | [a, b, c, d], _ => rfl
def numsB (w : List Str) (k : Nat) : List Int := (List.range (k - 1)).map fun i => numD (nth .str w (i + 1))
theorem numsB_len (w : List Str) (k : Nat) : (numsB w k).length = k - 1 := by simp [numsB]
theorem numsB_next {w : List Str} {k : Nat} (h : 1 ≤ k) : numsB w (k + 1) = numsB w k ++ [numD (nth .str w k)] := by
  obtain ⟨m, rfl⟩ : ∃ m, k = m + 1 := ⟨k - 1, by omega⟩
  simp [numsB, List.range_succ]
theorem numsB_nth {w : List Str} {k i : Nat} (h : i + 1 < k) : (nth (.int .i64) (numsB w k) i : Int) = numD (nth .str w (i + 1)) := by
  apply nth_eq; simp [numsB, show i < k - 1 by omega]
theorem numD_ok {s : Str} (h : numK s = true) : numN s = numD s := by
  unfold numK numP at h; unfold numN numP numD
  cases hn : numB s with
  | none => rw [hn] at h; cases h
  | some n => rfl
theorem numD_bad {s : Str} (h : numK s = false) : (-1099511627776 : Int) = numD s := by
  unfold numK numP at h; unfold numD
  cases hn : numB s with
  | none => rfl
  | some n => rw [hn] at h; cases h
theorem numsB_ok {w : List Str} {k : Nat} (h : 1 ≤ k) (hn : numK (nth .str w k) = true) : numsB w k ++ [numN (nth .str w k)] = numsB w (k + 1) := by rw [numsB_next h, numD_ok hn]
theorem numsB_bad {w : List Str} {k : Nat} (h : 1 ≤ k) (hn : numK (nth .str w k) = false) : numsB w k ++ [(-1099511627776 : Int)] = numsB w (k + 1) := by rw [numsB_next h, ← numD_bad hn]
section
variable {o : D tObject} {b : Bool} {w : List Str} {k : Nat}
theorem wordsB_need (h : w.length = 2 ∧ nth .str w 0 = wNeed) : wordsB o b w = some (addNeed o (nth .str w 1)) := by
  rw [two_of h.1]; show (if nth .str w 0 = wNeed then _ else _) = _; rw [if_pos h.2]; rfl
theorem wordsB_word (h0 : ¬ (w.length = 2 ∧ nth .str w 0 = wNeed)) (h : w.length = 2 ∧ nth .str w 0 = wWord) (hk : 1 < k) : wordsB o b w = some (addWord o (nth (.int .i64) (numsB w k) 0)) := by
  rw [numsB_nth (by omega), two_of h.1]
  show (if nth .str w 0 = wNeed then _ else if nth .str w 0 = wWord then _ else _) = _
  rw [if_neg fun e => h0 ⟨h.1, e⟩, if_pos h.2]; rfl
theorem wordsB_sym (h : w.length = 3 ∧ nth .str w 0 = wSymbol) (hk : 2 < k) : wordsB o b w = some (addSym o (nth .str w 1, nth (.int .i64) (numsB w k) 1, b, ())) := by
  rw [numsB_nth (by omega), three_of h.1]
  show (if nth .str w 0 = wSymbol then _ else _) = _
  rw [if_pos h.2]; rfl
theorem wordsB_base (h0 : ¬ (w.length = 3 ∧ nth .str w 0 = wSymbol)) (h : w.length = 3 ∧ nth .str w 0 = wBase) (hk : 2 < k) : wordsB o b w = some (addTie o (nth (.int .i64) (numsB w k) 0, 1, nth (.int .i64) (numsB w k) 1, [], b, ())) := by
  rw [numsB_nth (by omega), numsB_nth (by omega), three_of h.1]
  show (if nth .str w 0 = wSymbol then _ else if nth .str w 0 = wBase then _ else _) = _
  rw [if_neg fun e => h0 ⟨h.1, e⟩, if_pos h.2]; rfl
theorem wordsB_whole (h : w.length = 4 ∧ nth .str w 0 = wWhole) (hk : 2 < k) : wordsB o b w = some (addTie o (nth (.int .i64) (numsB w k) 0, 2, nth (.int .i64) (numsB w k) 1, nth .str w 3, b, ())) := by
  rw [numsB_nth (by omega), numsB_nth (by omega), four_of h.1]
  show (if nth .str w 0 = wWhole then _ else _) = _
  rw [if_pos h.2]; rfl
theorem wordsB_near (h0 : ¬ (w.length = 4 ∧ nth .str w 0 = wWhole)) (h : w.length = 4 ∧ nth .str w 0 = wNear) (hk : 2 < k) : wordsB o b w = some (addTie o (nth (.int .i64) (numsB w k) 0, 3, nth (.int .i64) (numsB w k) 1, nth .str w 3, b, ())) := by
  rw [numsB_nth (by omega), numsB_nth (by omega), four_of h.1]
  show (if nth .str w 0 = wWhole then _ else if nth .str w 0 = wNear then _ else _) = _
  rw [if_neg fun e => h0 ⟨h.1, e⟩, if_pos h.2]; rfl
theorem wordsB_none (h0 : ¬ (w.length = 2 ∧ nth .str w 0 = wNeed)) (h1 : ¬ (w.length = 2 ∧ nth .str w 0 = wWord)) (h2 : ¬ (w.length = 3 ∧ nth .str w 0 = wSymbol)) (h3 : ¬ (w.length = 3 ∧ nth .str w 0 = wBase))
    (h4 : ¬ (w.length = 4 ∧ nth .str w 0 = wWhole)) (h5 : ¬ (w.length = 4 ∧ nth .str w 0 = wNear)) : wordsB o b w = none := by
  match w with
  | [] => rfl
  | [_] => rfl
  | [a, x] => show (if a = wNeed then _ else if a = wWord then _ else _) = _; rw [if_neg (show ¬ a = wNeed from fun e => h0 ⟨rfl, e⟩), if_neg (show ¬ a = wWord from fun e => h1 ⟨rfl, e⟩)]
  | [a, x, y] => show (if a = wSymbol then _ else if a = wBase then _ else _) = _; rw [if_neg (show ¬ a = wSymbol from fun e => h2 ⟨rfl, e⟩), if_neg (show ¬ a = wBase from fun e => h3 ⟨rfl, e⟩)]
  | [a, x, y, z] => show (if a = wWhole then _ else if a = wNear then _ else _) = _; rw [if_neg (show ¬ a = wWhole from fun e => h4 ⟨rfl, e⟩), if_neg (show ¬ a = wNear from fun e => h5 ⟨rfl, e⟩)]
  | _ :: _ :: _ :: _ :: _ :: _ => rfl
end
theorem weak_at {s : Str} {x : List Str} (hx : x = parts 32 s) : weakB x = (nth .str x 0 == wWeak) := by
  have := parts_ne 32 s
  rw [← hx] at this
  unfold weakB
  match x, this with
  | a :: r, _ => rw [Bool.eq_iff_iff]; simp [nth]
theorem lineB_yes {o : D tObject} {s : Str} {x w : List Str} (hx : x = parts 32 s) (h : nth .str x 0 = wWeak) (hw : w = x.drop 1) : lineB o s = wordsB o (nth .str x 0 == wWeak) w := by
  unfold lineB restB; rw [← hx, weak_at hx, h, hw]; rfl
theorem lineB_no {o : D tObject} {s : Str} {x : List Str} (hx : x = parts 32 s) (h : ¬ nth .str x 0 = wWeak) : lineB o s = wordsB o (nth .str x 0 == wWeak) x := by
  have : (nth .str x 0 == wWeak) = false := by simpa using h
  unfold lineB restB; rw [← hx, weak_at hx, this]; rfl
theorem jT {w : List Str} {n : Nat} {m : Int} {a : Str} (h : (w.length : Int) = m) (hm : m = (n : Int)) : (nth .str w 0 == a) = true ↔ (w.length = n ∧ nth .str w 0 = a) := by
  simp; omega
theorem jF {w : List Str} {n : Nat} {m : Int} {P : Prop} (h : ¬ (w.length : Int) = m) (hm : m = (n : Int)) : false = true ↔ (w.length = n ∧ P) := by
  constructor
  · intro h; cases h
  · rintro ⟨h1, _⟩; omega
theorem eT {k n : Nat} (h : (k : Int) < (n : Int)) : (decide ((k : Int) < 3)) = true ↔ ((k : Int) < (n : Int) ∧ (k : Int) < 3) := by
  rw [decide_eq_true_eq]; omega
theorem eF {k n : Nat} (h : (n : Int) ≤ (k : Int)) : false = true ↔ ((k : Int) < (n : Int) ∧ (k : Int) < 3) := by
  constructor
  · intro h; cases h
  · intro h; omega
theorem exitK {k n : Nat} (h : 1 ≤ k ∧ k ≤ 3 ∧ (k = 1 ∨ k ≤ n)) (h' : ¬ ((k : Int) < (n : Int) ∧ (k : Int) < 3)) : (n = 2 → k = 2) ∧ (3 ≤ n → k = 3) := by omega
theorem lenpos {c : UInt8} {s : Str} {w : List Str} (h : w = parts c s) : 0 < w.length := by rw [h]; exact List.length_pos_iff.2 (parts_ne c s)
theorem objR_failB {s : Str} {i : Nat} {o : D tObject} (hl : ¬ s.length > 1200) (h : RunB (linL s) i o) (hi : i < (linL s).length) (hn : lineB o (nth .str (linL s) i) = none) : ((zeroD tObject, 4) : D tObject × Int) = objR s :=
  (objR_noneB hl (h.fail hi hn)).symm
theorem objR_endB {s : Str} {i : Nat} {o : D tObject} (hl : ¬ s.length > 1200) (h : RunB (linL s) i o) (hi : ¬ i < (linL s).length)
    (hb : faultO o > 0 ∨ (textN o).2 > 0 ∨ ¬ (textN o).1 = s) : ((zeroD tObject, 4) : D tObject × Int) = objR s := by
  refine (objR_someB hl (h.done hi) fun hf ht => ?_).symm
  rcases hb with hb | hb | hb
  · omega
  · rw [textN_ok rfl (by show (textO o).length ≤ 1200; rw [ht]; omega)] at hb; exact absurd hb (by simp)
  · rw [textN_ok rfl (by show (textO o).length ≤ 1200; rw [ht]; omega)] at hb; exact hb ht
theorem objR_doneB {s : Str} {o : D tObject} (hl : ¬ s.length > 1200) (hf : faultO o ≤ 0) (hn : (textN o).2 ≤ 0) (ht : (textN o).1 = s) : ((o, 0) : D tObject × Int) = objR s := by
  have hf0 : faultO o = 0 := by have := faultO_nonneg o; omega
  have hs : textO o = s := by
    by_cases h : (textO o).length > 1200
    · rw [textN_many rfl h] at hn; exact absurd hn (by decide)
    · rw [textN_ok rfl (by show (textO o).length ≤ 1200; omega)] at ht; exact ht
  exact (objR_ok hl hf0 hs).symm
theorem objR_bigB {s : Str} (h : s.length > 1200) : ((zeroD tObject, 2) : D tObject × Int) = objR s := (objR_many h).symm
theorem objR_openB {s : Str} (h : ¬ s.length > 1200) (hr : linK s = false) : ((zeroD tObject, 4) : D tObject × Int) = objR s := (objR_open h hr).symm
theorem linR_few {s : Str} (h : s.length ≤ 1200) : (linL s).length ≤ 1201 := by
  have := parts_len 10 s
  unfold linL linR; simp; omega
theorem linR_short {s : Str} (h : s.length ≤ 1200) (i : Nat) : (nth .str (linL s) i).length ≤ 1200 := by
  by_cases hi : i < (linL s).length
  · have h1 := nth_mem (t := .str) hi
    have := parts_le 10 s _ (List.dropLast_sublist _ |>.subset h1)
    omega
  · unfold nth; rw [List.getD_eq_getElem?_getD, List.getElem?_eq_none (by omega)]; exact Nat.zero_le _
end Go.Mrl

namespace Go.Mrl
open Go.Vg
abbrev Rd := Str → Str × Int × Int
structure RdOK (rd : Rd) : Prop where
  code : ∀ s, (rd s).2.2 = 0 ∨ (rd s).2.2 = 5
  few : ∃ K : List Str, K.length ≤ 6 ∧ ∀ s, (rd s).2.2 = 0 → s ∈ K
def addN (ns l : List Str) : List Str := l.foldl (fun ns s => if ns.any (· == s) = true then ns else ns ++ [s]) ns
noncomputable def objAt (rd : Rd) (s : Str) : D tObject := (objR (rd s).1).1
noncomputable def faultAt (rd : Rd) (s : Str) : Int := if (rd s).2.2 = 0 then (objR (rd s).1).2 else (rd s).2.2
noncomputable def scopeG (rd : Rd) : Nat → Nat → List Str → List (D tObject) → List Str × List (D tObject) × Int
  | 0, _, ns, os => (ns, os, 0)
  | k + 1, i, ns, os =>
    if i < ns.length then
      if faultAt rd (nth .str ns i) = 0 then scopeG rd k (i + 1) (addN ns (objAt rd (nth .str ns i)).1) (os ++ [objAt rd (nth .str ns i)])
      else ([], [], faultAt rd (nth .str ns i))
    else (ns, os, 0)
noncomputable def scopeOf (rd : Rd) (root : Str) : List Str × List (D tObject) × Int := scopeG rd 7 0 [root] []
theorem objR_cases (s : Str) : ((objR s).2 = 0 ∧ faultO (objR s).1 = 0 ∧ textO (objR s).1 = s) ∨ objR s = (zeroD tObject, 2) ∨ objR s = (zeroD tObject, 4) := by
  by_cases h : s.length > 1200
  · exact .inr (.inl (objR_many h))
  · by_cases h2 : ∃ o : D tObject, faultO o = 0 ∧ textO o = s
    · obtain ⟨o, h3, h4⟩ := h2
      rw [objR_ok h h3 h4]; exact .inl ⟨rfl, h3, h4⟩
    · exact .inr (.inr (objR_bad h fun o h3 h4 => h2 ⟨o, h3, h4⟩))
theorem objR_nonneg (s : Str) : 0 ≤ (objR s).2 := by
  rcases objR_cases s with ⟨h, _⟩ | h | h <;> rw [h] <;> decide
theorem objR_fault {s : Str} (h : (objR s).2 = 0) : faultO (objR s).1 = 0 := by
  rcases objR_cases s with ⟨_, h, _⟩ | h' | h'
  · exact h
  · rw [h'] at h; cases h
  · rw [h'] at h; cases h
theorem faultAt_zero {rd : Rd} (h : RdOK rd) {s : Str} (e : faultAt rd s = 0) : (rd s).2.2 = 0 ∧ (objR (rd s).1).2 = 0 := by
  unfold faultAt at e
  rcases h.code s with c | c
  · rw [if_pos c] at e; exact ⟨c, e⟩
  · rw [if_neg (by rw [c]; decide), c] at e; cases e
theorem addN_nil (ns : List Str) : addN ns [] = ns := rfl
theorem addN_cons (ns l : List Str) (s : Str) : addN ns (s :: l) = addN (if ns.any (· == s) = true then ns else ns ++ [s]) l := rfl
theorem any_mem {ns : List Str} {s : Str} : ns.any (· == s) = true ↔ s ∈ ns := by
  rw [List.any_eq_true]
  constructor
  · rintro ⟨x, hx, e⟩; rw [← (by simpa using e : x = s)]; exact hx
  · intro h; exact ⟨s, h, by simp⟩
theorem addN_pre : ∀ (l ns : List Str), ∃ r, addN ns l = ns ++ r ∧ r.length ≤ l.length ∧ ∀ s ∈ r, s ∈ l
  | [], ns => ⟨[], by simp [addN_nil], by simp, by simp⟩
  | x :: l, ns => by
    rw [addN_cons]
    split
    · obtain ⟨r, h1, h2, h3⟩ := addN_pre l ns
      exact ⟨r, h1, by simp; omega, fun s hs => by simp [h3 s hs]⟩
    · obtain ⟨r, h1, h2, h3⟩ := addN_pre l (ns ++ [x])
      refine ⟨x :: r, by rw [h1]; simp, by simp; omega, fun s hs => ?_⟩
      rcases List.mem_cons.1 hs with rfl | hs
      · simp
      · simp [h3 s hs]
theorem addN_nodup : ∀ (l ns : List Str), ns.Nodup → (addN ns l).Nodup
  | [], ns, h => h
  | x :: l, ns, h => by
    rw [addN_cons]
    split
    · exact addN_nodup l ns h
    · rename_i hx
      refine addN_nodup l _ ?_
      rw [List.nodup_append]
      refine ⟨h, by simp, fun a ha b hb e => hx (any_mem.2 ?_)⟩
      simp at hb; subst hb; exact e ▸ ha
theorem addN_all : ∀ (l ns : List Str), ∀ s ∈ l, s ∈ addN ns l
  | [], _, s, h => by simp at h
  | x :: l, ns, s, h => by
    rw [addN_cons]
    rcases List.mem_cons.1 h with rfl | h
    · split
      · rename_i hx
        obtain ⟨r, h1, _⟩ := addN_pre l ns
        rw [h1]; exact List.mem_append_left _ (any_mem.1 hx)
      · obtain ⟨r, h1, _⟩ := addN_pre l (ns ++ [s])
        rw [h1]; simp
    · exact addN_all l _ s h
theorem nth_app_l {t : Ty} {a b : List (D t)} {i : Nat} (h : i < a.length) : nth t (a ++ b) i = nth t a i := by rw [nth_append, if_pos h]
structure ScI (rd : Rd) (root : Str) (i : Nat) (ns : List Str) (os : List (D tObject)) : Prop where
  eq : scopeG rd (7 - i) i ns os = scopeOf rd root
  le : i ≤ 6
  lo : i ≤ ns.length
  pos : 0 < ns.length
  len : os.length = i
  hi : ns.length ≤ 1 + 4 * i
  head : nth .str ns 0 = root
  nd : ns.Nodup
  got : ∀ j, j < i → faultAt rd (nth .str ns j) = 0 ∧ nth tObject os j = objAt rd (nth .str ns j)
  want : ∀ j, j < ns.length → j ≠ 0 → ∃ k, k < i ∧ k < j ∧ nth .str ns j ∈ (nth tObject os k).1
  need : ∀ j, j < i → ∀ s ∈ (nth tObject os j).1, s ∈ ns
theorem ScI.zero (rd : Rd) (root : Str) : ScI rd root 0 [root] [] :=
  ⟨rfl, by omega, by simp, by simp, rfl, by simp, rfl, by simp, fun j h => by omega, fun j h h' => by simp at h; omega, fun j h => by omega⟩
theorem ScI.room {rd : Rd} {root : Str} {i : Nat} {ns : List Str} {os : List (D tObject)} (ok : RdOK rd) (h : ScI rd root i ns os) (hi : i < ns.length) (hf : faultAt rd (nth .str ns i) = 0) : i + 1 ≤ 6 := by
  obtain ⟨K, hK, hm⟩ := ok.few
  have hsub : ∀ y ∈ ns.take (i + 1), y ∈ K := by
    intro y hy
    obtain ⟨j, hj, rfl⟩ := mem_nth (t := .str) hy
    rw [List.length_take] at hj
    rw [nth_take (t := .str) (by omega)]
    refine hm _ (faultAt_zero ok ?_).1
    rcases Nat.lt_or_ge j i with hl | hl
    · exact (h.got j hl).1
    · rw [show j = i by omega]; exact hf
  have := nodup_len (h.nd.sublist (List.take_sublist (i + 1) ns)) hsub
  rw [List.length_take] at this
  omega
theorem ScI.fuel {rd : Rd} {root : Str} {i : Nat} {ns : List Str} {os : List (D tObject)} (h : ScI rd root i ns os) : scopeG rd (6 - i + 1) i ns os = scopeOf rd root := by
  rw [← h.eq]; congr 1; have := h.le; omega
theorem ScI.done {rd : Rd} {root : Str} {i : Nat} {ns : List Str} {os : List (D tObject)} (h : ScI rd root i ns os) (hi : ¬ i < ns.length) : scopeOf rd root = (ns, os, 0) := by
  rw [← h.fuel, scopeG, if_neg hi]
theorem objAt_ok {rd : Rd} (ok : RdOK rd) {s : Str} (hf : faultAt rd s = 0) : OkO (objAt rd s) := okO_of (objR_fault (faultAt_zero ok hf).2)
theorem ScI.next {rd : Rd} {root : Str} {i : Nat} {ns : List Str} {os : List (D tObject)} (ok : RdOK rd) (h : ScI rd root i ns os) (hi : i < ns.length) (hf : faultAt rd (nth .str ns i) = 0) :
    ScI rd root (i + 1) (addN ns (objAt rd (nth .str ns i)).1) (os ++ [objAt rd (nth .str ns i)]) := by
  have hr := h.room ok hi hf
  have ho := objAt_ok ok hf
  obtain ⟨r, h1, h2, h3⟩ := addN_pre (objAt rd (nth .str ns i)).1 ns
  have hn4 := ho.n4
  have hlen := h.len
  have hhi := h.hi
  have hpos := h.pos
  have hos : nth tObject (os ++ [objAt rd (nth .str ns i)]) i = objAt rd (nth .str ns i) := by rw [nth_append, if_neg (by omega), h.len, Nat.sub_self]; rfl
  have hns : ∀ j, j < ns.length → nth .str (addN ns (objAt rd (nth .str ns i)).1) j = nth .str ns j := fun j hj => by rw [h1, nth_app_l (t := .str) hj]
  have hoj : ∀ j, j < i → nth tObject (os ++ [objAt rd (nth .str ns i)]) j = nth tObject os j := fun j hj => nth_app_l (t := tObject) (by omega)
  refine ⟨?_, hr, by rw [h1, List.length_append]; omega, by rw [h1, List.length_append]; omega, by rw [List.length_append, h.len]; rfl, by rw [h1, List.length_append]; omega,
    by rw [hns 0 hpos]; exact h.head, addN_nodup _ _ h.nd, fun j hj => ?_, fun j hj h0 => ?_, fun j hj s hs => ?_⟩
  · rw [← h.fuel, scopeG, if_pos hi, if_pos hf]; congr 1; omega
  · rcases Nat.lt_or_ge j i with hl | hl
    · rw [hns j (by omega), hoj j hl]; exact h.got j hl
    · rw [show j = i by omega, hns i hi, hos]; exact ⟨hf, rfl⟩
  · rcases Nat.lt_or_ge j ns.length with hl | hl
    · obtain ⟨k, k1, k2, k3⟩ := h.want j hl h0
      exact ⟨k, by omega, k2, by rw [hns j hl, hoj k k1]; exact k3⟩
    · refine ⟨i, by omega, by omega, ?_⟩
      rw [hos, h1, nth_append, if_neg (by omega)]
      refine h3 _ (nth_mem (t := .str) ?_)
      rw [h1, List.length_append] at hj; omega
  · rcases Nat.lt_or_ge j i with hl | hl
    · rw [hoj j hl] at hs
      rw [h1]; exact List.mem_append_left _ (h.need j hl s hs)
    · rw [show j = i by omega, hos] at hs
      exact addN_all _ _ s hs
structure Scope (rd : Rd) (root : Str) (ns : List Str) (os : List (D tObject)) : Prop where
  le : ns.length ≤ 6
  pos : 0 < ns.length
  len : os.length = ns.length
  head : nth .str ns 0 = root
  nd : ns.Nodup
  got : ∀ j, j < ns.length → faultAt rd (nth .str ns j) = 0 ∧ nth tObject os j = objAt rd (nth .str ns j)
  want : ∀ j, j < ns.length → j ≠ 0 → ∃ k, k < j ∧ nth .str ns j ∈ (nth tObject os k).1
  need : ∀ j, j < ns.length → ∀ s ∈ (nth tObject os j).1, s ∈ ns
theorem FilesInv.rd {x : FZ} {r : RS} (h : FilesInv x r) : readFs x = findR r.1 := funext h.read
end Go.Mrl

namespace Go.Mrl
open Go.Vg
theorem goBases_prefix : ∀ {s : List Int} {l : List (D tRange)} {out o : List Int}, goBases l s out = some o → ∃ ext, o = out ++ ext ∧ ext.length = s.length := by
  intro s
  induction s with
  | nil => intro l out o h; simp only [goBases, Option.some.injEq] at h; exact ⟨[], by simp [h], rfl⟩
  | cons n r ih =>
    intro l out o h
    simp only [goBases] at h
    split at h
    · cases h
    · obtain ⟨ext, h1, h2⟩ := ih h
      exact ⟨_ :: ext, by rw [h1, List.append_assoc]; rfl, by simp [h2]⟩
theorem goBases_next {l : List (D tRange)} {s o : List Int} {k : Nat} (hk : k < s.length) (h : goBases l (s.drop k) (o.take k) = some o) (hl : o.length = s.length) :
    (nth (.int .i64) o k : Int) = baseAt l (roundF (nth (.int .i64) s k)) 40 0 ∧ baseAt l (roundF (nth (.int .i64) s k)) 40 0 + roundF (nth (.int .i64) s k) ≤ 256 ∧
    goBases (l ++ [(baseAt l (roundF (nth (.int .i64) s k)) 40 0, roundF (nth (.int .i64) s k), ())]) (s.drop (k + 1)) (o.take (k + 1)) = some o := by
  rw [goBases_step hk] at h
  split at h
  · cases h
  · rename_i hle
    obtain ⟨ext, h1, h2⟩ := goBases_prefix h
    have hlen : (o.take k).length = k := by rw [List.length_take]; omega
    have hget : o[k]? = some (baseAt l (roundF (nth (.int .i64) s k)) 40 0) := by
      rw [h1, List.append_assoc, List.getElem?_append_right (by omega), hlen, Nat.sub_self]; rfl
    refine ⟨nth_eq (t := .int .i64) hget, by omega, ?_⟩
    have : o.take (k + 1) = o.take k ++ [baseAt l (roundF (nth (.int .i64) s k)) 40 0] := by
      rw [List.take_add_one, hget]; rfl
    rw [this]; exact h
theorem basesF_nil {s : List Int} {l : List (D tRange)} (h : (basesF (s, l)).2.isNil = true) :
    s.length ≤ 6 ∧ l.length ≤ 20 ∧ (∀ j, j < s.length → 1 ≤ (nth (.int .i64) s j : Int) ∧ (nth (.int .i64) s j : Int) ≤ 40) ∧ (∀ y ∈ l, okR y) ∧ goBases l s [] = some (basesF (s, l)).1 ∧ (basesF (s, l)).1.length = s.length := by
  by_cases h1 : 6 < s.length ∨ 20 < l.length
  · rw [basesF_many h1] at h; cases h
  · by_cases h2 : badSizes s = true ∨ badTaken l = true
    · unfold basesF at h; rw [if_neg h1, if_pos h2] at h; cases h
    · have hs : ∀ j, j < s.length → 1 ≤ (nth (.int .i64) s j : Int) ∧ (nth (.int .i64) s j : Int) ≤ 40 := by
        intro j hj
        apply Classical.byContradiction
        intro hn
        rw [basesF_size h1 hj hn] at h; cases h
      have ht : ∀ j, j < l.length → okR (nth tRange l j) := by
        intro j hj
        apply Classical.byContradiction
        intro hn
        rw [basesF_taken h1 hj hn] at h; cases h
      rw [basesF_ok h1 hs ht] at h ⊢
      refine ⟨by omega, by omega, hs, fun y hy => ?_, ?_⟩
      · obtain ⟨i, hi, e⟩ := mem_nth (t := tRange) hy; rw [← e]; exact ht i hi
      · split at h
        · rename_i o ho
          obtain ⟨ext, k1, k2⟩ := goBases_prefix ho
          simp only [ho]
          exact ⟨trivial, by rw [k1]; simpa using k2⟩
        · cases h
end Go.Mrl
namespace Go.Mrl
open Go.Vg
theorem roundF_near {n : Int} : n ≤ roundF n ∧ roundF n < n + 16 := by unfold roundF; omega
end Go.Mrl

namespace Go.Mrl
open Go.Vg
def sumTo (s : List Int) : Nat → Int
  | 0 => 0
  | k + 1 => sumTo s k + roundF (nth (.int .i64) s k)
def Cont (l : List (Int × Int × Unit)) (S : Int) : Prop := 0 ≤ S ∧ (∃ m : Nat, S = 16 * (m : Int)) ∧ (∀ y ∈ l, y.1 + y.2.1 ≤ S) ∧ ∀ p : Int, 0 ≤ p → p < S → ∃ y ∈ l, y.1 ≤ p ∧ p < y.1 + y.2.1
theorem Cont.nil : Cont [] 0 := ⟨Int.le_refl _, ⟨0, rfl⟩, fun y hy => by simp at hy, fun p h1 h2 => by omega⟩
theorem Cont.snoc {l : List (Int × Int × Unit)} {S m : Int} (h : Cont l S) (hm : 0 < m) (h16 : ∃ k : Nat, m = 16 * (k : Int)) : Cont (l ++ [(S, m, ())]) (S + m) := by
  obtain ⟨h1, ⟨a, h2⟩, h3, h4⟩ := h
  obtain ⟨k, h5⟩ := h16
  refine ⟨by omega, ⟨a + k, by omega⟩, fun y hy => ?_, fun p h6 h7 => ?_⟩
  · rcases List.mem_append.1 hy with hy | hy
    · have := h3 y hy; omega
    · simp only [List.mem_singleton] at hy; subst hy; simp only; omega
  · by_cases c : p < S
    · obtain ⟨y, hy, h8⟩ := h4 p h6 c
      exact ⟨y, by simp [hy], h8⟩
    · exact ⟨(S, m, ()), by simp, by simp only; omega⟩
theorem Cont.base {l : List (Int × Int × Unit)} {S many : Int} (h : Cont l S) (hm : 0 < many) : ∀ (n : Nat) (k : Nat), 16 * (k : Int) ≤ S → S - 16 * (k : Int) < 16 * (n : Int) → baseAt l many n (16 * (k : Int)) = S := by
  obtain ⟨h1, ⟨a, h2⟩, h3, h4⟩ := h
  intro n
  induction n with
  | zero => intro k hk hn; omega
  | succ n ih =>
    intro k hk hn
    by_cases c : 16 * (k : Int) = S
    · rw [c]
      apply baseAt_stop
      refine freeF_true fun j hj => ?_
      have := h3 _ (nth_mem (t := tRange) hj)
      rw [apartF_true]; simp only; omega
    · obtain ⟨y, hy, h8, h9⟩ := h4 (16 * (k : Int)) (by omega) (by omega)
      have hf : freeF (16 * (k : Int), many, ()) l = false := by
        obtain ⟨j, hj, e⟩ := mem_nth (t := tRange) hy
        refine freeF_false hj ?_
        rw [e, apartF_false]; simp only; omega
      rw [baseAt_go hf, show 16 * (k : Int) + 16 = 16 * ((k + 1 : Nat) : Int) by omega]
      exact ih (k + 1) (by omega) (by omega)
theorem round16 {n : Int} (h : 1 ≤ n) : ∃ k : Nat, roundF n = 16 * (k : Int) := ⟨((n + 15) / 16).toNat, by unfold roundF; omega⟩
theorem sumTo_mono {s : List Int} (hs : ∀ j, j < s.length → 1 ≤ (nth (.int .i64) s j : Int) ∧ (nth (.int .i64) s j : Int) ≤ 40) : ∀ d k, k + d ≤ s.length → sumTo s k ≤ sumTo s (k + d) := by
  intro d
  induction d with
  | zero => intro k _; exact Int.le_refl _
  | succ d ih =>
    intro k hk
    have h1 := ih k (by omega)
    have h2 := hs (k + d) (by omega)
    have h3 := roundF_range h2.1 h2.2
    have e : sumTo s (k + (d + 1)) = sumTo s (k + d) + roundF (nth (.int .i64) s (k + d)) := rfl
    rw [e]
    omega
end Go.Mrl

namespace Go.Mrl
open Go.Vg
theorem bases_at {s : List Int} (hs : ∀ j, j < s.length → 1 ≤ (nth (.int .i64) s j : Int) ∧ (nth (.int .i64) s j : Int) ≤ 40) : ∀ (d k : Nat) {l : List (Int × Int × Unit)} {o : List Int}, k + d = s.length → Cont l (sumTo s k) → sumTo s k ≤ 256 →
    o.length = s.length → goBases l (s.drop k) (o.take k) = some o → sumTo s s.length ≤ 256 ∧ ∀ i, k ≤ i → i < s.length → (nth (.int .i64) o i : Int) = sumTo s i := by
  intro d
  induction d with
  | zero =>
    intro k l o hk hc hle hl h
    have e : k = s.length := by omega
    subst e
    exact ⟨hle, fun i h1 h2 => by omega⟩
  | succ d ih =>
    intro k l o hk hc hle hl h
    have h2 := hs k (by omega)
    have h3 := roundF_range h2.1 h2.2
    have hb := hc.base (many := roundF (nth (.int .i64) s k)) (by omega) 40 0 (by have := hc.1; omega) (by omega)
    simp only [Int.natCast_zero, Int.mul_zero] at hb
    obtain ⟨n1, n2, n3⟩ := goBases_next (k := k) (by omega) h hl
    rw [hb] at n1 n2 n3
    have e : sumTo s (k + 1) = sumTo s k + roundF (nth (.int .i64) s k) := rfl
    obtain ⟨r1, r2⟩ := ih (k + 1) (by omega) (l := l ++ [(sumTo s k, roundF (nth (.int .i64) s k), ())]) (by rw [e]; exact hc.snoc (by omega) (round16 h2.1)) (by omega) hl n3
    refine ⟨r1, fun i h4 h5 => ?_⟩
    rcases Nat.lt_or_ge k i with c | c
    · exact r2 i (by omega) h5
    · rw [show i = k by omega]; exact n1
theorem bases_sum {s : List Int} (h : (basesF (s, [])).2.isNil = true) : (basesF (s, [])).1.length = s.length ∧ (∀ j, j < s.length → 1 ≤ (nth (.int .i64) s j : Int) ∧ (nth (.int .i64) s j : Int) ≤ 40) ∧
    sumTo s s.length ≤ 256 ∧ ∀ i, i < s.length → (nth (.int .i64) (basesF (s, [])).1 i : Int) = sumTo s i := by
  obtain ⟨_, _, h3, _, h5, h6⟩ := basesF_nil h
  obtain ⟨r1, r2⟩ := bases_at h3 s.length 0 (l := []) (o := (basesF (s, [])).1) (by omega) Cont.nil (by simp [sumTo]) h6 (by rw [List.drop_zero, List.take_zero]; exact h5)
  exact ⟨h6, h3, r1, fun i hi => r2 i (Nat.zero_le _) hi⟩
def sizesF (l : List (D tObject)) : List Int := l.map fun o => (o.2.1.length : Int)
def wordsF (l : List (D tObject)) : Ws := l.map fun o => o.2.1
theorem sizesF_len (l : List (D tObject)) : (sizesF l).length = l.length := by simp [sizesF]
theorem wordsF_len (l : List (D tObject)) : (wordsF l).length = l.length := by simp [wordsF]
theorem nth_map {t u : Ty} {f : D u → D t} {l : List (D u)} {i : Nat} (h : i < l.length) : nth t (l.map f) i = f (nth u l i) := by
  unfold nth; rw [List.getD_eq_getElem?_getD, List.getD_eq_getElem?_getD, List.getElem?_map, List.getElem?_eq_getElem h]; rfl
theorem sizesF_nth {l : List (D tObject)} {i : Nat} (h : i < l.length) : (nth (.int .i64) (sizesF l) i : Int) = ((nth tObject l i).2.1.length : Int) := nth_map (u := tObject) (t := .int .i64) h
theorem wordsF_nth {l : List (D tObject)} {i : Nat} (h : i < l.length) : nth tRow (wordsF l) i = (nth tObject l i).2.1 := nth_map (u := tObject) (t := tRow) h
noncomputable def ptsK (l : List (D tObject)) (b : List Int) (i : Nat) (ts : List (D tTie)) : List Pt := ts.map fun t => ((i : Int), t.1, (oneF l b i t).1, ())
noncomputable def ptsI (l : List (D tObject)) (b : List Int) : List (D tObject) → Nat → List Pt
  | [], _ => []
  | o :: r, i => ptsK l b i o.2.2.2.1 ++ ptsI l b r (i + 1)
structure Reck (rd : Rd) (root : Str) (ns : List Str) (os : List (D tObject)) (bs : List Int) (ps : List Pt) : Prop where
  e : scopeOf rd root = (ns, os, 0)
  sc : Scope rd root ns os
  eb : basesF (sizesF os, []) = (bs, .nil)
  ea : allF (os, bs) = (ps, .nil)
  bl : bs.length = os.length
  bi : InB bs
  pt : ps = ptsI os bs os 0
  one : ∀ k, k < os.length → ∀ t ∈ (nth tObject os k).2.2.2.1, (oneF os bs (k : Int) t).2.isNil = true
  okp : ∀ i, i < ps.length → okP (wordsF os) (nth tPatch ps i)
theorem Scope.obj {rd : Rd} {root : Str} {ns : List Str} {os : List (D tObject)} (ok : RdOK rd) (h : Scope rd root ns os) {i : Nat} (hi : i < os.length) : OkO (nth tObject os i) := by
  have := h.got i (by rw [← h.len]; exact hi)
  rw [this.2]; exact objAt_ok ok this.1
theorem Reck.put {rd : Rd} {root : Str} {ns : List Str} {os : List (D tObject)} {bs : List Int} {ps : List Pt} (h : Reck rd root ns os bs ps) : putF (wordsF os, ps) = (putL (wordsF os) ps, .nil) := putF_ok h.okp
theorem Reck.row {rd : Rd} {root : Str} {ns : List Str} {os : List (D tObject)} {bs : List Int} {ps : List Pt} (h : Reck rd root ns os bs ps) {i : Nat} (hi : i < os.length) : nth tRow (putL (wordsF os) ps) i = rowL (nth tObject os i).2.1 i ps := by
  have := putF_row (w := wordsF os) (l := ps) (i := i) (by rw [wordsF_len]; exact hi) h.okp
  rw [h.put, wordsF_nth hi] at this
  exact this
theorem Reck.sum {rd : Rd} {root : Str} {ns : List Str} {os : List (D tObject)} {bs : List Int} {ps : List Pt} (h : Reck rd root ns os bs ps) :
    (∀ j, j < os.length → 1 ≤ (nth tObject os j).2.1.length ∧ (nth tObject os j).2.1.length ≤ 40) ∧ sumTo (sizesF os) os.length ≤ 256 ∧ ∀ i, i < os.length → (nth (.int .i64) bs i : Int) = sumTo (sizesF os) i := by
  have hb : (basesF (sizesF os, [])).2.isNil = true := by rw [h.eb]; rfl
  have hn : (basesF (sizesF os, [])).1 = bs := by rw [h.eb]
  obtain ⟨_, h2, h3, h4⟩ := bases_sum hb
  rw [hn] at h4
  have hl := sizesF_len os
  refine ⟨fun j hj => ?_, by rw [hl] at h3; exact h3, fun i hi => h4 i (by omega)⟩
  have := h2 j (by omega)
  rw [sizesF_nth hj] at this
  exact ⟨Int.ofNat_le.1 this.1, Int.ofNat_le.1 this.2⟩
theorem Reck.apart {rd : Rd} {root : Str} {ns : List Str} {os : List (D tObject)} {bs : List Int} {ps : List Pt} (h : Reck rd root ns os bs ps) {i j : Nat} (hij : i < j) (hj : j < os.length) :
    (nth (.int .i64) bs i : Int) + (nth tObject os i).2.1.length ≤ nth (.int .i64) bs j := by
  obtain ⟨h1, h2, h3⟩ := h.sum
  have hs : ∀ j, j < (sizesF os).length → 1 ≤ (nth (.int .i64) (sizesF os) j : Int) ∧ (nth (.int .i64) (sizesF os) j : Int) ≤ 40 := by
    intro k hk
    rw [sizesF_len] at hk
    rw [sizesF_nth hk]
    have := h1 k hk
    exact ⟨Int.ofNat_le.2 this.1, Int.ofNat_le.2 this.2⟩
  have hm := sumTo_mono hs (j - (i + 1)) (i + 1) (by rw [sizesF_len]; omega)
  rw [show i + 1 + (j - (i + 1)) = j by omega] at hm
  have e : sumTo (sizesF os) (i + 1) = sumTo (sizesF os) i + roundF (nth (.int .i64) (sizesF os) i) := rfl
  have hr := (roundF_near (n := nth (.int .i64) (sizesF os) i)).1
  rw [sizesF_nth (by omega)] at hr e
  rw [h3 i (by omega), h3 j hj]
  exact Int.le_trans (Int.add_le_add_left hr _) (e ▸ hm)
end Go.Mrl

namespace Go.Mrl
open Go.Vg
def stampsF (rd : Rd) (ns : List Str) (bs : List Int) (n : Nat) : List (D tStamped) := (List.range n).map fun i => (nth .str ns i, (rd (nth .str ns i)).2.1, nth (.int .i64) bs i, ())
theorem stampsF_len (rd : Rd) (ns : List Str) (bs : List Int) (n : Nat) : (stampsF rd ns bs n).length = n := by simp [stampsF]
theorem stampsF_nth {rd : Rd} {ns : List Str} {bs : List Int} {n i : Nat} (h : i < n) : nth tStamped (stampsF rd ns bs n) i = (nth .str ns i, (rd (nth .str ns i)).2.1, nth (.int .i64) bs i, ()) := by
  apply nth_eq; simp [stampsF, h]
def freshP (rd : Rd) (p : D tStamped) : Bool := decide ((rd p.1).2.2 = 0) && decide ((rd p.1).2.1 = p.2.1)
def freshF (rd : Rd) (e : D tEntry) : Bool := e.2.1.all (freshP rd) && decide (0 < e.2.1.length)
theorem fresh_all {rd : Rd} {e : D tEntry} (h : ∀ i, i < e.2.1.length → freshP rd (nth tStamped e.2.1 i) = true) : freshF rd e = decide (0 < e.2.1.length) := by
  unfold freshF
  have : e.2.1.all (freshP rd) = true := List.all_eq_true.2 fun x hx => by
    obtain ⟨i, hi, rfl⟩ := mem_nth (t := tStamped) hx
    exact h i hi
  rw [this]; rfl
noncomputable def objsE (rd : Rd) (l : List (D tStamped)) : List (D tObject) := l.map fun p => (objR (rd p.1).1).1
theorem list_ext_nth {t : Ty} {a b : List (D t)} (hl : a.length = b.length) (h : ∀ i, i < a.length → nth t a i = nth t b i) : a = b := list_eq_nth (t := t) hl h
theorem Reck.fresh {rd : Rd} (ok : RdOK rd) {root : Str} {ns : List Str} {os : List (D tObject)} {bs : List Int} {ps : List Pt} (h : Reck rd root ns os bs ps) : freshF rd (root, stampsF rd ns bs ns.length, ps, ()) = true := by
  rw [fresh_all]
  · exact decide_eq_true (by show 0 < (stampsF rd ns bs ns.length).length; rw [stampsF_len]; exact h.sc.pos)
  · intro i hi
    have hi : i < ns.length := by have : i < (stampsF rd ns bs ns.length).length := hi; rwa [stampsF_len] at this
    show freshP rd (nth tStamped (stampsF rd ns bs ns.length) i) = true
    rw [stampsF_nth hi]
    unfold freshP
    rw [decide_eq_true (faultAt_zero ok (h.sc.got i hi).1).1, decide_eq_true rfl]; rfl
theorem Reck.objs {rd : Rd} {root : Str} {ns : List Str} {os : List (D tObject)} {bs : List Int} {ps : List Pt} (h : Reck rd root ns os bs ps) {rd' : Rd} (hs : ∀ s ∈ ns, (rd' s).1 = (rd s).1) : objsE rd' (stampsF rd ns bs ns.length) = os := by
  refine list_ext_nth (t := tObject) (by simp [objsE, stampsF, h.sc.len]) fun i hi => ?_
  have hi' : i < ns.length := by simpa [objsE, stampsF] using hi
  unfold objsE
  rw [nth_map (u := tStamped) (t := tObject) (by rw [stampsF_len]; exact hi'), stampsF_nth hi', (h.sc.got i hi').2]
  unfold objAt
  rw [hs _ (nth_mem (t := .str) hi')]
def manyE (e : D tEntry) : Prop := e.2.1.length < 1 ∨ e.2.1.length > 6 ∨ e.2.2.1.length > 36
instance (e : D tEntry) : Decidable (manyE e) := by unfold manyE; infer_instance
end Go.Mrl

namespace Go.Mrl
open Go.Vg
open Classical in
noncomputable def sameO (a b : D tObject) : Bool := decide (a = b)
theorem sameO_self (a : D tObject) : sameO a a = true := by unfold sameO; simp
theorem sameO_true {a b : D tObject} (h1 : sameS a.1 b.1 = true) (h2 : sameI a.2.1 b.2.1 = true) (l3 : (a.2.2.1.length : Int) = b.2.2.1.length) (l4 : (a.2.2.2.1.length : Int) = b.2.2.2.1.length)
    (h3 : ∀ i, i < a.2.2.1.length → nth tSymbol a.2.2.1 i = nth tSymbol b.2.2.1 i) (h4 : ∀ i, i < a.2.2.2.1.length → nth tTie a.2.2.2.1 i = nth tTie b.2.2.2.1 i) : true = sameO a b := by
  obtain ⟨a1, a2, a3, a4, _⟩ := a
  obtain ⟨b1, b2, b3, b4, _⟩ := b
  have e1 : a1 = b1 := of_decide_eq_true h1
  have e2 : a2 = b2 := of_decide_eq_true h2
  have e3 : a3 = b3 := list_eq_nth (t := tSymbol) (Int.ofNat_inj.1 l3) h3
  have e4 : a4 = b4 := list_eq_nth (t := tTie) (Int.ofNat_inj.1 l4) h4
  rw [e1, e2, e3, e4]; exact (sameO_self _).symm
theorem sameO_ne {a b : D tObject} (h : ¬ a = b) : false = sameO a b := by unfold sameO; simp [h]
theorem sameO_s {a b : D tObject} (h : sameS a.1 b.1 = false) : false = sameO a b := sameO_ne fun e => of_decide_eq_false h (by rw [e])
theorem sameO_i {a b : D tObject} (h : sameI a.2.1 b.2.1 = false) : false = sameO a b := sameO_ne fun e => of_decide_eq_false h (by rw [e])
theorem sameO_l3 {a b : D tObject} (h : ¬ (a.2.2.1.length : Int) = b.2.2.1.length) : false = sameO a b := sameO_ne fun e => h (by rw [e])
theorem sameO_l4 {a b : D tObject} (h : ¬ (a.2.2.2.1.length : Int) = b.2.2.2.1.length) : false = sameO a b := sameO_ne fun e => h (by rw [e])
theorem sameO_y {a b : D tObject} {i : Nat} (h : ¬ nth tSymbol a.2.2.1 i = nth tSymbol b.2.2.1 i) : false = sameO a b := sameO_ne fun e => h (by rw [e])
theorem sameO_t {a b : D tObject} {i : Nat} (h : ¬ nth tTie a.2.2.2.1 i = nth tTie b.2.2.2.1 i) : false = sameO a b := sameO_ne fun e => h (by rw [e])
theorem textR_zero {o : D tObject} (h : faultO o ≤ 0) : (textR o).1 = (textN o).1 ∧ sameE (textR o).2 (textN o).2 = true := by
  have h0 : faultO o = 0 := by have := faultO_nonneg o; omega
  unfold textR textN
  rw [if_neg (not_not_intro h0)]
  split
  · exact ⟨rfl, rfl⟩
  · exact ⟨rfl, rfl⟩
theorem same_fault (o : D tObject) : sameE (errNo (faultO o)) (faultO o) = true := sameE_errNo (faultO_nonneg o)
theorem same_obj (s : Str) : sameE (errNo (objR s).2) (objR s).2 = true := sameE_errNo (objR_nonneg s)
def lit0 : Str := [110, 101, 101, 100, 32, 98, 10, 119, 111, 114, 100, 32, 53, 10, 119, 101, 97, 107, 32, 115, 121, 109, 98, 111, 108, 32, 120, 32, 48, 10, 110, 101, 97, 114, 32, 48, 32, 45, 49, 32, 121, 10]
theorem obj_x : objR lit0 = (([[98]], [5], [([120], 0, true, ())], [(0, 3, -1, [121], false, ())], ()), 0) := by
  have i5 : Lib.itoa 5 = [53] := by rw [itoa_one (by decide) (by decide)]; rfl
  have i0 : Lib.itoa 0 = [48] := by rw [itoa_one (by decide) (by decide)]; rfl
  have i1 : Lib.itoa (-1) = [45, 49] := by rw [itoa_neg' (by decide), itoa_one (by decide) (by decide)]; rfl
  refine objR_ok (by decide) (by decide) ?_
  simp only [textO, pre3, pre2, pre1, pre0, needT, wordT, symT, tieT, weakT, List.length_singleton, List.take_succ_cons, List.take_zero, List.flatMap_cons, List.flatMap_nil, i5, i0, i1]
  decide
end Go.Mrl

namespace Go.Vg
open Go
theorem lift_shaped {H : Type} {enc : TypeId × Value → H} {a : Assume} {C : Checked} {os : Os} {f : FuncId} {fn : Func} {s : ChangeSpec} {conds : List PathCond} {apart fresh handsOn again : Bool} {X : World → Array Value → Prop}
    (hX : ∀ (w w' : World) (args : Array Value), w.heap = w'.heap → X w args → X w' args)
    (own : ownKnob C.prog.godebug = none) (started : os.Started) (noInit : C.prog.inits.idxOf? f = none) (hfn : C.prog.funcs[f]? = some fn)
    (witness : ∃ (w : World) (tape : Tape) (i : Input), w.os = os ∧ (w.forCall tape i).Shaped C.prog ∧ i.vars = [] ∧ Input.okWide C.prog (w.forCall tape i) .any w.heap.size f i ∧
      ((s.pre enc C.prog fn conds apart (w.forCall tape i).memory i.args ∧ X (w.forCall tape i).memory i.args) ∧ sizedMet enc C.prog fn (OpenSpec.ofChange s) apart (w.forCall tape i).memory i.args) ∧ a.holds C.prog (lone (Frame.enter C.prog f i.args .normal) [] (w.forCall tape i)))
    (contract : ∀ (W : World) (base : Nat) (args : Array Value) (ds gs : List (DataW H)) (before : List MemPlace),
      (∀ (j : Nat) t v, fn.params[j]? = some t → args[j]? = some v → Value.okWide C.prog W .any base t v) →
      DataW.Whole enc C.prog fn.params.toList s.vars apart W args.toList ds gs before →
      X W args → W.ShapedOpen C.prog →
      Calls C.prog f args W fun e W' => ∃ v, e = .returned v ∧ s.post enc C.prog fn apart fresh handsOn again W args v W') :
    ReturnsInHanded a C os f .any (fun w args => (s.pre enc C.prog fn conds apart w args ∧ X w args) ∧ sizedMet enc C.prog fn (OpenSpec.ofChange s) apart w args) (s.post enc C.prog fn apart fresh handsOn again) := by
  refine returnsInHanded_of_calls own started noInit witness ?_
  intro w tape i _ hsh _ hok hpre hholds
  obtain ⟨_, _, _, fn', hfn', _, _, _, _, hval⟩ := hok
  have e : fn' = fn := Option.some.inj (hfn'.symm.trans hfn)
  subst e
  obtain ⟨⟨⟨ds, gs, before, hw, hc⟩, hx⟩, hz⟩ := hpre
  have hw' := DataW.Whole.of_heap (w' := w.forCall tape i) (by rfl) hw
  refine (contract (w.forCall tape i) w.heap.size i.args ds gs before hval hw' (hX _ _ _ (by rfl) hx) hsh).mono fun e W' ⟨v, he, hp⟩ => ?_
  subst he
  exact ChangeSpec.post_blind hp
theorem int_of_shape {P : Program} {w : World} {g : Nat} {t : TypeId} {zero : Array Value} (h : w.ShapedOpen P) (hg : g < P.globals.size)
    (h0 : ((begin P (fun _ _ => 0) default).world.heap[g]?).bind Obj.row? = some (zero, t)) (hz : zero.size = 1)
    (hb : P.buildable t = true) (hc : P.cellTypes P.depth t = some [t]) (hu : P.underlying t = some (.int .i64)) : ∃ m, w.cell? ⟨g, 0, none⟩ = some (.int .i64 m) := by
  obtain ⟨cs, hh, hs, hr⟩ := h.1 g zero t hg h0
  obtain ⟨ts, hts, _, hall⟩ := hr hb
  rw [hc] at hts
  cases hts
  have h1 : 0 < cs.size := by omega
  obtain ⟨u, hu', hok⟩ := hall 0 cs[0] (by simp [h1])
  have : u = t := by simpa using hu'.symm
  subst this
  have hcell : w.cell? ⟨g, 0, none⟩ = some cs[0] := by simp [World.cell?, hh, h1]
  rw [hcell]
  unfold Cell.ok at hok
  rw [hu] at hok
  cases hv : cs[0] <;> rw [hv] at hok <;> first | exact hok.elim | (obtain ⟨rfl, _⟩ := hok; exact ⟨_, rfl⟩) | simp at hok
def isIfc : Option TypeDesc → Bool
  | some (.interface _) => true
  | _ => false
theorem iface_of_reads {P : Program} {W : World} {name nm : String} {d : DataW Unit} {g : Nat} {t : TypeId}
    (hg : P.globalNamed name = some g) (hty : (P.globals[g]?).map (·.type) = some t) (hi : isIfc (P.underlying t) = true)
    (h : Lib.VarReads P W name (.iface nm d)) : ∃ ev, W.cell? ⟨g, 0, none⟩ = some ev ∧ (ev = .nilIface ∨ ∃ te pe, ev = .iface te pe) := by
  obtain ⟨g', t', cs, fuel, p, hg', ht', hvar, hd⟩ := h
  obtain rfl := Option.some.inj (hg.symm.trans hg')
  obtain rfl := Option.some.inj (hty.symm.trans ht')
  have hc := World.var?_cell hg hvar 0
  obtain ⟨ms, hu⟩ : ∃ ms, P.underlying t = some (.interface ms) := by
    unfold isIfc at hi
    split at hi
    · rename_i ms hm; exact ⟨ms, hm⟩
    · cases hi
  cases fuel with
  | zero => simp [DataW.trod] at hd
  | succ n =>
    cases hl : cs.toList with
    | nil => rw [hl] at hd; simp [DataW.trod, hu] at hd
    | cons v r =>
      have h0 : cs[0]? = some v := by rw [← Array.getElem?_toList, hl]; rfl
      rw [h0] at hc
      refine ⟨v, hc, ?_⟩
      rw [hl] at hd
      cases v <;> first | exact .inl rfl | exact .inr ⟨_, _, rfl⟩ | (simp [DataW.trod, hu] at hd)
theorem tab_of_reads {P : Program} {W : World} {name : String} {k : IntKind} {zs : List Int} {g : Nat} {t e : TypeId} {n : Nat}
    (hg : P.globalNamed name = some g) (hty : (P.globals[g]?).map (·.type) = some t) (ht : P.underlying t = some (.array n e)) (he : P.underlying e = some (.int k)) (hce : P.cellsOf e = 1) (hct : P.cellsOf t = n)
    (h : Lib.VarReads P W name (Lib.tabData k zs)) : Lib.TabIs P W name k zs := by
  obtain ⟨g', t', cs, fuel, p, hg', ht', hvar, hd⟩ := h
  obtain rfl := Option.some.inj (hg.symm.trans hg')
  obtain rfl := Option.some.inj (hty.symm.trans ht')
  unfold Lib.TabIs
  rw [hvar, ← Lib.cells_of_tab ht he hce hct hd]
end Go.Vg

