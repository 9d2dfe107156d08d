/- A part of the proof that the law TopStamp holds of the given program: facts that are used there. -/
import Derived.Test.YtgokjhhcfemnhabMrl15
import Derived.Test.YtgokjhhcfemnhabMrl11
set_option linter.unusedSimpArgs false
set_option linter.unusedVariables false
namespace Go.Mrl
open Go.Vg
/-! Words that are patched. -/
@[reducible] def tRow : Ty := .slice (.int .i64)
@[reducible] def tWords : Ty := .slice tRow
abbrev Pt := Int × Int × Int × Unit
abbrev Ws := List (List Int)
def okP (w : Ws) (p : Pt) : Prop := 0 ≤ p.1 ∧ p.1 < w.length ∧ 0 ≤ p.2.1 ∧ p.2.1 < (nth tRow w p.1.toNat).length
def put1 (w : Ws) (p : Pt) : Ws := w.set p.1.toNat ((nth tRow w p.1.toNat).set p.2.1.toNat p.2.2.1)
def putL (w : Ws) (l : List Pt) : Ws := l.foldl put1 w
open Classical in
noncomputable def putF (x : Ws × List Pt) : Ws × Err := if ∀ i, i < x.2.length → okP x.1 (nth tPatch x.2 i) then (putL x.1 x.2, .nil) else ([], .no 1)
theorem nth_set_ne {t : Ty} {l : List (D t)} {i j : Nat} {x : D t} (h : ¬ i = j) : nth t (l.set i x) j = nth t l j := by
  unfold nth; simp only [List.getD_eq_getElem?_getD]; rw [List.getElem?_set_ne h]
theorem nth_set_eq {t : Ty} {l : List (D t)} {i : Nat} {x : D t} (h : i < l.length) : nth t (l.set i x) i = x := by
  unfold nth; simp only [List.getD_eq_getElem?_getD]; rw [List.getElem?_set_self h]; rfl
theorem put1_length (w : Ws) (p : Pt) : (put1 w p).length = w.length := by simp [put1]
theorem put1_nth (w : Ws) (p : Pt) (i : Nat) : nth tRow (put1 w p) i = if i < w.length ∧ p.1.toNat = i then (nth tRow w i).set p.2.1.toNat p.2.2.1 else nth tRow w i := by
  unfold put1
  by_cases c : p.1.toNat = i
  · subst c
    by_cases c2 : p.1.toNat < w.length
    · rw [if_pos ⟨c2, rfl⟩, nth_set_eq (t := tRow) c2]
    · rw [if_neg (fun h => c2 h.1), List.set_eq_of_length_le (by omega)]
  · rw [if_neg (fun h => c h.2), nth_set_ne (t := tRow) c]
theorem put1_rows (w : Ws) (p : Pt) (i : Nat) : (nth tRow (put1 w p) i).length = (nth tRow w i).length := by
  rw [put1_nth]; split <;> simp
theorem putL_length (l : List Pt) : ∀ w : Ws, (putL w l).length = w.length := by
  induction l with
  | nil => intro w; rfl
  | cons p l ih => intro w; show (putL (put1 w p) l).length = _; rw [ih, put1_length]
theorem putL_rows (l : List Pt) : ∀ (w : Ws) (i : Nat), (nth tRow (putL w l) i).length = (nth tRow w i).length := by
  induction l with
  | nil => intro w i; rfl
  | cons p l ih => intro w i; show (nth tRow (putL (put1 w p) l) i).length = _; rw [ih, put1_rows]
theorem putL_snoc (w : Ws) (l : List Pt) (p : Pt) : putL w (l ++ [p]) = put1 (putL w l) p := by simp [putL]
theorem take_snoc {t : Ty} {l : List (D t)} {k : Nat} (h : k < l.length) : l.take (k + 1) = l.take k ++ [nth t l k] := by
  rw [List.take_add_one, getElem?_nth h]; rfl
theorem putL_next {w : Ws} {l : List Pt} {k : Nat} (h : k < l.length) : put1 (putL w (l.take k)) (nth tPatch l k) = putL w (l.take (k + 1)) := by
  rw [take_snoc (t := tPatch) h, putL_snoc]
theorem okP_put (w : Ws) (l : List Pt) (p : Pt) : okP (putL w l) p ↔ okP w p := by
  unfold okP; rw [putL_length, putL_rows]
theorem putF_ok {w : Ws} {l : List Pt} (h : ∀ i, i < l.length → okP w (nth tPatch l i)) : putF (w, l) = (putL w l, .nil) := by unfold putF; rw [if_pos h]
theorem putF_bad {w : Ws} {l : List Pt} {i : Nat} (hi : i < l.length) (h : ¬ okP w (nth tPatch l i)) : putF (w, l) = ([], .no 1) := by
  unfold putF; rw [if_neg (fun hh => h (hh i hi))]
/-- What becomes of one row. -/
def rowL (r : List Int) (i : Nat) : List Pt → List Int
  | [] => r
  | p :: l => rowL (if p.1 = (i : Int) then r.set p.2.1.toNat p.2.2.1 else r) i l
theorem rowL_snoc (i : Nat) (p : Pt) : ∀ (l : List Pt) (r : List Int), rowL r i (l ++ [p]) = if p.1 = (i : Int) then (rowL r i l).set p.2.1.toNat p.2.2.1 else rowL r i l
  | [], _ => rfl
  | _ :: l, _ => rowL_snoc i p l _
theorem rowL_length (i : Nat) : ∀ (l : List Pt) (r : List Int), (rowL r i l).length = r.length
  | [], _ => rfl
  | _ :: l, _ => by rw [rowL, rowL_length i l]; split <;> simp
theorem putL_row_ {w : Ws} {i : Nat} (hi : i < w.length) : ∀ {l : List Pt} (_ : ∀ p ∈ l, 0 ≤ p.1), nth tRow (putL w l) i = rowL (nth tRow w i) i l := by
  intro l
  induction l generalizing w with
  | nil => intro _; rfl
  | cons p l ih =>
    intro h
    show nth tRow (putL (put1 w p) l) i = _
    rw [ih (by rw [put1_length]; exact hi) (fun q hq => h q (by simp [hq])), put1_nth, rowL]
    have hp := h p (by simp)
    by_cases c : p.1 = (i : Int)
    · rw [if_pos ⟨hi, by omega⟩, if_pos c]
    · rw [if_neg (fun h => by omega), if_neg c]
theorem rowL_hit {r : List Int} {i k : Nat} {p : List Pt} (h : k < p.length) (e : (nth tPatch p k).1 = (i : Int)) : (rowL r i (p.take k)).set (nth tPatch p k).2.1.toNat (nth tPatch p k).2.2.1 = rowL r i (p.take (k + 1)) := by
  rw [take_snoc (t := tPatch) h, rowL_snoc, if_pos e]
theorem rowL_miss {r : List Int} {i k : Nat} {p : List Pt} (h : k < p.length) (e : ¬ (nth tPatch p k).1 = (i : Int)) : rowL r i (p.take k) = rowL r i (p.take (k + 1)) := by
  rw [take_snoc (t := tPatch) h, rowL_snoc, if_neg e]
theorem putF_row {w : Ws} {l : List Pt} {i : Nat} (hi : i < w.length) (h : ∀ j, j < l.length → okP w (nth tPatch l j)) : nth tRow (putF (w, l)).1 i = rowL (nth tRow w i) i l := by
  rw [putF_ok h]
  refine putL_row_ hi fun p hp => ?_
  obtain ⟨j, hj, rfl⟩ := mem_nth (t := tPatch) hp
  exact (h j hj).1
/-- What becomes of one word. -/
def cellL (v : Int) (i k : Nat) : List Pt → Int
  | [] => v
  | p :: l => cellL (if p.1 = (i : Int) ∧ p.2.1 = (k : Int) then p.2.2.1 else v) i k l
theorem cellL_snoc (i k : Nat) (p : Pt) : ∀ (l : List Pt) (v : Int), cellL v i k (l ++ [p]) = if p.1 = (i : Int) ∧ p.2.1 = (k : Int) then p.2.2.1 else cellL v i k l
  | [], _ => rfl
  | _ :: l, _ => cellL_snoc i k p l _
theorem cellL_hit {v : Int} {i k j : Nat} {p : List Pt} (h : j < p.length) (e : (nth tPatch p j).1 = (i : Int)) (e2 : (nth tPatch p j).2.1 = (k : Int)) : (nth tPatch p j).2.2.1 = cellL v i k (p.take (j + 1)) := by
  rw [take_snoc (t := tPatch) h, cellL_snoc, if_pos ⟨e, e2⟩]
theorem cellL_miss {v : Int} {i k j : Nat} {p : List Pt} (h : j < p.length) (e : ¬ ((nth tPatch p j).1 = (i : Int) ∧ (nth tPatch p j).2.1 = (k : Int))) : cellL v i k (p.take j) = cellL v i k (p.take (j + 1)) := by
  rw [take_snoc (t := tPatch) h, cellL_snoc, if_neg e]
theorem nth_rowL (i k : Nat) : ∀ (l : List Pt) (r : List Int), k < r.length → (∀ p ∈ l, 0 ≤ p.2.1) → nth (.int .i64) (rowL r i l) k = cellL (nth (.int .i64) r k) i k l
  | [], _, _, _ => rfl
  | p :: l, r, hk, hp => by
    rw [rowL, cellL, nth_rowL i k l _ (by split <;> simp [hk]) (fun q hq => hp q (by simp [hq]))]
    congr 1
    have h0 := hp p (by simp)
    by_cases c : p.1 = (i : Int)
    · rw [if_pos c]
      by_cases c2 : p.2.1 = (k : Int)
      · rw [if_pos ⟨c, c2⟩, c2]; exact nth_set_eq (t := .int .i64) hk
      · rw [if_neg (fun h => c2 h.2)]; exact nth_set_ne (t := .int .i64) (by omega)
    · rw [if_neg c, if_neg (fun h => c h.1)]
theorem putF_nil {w : Ws} {l : List Pt} (h : (putF (w, l)).2.isNil = true) : ∀ i, i < l.length → okP w (nth tPatch l i) := by
  unfold putF at h
  split at h
  · assumption
  · cases h
theorem putF_err {w : Ws} {l : List Pt} (h : (putF (w, l)).2.isNil = false) : (putF (w, l)).1 = [] := by
  by_cases c : ∀ i, i < l.length → okP w (nth tPatch l i)
  · rw [putF_ok c] at h; cases h
  · unfold putF; rw [if_neg c]
theorem putF_len {w : Ws} {l : List Pt} (h : (putF (w, l)).2.isNil = true) : (putF (w, l)).1.length = w.length := by rw [putF_ok (putF_nil h)]; exact putL_length l w
theorem putF_rowlen {w : Ws} {l : List Pt} (h : (putF (w, l)).2.isNil = true) (i : Nat) : (nth tRow (putF (w, l)).1 i).length = (nth tRow w i).length := by rw [putF_ok (putF_nil h)]; exact putL_rows l w i
theorem putF_cell {w : Ws} {l : List Pt} (h : (putF (w, l)).2.isNil = true) {i k : Nat} (hi : i < w.length) (hk : k < (nth tRow w i).length) :
    nth (.int .i64) (nth tRow (putF (w, l)).1 i) k = cellL (nth (.int .i64) (nth tRow w i) k) i k l := by
  rw [putF_row hi (putF_nil h)]
  refine nth_rowL i k l _ hk fun p hp => ?_
  obtain ⟨j, hj, rfl⟩ := mem_nth (t := tPatch) hp
  exact (putF_nil h j hj).2.2.1
theorem put_x : putF ([[1, 2]], [(0, 1, 5, ())]) = ([[1, 5]], .nil) := by
  rw [putF_ok]
  · rfl
  · intro i hi
    have : i < 1 := hi
    obtain rfl : i = 0 := by omega
    unfold okP; decide
end Go.Mrl
