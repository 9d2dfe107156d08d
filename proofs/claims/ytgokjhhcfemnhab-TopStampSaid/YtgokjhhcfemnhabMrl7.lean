/- A part of the proof that the law TopStamp holds of the given program: facts that are used there. -/
import Derived.Test.YtgokjhhcfemnhabMrl2
set_option linter.unusedSimpArgs false
set_option linter.unusedVariables false
namespace Go.Mrl
open Go.Vg
/-! Tables of symbols, as plain functions. -/
def tab (n : Nat) (f : Nat → Int) : List Int := (List.range n).map f
theorem tab_length (n : Nat) (f : Nat → Int) : (tab n f).length = n := by simp [tab]
theorem tab_get {n i : Nat} {f : Nat → Int} (h : i < n) : (tab n f)[i]? = some (f i) := by simp [tab, h]
theorem tab_nth {n i : Nat} {f : Nat → Int} (h : i < n) : nth (.int .i64) (tab n f) i = f i := nth_eq (t := .int .i64) (tab_get h)
theorem tab_set {n i : Nat} {f : Nat → Int} (v : Int) : (tab n f).set i v = tab n (fun j => if j = i then v else f j) := by
  apply List.ext_getElem?
  intro j
  rw [List.getElem?_set]
  by_cases hj : j < n
  · rw [tab_get hj, tab_get hj, tab_length]
    by_cases e : i = j
    · subst e; simp [hj]
    · rw [if_neg e, if_neg (fun e' => e e'.symm)]
  · have h1 : (tab n f)[j]? = none := List.getElem?_eq_none (by rw [tab_length]; omega)
    have h2 : (tab n (fun j => if j = i then v else f j))[j]? = none := List.getElem?_eq_none (by rw [tab_length]; omega)
    rw [h1, h2, tab_length]
    split
    · split
      · omega
      · rfl
    · rfl
theorem tab_ext {n : Nat} {f g : Nat → Int} (h : ∀ i, i < n → f i = g i) : tab n f = tab n g := by
  apply List.map_congr_left
  intro i hi
  exact h i (List.mem_range.1 hi)
theorem tab_replicate (n : Nat) (v : Int) : List.replicate n v = tab n (fun _ => v) := by
  apply List.ext_getElem?
  intro j
  by_cases hj : j < n
  · rw [tab_get hj, List.getElem?_replicate, if_pos hj]
  · rw [List.getElem?_replicate, if_neg hj, List.getElem?_eq_none (by rw [tab_length]; omega)]
def bucketN (l : List (D tSymbol)) (m j : Nat) : Nat := hashF (nth tSymbol l j).1 % m
def nextIn (l : List (D tSymbol)) (m h : Nat) : Nat → Nat → Int
  | _, 0 => -1
  | k, n + 1 => if bucketN l m k = h then (k : Int) else nextIn l m h (k + 1) n
def firstOf (l : List (D tSymbol)) (m h k : Nat) : Int := nextIn l m h k (l.length - k)
theorem firstOf_end (l : List (D tSymbol)) (m h : Nat) : firstOf l m h l.length = -1 := by simp [firstOf, nextIn]
theorem firstOf_step {l : List (D tSymbol)} {m h k : Nat} (hk : k < l.length) : firstOf l m h k = if bucketN l m k = h then (k : Int) else firstOf l m h (k + 1) := by
  unfold firstOf
  rw [show l.length - k = (l.length - (k + 1)) + 1 from by omega]
  rfl
def firstT (l : List (D tSymbol)) (m k : Nat) : List Int := tab m fun h => firstOf l m h k
def nextT (l : List (D tSymbol)) (m k : Nat) : List Int := tab l.length fun j => if j < k then 0 else firstOf l m (bucketN l m j) (j + 1)
def fillT (m i : Nat) : List Int := tab m fun h => if h < i then -1 else 0
theorem fillT_zero (m : Nat) : fillT m 0 = List.replicate m 0 := by rw [tab_replicate]; exact tab_ext fun i _ => by simp
theorem fillT_set {m i : Nat} : (fillT m i).set i (-1) = fillT m (i + 1) := by
  unfold fillT; rw [tab_set]; exact tab_ext fun j _ => by
    by_cases e : j = i
    · subst e; simp
    · simp only [if_neg e]; by_cases h : j < i
      · rw [if_pos h, if_pos (by omega)]
      · rw [if_neg h, if_neg (by omega)]
theorem fillT_full (l : List (D tSymbol)) (m : Nat) : fillT m m = firstT l m l.length := tab_ext fun i hi => by rw [if_pos hi, firstOf_end]
theorem nextT_full (l : List (D tSymbol)) (m : Nat) : nextT l m l.length = List.replicate l.length 0 := by
  rw [tab_replicate]; exact tab_ext fun i hi => by rw [if_pos hi]
theorem firstT_set {l : List (D tSymbol)} {m k : Nat} (hk : k < l.length) : (firstT l m (k + 1)).set (bucketN l m k) k = firstT l m k := by
  unfold firstT; rw [tab_set]; exact tab_ext fun j _ => by
    rw [firstOf_step hk]
    by_cases e : j = bucketN l m k
    · rw [if_pos e, if_pos e.symm]
    · rw [if_neg e, if_neg fun e' => e e'.symm]
theorem nextT_set {l : List (D tSymbol)} {m k : Nat} : (nextT l m (k + 1)).set k (firstOf l m (bucketN l m k) (k + 1)) = nextT l m k := by
  unfold nextT; rw [tab_set]; exact tab_ext fun j _ => by
    by_cases e : j = k
    · subst e; rw [if_pos rfl, if_neg (by omega)]
    · rw [if_neg e]
      by_cases h : j < k
      · rw [if_pos (by omega), if_pos h]
      · rw [if_neg (by omega), if_neg h]
def tableOf (l : List (D tSymbol)) (m : Nat) : D tTable := (firstT l m 0, nextT l m 0, ())
end Go.Mrl
namespace Go.Mrl
open Go.Vg
def makeF (x : List (D tSymbol) × Int) : D tTable × Err :=
  if x.2 < 1 ∨ 16 < x.2 then (([], [], ()), .no 1) else if 8 < x.1.length then (([], [], ()), .no 2) else (tableOf x.1 x.2.toNat, .nil)
end Go.Mrl
namespace Go.Mrl
open Go.Vg
theorem fillT_length (m i : Nat) : (fillT m i).length = m := by simp [fillT, tab_length]
theorem firstT_length (l : List (D tSymbol)) (m k : Nat) : (firstT l m k).length = m := by simp [firstT, tab_length]
theorem nextT_length (l : List (D tSymbol)) (m k : Nat) : (nextT l m k).length = l.length := by simp [nextT, tab_length]
theorem bucketN_lt {l : List (D tSymbol)} {m j : Nat} (h : 0 < m) : bucketN l m j < m := Nat.mod_lt _ h
theorem wrap_u32_small {n : Int} (h : 0 ≤ n) (h' : n < 4294967296) : IntKind.u32.wrap n = n := by
  have := u32_id (a := n.toNat) (by omega)
  rwa [Int.toNat_of_nonneg h] at this
theorem bucket_eq {l : List (D tSymbol)} {many x : Int} {j : Nat} (h1 : 1 ≤ many) (h2 : many ≤ 16)
    (hx : x = Int.tmod (↑(hashF (nth tSymbol l j).1) : Int) (IntKind.wrap IntKind.u32 many)) : x = (bucketN l many.toNat j : Int) := by
  rw [wrap_u32_small (by omega) (by omega)] at hx
  rw [hx, Int.tmod_eq_emod_of_nonneg (by omega)]
  unfold bucketN
  rw [Int.natCast_emod, Int.toNat_of_nonneg (by omega)]
theorem make_first {l : List (D tSymbol)} {m k : Nat} {x y : Int} (hk : k < l.length) (hx : x = (bucketN l m k : Int)) (hy : y = (k : Int)) : (firstT l m (k + 1)).set x.toNat y = firstT l m k := by
  subst hx hy; rw [Int.toNat_natCast]; exact firstT_set hk
theorem make_next {l : List (D tSymbol)} {m k : Nat} {x : Int} {j : Nat} (hm : 0 < m) (hx : x = (bucketN l m k : Int)) (hj : j = k) : (nextT l m (k + 1)).set j (nth (.int .i64) (firstT l m (k + 1)) x.toNat) = nextT l m k := by
  subst hx; rw [hj, Int.toNat_natCast]
  have : nth (.int .i64) (firstT l m (k + 1)) (bucketN l m k) = firstOf l m (bucketN l m k) (k + 1) := tab_nth (bucketN_lt hm)
  rw [this]; exact nextT_set
end Go.Mrl
