/- A part of the proof that the law TopStamp holds of the given program: facts that are used there. -/
import Derived.Test.YtgokjhhcfemnhabMrl7
set_option linter.unusedSimpArgs false
set_option linter.unusedVariables false
namespace Go.Mrl
open Go.Vg
/-! The first one of some: sought from a place on. -/
def seek (p : Nat → Bool) : Nat → Nat → Int
  | _, 0 => -1
  | k, n + 1 => if p k = true then (k : Int) else seek p (k + 1) n
theorem seek_spec (p : Nat → Bool) : ∀ n k, (seek p k n = -1 ∧ ∀ j, k ≤ j → j < k + n → p j = false) ∨ ∃ j : Nat, seek p k n = j ∧ k ≤ j ∧ j < k + n ∧ p j = true ∧ ∀ i, k ≤ i → i < j → p i = false := by
  intro n
  induction n with
  | zero => intro k; exact .inl ⟨rfl, fun j h1 h2 => by omega⟩
  | succ n ih =>
    intro k
    by_cases h : p k = true
    · exact .inr ⟨k, by simp [seek, h], by omega, by omega, h, fun i h1 h2 => by omega⟩
    · have e : seek p k (n + 1) = seek p (k + 1) n := by simp [seek, h]
      have h0 : p k = false := by simpa using h
      rcases ih (k + 1) with ⟨h1, h2⟩ | ⟨j, h1, h2, h3, h4, h5⟩
      · refine .inl ⟨by rw [e, h1], fun j a b => ?_⟩
        by_cases ej : j = k
        · rw [ej]; exact h0
        · exact h2 j (by omega) (by omega)
      · refine .inr ⟨j, by rw [e, h1], by omega, by omega, h4, fun i a b => ?_⟩
        by_cases ei : i = k
        · rw [ei]; exact h0
        · exact h5 i (by omega) b
def nameIs (l : List (D tSymbol)) (s : List UInt8) (j : Nat) : Bool := (nth tSymbol l j).1 == s
/-- The first one from k on that has the name. -/
def wantF (l : List (D tSymbol)) (s : List UInt8) (k : Nat) : Int := seek (nameIs l s) k (l.length - k)
theorem wantF_end {l : List (D tSymbol)} {s : List UInt8} {k : Nat} (h : l.length ≤ k) : wantF l s k = -1 := by
  unfold wantF; rw [show l.length - k = 0 by omega]; rfl
theorem wantF_step {l : List (D tSymbol)} {s : List UInt8} {k : Nat} (h : k < l.length) : wantF l s k = if nameIs l s k = true then (k : Int) else wantF l s (k + 1) := by
  unfold wantF; rw [show l.length - k = (l.length - (k + 1)) + 1 by omega]; rfl
/-- A chain is followed. -/
def chase (nx : List Int) (l : List (D tSymbol)) (s : List UInt8) : Nat → Int → Int
  | 0, i => i
  | n + 1, i => if i < 0 ∨ (l.length : Int) ≤ i ∨ (nx.length : Int) ≤ i ∨ nameIs l s i.toNat = true then i else chase nx l s n (nth (.int .i64) nx i.toNat)
def clampF (l : List (D tSymbol)) (s : List UInt8) (r : Int) : Int := if r < 0 ∨ (l.length : Int) ≤ r ∨ nameIs l s r.toNat = false then -1 else r
def find3 (t : D tTable) (l : List (D tSymbol)) (s : List UInt8) : Int :=
  if t.1.length = 0 then -1 else clampF l s (chase t.2.1 l s l.length (nth (.int .i64) t.1 (hashF s % t.1.length)))
def findF (x : D tTable × List (D tSymbol) × List UInt8) : Int := find3 x.1 x.2.1 x.2.2
theorem chase_stop {nx : List Int} {l : List (D tSymbol)} {s : List UInt8} {n : Nat} {i : Int} (h : i < 0 ∨ (l.length : Int) ≤ i ∨ (nx.length : Int) ≤ i ∨ nameIs l s i.toNat = true) : chase nx l s n i = i := by
  cases n with
  | zero => rfl
  | succ n => simp only [chase]; rw [if_pos h]
theorem chase_go {nx : List Int} {l : List (D tSymbol)} {s : List UInt8} {n : Nat} {i : Int} (h : ¬ (i < 0 ∨ (l.length : Int) ≤ i ∨ (nx.length : Int) ≤ i ∨ nameIs l s i.toNat = true)) :
    chase nx l s (n + 1) i = chase nx l s n (nth (.int .i64) nx i.toNat) := by
  simp only [chase]; rw [if_neg h]
theorem findF_sound (o : D tTable) (l : List (D tSymbol)) (s : List UInt8) : findF (o, l, s) < 0 ∨ (findF (o, l, s) < (l.length : Int) ∧ nameIs l s (findF (o, l, s)).toNat = true) := by
  show find3 o l s < 0 ∨ (find3 o l s < (l.length : Int) ∧ nameIs l s (find3 o l s).toNat = true)
  unfold find3
  split
  · exact .inl (by omega)
  · generalize chase _ _ _ _ _ = r
    unfold clampF
    split
    · exact .inl (by omega)
    · rename_i h
      refine .inr ⟨by omega, ?_⟩
      cases e : nameIs l s r.toNat with
      | true => rfl
      | false => exact absurd (.inr (.inr e)) h
theorem find_end {t : D tTable} {l : List (D tSymbol)} {s : List UInt8} {n : Nat} {i : Int} (ne : ¬ t.1.length = 0) (h : chase t.2.1 l s n i = chase t.2.1 l s l.length (nth (.int .i64) t.1 (hashF s % t.1.length)))
    (stop : ¬ (0 < n ∧ 0 ≤ i ∧ i < l.length ∧ i < t.2.1.length ∧ ¬ (nth tSymbol l i.toNat).1 = s)) : findF (t, l, s) = clampF l s i := by
  show find3 t l s = _
  unfold find3
  rw [if_neg ne, ← h]
  congr 1
  cases n with
  | zero => rfl
  | succ n =>
    apply chase_stop
    by_cases h1 : i < 0
    · exact .inl h1
    · by_cases h2 : (l.length : Int) ≤ i
      · exact .inr (.inl h2)
      · by_cases h3 : (t.2.1.length : Int) ≤ i
        · exact .inr (.inr (.inl h3))
        · refine .inr (.inr (.inr ?_))
          by_cases h4 : (nth tSymbol l i.toNat).1 = s
          · simp [nameIs, h4]
          · exact absurd ⟨by omega, by omega, by omega, by omega, h4⟩ stop
theorem find_none {t : D tTable} {l : List (D tSymbol)} {s : List UInt8} {n : Nat} {i : Int} (ne : ¬ t.1.length = 0) (h : chase t.2.1 l s n i = chase t.2.1 l s l.length (nth (.int .i64) t.1 (hashF s % t.1.length)))
    (stop : ¬ (0 < n ∧ 0 ≤ i ∧ i < l.length ∧ i < t.2.1.length ∧ ¬ (nth tSymbol l i.toNat).1 = s)) (bad : ¬ (0 ≤ i ∧ i < l.length ∧ (nth tSymbol l i.toNat).1 = s)) : -1 = findF (t, l, s) := by
  rw [find_end ne h stop]
  unfold clampF
  rw [if_pos]
  by_cases h1 : i < 0
  · exact .inl h1
  · by_cases h2 : (l.length : Int) ≤ i
    · exact .inr (.inl h2)
    · refine .inr (.inr ?_)
      cases e : nameIs l s i.toNat with
      | false => rfl
      | true => exact absurd ⟨by omega, by omega, by simpa [nameIs] using e⟩ bad
theorem find_some {t : D tTable} {l : List (D tSymbol)} {s : List UInt8} {n : Nat} {i : Int} (ne : ¬ t.1.length = 0) (h : chase t.2.1 l s n i = chase t.2.1 l s l.length (nth (.int .i64) t.1 (hashF s % t.1.length)))
    (stop : ¬ (0 < n ∧ 0 ≤ i ∧ i < l.length ∧ i < t.2.1.length ∧ ¬ (nth tSymbol l i.toNat).1 = s)) (h1 : 0 ≤ i) (h2 : i < l.length) (h3 : (nth tSymbol l i.toNat).1 = s) : i = findF (t, l, s) := by
  rw [find_end ne h stop]
  unfold clampF
  rw [if_neg]
  rintro (h4 | h4 | h4)
  · omega
  · omega
  · simp [nameIs, h3] at h4
theorem hash_rem {s : List UInt8} {n : Nat} {x : Int} (h0 : 0 < n) (h1 : n < 4294967296) (hx : x = Int.tmod (↑(hashF s) : Int) (IntKind.wrap IntKind.u32 (n : Int))) : x = ((hashF s % n : Nat) : Int) := by
  rw [wrap_u32_small (by omega) (by omega)] at hx
  rw [hx, Int.tmod_eq_emod_of_nonneg (by omega)]; omega
theorem chase_table {l : List (D tSymbol)} {m : Nat} {s : List UInt8} : ∀ d k n, l.length - k = d → k ≤ l.length → d ≤ n →
    chase (nextT l m 0) l s n (firstOf l m (hashF s % m) k) = wantF l s k := by
  intro d
  induction d with
  | zero =>
    intro k n h1 h2 _
    have : k = l.length := by omega
    subst this
    rw [firstOf_end, wantF_end (Nat.le_refl _)]
    exact chase_stop (.inl (by omega))
  | succ d ih =>
    intro k n h1 h2 h3
    have hk : k < l.length := by omega
    rw [firstOf_step hk, wantF_step hk]
    by_cases hb : bucketN l m k = hashF s % m
    · rw [if_pos hb]
      by_cases hn : nameIs l s k = true
      · rw [if_pos hn]; exact chase_stop (.inr (.inr (.inr (by simpa using hn))))
      · rw [if_neg hn]
        obtain ⟨n', rfl⟩ : ∃ n', n = n' + 1 := ⟨n - 1, by omega⟩
        rw [chase_go (by simp [nextT_length]; exact ⟨hk, by simpa using hn⟩), Int.toNat_natCast]
        have : nth (.int .i64) (nextT l m 0) k = firstOf l m (hashF s % m) (k + 1) := by
          rw [← hb]
          have := tab_nth (n := l.length) (f := fun j => if j < 0 then 0 else firstOf l m (bucketN l m j) (j + 1)) hk
          rw [show nextT l m 0 = tab l.length (fun j => if j < 0 then 0 else firstOf l m (bucketN l m j) (j + 1)) from rfl, this, if_neg (by omega)]
        rw [this]
        exact ih (k + 1) n' (by omega) (by omega) (by omega)
    · rw [if_neg hb]
      have hn : ¬ nameIs l s k = true := by
        intro e
        have e : (nth tSymbol l k).1 = s := by simpa [nameIs] using e
        exact hb (by unfold bucketN; rw [e])
      rw [if_neg hn]
      exact ih (k + 1) n (by omega) (by omega) (by omega)
theorem findF_table {l : List (D tSymbol)} {m : Nat} {s : List UInt8} (hm : 0 < m) : findF (tableOf l m, l, s) = wantF l s 0 := by
  show find3 (tableOf l m) l s = _
  unfold find3 tableOf
  have hl : (firstT l m 0).length = m := firstT_length _ _ _
  simp only [hl]
  rw [if_neg (by omega)]
  have h0 : nth (.int .i64) (firstT l m 0) (hashF s % m) = firstOf l m (hashF s % m) 0 := tab_nth (Nat.mod_lt _ hm)
  rw [h0, chase_table (l.length) 0 l.length (by omega) (by omega) (Nat.le_refl _)]
  unfold clampF
  rcases seek_spec (nameIs l s) (l.length - 0) 0 with ⟨h1, h2⟩ | ⟨j, h1, h2, h3, h4, h5⟩
  · rw [if_pos (.inl (by unfold wantF; rw [h1]; omega))]; unfold wantF; rw [h1]
  · have e : wantF l s 0 = j := h1
    rw [e, if_neg]
    rintro (h | h | h)
    · omega
    · omega
    · rw [Int.toNat_natCast, h4] at h; cases h
end Go.Mrl
namespace Go.Mrl
open Go.Vg
def makeT (x : List (D tSymbol) × Int) : Dec (D tTable × Err) :=
  .ite (decide (x.2 < 1)) (.ret (([], [], ()), .no 1)) (.ite (decide (16 < x.2)) (.ret (([], [], ()), .no 1)) (.ite (decide (8 < x.1.length)) (.ret (([], [], ()), .no 2)) (.ret (tableOf x.1 x.2.toNat, .nil))))
theorem makeT_eval (x : List (D tSymbol) × Int) : makeF x = (makeT x).eval := by
  unfold makeF makeT
  by_cases h1 : x.2 < 1
  · simp [h1, Dec.eval]
  · by_cases h2 : 16 < x.2
    · simp [h1, h2, Dec.eval]
    · by_cases h3 : 8 < x.1.length
      · simp [h1, h2, h3, Dec.eval]
      · simp [h1, h2, h3, Dec.eval]
end Go.Mrl
namespace Go.Mrl
open Go.Vg
theorem rem_bucket {l : List (D tSymbol)} {many x : Int} {j : Nat} (h1 : 1 ≤ many) (hx : x = Int.tmod (↑(hashF (nth tSymbol l j).1) : Int) many) : x = (bucketN l many.toNat j : Int) := by
  rw [hx, Int.tmod_eq_emod_of_nonneg (by omega)]
  unfold bucketN
  rw [Int.natCast_emod, Int.toNat_of_nonneg (by omega)]
theorem firstT_nth {l : List (D tSymbol)} {m k b : Nat} (h : b < m) : nth (.int .i64) (firstT l m k) b = firstOf l m b k := tab_nth h
theorem nextT_nth {l : List (D tSymbol)} {m j : Nat} (h : j < l.length) : nth (.int .i64) (nextT l m 0) j = firstOf l m (bucketN l m j) (j + 1) := by
  have := tab_nth (n := l.length) (f := fun j => if j < 0 then 0 else firstOf l m (bucketN l m j) (j + 1)) h
  rw [show nextT l m 0 = tab l.length (fun j => if j < 0 then 0 else firstOf l m (bucketN l m j) (j + 1)) from rfl, this, if_neg (by omega)]
theorem firstOf_other {l : List (D tSymbol)} {m b k : Nat} (hk : k < l.length) (h : bucketN l m k ≠ b) : firstOf l m b k = firstOf l m b (k + 1) := by
  rw [firstOf_step hk, if_neg h]
theorem firstOf_here {l : List (D tSymbol)} {m b k : Nat} (hk : k < l.length) (h : bucketN l m k = b) : firstOf l m b k = k := by
  rw [firstOf_step hk, if_pos h]
theorem wantF_here {l : List (D tSymbol)} {s : List UInt8} {k : Nat} (hk : k < l.length) (h : (nth tSymbol l k).1 = s) : wantF l s k = k := by
  rw [wantF_step hk, if_pos (by simp [nameIs, h])]
theorem wantF_other {l : List (D tSymbol)} {s : List UInt8} {k : Nat} (hk : k < l.length) (h : ¬ (nth tSymbol l k).1 = s) : wantF l s k = wantF l s (k + 1) := by
  rw [wantF_step hk, if_neg (by simp [nameIs, h])]
end Go.Mrl
namespace Go.Mrl
open Go.Vg
def tabB (n : Nat) (f : Nat → Bool) : List Bool := (List.range n).map f
theorem tabB_length (n : Nat) (f : Nat → Bool) : (tabB n f).length = n := by simp [tabB]
theorem tabB_get {n i : Nat} {f : Nat → Bool} (h : i < n) : (tabB n f)[i]? = some (f i) := by simp [tabB, List.getElem?_range h]
theorem tabB_nth {n i : Nat} {f : Nat → Bool} (h : i < n) : nth .bool (tabB n f) i = f i := nth_eq (t := .bool) (tabB_get h)
theorem tabB_set {n i : Nat} {f : Nat → Bool} (v : Bool) : (tabB n f).set i v = tabB n (fun j => if j = i then v else f j) := by
  apply List.ext_getElem?
  intro j
  rw [List.getElem?_set]
  by_cases hj : j < n
  · rw [tabB_get hj]
    by_cases e : i = j
    · subst e; rw [if_pos rfl, if_pos (by rw [tabB_length]; exact hj), tabB_get hj, if_pos rfl]
    · rw [if_neg e, tabB_get hj, if_neg (fun h => e h.symm)]
  · have h1 : ∀ g : Nat → Bool, (tabB n g)[j]? = none := fun g => List.getElem?_eq_none (by rw [tabB_length]; omega)
    rw [h1, h1]
    split
    · rw [tabB_length, if_neg (by omega)]
    · rfl
theorem tabB_ext {n : Nat} {f g : Nat → Bool} (h : ∀ i, i < n → f i = g i) : tabB n f = tabB n g :=
  List.map_congr_left fun i hi => h i (List.mem_range.1 hi)
theorem tabB_replicate (n : Nat) (v : Bool) : List.replicate n v = tabB n (fun _ => v) := by
  simp [tabB, List.map_const']
/-- What a chain's walk has seen. -/
def seenT (l : List (D tSymbol)) (m b k : Nat) : List Bool := tabB l.length fun j => decide (bucketN l m j < b) || (decide (bucketN l m j = b) && decide (j < k))
theorem seenT_length (l : List (D tSymbol)) (m b k : Nat) : (seenT l m b k).length = l.length := tabB_length _ _
theorem seenT_zero (l : List (D tSymbol)) (m : Nat) : List.replicate l.length false = seenT l m 0 0 := by
  rw [tabB_replicate]; exact tabB_ext fun j _ => by simp
/-- Where a chain leads. -/
theorem firstOf_spec {l : List (D tSymbol)} {m b : Nat} : ∀ d k, l.length - k = d → (firstOf l m b k = -1 ∧ ∀ j, k ≤ j → j < l.length → bucketN l m j ≠ b) ∨
    ∃ j : Nat, firstOf l m b k = j ∧ k ≤ j ∧ j < l.length ∧ bucketN l m j = b ∧ ∀ i, k ≤ i → i < j → bucketN l m i ≠ b := by
  intro d
  induction d with
  | zero =>
    intro k hk
    refine .inl ⟨?_, fun j h1 h2 => by omega⟩
    unfold firstOf; rw [hk]; rfl
  | succ d ih =>
    intro k hk
    by_cases hb : bucketN l m k = b
    · exact .inr ⟨k, firstOf_here (by omega) hb, by omega, by omega, hb, fun i h1 h2 => by omega⟩
    · rw [firstOf_other (by omega) hb]
      rcases ih (k + 1) (by omega) with ⟨h1, h2⟩ | ⟨j, h1, h2, h3, h4, h5⟩
      · refine .inl ⟨h1, fun j a c => ?_⟩
        by_cases e : j = k
        · rw [e]; exact hb
        · exact h2 j (by omega) c
      · refine .inr ⟨j, h1, by omega, h3, h4, fun i a c => ?_⟩
        by_cases e : i = k
        · rw [e]; exact hb
        · exact h5 i (by omega) c
theorem firstOf_pos {l : List (D tSymbol)} {m b k : Nat} (h : 0 ≤ firstOf l m b k) : ∃ j : Nat, firstOf l m b k = j ∧ k ≤ j ∧ j < l.length ∧ bucketN l m j = b ∧ (∀ i, k ≤ i → i < j → bucketN l m i ≠ b) ∧
    nth .bool (seenT l m b k) j = false ∧ (seenT l m b k).set j true = seenT l m b (j + 1) := by
  rcases firstOf_spec (l := l) (m := m) (b := b) _ k rfl with ⟨h1, _⟩ | ⟨j, h1, h2, h3, h4, h5⟩
  · omega
  · refine ⟨j, h1, h2, h3, h4, h5, ?_, ?_⟩
    · unfold seenT; rw [tabB_nth h3]; simp [h4]; omega
    · unfold seenT; rw [tabB_set]
      refine tabB_ext fun i hi => ?_
      by_cases e : i = j
      · subst e; simp [h4]
      · rw [if_neg e]
        congr 1
        by_cases hb : bucketN l m i = b
        · have : ¬ (k ≤ i ∧ i < j) := fun ⟨a, c⟩ => h5 i a c hb
          simp only [hb, decide_true, Bool.true_and]
          by_cases q : i < k
          · simp [q]; omega
          · simp [q]; omega
        · simp [hb]
theorem seenT_next {l : List (D tSymbol)} {m b k : Nat} (h : firstOf l m b k < 0) : seenT l m b k = seenT l m (b + 1) 0 := by
  rcases firstOf_spec (l := l) (m := m) (b := b) _ k rfl with ⟨_, h2⟩ | ⟨j, h1, _⟩
  · unfold seenT
    refine tabB_ext fun i hi => ?_
    by_cases q : bucketN l m i = b
    · have : ¬ k ≤ i := fun a => h2 i a hi q
      simp [q]; omega
    · by_cases q' : bucketN l m i < b
      · simp [q']; omega
      · simp [q, q']; omega
  · exact absurd h (by rw [h1]; omega)
theorem seenT_all {l : List (D tSymbol)} {m i : Nat} (hm : 0 < m) (hi : i < l.length) : nth .bool (seenT l m m 0) i = true := by
  unfold seenT; rw [tabB_nth hi]; simp [bucketN_lt hm]
end Go.Mrl
namespace Go.Mrl
open Go.Vg
theorem wantF_first {l : List (D tSymbol)} {s : List UInt8} {k : Nat} (hk : k < l.length) (h : (nth tSymbol l k).1 = s) (hno : ∀ j, j < k → nameIs l s j = false) : wantF l s 0 = k := by
  have key : ∀ d i, k - i = d → i ≤ k → wantF l s i = k := by
    intro d
    induction d with
    | zero => intro i h1 h2; obtain rfl : i = k := by omega
              exact wantF_here hk h
    | succ d ih =>
      intro i h1 h2
      rw [wantF_step (by omega), if_neg (by rw [hno i (by omega)]; decide)]
      exact ih (i + 1) (by omega) (by omega)
  exact key k 0 (by omega) (by omega)
theorem wantF_none {l : List (D tSymbol)} {s : List UInt8} (hno : ∀ j, j < l.length → nameIs l s j = false) : wantF l s 0 = -1 := by
  rcases seek_spec (nameIs l s) (l.length - 0) 0 with ⟨h1, _⟩ | ⟨j, _, h2, h3, h4, _⟩
  · exact h1
  · rw [hno j (by omega)] at h4; cases h4
end Go.Mrl
namespace Go.Mrl
open Go.Vg
theorem nameIs_next {l : List (D tSymbol)} {s : List UInt8} {k : Nat} (h : ¬ (nth tSymbol l k).1 = s) (hno : ∀ j, j < k → nameIs l s j = false) {j : Nat} (hj : j < k + 1) : nameIs l s j = false := by
  by_cases e : j = k
  · subst e; simp [nameIs, h]
  · exact hno j (by omega)
end Go.Mrl
