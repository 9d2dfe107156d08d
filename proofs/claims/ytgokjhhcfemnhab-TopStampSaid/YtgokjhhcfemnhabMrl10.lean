/- A part of the proof that the law TopStamp holds of the given program: facts that are used there. -/
import Derived.Test.YtgokjhhcfemnhabMrl9
set_option linter.unusedSimpArgs false
set_option linter.unusedVariables false
namespace Go.Mrl
open Go.Vg
/-! Places, as plain functions. -/
def apartF (a b : Int × Int × Unit) : Bool := decide (a.2.1 ≤ 0) || (decide (b.2.1 ≤ 0) || (decide (a.1 + a.2.1 ≤ b.1) || decide (b.1 + b.2.1 ≤ a.1)))
theorem apartF_true {a b : Int × Int × Unit} : apartF a b = true ↔ a.2.1 ≤ 0 ∨ b.2.1 ≤ 0 ∨ a.1 + a.2.1 ≤ b.1 ∨ b.1 + b.2.1 ≤ a.1 := by simp [apartF]
theorem apartF_false {a b : Int × Int × Unit} : apartF a b = false ↔ 0 < a.2.1 ∧ 0 < b.2.1 ∧ b.1 < a.1 + a.2.1 ∧ a.1 < b.1 + b.2.1 := by simp [apartF]
def roundF (n : Int) : Int := (n + 15) / 16 * 16
def bnd (r : Int × Int × Unit) : Prop := -1000000 ≤ r.1 ∧ r.1 ≤ 1000000 ∧ -1000000 ≤ r.2.1 ∧ r.2.1 ≤ 1000000
def freeF (r : D tRange) (l : List (D tRange)) : Bool := l.all (apartF r)
theorem getElem?_nth {t : Ty} {xs : List (D t)} {i : Nat} (h : i < xs.length) : xs[i]? = some (nth t xs i) := by
  rw [List.getElem?_eq_getElem h, ← nth_eq (List.getElem?_eq_getElem h)]
theorem nth_mem {t : Ty} {xs : List (D t)} {i : Nat} (h : i < xs.length) : nth t xs i ∈ xs := by
  have := getElem?_nth (t := t) h
  exact List.mem_of_getElem? this
theorem mem_nth {t : Ty} {xs : List (D t)} {x : D t} (h : x ∈ xs) : ∃ i, i < xs.length ∧ nth t xs i = x := by
  obtain ⟨i, hi, e⟩ := List.getElem_of_mem h
  exact ⟨i, hi, by rw [← e]; exact nth_eq (List.getElem?_eq_getElem hi)⟩
theorem freeF_true {r : D tRange} {l : List (D tRange)} (h : ∀ j, j < l.length → apartF r (nth tRange l j) = true) : freeF r l = true := by
  unfold freeF; rw [List.all_eq_true]
  intro x hx
  obtain ⟨i, hi, e⟩ := mem_nth hx
  rw [← e]; exact h i hi
theorem freeF_false {r : D tRange} {l : List (D tRange)} {j : Nat} (h : j < l.length) (hf : apartF r (nth tRange l j) = false) : freeF r l = false := by
  unfold freeF; rw [List.all_eq_false]
  exact ⟨_, nth_mem h, by rw [hf]; decide⟩
theorem freeF_not {r : D tRange} {l : List (D tRange)} (h : freeF r l = false) : ∃ x ∈ l, apartF r x = false := by
  unfold freeF at h; rw [List.all_eq_false] at h
  obtain ⟨x, hx, e⟩ := h
  exact ⟨x, hx, by simpa using e⟩
def baseAt (l : List (D tRange)) (many : Int) : Nat → Int → Int
  | 0, at_ => at_
  | n + 1, at_ => if freeF (at_, many, ()) l = true then at_ else baseAt l many n (at_ + 16)
def goBases : List (D tRange) → List Int → List Int → Option (List Int)
  | _, [], out => some out
  | l, n :: r, out => if 256 < baseAt l (roundF n) 40 0 + roundF n then none else goBases (l ++ [(baseAt l (roundF n) 40 0, roundF n, ())]) r (out ++ [baseAt l (roundF n) 40 0])
def badSizes (s : List Int) : Bool := s.any fun (n : Int) => decide (n < 1) || decide (40 < n)
def badTaken (l : List (D tRange)) : Bool := l.any fun (r : Int × Int × Unit) => decide (r.1 < 0) || (decide (256 < r.1) || (decide (r.2.1 < 0) || decide (256 < r.2.1)))
def basesF (x : List Int × List (D tRange)) : List Int × Err :=
  if 6 < x.1.length ∨ 20 < x.2.length then ([], .no 2) else if badSizes x.1 = true ∨ badTaken x.2 = true then ([], .no 1) else
    match goBases x.2 x.1 [] with
    | some o => (o, .nil)
    | none => ([], .no 8)
theorem any_nth {t : Ty} {xs : List (D t)} {p : D t → Bool} {i : Nat} (h : i < xs.length) (hp : p (nth t xs i) = true) : xs.any p = true := by
  rw [List.any_eq_true]; exact ⟨_, nth_mem h, hp⟩
theorem any_not {t : Ty} {xs : List (D t)} {p : D t → Bool} (h : ∀ i, i < xs.length → p (nth t xs i) = false) : xs.any p = false := by
  rw [List.any_eq_false]; intro x hx
  obtain ⟨i, hi, e⟩ := mem_nth hx
  rw [← e, h i hi]; decide
theorem goBases_step {l : List (D tRange)} {s out : List Int} {k : Nat} (h : k < s.length) : goBases l (s.drop k) out =
    if 256 < baseAt l (roundF (nth (.int .i64) s k)) 40 0 + roundF (nth (.int .i64) s k) then none
    else goBases (l ++ [(baseAt l (roundF (nth (.int .i64) s k)) 40 0, roundF (nth (.int .i64) s k), ())]) (s.drop (k + 1)) (out ++ [baseAt l (roundF (nth (.int .i64) s k)) 40 0]) := by
  have e : s.drop k = nth (.int .i64) s k :: s.drop (k + 1) := by
    rw [List.drop_eq_getElem_cons h]
    congr 1
    exact (nth_eq (t := .int .i64) (List.getElem?_eq_getElem h)).symm
  rw [e]; rfl
theorem goBases_end {l : List (D tRange)} {s out : List Int} {k : Nat} (h : s.length ≤ k) : goBases l (s.drop k) out = some out := by
  rw [List.drop_eq_nil_of_le h]; rfl
/-- What lies in the window. -/
def okR (r : Int × Int × Unit) : Prop := 0 ≤ r.1 ∧ r.1 ≤ 256 ∧ 0 ≤ r.2.1 ∧ r.2.1 ≤ 256
theorem okR.bnd {r : Int × Int × Unit} (h : okR r) : Mrl.bnd r := by
  obtain ⟨h1, h2, h3, h4⟩ := h
  refine ⟨?_, ?_, ?_, ?_⟩ <;> omega
theorem free_near {l : List (D tRange)} {at_ many : Int} (hl : ∀ x ∈ l, okR x) (h : freeF (at_, many, ()) l = false) : at_ < 512 := by
  obtain ⟨x, hx, e⟩ := freeF_not h
  obtain ⟨h1, h2, h3, h4⟩ := hl x hx
  obtain ⟨h5, h6, h7, h8⟩ := apartF_false.1 e
  have h8 : at_ < x.1 + x.2.1 := h8
  omega
theorem baseAt_stop {l : List (D tRange)} {many at_ : Int} {n : Nat} (h : freeF (at_, many, ()) l = true) : baseAt l many n at_ = at_ := by
  cases n with
  | zero => rfl
  | succ n => rw [baseAt, if_pos h]
theorem baseAt_go {l : List (D tRange)} {many at_ : Int} {n : Nat} (h : freeF (at_, many, ()) l = false) : baseAt l many (n + 1) at_ = baseAt l many n (at_ + 16) := by
  rw [baseAt, if_neg (by rw [h]; decide)]
theorem roundF_range {n : Int} (h1 : 1 ≤ n) (h2 : n ≤ 40) : 16 ≤ roundF n ∧ roundF n ≤ 48 := by unfold roundF; omega
end Go.Mrl
namespace Go.Mrl
open Go.Vg
theorem basesF_many {s : List Int} {l : List (D tRange)} (h : 6 < s.length ∨ 20 < l.length) : basesF (s, l) = ([], .no 2) := by
  unfold basesF; rw [if_pos h]
theorem basesF_size {s : List Int} {l : List (D tRange)} (h : ¬ (6 < s.length ∨ 20 < l.length)) {i : Nat} (hi : i < s.length) (hb : ¬ (1 ≤ (nth (.int .i64) s i : Int) ∧ (nth (.int .i64) s i : Int) ≤ 40)) : basesF (s, l) = ([], .no 1) := by
  unfold basesF; rw [if_neg h, if_pos]
  refine .inl (any_nth (t := .int .i64) hi ?_)
  simp only [Bool.or_eq_true, decide_eq_true_eq]
  generalize nth (.int .i64) s i = x at hb
  have hb : ¬ (1 ≤ (x : Int) ∧ (x : Int) ≤ 40) := hb
  dsimp only [D] at *; omega
theorem basesF_taken {s : List Int} {l : List (D tRange)} (h : ¬ (6 < s.length ∨ 20 < l.length)) {i : Nat} (hi : i < l.length) (hb : ¬ okR (nth tRange l i)) : basesF (s, l) = ([], .no 1) := by
  unfold basesF; rw [if_neg h, if_pos]
  refine .inr (any_nth (t := tRange) hi ?_)
  simp only [Bool.or_eq_true, decide_eq_true_eq]
  unfold okR at hb
  dsimp only [D] at *; omega
theorem basesF_ok {s : List Int} {l : List (D tRange)} (h : ¬ (6 < s.length ∨ 20 < l.length)) (hs : ∀ j, j < s.length → 1 ≤ (nth (.int .i64) s j : Int) ∧ (nth (.int .i64) s j : Int) ≤ 40) (ht : ∀ j, j < l.length → okR (nth tRange l j)) :
    basesF (s, l) = match goBases l s [] with | some o => (o, .nil) | none => ([], .no 8) := by
  unfold basesF; rw [if_neg h, if_neg]
  rintro (e | e)
  · have : badSizes s = false := any_not (t := .int .i64) fun i hi => by
      have := hs i hi
      simp only [Bool.or_eq_false_iff, decide_eq_false_iff_not]
      dsimp only [D] at *; omega
    rw [this] at e; cases e
  · have : badTaken l = false := any_not (t := tRange) fun i hi => by
      have := ht i hi
      unfold okR at this
      simp only [Bool.or_eq_false_iff, decide_eq_false_iff_not]
      dsimp only [D] at *; omega
    rw [this] at e; cases e
end Go.Mrl
namespace Go.Mrl
open Go.Vg
theorem okR_snoc {l : List (Int × Int × Unit)} {r : Int × Int × Unit} (h : ∀ y ∈ l, okR y) (hr : okR r) : ∀ y ∈ l ++ [r], okR y := by
  intro y hy
  rcases List.mem_append.1 hy with hy | hy
  · exact h y hy
  · simp at hy; rw [hy]; exact hr
end Go.Mrl
namespace Go.Mrl
open Go.Vg
/-! The document's way: words that are used. -/
def inAny (l : List (Int × Int × Unit)) (p : Int) : Bool := l.any fun r => decide (r.1 ≤ p) && decide (p < r.1 + r.2.1)
def usedT (l : List (Int × Int × Unit)) : List Bool := tabB 600 fun p => inAny l p
def okU (U : List Bool) (p : Int) : Bool := decide (600 ≤ p) || !(nth .bool U p.toNat)
def freeU (U : List Bool) (at_ : Int) (k : Nat) : Bool := (List.range k).all fun q => okU U (at_ + q)
def baseU (U : List Bool) (many : Int) : Nat → Int → Int
  | 0, at_ => at_
  | n + 1, at_ => if freeU U at_ many.toNat = true then at_ else baseU U many n (at_ + 16)
def markU (U : List Bool) (at_ : Int) (k : Nat) : List Bool := tabB 600 fun p => nth .bool U p || (decide (at_ ≤ p) && decide ((p : Int) < at_ + k))
theorem usedT_length (l : List (Int × Int × Unit)) : (usedT l).length = 600 := tabB_length _ _
theorem markU_length (U : List Bool) (at_ : Int) (k : Nat) : (markU U at_ k).length = 600 := tabB_length _ _
theorem usedT_nth {l : List (Int × Int × Unit)} {p : Nat} (h : p < 600) : nth .bool (usedT l) p = inAny l p := tabB_nth h
theorem bool_list_ext {a b : List Bool} (hl : a.length = b.length) (h : ∀ i, i < a.length → nth .bool a i = nth .bool b i) : a = b := by
  apply List.ext_getElem hl
  intro i h1 h2
  have := h i h1
  rw [show nth .bool a i = a[i] from nth_eq (t := .bool) (List.getElem?_eq_getElem h1), show nth .bool b i = b[i] from nth_eq (t := .bool) (List.getElem?_eq_getElem h2)] at this
  exact this
theorem markU_zero {U : List Bool} {at_ : Int} (h : U.length = 600) : markU U at_ 0 = U := by
  apply bool_list_ext (by rw [markU_length, h])
  intro i hi
  rw [markU_length] at hi
  unfold markU; rw [tabB_nth hi]
  have : (decide (at_ ≤ (i : Int)) && decide ((i : Int) < at_ + ((0 : Nat) : Int))) = false := by simp <;> omega
  rw [this, Bool.or_false]
theorem markU_set {U : List Bool} {at_ : Int} {k : Nat} (h0 : 0 ≤ at_) (_ : at_ + k < 600) : (markU U at_ k).set (at_ + k).toNat true = markU U at_ (k + 1) := by
  unfold markU; rw [tabB_set]
  refine tabB_ext fun i hi => ?_
  by_cases e : i = (at_ + k).toNat
  · rw [if_pos e]
    have : (decide (at_ ≤ (i : Int)) && decide ((i : Int) < at_ + ((k + 1 : Nat) : Int))) = true := by simp; omega
    rw [this, Bool.or_true]
  · rw [if_neg e]
    congr 1
    by_cases h1 : at_ ≤ (i : Int)
    · by_cases h2 : (i : Int) < at_ + k
      · simp [h1, h2]; omega
      · simp [h1, h2]; omega
    · simp [h1]
theorem inAny_snoc (l : List (Int × Int × Unit)) (r : Int × Int × Unit) (p : Int) : inAny (l ++ [r]) p = (inAny l p || (decide (r.1 ≤ p) && decide (p < r.1 + r.2.1))) := by
  simp [inAny]
theorem markU_full {l : List (Int × Int × Unit)} {at_ many : Int} {k : Nat} (hk : (k : Int) = many) : markU (usedT l) at_ k = usedT (l ++ [(at_, many, ())]) := by
  unfold markU usedT
  refine tabB_ext fun i hi => ?_
  rw [tabB_nth hi, inAny_snoc]
  simp only [hk]
theorem markU_take {l : List (D tRange)} {i k : Nat} (hi : i < l.length) (hk : (k : Int) = (nth tRange l i).2.1) : markU (usedT (l.take i)) (nth tRange l i).1 k = usedT (l.take (i + 1)) := by
  have e : l.take (i + 1) = l.take i ++ [nth tRange l i] := by
    rw [List.take_add_one, getElem?_nth (t := tRange) hi]; rfl
  rw [e]
  exact markU_full (l := l.take i) hk
theorem markU_empty {l : List (D tRange)} {i : Nat} (hi : i < l.length) (hk : (nth tRange l i).2.1 = (0 : Int)) : usedT (l.take i) = usedT (l.take (i + 1)) := by
  rw [← markU_take (k := 0) hi hk.symm, markU_zero (usedT_length _)]
theorem freeU_succ {U : List Bool} {at_ : Int} {k : Nat} : freeU U at_ (k + 1) = (freeU U at_ k && okU U (at_ + k)) := by
  unfold freeU; rw [List.range_succ, List.all_append]; simp
theorem freeU_mono {U : List Bool} {at_ : Int} {k n : Nat} (h : k ≤ n) (hf : freeU U at_ k = false) : freeU U at_ n = false := by
  induction n with
  | zero => obtain rfl : k = 0 := by omega
            exact hf
  | succ n ih =>
    by_cases e : k = n + 1
    · rw [← e]; exact hf
    · rw [freeU_succ, ih (by omega)]; rfl
theorem baseU_stop {U : List Bool} {many at_ : Int} {n : Nat} (h : freeU U at_ many.toNat = true) : baseU U many n at_ = at_ := by
  cases n with
  | zero => rfl
  | succ n => rw [baseU, if_pos h]
theorem baseU_go {U : List Bool} {many at_ : Int} {n : Nat} (h : freeU U at_ many.toNat = false) : baseU U many (n + 1) at_ = baseU U many n (at_ + 16) := by
  rw [baseU, if_neg (by rw [h]; decide)]
/-- Both ways find the same places free. -/
theorem freeU_used {l : List (Int × Int × Unit)} {at_ many : Int} (hl : ∀ y ∈ l, okR y) (h0 : 0 ≤ at_) (hm : 0 < many) : freeU (usedT l) at_ many.toNat = freeF (at_, many, ()) l := by
  rw [Bool.eq_iff_iff]
  constructor
  · intro h
    unfold freeF; rw [List.all_eq_true]
    intro (x : Int × Int × Unit) hx
    obtain ⟨g1, g2, g3, g4⟩ := hl x hx
    rw [apartF_true]
    show many ≤ 0 ∨ x.2.1 ≤ 0 ∨ at_ + many ≤ x.1 ∨ x.1 + x.2.1 ≤ at_
    apply Classical.byContradiction
    intro hn
    have hc : 0 < x.2.1 ∧ x.1 < at_ + many ∧ at_ < x.1 + x.2.1 := by omega
    -- the greater of the two beginnings is in both
    have key : ∀ p : Int, at_ ≤ p → p < at_ + many → x.1 ≤ p → p < x.1 + x.2.1 → False := by
      intro p p1 p2 p3 p4
      have := List.all_eq_true.1 h (p - at_).toNat (List.mem_range.2 (by omega))
      rw [show at_ + ((p - at_).toNat : Int) = p by omega] at this
      unfold okU at this
      rw [usedT_nth (by omega), show ((p.toNat : Nat) : Int) = p by omega] at this
      have hin : inAny l p = true := by
        unfold inAny; rw [List.any_eq_true]
        exact ⟨x, hx, by simp [p3, p4]⟩
      rw [hin] at this
      simp at this; omega
    by_cases q : at_ ≤ x.1
    · exact key x.1 q (by omega) (by omega) (by omega)
    · exact key at_ (by omega) (by omega) (by omega) (by omega)
  · intro h
    unfold freeU; rw [List.all_eq_true]
    intro q hq
    have hq := List.mem_range.1 hq
    unfold okU
    by_cases h6 : 600 ≤ at_ + (q : Int)
    · simp [h6]
    · rw [usedT_nth (by omega), show (((at_ + (q : Int)).toNat : Nat) : Int) = at_ + q by omega]
      have : inAny l (at_ + q) = false := by
        unfold inAny; rw [List.any_eq_false]
        intro (x : Int × Int × Unit) hx
        unfold freeF at h
        have := apartF_true.1 (List.all_eq_true.1 h x hx)
        simp only [Bool.and_eq_true, decide_eq_true_eq, not_and]
        have : many ≤ 0 ∨ x.2.1 ≤ 0 ∨ at_ + many ≤ x.1 ∨ x.1 + x.2.1 ≤ at_ := this
        omega
      rw [this]; simp
theorem baseU_used {l : List (Int × Int × Unit)} {many : Int} (hl : ∀ y ∈ l, okR y) (hm : 0 < many) : ∀ (n : Nat) (at_ : Int), 0 ≤ at_ → baseU (usedT l) many n at_ = baseAt l many n at_ := by
  intro n
  induction n with
  | zero => intro at_ _; rfl
  | succ n ih =>
    intro at_ h0
    unfold baseU baseAt
    rw [freeU_used hl h0 hm, ih _ (by omega)]
end Go.Mrl
namespace Go.Mrl
open Go.Vg
theorem freeU_next1 {U : List Bool} {at_ : Int} {k : Nat} (h : freeU U at_ k = true) (h6 : 600 ≤ at_ + k) : true = freeU U at_ (k + 1) := by
  rw [freeU_succ, h]; simp [okU, h6]
theorem freeU_next2 {U : List Bool} {at_ : Int} {k : Nat} (h : freeU U at_ k = true) (h6 : at_ + k < 600) : (!(nth .bool U (at_ + k).toNat)) = freeU U at_ (k + 1) := by
  rw [freeU_succ, h]
  have : decide (600 ≤ at_ + (k : Int)) = false := by simp; omega
  simp [okU, this]
def rbasesF (x : List Int × List (D tRange)) : List Int × Int := ((basesF x).1, numE (basesF x).2)
end Go.Mrl
