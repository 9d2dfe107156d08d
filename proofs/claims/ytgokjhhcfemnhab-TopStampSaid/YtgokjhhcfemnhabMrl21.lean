/- A part of the proof that the law TopStamp holds of the given program: facts that are used there. -/
import Derived.Test.YtgokjhhcfemnhabMrl13
import Derived.Test.YtgokjhhcfemnhabMrl11
import Derived.Test.YtgokjhhcfemnhabMrl20
set_option linter.unusedSimpArgs false
set_option linter.unusedVariables false
namespace Go.Mrl
open Go.Vg
/-! Words that hang on where things lie. -/
def Small (x : Int) : Prop := -1000000 ≤ x ∧ x ≤ 1000000
def Word (x : Int) : Prop := -2147483648 ≤ x ∧ x ≤ 2147483647
def MildO (o : D tObject) : Prop := o.2.2.2.1.length ≤ 10 ∧ (∀ i, i < o.2.2.1.length → Small (nth tSymbol o.2.2.1 i).2.1) ∧
  ∀ i, i < o.2.2.2.1.length → Small (nth tTie o.2.2.2.1 i).1 ∧ Word (nth tTie o.2.2.2.1 i).2.2.1
def MildOs (l : List (D tObject)) : Prop := l.length ≤ 8 ∧ ∀ i, i < l.length → MildO (nth tObject l i)
def InB (b : List Int) : Prop := ∀ i, i < b.length → 0 ≤ (nth (.int .i64) b i : Int) ∧ (nth (.int .i64) b i : Int) ≤ 256
def baseOf (b : List Int) (i : Nat) : Int := nth (.int .i64) b i
/-- Where a tie's symbol lies. -/
noncomputable def targetF (l : List (D tObject)) (b : List Int) (t : D tTie) : Int × Err :=
  if 0 ≤ (findS (l, t.2.2.2.1)).1 then (baseOf b (findS (l, t.2.2.2.1)).1.toNat + (nth tSymbol (nth tObject l (findS (l, t.2.2.2.1)).1.toNat).2.2.1 (findS (l, t.2.2.2.1)).2.toNat).2.1, .nil)
  else if t.2.2.2.2.1 = true then (0, .nil) else (0, .no 6)
/-- What the word becomes, once it is known where the symbol lies. -/
def nearF (b : List Int) (i : Int) (t : D tTie) (n : Int) : Int × Err :=
  if t.2.1 = (3 : Int) then
    if n - (baseOf b i.toNat + t.1) < -500 ∨ 500 < n - (baseOf b i.toNat + t.1) then (0, .no 7)
    else (n - (baseOf b i.toNat + t.1), .nil)
  else if n < -2147483648 ∨ 2147483647 < n then (0, .no 7) else (n, .nil)
noncomputable def oneF (l : List (D tObject)) (b : List Int) (i : Int) (t : D tTie) : Int × Err :=
  if t.2.1 = (1 : Int) then nearF b i t (baseOf b i.toNat + t.2.2.1)
  else if (targetF l b t).2.isNil = true then nearF b i t ((targetF l b t).1 + t.2.2.1) else (0, (targetF l b t).2)
noncomputable def goK (l : List (D tObject)) (b : List Int) (i : Nat) : List (D tTie) → List Pt → List Pt × Err
  | [], out => (out, .nil)
  | t :: r, out => if (oneF l b i t).2.isNil = true then goK l b i r (out ++ [((i : Int), t.1, (oneF l b i t).1, ())]) else ([], (oneF l b i t).2)
noncomputable def thenI (f : List Pt → List Pt × Err) (x : List Pt × Err) : List Pt × Err := if x.2.isNil = true then f x.1 else ([], x.2)
noncomputable def goI (l : List (D tObject)) (b : List Int) : List (D tObject) → Nat → List Pt → List Pt × Err
  | [], _, out => (out, .nil)
  | o :: r, i, out => thenI (goI l b r (i + 1)) (goK l b i o.2.2.2.1 out)
open Classical in
noncomputable def allF (x : List (D tObject) × List Int) : List Pt × Err :=
  if ¬ x.2.length = x.1.length then ([], .no 3) else if InB x.2 then goI x.1 x.2 x.1 0 [] else ([], .no 1)
theorem drop_nth {t : Ty} {l : List (D t)} {i : Nat} (h : i < l.length) : l.drop i = nth t l i :: l.drop (i + 1) := by
  rw [List.drop_eq_getElem_cons h]
  congr 1
  have := getElem?_nth h
  rw [List.getElem?_eq_getElem h] at this
  exact Option.some.inj this
theorem goI_start {l : List (D tObject)} {b : List Int} {i : Nat} {out : List Pt} (h : i < l.length) :
    goI l b (l.drop i) i out = thenI (goI l b (l.drop (i + 1)) (i + 1)) (goK l b i ((nth tObject l i).2.2.2.1.drop 0) out) := by
  rw [drop_nth (t := tObject) h]; rfl
theorem goI_end {l : List (D tObject)} {b : List Int} {i : Nat} {out : List Pt} (h : l.length ≤ i) : goI l b (l.drop i) i out = (out, .nil) := by
  rw [List.drop_eq_nil_of_le h]; rfl
theorem goK_ok {l : List (D tObject)} {b : List Int} {i k : Nat} {ts : List (D tTie)} {out : List Pt} (h : k < ts.length) (hn : (oneF l b i (nth tTie ts k)).2.isNil = true) :
    goK l b i (ts.drop k) out = goK l b i (ts.drop (k + 1)) (out ++ [((i : Int), (nth tTie ts k).1, (oneF l b i (nth tTie ts k)).1, ())]) := by
  rw [drop_nth (t := tTie) h, goK, if_pos hn]
theorem goK_bad {l : List (D tObject)} {b : List Int} {i k : Nat} {ts : List (D tTie)} {out : List Pt} {f : List Pt → List Pt × Err} (h : k < ts.length) (hn : (oneF l b i (nth tTie ts k)).2.isNil = false) :
    thenI f (goK l b i (ts.drop k) out) = ([], (oneF l b i (nth tTie ts k)).2) := by
  rw [drop_nth (t := tTie) h, goK, if_neg (by simp [hn])]
  unfold thenI
  rw [if_neg (by simp [hn])]
theorem goK_end {l : List (D tObject)} {b : List Int} {i k : Nat} {ts : List (D tTie)} {out : List Pt} {f : List Pt → List Pt × Err} (h : ts.length ≤ k) : thenI f (goK l b i (ts.drop k) out) = f out := by
  rw [List.drop_eq_nil_of_le h]; rfl
theorem allF_go {l : List (D tObject)} {b : List Int} (h : b.length = l.length) (hb : InB b) : allF (l, b) = goI l b l 0 [] := by unfold allF; rw [if_neg (by simpa using h), if_pos hb]
theorem allF_len {l : List (D tObject)} {b : List Int} (h : ¬ b.length = l.length) : allF (l, b) = ([], .no 3) := by unfold allF; rw [if_pos h]
theorem allF_base {l : List (D tObject)} {b : List Int} {i : Nat} (h : b.length = l.length) (hi : i < b.length) (hn : ¬ (0 ≤ (nth (.int .i64) b i : Int) ∧ (nth (.int .i64) b i : Int) ≤ 256)) : allF (l, b) = ([], .no 1) := by
  unfold allF; rw [if_neg (by simpa using h), if_neg (fun hh => hn (hh i hi))]
theorem base_in {b : List Int} {n : Nat} {i : Int} (hb : InB b) (hl : b.length = n) (h0 : 0 ≤ i) (h1 : i < n) : 0 ≤ (nth (.int .i64) b i.toNat : Int) ∧ (nth (.int .i64) b i.toNat : Int) ≤ 256 := hb _ (by omega)
theorem sym_in {l : List (D tObject)} {s : List UInt8} (hm : MildOs l) (h : 0 ≤ (findS (l, s)).1) : Small (nth tSymbol (nth tObject l (findS (l, s)).1.toNat).2.2.1 (findS (l, s)).2.toNat).2.1 := by
  have hf := find_in h
  exact (hm.2 _ (by omega)).2.1 _ (by omega)
theorem target_sym {l : List (D tObject)} {b : List Int} {t : D tTie} (h : 0 ≤ (findS (l, t.2.2.2.1)).1) :
    targetF l b t = (nth (.int .i64) b (findS (l, t.2.2.2.1)).1.toNat + (nth tSymbol (nth tObject l (findS (l, t.2.2.2.1)).1.toNat).2.2.1 (findS (l, t.2.2.2.1)).2.toNat).2.1, .nil) := by unfold targetF baseOf; rw [if_pos h]
theorem target_weak {l : List (D tObject)} {b : List Int} {t : D tTie} (h : (findS (l, t.2.2.2.1)).1 < 0) (hw : t.2.2.2.2.1 = true) : targetF l b t = (0, .nil) := by unfold targetF; rw [if_neg (by omega), if_pos hw]
theorem target_loose {l : List (D tObject)} {b : List Int} {t : D tTie} (h : (findS (l, t.2.2.2.1)).1 < 0) (hw : t.2.2.2.2.1 = false) : targetF l b t = (0, .no 6) := by unfold targetF; rw [if_neg (by omega), if_neg (by simp [hw])]
theorem target_in {l : List (D tObject)} {b : List Int} (t : D tTie) (hm : MildOs l) (hl : b.length = l.length) (hb : InB b) : -2000000 ≤ (targetF l b t).1 ∧ (targetF l b t).1 ≤ 2000000 := by
  by_cases h : 0 ≤ (findS (l, t.2.2.2.1)).1
  · have h1 := base_in hb hl h (find_in h).1
    have h2 := sym_in hm h
    rw [target_sym h]; unfold Small at h2; dsimp only [D] at *; omega
  · cases hw : t.2.2.2.2.1 with
    | true => rw [target_weak (by omega) hw]; simp
    | false => rw [target_loose (by omega) hw]; simp
theorem one_base {l : List (D tObject)} {b : List Int} {i : Int} {t : D tTie} (h : t.2.1 = (1 : Int)) : oneF l b i t = nearF b i t (nth (.int .i64) b i.toNat + t.2.2.1) := by unfold oneF; rw [if_pos h]; rfl
theorem one_tgt {l : List (D tObject)} {b : List Int} {i : Int} {t : D tTie} (h : ¬ t.2.1 = (1 : Int)) (hn : (targetF l b t).2.isNil = true) : oneF l b i t = nearF b i t ((targetF l b t).1 + t.2.2.1) := by unfold oneF; rw [if_neg h, if_pos hn]
theorem one_bad {l : List (D tObject)} {b : List Int} {i : Int} {t : D tTie} (h : ¬ t.2.1 = (1 : Int)) (hn : (targetF l b t).2.isNil = false) : oneF l b i t = (0, (targetF l b t).2) := by unfold oneF; rw [if_neg h, if_neg (by simp [hn])]
theorem near_far {b : List Int} {i n : Int} {t : D tTie} (h : t.2.1 = (3 : Int)) (hr : n - (nth (.int .i64) b i.toNat + t.1) < -500 ∨ 500 < n - (nth (.int .i64) b i.toNat + t.1)) : nearF b i t n = (0, .no 7) := by
  unfold nearF baseOf; rw [if_pos h, if_pos hr]
theorem near_ok {b : List Int} {i n m : Int} {t : D tTie} (h : t.2.1 = (3 : Int)) (e : m = n - (nth (.int .i64) b i.toNat + t.1)) (hr : -500 ≤ m ∧ m ≤ 500) : nearF b i t n = (m, .nil) := by
  unfold nearF baseOf; rw [if_pos h, if_neg (by omega), e]
theorem word_far {b : List Int} {i n : Int} {t : D tTie} (h : ¬ t.2.1 = (3 : Int)) (hr : n < -2147483648 ∨ 2147483647 < n) : nearF b i t n = (0, .no 7) := by
  unfold nearF; rw [if_neg h, if_pos hr]
theorem word_ok {b : List Int} {i n m : Int} {t : D tTie} (h : ¬ t.2.1 = (3 : Int)) (e : m = n) (hr : -2147483648 ≤ n ∧ n ≤ 2147483647) : nearF b i t n = (m, .nil) := by
  unfold nearF; rw [if_neg h, if_neg (by omega), e]
theorem snoc_eq {out : List Pt} {i a m m' : Int} (h : m = m') : out ++ [(i, a, m, ())] = out ++ [(i, a, m', ())] := by rw [h]
/-- Found, pass by pass. -/
def RInv (l : List (D tObject)) (s : List UInt8) (pass i k : Nat) : Prop :=
  (pass = 0 → Bef (strongS s) l i k) ∧ (pass = 1 → (∀ i k, ¬ posHas (strongS s) l i k) ∧ Bef (isS s) l i k) ∧ (2 ≤ pass → ∀ i k, ¬ posHas (isS s) l i k)
theorem RInv.start (l : List (D tObject)) (s : List UInt8) : RInv l s 0 0 0 :=
  ⟨fun _ i' k' h => by unfold ahead at h; omega, fun h => by omega, fun h => by omega⟩
theorem RInv.row {l : List (D tObject)} {s : List UInt8} {pass i k : Nat} (h : RInv l s pass i k) (hk : (nth tObject l i).2.2.1.length ≤ k) : RInv l s pass (i + 1) 0 :=
  ⟨fun e => (h.1 e).row hk, fun e => ⟨(h.2.1 e).1, (h.2.1 e).2.row hk⟩, h.2.2⟩
theorem RInv.pass {l : List (D tObject)} {s : List UInt8} {pass i k : Nat} (h : RInv l s pass i k) (hi : l.length ≤ i) : RInv l s (pass + 1) 0 0 := by
  refine ⟨fun e => by omega, fun e => ?_, fun e => ?_⟩
  · obtain rfl : pass = 0 := by omega
    exact ⟨(h.1 rfl).all hi, fun i' k' h => by unfold ahead at h; omega⟩
  · by_cases c : pass = 1
    · exact (h.2.1 c).2.all hi
    · exact h.2.2 (by omega)
theorem RInv.next {l : List (D tObject)} {s : List UInt8} {pass i k : Nat} (h : RInv l s pass i k) (hn : ¬ ((nth tSymbol (nth tObject l i).2.2.1 k).1 = s ∧ ((nth tSymbol (nth tObject l i).2.2.1 k).2.2.1 = true ↔ (pass : Int) = 1))) : RInv l s pass i (k + 1) := by
  refine ⟨fun e => (h.1 e).next fun hp => hn ⟨hp.2.2.1, ?_⟩, fun e => ⟨(h.2.1 e).1, (h.2.1 e).2.next fun hp => hn ⟨hp.2.2, ?_⟩⟩, h.2.2⟩
  · rw [hp.2.2.2]; simp; omega
  · subst e
    have := (h.2.1 rfl).1 i k
    cases c : (nth tSymbol (nth tObject l i).2.2.1 k).2.2.1 with
    | true => simp
    | false => exact absurd ⟨hp.1, hp.2.1, hp.2.2, c⟩ this
theorem RInv.found {l : List (D tObject)} {s : List UInt8} {pass i k : Nat} (h : RInv l s pass i k) (hp : pass < 2) (hi : i < l.length) (hk : k < (nth tObject l i).2.2.1.length) (hs : (nth tSymbol (nth tObject l i).2.2.1 k).1 = s)
    (hw : (nth tSymbol (nth tObject l i).2.2.1 k).2.2.1 = true ↔ (pass : Int) = 1) : findS (l, s) = ((i : Int), (k : Int)) := by
  by_cases c : pass = 0
  · subst c
    refine findS_strong ⟨⟨hi, hk, hs, ?_⟩, h.1 rfl⟩
    cases c : (nth tSymbol (nth tObject l i).2.2.1 k).2.2.1 with
    | true => have := hw.1 c; simp at this
    | false => rfl
  · have h1 := h.2.1 (by omega)
    exact findS_weak h1.1 ⟨⟨hi, hk, hs⟩, h1.2⟩
theorem RInv.done {l : List (D tObject)} {s : List UInt8} {pass i k : Nat} (h : RInv l s pass i k) (hp : ¬ pass < 2) : findS (l, s) = (-1, -1) := findS_none (h.2.2 (by omega))
theorem sameP_true {a b : List Pt} (hl : (a.length : Int) = b.length) (h : ∀ i, i < a.length → nth tPatch a i = nth tPatch b i) : true = sameP a b := by
  have : a = b := list_eq_nth (t := tPatch) (by omega) h
  simp [sameP, this]
theorem sameP_at {a b : List Pt} {i : Nat} (h : ¬ nth tPatch a i = nth tPatch b i) : false = sameP a b := by
  have : ¬ a = b := fun e => h (by rw [e])
  simp [sameP, this]
theorem sameP_len {a b : List Pt} (h : ¬ (a.length : Int) = b.length) : false = sameP a b := by
  have : ¬ a = b := fun e => h (by rw [e])
  simp [sameP, this]
def Told (e : Err) : Prop := sameE e (numE e) = true
theorem told_near (b : List Int) (i n : Int) (t : D tTie) : Told (nearF b i t n).2 := by
  unfold nearF; split <;> split <;> rfl
theorem told_target (l : List (D tObject)) (b : List Int) (t : D tTie) : Told (targetF l b t).2 := by
  unfold targetF; split
  · rfl
  · split <;> rfl
theorem told_one (l : List (D tObject)) (b : List Int) (i : Int) (t : D tTie) : Told (oneF l b i t).2 := by
  unfold oneF; split
  · exact told_near _ _ _ _
  · split
    · exact told_near _ _ _ _
    · exact told_target _ _ _
theorem told_goK (l : List (D tObject)) (b : List Int) (i : Nat) : ∀ (ts : List (D tTie)) (out : List Pt), Told (goK l b i ts out).2
  | [], _ => rfl
  | t :: r, out => by
    rw [goK]; split
    · exact told_goK l b i r _
    · exact told_one _ _ _ _
theorem told_goI (l : List (D tObject)) (b : List Int) : ∀ (os : List (D tObject)) (i : Nat) (out : List Pt), Told (goI l b os i out).2
  | [], _, _ => rfl
  | o :: r, i, out => by
    rw [goI]; unfold thenI; split
    · exact told_goI l b r _ _
    · exact told_goK _ _ _ _ _
theorem told_all (x : List (D tObject) × List Int) : sameE (allF x).2 (numE (allF x).2) = true := by
  unfold allF; split
  · rfl
  · split
    · exact told_goI _ _ _ _ _
    · rfl
theorem mild_x : MildOs [([], [0], [], [(0, 2, 2, [120], false, ())], ()), ([], [7, 8], [([120], 1, false, ())], [], ())] := by
  refine ⟨by decide, fun i hi => ?_⟩
  have : i = 0 ∨ i = 1 := by simp at hi; omega
  rcases this with rfl | rfl
  · refine ⟨by decide, fun k hk => absurd hk (by simp [nth]), fun k hk => ?_⟩
    have : k < 1 := hk
    obtain rfl : k = 0 := by omega
    exact ⟨by unfold Small; decide, by unfold Word; decide⟩
  · refine ⟨by decide, fun k hk => ?_, fun k hk => absurd hk (by simp [nth])⟩
    have : k < 1 := hk
    obtain rfl : k = 0 := by omega
    unfold Small; decide
theorem patch_x : allF ([([], [0], [], [(0, 2, 2, [120], false, ())], ()), ([], [7, 8], [([120], 1, false, ())], [], ())], [0, 16]) = ([(0, 0, 19, ())], .nil) := by
  have e : findS ([([], [0], [], [(0, 2, 2, [120], false, ())], ()), ([], [7, 8], [([120], 1, false, ())], [], ())], [120]) = (1, 0) := by
    refine findS_strong (i := 1) (k := 0) ⟨⟨by decide, by decide, rfl, rfl⟩, ?_⟩
    rintro i k (h | ⟨_, h⟩) ⟨_, h1, _, h2⟩
    · obtain rfl : i = 0 := by omega
      exact absurd h1 (by simp [nth])
    · omega
  rw [allF_go rfl (by
    intro i hi
    have : i = 0 ∨ i = 1 := by simp at hi; omega
    rcases this with rfl | rfl <;> simp [nth])]
  have h1 : oneF [([], [0], [], [(0, 2, 2, [120], false, ())], ()), ([], [7, 8], [([120], 1, false, ())], [], ())] [0, 16] 0 (0, 2, 2, [120], false, ()) = (19, .nil) := by
    simp [oneF, targetF, nearF, e, baseOf, nth, Err.isNil]
  simp [goI, goK, thenI, h1, Err.isNil]
end Go.Mrl
