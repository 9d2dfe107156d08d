/- A part of the proof that the law TopStamp holds of the given program: facts that are used there. -/
import Derived.Test.YtgokjhhcfemnhabVg17
namespace Go.Vg
open Go.RowKit
/-! Names of objects turned about. -/
def renC (r : Nat → Nat) : C → C
  | .app t xs n => .app t xs (r n)
  | .mrow n => .mrow (r n)
  | .msub n t lo len => .msub (r n) t lo len
  | .aref n => .aref (r n)
  | .xref n => .xref (r n)
  | .xd n p => .xd (r n) p
  | .ref n o => .ref (r n) o
  | .eref n t i o => .eref (r n) t i o
  | .fn f caps => .fn f (caps.map r)
  | c => c
def renCs (r : Nat → Nat) : List C → List C
  | [] => []
  | c :: cs => renC r c :: renCs r cs
def renSV0 (r : Nat → Nat) : SV0 → SV0
  | .one c => .one (renC r c)
  | .agg cs => .agg (renCs r cs)
def renSV0s (r : Nat → Nat) : List SV0 → List SV0
  | [] => []
  | c :: cs => renSV0 r c :: renSV0s r cs
def renSV (r : Nat → Nat) : SV → SV
  | .s x => .s (renSV0 r x)
  | .tup xs => .tup (renSV0s r xs)
def renOC (r : Nat → Nat) : OC → OC
  | .cells T cs => .cells T (renCs r cs)
  | .iter cs seen cl => .iter (renCs r cs) seen cl
  | oc => oc
def renEnv (r : Nat → Nat) : List (Nat × SV) → List (Nat × SV)
  | [] => []
  | (t, v) :: l => (t, renSV r v) :: renEnv r l
def renObjs (r : Nat → Nat) : List (Nat × OC) → List (Nat × OC)
  | [] => []
  | (n, oc) :: l => (r n, renOC r oc) :: renObjs r l
def renSt (r : Nat → Nat) (st : St) : St := { env := renEnv r st.env, objs := renObjs r st.objs, next := st.next }
/-- A turning about: of names below 'next', those below 'base' stay; 'q' turns it back. -/
structure Turn (base next : Nat) (r q : Nat → Nat) : Prop where
  low : ∀ n, n < base → r n = n
  lt : ∀ n, n < next → r n < next
  back : ∀ n, n < next → q (r n) = n
  qlt : ∀ n, n < next → q n < next
  forth : ∀ n, n < next → r (q n) = n
section
variable {X : Ext} {cx : Cx} {base next : Nat} {r q : Nat → Nat}
theorem Turn.qlow (h : Turn base next r q) (hb : base ≤ next) {n : Nat} (hn : n < base) : q n = n := by
  have := h.back n (by omega); rw [h.low n hn] at this; exact this
theorem look_renEnv (l : List (Nat × SV)) (t : Nat) : look (renEnv r l) t = (look l t).map (renSV r) := by
  induction l with
  | nil => rfl
  | cons p l ih =>
    obtain ⟨m, v⟩ := p
    simp only [renEnv, look_cons]
    split
    · rfl
    · exact ih
theorem look_renObjs (h : Turn base next r q) : ∀ {l : List (Nat × OC)}, (∀ p ∈ l, p.1 < next) → ∀ m, m < next → look (renObjs r l) m = (look l (q m)).map (renOC r) := by
  intro l
  induction l with
  | nil => intro _ m _; rfl
  | cons p l ih =>
    obtain ⟨n, oc⟩ := p
    intro hk m hm
    have hn : n < next := hk (n, oc) (by simp)
    simp only [renObjs, look_cons]
    by_cases e : r n = m
    · rw [if_pos e, if_pos (by rw [← e, h.back n hn])]; rfl
    · rw [if_neg e, if_neg (fun e2 => e (by rw [e2, h.forth m hm]))]
      exact ih (fun p hp => hk p (by simp [hp])) m hm
theorem look_renObjs_big (h : Turn base next r q) : ∀ {l : List (Nat × OC)}, (∀ p ∈ l, p.1 < next) → ∀ m, ¬ m < next → look (renObjs r l) m = none := by
  intro l
  induction l with
  | nil => intro _ m _; rfl
  | cons p l ih =>
    obtain ⟨n, oc⟩ := p
    intro hk m hm
    simp only [renObjs, look_cons]
    rw [if_neg (fun e => hm (by rw [← e]; exact h.lt n (hk (n, oc) (by simp))))]
    exact ih (fun p hp => hk p (by simp [hp])) m hm
theorem look_some_of_mem {α : Type} {l : List (Nat × α)} {p : Nat × α} (hp : p ∈ l) : ∃ x, look l p.1 = some x := by
  induction l with
  | nil => cases hp
  | cons p' l ih =>
    obtain ⟨m, y⟩ := p'
    rw [look_cons]
    by_cases e : m = p.1
    · exact ⟨y, by rw [if_pos e]⟩
    · rw [if_neg e]
      rcases List.mem_cons.1 hp with rfl | hp
      · exact absurd rfl e
      · exact ih hp
theorem renOC_lo (oc : OC) : (renOC r oc).lo = oc.lo := by cases oc <;> rfl
section
variable {O : Avoid} {st : St} {loc : Nat → Loc} {w : World}
theorem ren_ob (h : Turn base st.next r q) (g : Good cx.eT X (sit O st loc w)) {m : Nat} {oc' : OC} : (sit O (renSt r st) (fun m => loc (q m)) w).ob m = some oc' ↔ m < st.next ∧ ∃ oc, look st.objs (q m) = some oc ∧ oc' = renOC r oc := by
  have hk : ∀ p ∈ st.objs, p.1 < st.next := fun p hp => by
    obtain ⟨x, hx⟩ := look_some_of_mem hp
    exact (g.obj p.1 x hx).1
  show look (renObjs r st.objs) m = some oc' ↔ _
  by_cases hm : m < st.next
  · rw [look_renObjs h hk m hm]
    cases look st.objs (q m) with
    | none => simp
    | some oc => simp [hm, eq_comm]
  · rw [look_renObjs_big h hk m hm]; simp [hm]
theorem ren_A (h : Turn base st.next r q) (g : Good cx.eT X (sit O st loc w)) : (sit O (renSt r st) (fun m => loc (q m)) w).A = (sit O st loc w).A := by
  funext b off
  apply propext
  constructor
  · rintro (k | ⟨m, oc', k1, k2, k3⟩)
    · exact .inl k
    · obtain ⟨hm, oc, h1, rfl⟩ := (ren_ob h g).1 k1
      exact .inr ⟨q m, oc, h1, k2, by rwa [renOC_lo] at k3⟩
  · rintro (k | ⟨n, oc, k1, k2, k3⟩)
    · exact .inl k
    · have hn := (g.obj n oc k1).1
      refine .inr ⟨r n, renOC r oc, (ren_ob h g).2 ⟨h.lt n hn, oc, by rw [h.back n hn]; exact k1, rfl⟩, ?_, by rw [renOC_lo]; exact k3⟩
      show b ∈ (loc (q (r n))).bs
      rw [h.back n hn]; exact k2
theorem ren_owns (h : Turn base st.next r q) (g : Good cx.eT X (sit O st loc w)) {b : Nat} (hb : (sit O (renSt r st) (fun m => loc (q m)) w).owns b) : (sit O st loc w).owns b := by
  obtain ⟨m, oc', k1, k2⟩ := hb
  obtain ⟨hm, oc, h1, rfl⟩ := (ren_ob h g).1 k1
  exact ⟨q m, oc, h1, k2⟩
theorem ren_CR (h : Turn base st.next r q) (g : Good cx.eT X (sit O st loc w)) {c : C} {v : Value} (hc : CR cx.eT (sit O st loc w) c v) : CR cx.eT (sit O (renSt r st) (fun m => loc (q m)) w) (renC r c) v := by
  have hA := ren_A (r := r) (q := q) h g
  have obn : ∀ {n : Nat} {oc : OC}, n < st.next → (sit O (renSt r st) (fun m => loc (q m)) w).ob (r n) = some oc → ∃ oc0, look st.objs n = some oc0 ∧ oc = renOC r oc0 := by
    intro n oc hn ho
    obtain ⟨_, oc0, h1, h2⟩ := (ren_ob h g).1 ho
    rw [h.back n hn] at h1
    exact ⟨oc0, h1, h2⟩
  cases c with
  | lit b => exact hc
  | d t x => show VR cx.eT t x _ w v; rw [hA]; exact hc
  | app t xs n =>
    obtain ⟨h1, h2, h3⟩ := hc
    refine ⟨by rw [hA]; exact h1, h.lt n h2, fun ys hy => ?_⟩
    obtain ⟨oc0, k1, k2⟩ := obn h2 hy
    cases oc0 <;> simp [renOC] at k2
    obtain ⟨rfl, rfl⟩ := k2
    obtain ⟨m1, m2⟩ := h3 _ k1
    exact ⟨m1, fun e => by show v = (loc (q (r n))).v; rw [h.back n h2]; exact m2 e⟩
  | nilS => exact hc
  | nilP => exact hc
  | emp => exact hc
  | mrow n =>
    refine ⟨h.lt n hc.1, fun t xs e => ?_⟩
    obtain ⟨oc0, k1, k2⟩ := obn hc.1 e
    cases oc0 <;> simp [renOC] at k2
    obtain ⟨rfl, rfl⟩ := k2
    show v = (loc (q (r n))).v
    rw [h.back n hc.1]; exact hc.2 _ _ k1
  | msub n t lo len =>
    refine ⟨h.lt n hc.1, fun xs e => ?_⟩
    obtain ⟨oc0, k1, k2⟩ := obn hc.1 e
    cases oc0 <;> simp [renOC] at k2
    obtain ⟨rfl, k3⟩ := k2
    rcases hc.2 _ k1 with h5 | ⟨b, c, h5, h6⟩
    · exact .inl h5
    · exact .inr ⟨b, c, by show (loc (q (r n))).bs = [b]; rw [h.back n hc.1]; exact h5, h6⟩
  | aref n =>
    refine ⟨h.lt n hc.1, fun t xs e => ?_⟩
    obtain ⟨oc0, k1, k2⟩ := obn hc.1 e
    cases oc0 <;> simp [renOC] at k2
    obtain ⟨rfl, rfl⟩ := k2
    show v = (loc (q (r n))).v
    rw [h.back n hc.1]; exact hc.2 _ _ k1
  | xref n =>
    refine ⟨h.lt n hc.1, fun oc e hx => ?_⟩
    obtain ⟨oc0, k1, k2⟩ := obn hc.1 e
    have hx' : oc0.isX = true := by subst k2; cases oc0 <;> first | rfl | cases hx
    show v = (loc (q (r n))).v
    rw [h.back n hc.1]; exact hc.2 _ k1 hx'
  | xd n p =>
    refine ⟨h.lt n hc.1, fun t x e => ?_⟩
    obtain ⟨oc0, k1, k2⟩ := obn hc.1 e
    cases oc0 <;> simp [renOC] at k2
    obtain ⟨rfl, rfl, k2⟩ := k2
    show XPR p (loc (q (r n))).v v
    rw [h.back n hc.1]; exact hc.2 _ _ k1
  | ref n off =>
    refine ⟨h.lt n hc.1, fun T cs e => ?_⟩
    obtain ⟨oc0, k1, k2⟩ := obn hc.1 e
    cases oc0 <;> simp [renOC] at k2
    show ∃ b, (loc (q (r n))).v = _ ∧ _
    rw [h.back n hc.1]; exact hc.2 _ _ k1
  | eref n t i off =>
    refine ⟨h.lt n hc.1, fun ⟨xs, e⟩ => ?_⟩
    show ∃ b, (loc (q (r n))).bs = _ ∧ _
    rw [h.back n hc.1]
    rcases e with e | e
    · obtain ⟨oc0, k1, k2⟩ := obn hc.1 e
      cases oc0 <;> simp [renOC] at k2
      obtain ⟨rfl, rfl⟩ := k2
      exact hc.2 ⟨_, .inl k1⟩
    · obtain ⟨oc0, k1, k2⟩ := obn hc.1 e
      cases oc0 <;> simp [renOC] at k2
      obtain ⟨rfl, rfl⟩ := k2
      exact hc.2 ⟨_, .inr k1⟩
  | iref t x =>
    obtain ⟨b, o, us, rfl, h1, h2⟩ := hc
    exact ⟨b, o, us, rfl, by rw [hA]; exact h1, by rw [hA]; exact h2⟩
  | fn f caps =>
    obtain ⟨rfl, h2⟩ := hc
    refine ⟨?_, fun m hm => ?_⟩
    · congr 2
      rw [List.map_map]
      exact List.map_congr_left fun n hn => by show _ = (loc (q (r n))).v; rw [h.back n (h2 n hn).1]; rfl
    · obtain ⟨n, hn, rfl⟩ := List.mem_map.1 hm
      refine ⟨h.lt n (h2 n hn).1, fun t ys e => ?_⟩
      obtain ⟨oc0, k1, k2⟩ := obn (h2 n hn).1 e
      cases oc0 <;> simp [renOC] at k2
      obtain ⟨rfl, rfl⟩ := k2
      exact (h2 n hn).2 _ _ k1
  | any => trivial
theorem ren_CRs (h : Turn base st.next r q) (g : Good cx.eT X (sit O st loc w)) : ∀ {cs : List C} {vs : List Value}, CRs cx.eT (sit O st loc w) cs vs → CRs cx.eT (sit O (renSt r st) (fun m => loc (q m)) w) (renCs r cs) vs
  | _, _, .nil => .nil
  | _, _, .cons h1 h2 h3 => .cons (ren_CR h g h1) h2 (ren_CRs h g h3)
theorem ren_SV0R (h : Turn base st.next r q) (g : Good cx.eT X (sit O st loc w)) {x : SV0} {v : Value} (hx : SV0R cx.eT (sit O st loc w) x v) : SV0R cx.eT (sit O (renSt r st) (fun m => loc (q m)) w) (renSV0 r x) v := by
  cases x with
  | one c => exact ren_CR h g hx
  | agg cs => obtain ⟨vs, rfl, hv⟩ := hx; exact ⟨vs, rfl, ren_CRs h g hv⟩
theorem ren_SV0Rs (h : Turn base st.next r q) (g : Good cx.eT X (sit O st loc w)) : ∀ {cs : List SV0} {vs : List Value}, SV0Rs cx.eT (sit O st loc w) cs vs → SV0Rs cx.eT (sit O (renSt r st) (fun m => loc (q m)) w) (renSV0s r cs) vs
  | _, _, .nil => .nil
  | _, _, .cons h1 h3 => .cons (ren_SV0R h g h1) (ren_SV0Rs h g h3)
theorem ren_SVR (h : Turn base st.next r q) (g : Good cx.eT X (sit O st loc w)) {x : SV} {v : Value} (hx : SVR cx.eT (sit O st loc w) x v) : SVR cx.eT (sit O (renSt r st) (fun m => loc (q m)) w) (renSV r x) v := by
  cases x with
  | s x => exact ren_SV0R h g hx
  | tup xs => obtain ⟨vs, rfl, hv⟩ := hx; exact ⟨vs, rfl, ren_SV0Rs h g hv⟩
theorem ren_Elems (h : Turn base st.next r q) (g : Good cx.eT X (sit O st loc w)) {t : Ty} {xs : List (D t)} {vs : Array Value} (he : Elems cx.eT (sit O st loc w) t xs vs) : Elems cx.eT (sit O (renSt r st) (fun m => loc (q m)) w) t xs vs := by
  intro i y hy
  obtain ⟨us, h1, h2⟩ := he i y hy
  exact ⟨us, by rw [ren_A h g]; exact h1, h2⟩
theorem ren_OR (h : Turn base st.next r q) (g : Good cx.eT X (sit O st loc w)) {l : Loc} {oc : OC} (ho : OR cx.eT X (sit O st loc w) l oc) : OR cx.eT X (sit O (renSt r st) (fun m => loc (q m)) w) l (renOC r oc) := by
  cases oc with
  | cells T cs => obtain ⟨b, vs, h1, h2, h3, h4⟩ := ho; exact ⟨b, vs, h1, h2, h3, ren_CRs h g h4⟩
  | mrow t xs =>
    rcases ho with ho | ⟨b, vs, T, cap, h1, h2, h3, h4, h5, h6, h7⟩
    · exact .inl ho
    · exact .inr ⟨b, vs, T, cap, h1, h2, h3, h4, h5, h6, ren_Elems h g h7⟩
  | arr t xs => obtain ⟨b, vs, T, h1, h2, h3, h4, h5⟩ := ho; exact ⟨b, vs, T, h1, h2, h3, h4, ren_Elems h g h5⟩
  | tok t xs =>
    rcases ho with ho | ⟨b, vs, T, cap, h1, h2, h3, h4, h5, h6, h7⟩
    · exact .inl ho
    · exact .inr ⟨b, vs, T, cap, h1, h2, h3, h4, h5, h6, ren_Elems h g h7⟩
  | ext k t x => exact ho
  | iter cs seen cl => obtain ⟨b, m, c, sn, h1, h2, h3, h4, h5, h6⟩ := ho; exact ⟨b, m, c, sn, h1, h2, h3, ren_CRs h g h4, h5, h6⟩
theorem ren_Good (h : Turn base st.next r q) (g : Good cx.eT X (sit O st loc w)) : Good cx.eT X (sit O (renSt r st) (fun m => loc (q m)) w) := by
  refine ⟨fun n oc' ho => ?_, fun n m oc oc' b h1 h2 h3 h4 => ?_, fun n oc' b off ho hb => ?_⟩
  · obtain ⟨hn, oc, k1, rfl⟩ := (ren_ob h g).1 ho
    exact ⟨hn, ren_OR h g (g.obj _ _ k1).2⟩
  · obtain ⟨hn, oc1, k1, rfl⟩ := (ren_ob h g).1 h1
    obtain ⟨hm, oc2, k2, rfl⟩ := (ren_ob h g).1 h2
    have := g.apart (q n) (q m) oc1 oc2 b k1 k2 h3 h4
    rw [← h.forth n hn, ← h.forth m hm, this]
  · obtain ⟨hn, oc, k1, rfl⟩ := (ren_ob h g).1 ho
    exact g.out (q n) oc b off k1 hb
theorem same_ren {l l' : Loc} {a b : OC} (h : SameKind l l' a b) : SameKind l l' a (renOC r b) := by
  cases a <;> cases b <;> first | exact h | exact h.elim
theorem ren_Tr (h : Turn base st.next r q) (g : Good cx.eT X (sit O st loc w)) {S : Sit} (hS : S.next = base) (hb : base ≤ st.next) (t : Tr S (sit O st loc w)) : Tr S (sit O (renSt r st) (fun m => loc (q m)) w) where
  O := t.O
  next := t.next
  os := t.os
  output := t.output
  size := t.size
  own b hb' := t.own b (ren_owns h g hb')
  cell b o v ha hc := by
    obtain ⟨h1, h2⟩ := t.cell b o v ha hc
    exact ⟨h1, by rw [ren_A h g]; exact h2⟩
  block := t.block
  loc n hn hf := by
    show loc (q n) = _
    rw [h.qlow hb (by omega)]
    exact t.loc n hn hf
  kind n oc' hn ho := by
    obtain ⟨_, oc1, k1, rfl⟩ := (ren_ob h g).1 ho
    rw [h.qlow hb (by omega)] at k1
    obtain ⟨oc, k2, k3⟩ := t.kind n oc1 hn k1
    refine ⟨oc, k2, ?_⟩
    show SameKind (S.loc n) (loc (q n)) oc (renOC r oc1)
    rw [h.qlow hb (by omega)]
    exact same_ren k3
/-- Values that were there name what was there. -/
theorem renC_low {S : Sit} (hS : S.next = base) (hl : ∀ n, n < base → r n = n) {c : C} {v : Value} (hc : CR cx.eT S c v) : renC r c = c := by
  subst hS
  cases c with
  | app t xs n => simp only [renC]; rw [hl n hc.2.1]
  | mrow n => simp only [renC]; rw [hl n hc.1]
  | msub n t lo len => simp only [renC]; rw [hl n hc.1]
  | aref n => simp only [renC]; rw [hl n hc.1]
  | xref n => simp only [renC]; rw [hl n hc.1]
  | xd n p => simp only [renC]; rw [hl n hc.1]
  | ref n off => simp only [renC]; rw [hl n hc.1]
  | eref n t i off => simp only [renC]; rw [hl n hc.1]
  | fn f caps =>
    simp only [renC]
    congr 1
    have : caps.map r = caps.map id := List.map_congr_left fun n hn => hl n (hc.2 n hn).1
    simpa using this
  | _ => rfl
theorem renCs_low {S : Sit} (hS : S.next = base) (hl : ∀ n, n < base → r n = n) : ∀ {cs : List C} {vs : List Value}, CRs cx.eT S cs vs → renCs r cs = cs
  | _, _, .nil => rfl
  | _, _, .cons h1 _ h3 => by simp only [renCs]; rw [renC_low hS hl h1, renCs_low hS hl h3]
theorem renSV0_low {S : Sit} (hS : S.next = base) (hl : ∀ n, n < base → r n = n) {x : SV0} {v : Value} (hc : SV0R cx.eT S x v) : renSV0 r x = x := by
  cases x with
  | one c => simp only [renSV0]; rw [renC_low hS hl hc]
  | agg cs => obtain ⟨vs, _, hv⟩ := hc; simp only [renSV0]; rw [renCs_low hS hl hv]
theorem renSV0s_low {S : Sit} (hS : S.next = base) (hl : ∀ n, n < base → r n = n) : ∀ {cs : List SV0} {vs : List Value}, SV0Rs cx.eT S cs vs → renSV0s r cs = cs
  | _, _, .nil => rfl
  | _, _, .cons h1 h3 => by simp only [renSV0s]; rw [renSV0_low hS hl h1, renSV0s_low hS hl h3]
theorem renSV_low {S : Sit} (hS : S.next = base) (hl : ∀ n, n < base → r n = n) {x : SV} {v : Value} (hc : SVR cx.eT S x v) : renSV r x = x := by
  cases x with
  | s x => simp only [renSV]; rw [renSV0_low hS hl hc]
  | tup xs => obtain ⟨vs, _, hv⟩ := hc; simp only [renSV]; rw [renSV0s_low hS hl hv]
end
/-- The step's end, its names turned about. -/
theorem StepK.ren {O : Avoid} {K : St → VC} {W : List Nat} {st : St} {loc : Nat → Loc} {w : World} {a a' : Act} {w' : World} {f : St → St} (hA : ActR cx (sit O st loc w) st a)
    (hf : ∀ st', f st' = st' ∨ ∃ r q, Turn st.next st'.next r q ∧ f st' = renSt r st') (h : StepK cx X O (fun st' => K (f st')) W st (sit O st loc w) a' w') : StepK cx X O K W st (sit O st loc w) a' w' := by
  obtain ⟨st', loc', k1, k2, k3, k4, k5⟩ := h
  rcases hf st' with e | ⟨r, q, ht, e⟩
  · exact ⟨st', loc', by rw [← e]; exact k1, k2, k3, k4, k5⟩
  · refine ⟨renSt r st', fun m => loc' (q m), by rw [← e]; exact k1, ren_Good ht k2, ren_Tr ht k2 rfl k3.next k3, ⟨k4.size, k4.defers, ?_⟩, ?_⟩
    · intro t sv hl
      have hl : look (renEnv r st'.env) t = some sv := hl
      rw [look_renEnv] at hl
      obtain ⟨sv0, h0, rfl⟩ := Option.map_eq_some_iff.1 hl
      exact ren_SVR ht k2 (k4.env t sv0 h0)
    · intro hm t htW sv hl
      have hl : look (renEnv r st'.env) t = some sv := hl
      rw [look_renEnv] at hl
      obtain ⟨sv0, h0, rfl⟩ := Option.map_eq_some_iff.1 hl
      have h1 := k5 hm t htW sv0 h0
      rw [renSV_low (cx := cx) (S := sit O st loc w) rfl ht.low (hA.env t sv0 h1)]
      exact h1
end
/-! The order in which the names are met. -/
def namesC0 : C → List Nat
  | .app _ _ n | .mrow n | .aref n | .xref n | .xd n _ | .ref n _ | .eref n _ _ _ | .msub n _ _ _ => [n]
  | .fn _ caps => caps
  | _ => []
def namesCs : List C → List Nat
  | [] => []
  | c :: cs => namesC0 c ++ namesCs cs
def namesC (objs : List (Nat × OC)) : C → List Nat
  | .ref n _ => n :: (match look objs n with
    | some (.cells _ cs) => namesCs cs
    | _ => [])
  | c => namesC0 c
def namesSV (objs : List (Nat × OC)) : SV → List Nat
  | .s (.one c) => namesC objs c
  | .s (.agg cs) => namesCs cs
  | .tup _ => []
def namesOf (st : St) : List Nat → List Nat
  | [] => []
  | d :: ds => (match look st.env d with
    | some sv => namesSV st.objs sv
    | none => []) ++ namesOf st ds
def elemB (n : Nat) : List Nat → Bool
  | [] => false
  | m :: l => match Nat.beq m n with
    | true => true
    | false => elemB n l
def pick1 (base next : Nat) : List Nat → List Nat → List Nat
  | acc, [] => acc
  | acc, n :: l => match Nat.blt n base || !(Nat.blt n next) || elemB n acc with
    | true => pick1 base next acc l
    | false => pick1 base next (acc ++ [n]) l
def upTo (base : Nat) : Nat → List Nat
  | 0 => []
  | k + 1 => upTo base k ++ [base + k]
def idxB (n : Nat) : List Nat → Nat → Nat
  | [], _ => n
  | m :: l, i => match Nat.beq m n with
    | true => i
    | false => idxB n l (i + 1)
def atB : List Nat → Nat → Nat → Nat
  | [], _, d => d
  | m :: _, 0, _ => m
  | _ :: l, i + 1, d => atB l i d
def turnR (base : Nat) (l : List Nat) (n : Nat) : Nat := match Nat.blt n base with
  | true => n
  | false => idxB n l base
def turnQ (base : Nat) (l : List Nat) (n : Nat) : Nat := match Nat.blt n base with
  | true => n
  | false => atB l (n - base) n
def turnB (base : Nat) (l : List Nat) : Nat → Nat → Bool
  | _, 0 => true
  | next, k + 1 => Nat.blt (turnR base l k) next && Nat.beq (turnQ base l (turnR base l k)) k && Nat.blt (turnQ base l k) next && Nat.beq (turnR base l (turnQ base l k)) k && turnB base l next k
def canon (base : Nat) (ds : List Nat) (st : St) : St :=
  match Nat.blt (base + 1) st.next with
  | false => st
  | true =>
    let l := pick1 base st.next (pick1 base st.next [] (namesOf st ds)) (upTo base (st.next - base))
    match turnB base l st.next st.next with
    | true => renSt (turnR base l) st
    | false => st
theorem turnB_out {base : Nat} {l : List Nat} {next : Nat} : ∀ k, turnB base l next k = true → ∀ n, n < k → turnR base l n < next ∧ turnQ base l (turnR base l n) = n ∧ turnQ base l n < next ∧ turnR base l (turnQ base l n) = n := by
  intro k
  induction k with
  | zero => intro _ n hn; omega
  | succ k ih =>
    intro h n hn
    simp only [turnB, Bool.and_eq_true] at h
    obtain ⟨⟨⟨⟨h1, h2⟩, h3⟩, h4⟩, h5⟩ := h
    rcases Nat.lt_or_ge n k with hk | hk
    · exact ih h5 n hk
    · obtain rfl : n = k := by omega
      exact ⟨blt_lt h1, Nat.eq_of_beq_eq_true h2, blt_lt h3, Nat.eq_of_beq_eq_true h4⟩
theorem canon_turn (base : Nat) (ds : List Nat) (st : St) : canon base ds st = st ∨ ∃ r q, Turn base st.next r q ∧ canon base ds st = renSt r st := by
  unfold canon
  split
  · exact .inl rfl
  · simp only
    split
    · rename_i h
      refine .inr ⟨_, turnQ base _, ⟨fun n hn => ?_, fun n hn => (turnB_out _ h n hn).1, fun n hn => (turnB_out _ h n hn).2.1, fun n hn => (turnB_out _ h n hn).2.2.1, fun n hn => (turnB_out _ h n hn).2.2.2⟩, rfl⟩
      unfold turnR
      have : Nat.blt n base = true := Nat.ble_eq_true_of_le hn
      rw [this]
    · exact .inl rfl
end Go.Vg
