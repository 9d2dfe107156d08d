/- A part of the proof that the law TopStamp holds of the given program: facts that are used there. -/
import Derived.Test.YtgokjhhcfemnhabVg1
namespace Go.Vg
/-- A way into a list whose elements have rows of their own: it; an element's cells; an element's row; such a row's cells. -/
inductive XP where
  | top
  | el (e : Ty) (i off : Nat)
  | row (i : Nat)
  | cell (i j : Nat)
/-- One cell, known in part. -/
inductive C where
  | xd (n : Nat) (p : XP)
  | lit (b : Bool)
  | d (t : Ty) (x : D t)
  | app (t : Ty) (xs : List (D t)) (n : Nat)
  | nilS
  | nilP
  | emp
  | mrow (n : Nat)
  | msub (n : Nat) (t : Ty) (lo len : Nat)
  | aref (n : Nat)
  | xref (n : Nat)
  | ref (n off : Nat)
  | eref (n : Nat) (t : Ty) (i off : Nat)
  | iref (t : Ty) (x : D t)
  | fn (f : FuncId) (caps : List Nat)
  | any
inductive SV0 where
  | one (c : C)
  | agg (cs : List C)
inductive SV where
  | s (v : SV0)
  | tup (vs : List SV0)
/-- What the code has for its own. -/
inductive OC where
  | cells (T : TypeId) (cs : List C)
  | mrow (t : Ty) (xs : List (D t))
  | arr (t : Ty) (xs : List (D t))
  | tok (t : Ty) (xs : List (D t))
  | ext (k : Nat) (t : Ty) (x : D t)
  | iter (cs : List C) (seen : List Int) (cl : Int)
def OC.isX : OC → Bool
  | .ext _ _ _ => true
  | .iter _ _ _ => true
  | _ => false
structure Loc where
  v : Value
  bs : List Nat
instance : Inhabited Loc := ⟨⟨.nilFunc, []⟩⟩
def OC.lo : OC → Nat
  | .tok t xs => xs.length * t.size
  | _ => 0
structure St where
  env : List (Nat × SV)
  objs : List (Nat × OC)
  next : Nat
def look.{u} {α : Type u} (l : List (Nat × α)) (n : Nat) : Option α :=
  match l with
  | [] => none
  | (m, x) :: r => match Nat.beq m n with
    | true => some x
    | false => look r n
def ins {α : Type} (l : List (Nat × α)) (n : Nat) (y : α) : List (Nat × α) :=
  match l with
  | [] => [(n, y)]
  | (m, x) :: r => match Nat.beq m n with
    | true => (m, y) :: r
    | false => (m, x) :: ins r n y
theorem beq_ne {n m : Nat} (h : ¬ n = m) : Nat.beq n m = false := by
  rw [Bool.eq_false_iff]; intro e; exact h (Nat.eq_of_beq_eq_true e)
theorem look_ins {α : Type} (l : List (Nat × α)) (n m : Nat) (y : α) : look (ins l n y) m = if n = m then some y else look l m := by
  induction l with
  | nil =>
    simp only [ins, look]
    by_cases h : n = m
    · subst h; simp [Nat.beq_refl]
    · rw [if_neg h]; have : Nat.beq n m = false := beq_ne h
      rw [this]
  | cons p r ih =>
    obtain ⟨k, x⟩ := p
    simp only [ins]
    by_cases hk : k = n
    · subst hk
      simp only [Nat.beq_refl, look]
      by_cases h : k = m
      · subst h; simp [Nat.beq_refl]
      · rw [if_neg h]; have : Nat.beq k m = false := beq_ne h
        rw [this]
    · have hkb : Nat.beq k n = false := beq_ne hk
      simp only [hkb, look]
      by_cases h : k = m
      · subst h; simp only [Nat.beq_refl]; rw [if_neg (fun e => hk e.symm)]
      · have : Nat.beq k m = false := beq_ne h
        rw [this]; exact ih
theorem look_cons.{u} {α : Type u} (l : List (Nat × α)) (n m : Nat) (y : α) : look ((n, y) :: l) m = if n = m then some y else look l m := by
  simp only [look]
  by_cases h : n = m
  · subst h; simp [Nat.beq_refl]
  · rw [if_neg h]; have : Nat.beq n m = false := beq_ne h
    rw [this]
/-- A situation: the outer cells to be kept off, the objects by name, where they are, the world. -/
structure Sit where
  O : Avoid
  ob : Nat → Option OC
  loc : Nat → Loc
  next : Nat
  w : World
def Sit.A (S : Sit) : Avoid := fun b off => S.O b off ∨ ∃ n oc, S.ob n = some oc ∧ b ∈ (S.loc n).bs ∧ oc.lo ≤ off
def Sit.owns (S : Sit) (b : Nat) : Prop := ∃ n oc, S.ob n = some oc ∧ b ∈ (S.loc n).bs
def Sit.fixed (S : Sit) (n : Nat) : Prop := ∀ t ys, S.ob n ≠ some (.tok t ys)
/-! Lists whose elements have rows of their own. -/
def Ty.scal : Ty → Bool
  | .bool | .int _ | .str | .unit => true
  | .prod a b => a.scal && b.scal
  | _ => false
/-- Where an element's own row is. -/
structure Spot (e : Ty) where
  off : Nat
  t : Ty
  get : D e → List (D t)
  put : D e → List (D t) → D e
def spot : (e : Ty) → Option (Spot e)
  | .slice t => match t.scal && Nat.beq t.size 1 with
    | true => some ⟨0, t, fun y => y, fun _ ys => ys⟩
    | false => none
  | .prod a b => match spot a with
    | some s => match b.scal with
      | true => some ⟨s.off, s.t, fun y => s.get y.1, fun y ys => (s.put y.1 ys, y.2)⟩
      | false => none
    | none => match a.scal, spot b with
      | true, some s => some ⟨a.size + s.off, s.t, fun y => s.get y.2, fun y ys => (y.1, s.put y.2 ys)⟩
      | _, _ => none
  | _ => none
/-- All but one block are to be kept off. -/
def Only (c : Option Nat) : Avoid := fun b _ => some b ≠ c
structure DeepRows (e : Ty) (s : Spot e) (xs : List (D e)) (w : World) (b : Nat) (cs : List (Option Nat)) (hs : List Value) (vs : Array Value) : Prop where
  hl : hs.length = xs.length
  cl : cs.length = xs.length
  inj : ∀ i j c : Nat, cs[i]? = some (some c) → cs[j]? = some (some c) → i = j
  blk : ∀ i c : Nat, cs[i]? = some (some c) → c ≠ b ∧ ∃ vs T, w.heap[c]? = some (.cells vs T (0, 0))
  row : ∀ (i : Nat) (y : D e), xs[i]? = some y → ∃ c h us, cs[i]? = some c ∧ hs[i]? = some h ∧ us[s.off]? = some h ∧ R 0 e y (Only c) w us ∧ ∀ j u, us[j]? = some u → vs[i * e.size + j]? = some u
def DeepR : (t : Ty) → D t → Loc → World → Prop
  | .slice e, xs, l, w => ∃ s, spot e = some s ∧ ∃ top hs, l.v = .tuple (top :: hs).toArray ∧
      ((xs = [] ∧ hs = [] ∧ (∃ a, top = .slice a 0 0) ∧ l.bs = []) ∨
       ∃ b vs T cap cs, top = .slice (some ⟨b, 0, none⟩) xs.length cap ∧ l.bs = b :: cs.filterMap id ∧ w.heap[b]? = some (.cells vs T (0, 0)) ∧ vs.size = cap * e.size ∧ xs.length ≤ cap ∧ xs.length ≤ big ∧
         DeepRows e s xs w b cs hs vs)
  | _, _, _, _ => False
def XPR : XP → Value → Value → Prop
  | .top, l, v => ∃ hs : List Value, l = .tuple (v :: hs).toArray
  | .el e i off, l, v => ∃ b k c, ∃ hs : List Value, l = .tuple ((.slice (some ⟨b, 0, none⟩) k c) :: hs).toArray ∧ v = .pointer (some ⟨b, i * e.size + off, none⟩)
  | .row i, l, v => ∃ t, ∃ hs : List Value, l = .tuple (t :: hs).toArray ∧ hs[i]? = some v
  | .cell i j, l, v => ∃ t, ∃ hs : List Value, ∃ b o k c, l = .tuple (t :: hs).toArray ∧ hs[i]? = some (.slice (some ⟨b, o, none⟩) k c) ∧ v = .pointer (some ⟨b, o + j, none⟩)
/-! Maps by strings: key, value, when it came; and how many came. -/
@[reducible] def mapE (e : Ty) : Ty := .prod .str (.prod e (.prod (.int .i64) .unit))
@[reducible] def mapT (e : Ty) : Ty := .prod (.slice (mapE e)) (.prod (.int .i64) .unit)
def NoA : Avoid := fun _ _ => False
structure EntR (e : Ty) (y : D (mapE e)) (m : MapEntry) (w : World) : Prop where
  key : m.key = .string ⟨y.1.toArray⟩ ∧ y.1.length ≤ big
  val : VR 0 e y.2.1 NoA w m.val
  born : y.2.2.1 = (m.born : Int)
def EntsR (e : Ty) : List (D (mapE e)) → List MapEntry → World → Prop
  | [], [], _ => True
  | y :: r, m :: ms, w => EntR e y m w ∧ EntsR e r ms w
  | _, _, _ => False
structure MapD (e : Ty) (x : D (mapT e)) (l : Loc) (w : World) (b : Nat) (es : Array MapEntry) (clk : Nat) : Prop where
  scal : e.scal = true
  lv : l.v = .map (some b)
  bs : l.bs = [b]
  heap : w.heap[b]? = some (.map es clk)
  clk : x.2.1 = (clk : Int)
  ents : EntsR e x.1 es.toList w
  big : x.1.length ≤ big
  old : ∀ y ∈ x.1, y.2.2.1 < x.2.1
def MapR (t : Ty) (x : D t) (l : Loc) (w : World) : Prop := ∃ e, ∃ h : t = mapT e, ∃ b es clk, MapD e (h ▸ x) l w b es clk
/-- Readings of further kinds of objects; kind 0 are the lists above, kind 1 are maps. -/
structure Ext where
  rel : Nat → (t : Ty) → D t → Loc → World → Prop
  inside : ∀ {k t x l w}, rel k t x l w → ∀ b ∈ l.bs, b < w.heap.size
  ptr : ∀ {k t x l w}, 2 ≤ k → rel k t x l w → ∃ a, l.v = .pointer (some a)
  deep : ∀ {t x l w}, rel 0 t x l w ↔ DeepR t x l w
  map : ∀ {t x l w}, rel 1 t x l w ↔ MapR t x l w
  frame : ∀ {k t x l w w'}, rel k t x l w → (∀ b ∈ l.bs, w'.heap[b]? = w.heap[b]?) → rel k t x l w'
section
variable (eT : TypeId) (X : Ext)
def CR (S : Sit) : C → Value → Prop
  | .lit b, v => v = .bool b
  | .d t x, v => VR eT t x S.A S.w v
  | .app t xs n, v => VR eT (.slice t) xs S.A S.w v ∧ n < S.next ∧
      ∀ ys, S.ob n = some (.tok t ys) → xs.length ≤ ys.length ∧ (xs.length = ys.length → v = (S.loc n).v)
  | .nilS, v => v = .slice none 0 0
  | .nilP, v => v = .pointer none
  | .emp, v => ∃ a, v = .slice a 0 0
  | .mrow n, v => n < S.next ∧ ∀ t xs, S.ob n = some (.mrow t xs) → v = (S.loc n).v
  | .msub n t lo len, v => n < S.next ∧ ∀ xs, S.ob n = some (.mrow t xs) → (len = 0 ∧ ∃ a c, v = .slice a 0 c) ∨ ∃ b c, (S.loc n).bs = [b] ∧ v = .slice (some ⟨b, lo * t.size, none⟩) len c
  | .aref n, v => n < S.next ∧ ∀ t xs, S.ob n = some (.arr t xs) → v = (S.loc n).v
  | .xref n, v => n < S.next ∧ ∀ oc, S.ob n = some oc → oc.isX = true → v = (S.loc n).v
  | .xd n p, v => n < S.next ∧ ∀ t x, S.ob n = some (.ext 0 t x) → XPR p (S.loc n).v v
  | .ref n off, v => n < S.next ∧ ∀ T cs, S.ob n = some (.cells T cs) → ∃ b, (S.loc n).v = .pointer (some ⟨b, 0, none⟩) ∧ v = .pointer (some ⟨b, off, none⟩)
  | .eref n t i off, v => n < S.next ∧ ((∃ xs, S.ob n = some (.mrow t xs) ∨ S.ob n = some (.arr t xs)) → ∃ b, (S.loc n).bs = [b] ∧ v = .pointer (some ⟨b, i * t.size + off, none⟩))
  | .iref t x, v => ∃ b o us, v = .pointer (some ⟨b, o, none⟩) ∧ R eT t x S.A S.w us ∧ Row S.A S.w b o us
  | .fn f caps, v => v = .func (.func f) #[] (caps.map fun n => (S.loc n).v).toArray ∧ ∀ n ∈ caps, n < S.next ∧ S.fixed n
  | .any, _ => True
inductive CRs (S : Sit) : List C → List Value → Prop
  | nil : CRs S [] []
  | cons {c v cs vs} : CR eT S c v → v.oneCell' = true → CRs S cs vs → CRs S (c :: cs) (v :: vs)
def SV0R (S : Sit) : SV0 → Value → Prop
  | .one c, v => CR eT S c v
  | .agg cs, v => ∃ vs : List Value, v = .agg vs.toArray ∧ CRs eT S cs vs
inductive SV0Rs (S : Sit) : List SV0 → List Value → Prop
  | nil : SV0Rs S [] []
  | cons {c v cs vs} : SV0R eT S c v → SV0Rs S cs vs → SV0Rs S (c :: cs) (v :: vs)
def SVR (S : Sit) : SV → Value → Prop
  | .s x, v => SV0R eT S x v
  | .tup xs, v => ∃ vs : List Value, v = .tuple vs.toArray ∧ SV0Rs eT S xs vs
/-- The elements of a row stand in the block's cells. -/
def Elems (S : Sit) (t : Ty) (xs : List (D t)) (vs : Array Value) : Prop :=
  ∀ i y, xs[i]? = some y → ∃ us, R eT t y S.A S.w us ∧ ∀ j u, us[j]? = some u → vs[i * t.size + j]? = some u
def OR (S : Sit) (l : Loc) : OC → Prop
  | .cells T cs => ∃ b, ∃ vs : List Value, l.v = .pointer (some ⟨b, 0, none⟩) ∧ l.bs = [b] ∧ S.w.heap[b]? = some (.cells vs.toArray T (0, 0)) ∧ CRs eT S cs vs
  | .mrow t xs => (xs = [] ∧ (∃ a, l.v = .slice a 0 0) ∧ l.bs = []) ∨ ∃ b vs T cap, l.v = .slice (some ⟨b, 0, none⟩) xs.length cap ∧ l.bs = [b] ∧ S.w.heap[b]? = some (.cells vs T (0, 0)) ∧ vs.size = cap * t.size ∧
      xs.length ≤ cap ∧ xs.length ≤ big ∧ Elems eT S t xs vs
  | .arr t xs => ∃ b vs T, l.v = .pointer (some ⟨b, 0, none⟩) ∧ l.bs = [b] ∧ S.w.heap[b]? = some (.cells vs T (0, 0)) ∧ vs.size = xs.length * t.size ∧ Elems eT S t xs vs
  | .tok t xs => (xs = [] ∧ (∃ a, l.v = .slice a 0 0) ∧ l.bs = []) ∨ ∃ b vs T cap, l.v = .slice (some ⟨b, 0, none⟩) xs.length cap ∧ l.bs = [b] ∧ S.w.heap[b]? = some (.cells vs T (0, 0)) ∧ vs.size = cap * t.size ∧
      xs.length ≤ cap ∧ xs.length ≤ big ∧ Elems eT S t xs vs
  | .ext k t x => X.rel k t x l S.w
  | .iter cs seen cl => ∃ b m c, ∃ sn : Array Nat, l.v = .pointer (some ⟨b, 0, none⟩) ∧ l.bs = [b] ∧ S.w.heap[b]? = some (.mapIter (some m) c sn c) ∧ CRs eT S cs [.map (some m)] ∧ cl = (c : Int) ∧ seen = sn.toList.map fun (n : Nat) => (n : Int)
structure Good (S : Sit) : Prop where
  obj : ∀ n oc, S.ob n = some oc → n < S.next ∧ OR eT X S (S.loc n) oc
  apart : ∀ n m oc oc' b, S.ob n = some oc → S.ob m = some oc' → b ∈ (S.loc n).bs → b ∈ (S.loc m).bs → n = m
  out : ∀ n oc b off, S.ob n = some oc → b ∈ (S.loc n).bs → ¬ S.O b off
/-- One kind of object, and what may turn within. -/
def SameKind (l l' : Loc) : OC → OC → Prop
  | .cells T _, .cells T' _ => T = T'
  | .mrow t _, .mrow t' _ => t = t'
  | .arr t _, .arr t' _ => t = t'
  | .ext k t _, .ext k' t' _ => k = k' ∧ t = t'
  | .iter _ _ _, .iter _ _ _ => True
  | .tok t xs, .tok t' ys => t = t' ∧ xs.length ≤ ys.length ∧ (xs.length = ys.length → l'.v = l.v)
  | _, _ => False
structure Tr (S S' : Sit) : Prop where
  O : S'.O = S.O
  next : S.next ≤ S'.next
  os : S'.w.os = S.w.os
  output : S'.w.output = S.w.output
  size : S.w.heap.size ≤ S'.w.heap.size
  own : ∀ b, S'.owns b → S.owns b ∨ S.w.heap.size ≤ b
  cell : ∀ b o v, ¬ S.A b o → S.w.cell? ⟨b, o, none⟩ = some v → S'.w.cell? ⟨b, o, none⟩ = some v ∧ ¬ S'.A b o
  block : ∀ b, b < S.w.heap.size → ¬ S.owns b → S'.w.heap[b]? = S.w.heap[b]?
  loc : ∀ n, n < S.next → S.fixed n → S'.loc n = S.loc n
  kind : ∀ n oc', n < S.next → S'.ob n = some oc' → ∃ oc, S.ob n = some oc ∧ SameKind (S.loc n) (S'.loc n) oc oc'
variable {eT X}
theorem Tr.refl (S : Sit) : Tr S S :=
  ⟨rfl, Nat.le_refl _, rfl, rfl, Nat.le_refl _, fun _ h => .inl h, fun _ _ _ h h' => ⟨h', h⟩, fun _ _ _ => rfl, fun _ _ _ => rfl,
    fun n oc' _ h => ⟨oc', h, by cases oc' <;> simp [SameKind]⟩⟩
theorem Tr.fixed {S S' : Sit} (h : Tr S S') {n : Nat} (hn : n < S.next) (hf : S.fixed n) : S'.fixed n := by
  intro t ys e
  obtain ⟨oc, h1, h2⟩ := h.kind n _ hn e
  cases oc <;> simp [SameKind] at h2
  exact hf _ _ h1
theorem Tr.trans {S S' S'' : Sit} (h : Tr S S') (k : Tr S' S'') : Tr S S'' where
  O := k.O.trans h.O
  next := Nat.le_trans h.next k.next
  os := k.os.trans h.os
  output := k.output.trans h.output
  size := Nat.le_trans h.size k.size
  own b hb := by
    rcases k.own b hb with h1 | h1
    · exact h.own b h1
    · exact .inr (Nat.le_trans h.size h1)
  cell b o v ha hc := let ⟨h1, h2⟩ := h.cell b o v ha hc; k.cell b o v h2 h1
  block b hb ho := by
    rw [k.block b (Nat.lt_of_lt_of_le hb h.size) (fun h1 => by
      rcases h.own b h1 with h2 | h2
      · exact ho h2
      · omega), h.block b hb ho]
  loc n hn hf := (k.loc n (Nat.lt_of_lt_of_le hn h.next) (h.fixed hn hf)).trans (h.loc n hn hf)
  kind n oc'' hn h'' := by
    obtain ⟨oc', h1, k1⟩ := k.kind n oc'' (Nat.lt_of_lt_of_le hn h.next) h''
    obtain ⟨oc, h2, k2⟩ := h.kind n oc' hn h1
    refine ⟨oc, h2, ?_⟩
    cases oc <;> cases oc' <;> simp [SameKind] at k2 <;> cases oc'' <;> simp [SameKind] at k1 ⊢
    all_goals (try (simp_all; done))
    rename_i t xs t' ys t'' zs
    obtain ⟨rfl, a1, a2⟩ := k2
    obtain ⟨rfl, b1, b2⟩ := k1
    refine ⟨rfl, by omega, fun e => ?_⟩
    rw [b2 (by omega), a2 (by omega)]
theorem CR.tr {S S' : Sit} (h : Tr S S') : ∀ {c : C} {v : Value}, CR eT S c v → CR eT S' c v := by
  intro c v hc
  cases c with
  | lit b => exact hc
  | d t x => exact VR.frame hc h.cell
  | app t xs n =>
    obtain ⟨h1, h2, h3⟩ := hc
    refine ⟨VR.frame h1 h.cell, Nat.lt_of_lt_of_le h2 h.next, fun ys hy => ?_⟩
    obtain ⟨oc, k1, k2⟩ := h.kind n _ h2 hy
    cases oc <;> simp [SameKind] at k2
    obtain ⟨rfl, k3, k4⟩ := k2
    obtain ⟨m1, m2⟩ := h3 _ k1
    exact ⟨by omega, fun e => by rw [m2 (by omega), k4 (by omega)]⟩
  | nilS => exact hc
  | nilP => exact hc
  | emp => exact hc
  | mrow n =>
    refine ⟨Nat.lt_of_lt_of_le hc.1 h.next, fun t xs e => ?_⟩
    obtain ⟨oc, k1, k2⟩ := h.kind n _ hc.1 e
    cases oc <;> simp [SameKind] at k2
    rw [h.loc n hc.1 (fun t ys => by rw [k1]; simp)]
    exact hc.2 _ _ k1
  | msub n t lo len =>
    refine ⟨Nat.lt_of_lt_of_le hc.1 h.next, fun xs e => ?_⟩
    obtain ⟨oc, k1, k2⟩ := h.kind n _ hc.1 e
    cases oc <;> simp [SameKind] at k2
    subst k2
    rw [h.loc n hc.1 (fun t ys => by rw [k1]; simp)]
    exact hc.2 _ k1
  | aref n =>
    refine ⟨Nat.lt_of_lt_of_le hc.1 h.next, fun t xs e => ?_⟩
    obtain ⟨oc, k1, k2⟩ := h.kind n _ hc.1 e
    cases oc <;> simp [SameKind] at k2
    rw [h.loc n hc.1 (fun t ys => by rw [k1]; simp)]
    exact hc.2 _ _ k1
  | xref n =>
    refine ⟨Nat.lt_of_lt_of_le hc.1 h.next, fun oc' e hx => ?_⟩
    obtain ⟨oc, k1, k2⟩ := h.kind n _ hc.1 e
    have hx' : oc.isX = true := by cases oc <;> cases oc' <;> first | rfl | exact k2.elim | cases hx
    rw [h.loc n hc.1 (fun t ys => by rw [k1]; intro e; cases e; cases hx')]
    exact hc.2 _ k1 hx'
  | xd n p =>
    refine ⟨Nat.lt_of_lt_of_le hc.1 h.next, fun t xs e => ?_⟩
    obtain ⟨oc, k1, k2⟩ := h.kind n _ hc.1 e
    cases oc <;> simp [SameKind] at k2
    obtain ⟨rfl, rfl⟩ := k2
    rw [h.loc n hc.1 (fun t ys => by rw [k1]; simp)]
    exact hc.2 _ _ k1
  | ref n off =>
    refine ⟨Nat.lt_of_lt_of_le hc.1 h.next, fun T cs e => ?_⟩
    obtain ⟨oc, k1, k2⟩ := h.kind n _ hc.1 e
    cases oc <;> simp [SameKind] at k2
    rw [h.loc n hc.1 (fun t ys => by rw [k1]; simp)]
    exact hc.2 _ _ k1
  | eref n t i off =>
    refine ⟨Nat.lt_of_lt_of_le hc.1 h.next, fun ⟨xs, e⟩ => ?_⟩
    rcases e with e | e
    · obtain ⟨oc, k1, k2⟩ := h.kind n _ hc.1 e
      cases oc <;> simp [SameKind] at k2
      rw [h.loc n hc.1 (fun t ys => by rw [k1]; simp)]
      subst k2
      exact hc.2 ⟨_, .inl k1⟩
    · obtain ⟨oc, k1, k2⟩ := h.kind n _ hc.1 e
      cases oc <;> simp [SameKind] at k2
      rw [h.loc n hc.1 (fun t ys => by rw [k1]; simp)]
      subst k2
      exact hc.2 ⟨_, .inr k1⟩
  | iref t x =>
    obtain ⟨b, o, us, rfl, h1, h2⟩ := hc
    exact ⟨b, o, us, rfl, h1.frame h.cell, h2.frame h.cell⟩
  | fn f caps =>
    obtain ⟨rfl, h2⟩ := hc
    refine ⟨?_, fun n hn => ⟨Nat.lt_of_lt_of_le (h2 n hn).1 h.next, h.fixed (h2 n hn).1 (h2 n hn).2⟩⟩
    congr 2
    exact List.map_congr_left fun n hn => by rw [h.loc n (h2 n hn).1 (h2 n hn).2]
  | any => trivial
theorem CRs.tr {S S' : Sit} (h : Tr S S') {cs : List C} {vs : List Value} (hc : CRs eT S cs vs) : CRs eT S' cs vs := by
  induction hc with
  | nil => exact .nil
  | cons h1 h2 _ ih => exact .cons (h1.tr h) h2 ih
theorem SV0R.tr {S S' : Sit} (h : Tr S S') {x : SV0} {v : Value} (hc : SV0R eT S x v) : SV0R eT S' x v := by
  cases x with
  | one c => exact CR.tr h hc
  | agg cs => obtain ⟨vs, rfl, h1⟩ := hc; exact ⟨vs, rfl, h1.tr h⟩
theorem SV0Rs.tr {S S' : Sit} (h : Tr S S') {xs : List SV0} {vs : List Value} (hc : SV0Rs eT S xs vs) : SV0Rs eT S' xs vs := by
  induction hc with
  | nil => exact .nil
  | cons h1 _ ih => exact .cons (h1.tr h) ih
theorem SVR.tr {S S' : Sit} (h : Tr S S') {x : SV} {v : Value} (hc : SVR eT S x v) : SVR eT S' x v := by
  cases x with
  | s x => exact SV0R.tr h hc
  | tup xs => obtain ⟨vs, rfl, h1⟩ := hc; exact ⟨vs, rfl, h1.tr h⟩
theorem Elems.tr {S S' : Sit} (h : Tr S S') {t : Ty} {xs : List (D t)} {vs : Array Value} (hc : Elems eT S t xs vs) : Elems eT S' t xs vs :=
  fun i y hy => let ⟨us, h1, h2⟩ := hc i y hy; ⟨us, h1.frame h.cell, h2⟩
/-- An object that is not touched. -/
theorem OR.tr {S S' : Sit} (h : Tr S S') {l : Loc} {oc : OC} (hb : ∀ b, b ∈ l.bs → S'.w.heap[b]? = S.w.heap[b]?) (ho : OR eT X S l oc) : OR eT X S' l oc := by
  cases oc with
  | cells T cs =>
    obtain ⟨b, vs, h1, h2, h3, h4⟩ := ho
    exact ⟨b, vs, h1, h2, by rw [hb b (by simp [h2])]; exact h3, h4.tr h⟩
  | mrow t xs =>
    rcases ho with ho | ⟨b, vs, T, cap, h1, h2, h3, h4, h5, h6, h7⟩
    · exact .inl ho
    · exact .inr ⟨b, vs, T, cap, h1, h2, by rw [hb b (by simp [h2])]; exact h3, h4, h5, h6, h7.tr h⟩
  | arr t xs =>
    obtain ⟨b, vs, T, h1, h2, h3, h4, h5⟩ := ho
    exact ⟨b, vs, T, h1, h2, by rw [hb b (by simp [h2])]; exact h3, h4, h5.tr h⟩
  | tok t xs =>
    rcases ho with ho | ⟨b, vs, T, cap, h1, h2, h3, h4, h5, h6, h7⟩
    · exact .inl ho
    · exact .inr ⟨b, vs, T, cap, h1, h2, by rw [hb b (by simp [h2])]; exact h3, h4, h5, h6, h7.tr h⟩
  | ext k t x => exact X.frame ho hb
  | iter cs seen cl =>
    obtain ⟨b, m, c, sn, h1, h2, h3, h4, h5, h6⟩ := ho
    exact ⟨b, m, c, sn, h1, h2, by rw [hb b (by simp [h2])]; exact h3, h4.tr h, h5, h6⟩
theorem OR.inside {S : Sit} {l : Loc} {oc : OC} (ho : OR eT X S l oc) : ∀ b ∈ l.bs, b < S.w.heap.size := by
  intro b hb
  have key : ∀ {b' : Nat} {o : Obj}, S.w.heap[b']? = some o → b' < S.w.heap.size := fun h => (Array.getElem?_eq_some_iff.1 h).1
  cases oc with
  | cells T cs => obtain ⟨b', vs, _, h2, h3, _⟩ := ho; rw [h2] at hb; simp at hb; subst hb; exact key h3
  | mrow t xs =>
    rcases ho with ⟨_, _, h⟩ | ⟨b', vs, T, cap, _, h2, h3, _⟩
    · rw [h] at hb; simp at hb
    · rw [h2] at hb; simp at hb; subst hb; exact key h3
  | arr t xs => obtain ⟨b', vs, T, _, h2, h3, _⟩ := ho; rw [h2] at hb; simp at hb; subst hb; exact key h3
  | tok t xs =>
    rcases ho with ⟨_, _, h⟩ | ⟨b', vs, T, cap, _, h2, h3, _⟩
    · rw [h] at hb; simp at hb
    · rw [h2] at hb; simp at hb; subst hb; exact key h3
  | ext k t x => exact X.inside ho b hb
  | iter cs seen cl => obtain ⟨b', m, c, sn, _, h2, h3, _⟩ := ho; rw [h2] at hb; simp at hb; subst hb; exact key h3
end
end Go.Vg
