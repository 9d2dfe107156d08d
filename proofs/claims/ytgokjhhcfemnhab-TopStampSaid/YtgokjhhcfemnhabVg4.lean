/- A part of the proof that the law TopStamp holds of the given program: facts that are used there. -/
import Derived.Test.YtgokjhhcfemnhabVg3
namespace Go.Vg
open Go.RowKit
/-! The table of types, and what it is held against. -/
theorem blt_lt {a b : Nat} (h : Nat.blt a b = true) : a < b := Nat.le_of_ble_eq_true h
theorem blt_not {a b : Nat} (h : Nat.blt a b = false) : ¬ a < b := fun k => by
  have : Nat.blt a b = true := Nat.ble_eq_true_of_le k
  rw [this] at h; cases h
def zeroCell : Ty → Value → Bool
  | .bool, .bool b => !b
  | .int k, .int k' n => decide (k = k') && decide (n = 0)
  | .str, .string s => Nat.beq s.size 0
  | .err, .nilIface => true
  | .slice _, .slice none l c => Nat.beq l 0 && Nat.beq c 0
  | .opq, .pointer none => true
  | .opq, .map none => true
  | .opq, .nilFunc => true
  | .opq, .nilIface => true
  | _, _ => false
def zeroRow : Ty → List Value → Bool
  | .prod a b, vs => zeroRow a (vs.take a.size) && zeroRow b (vs.drop a.size)
  | .unit, vs => vs.isEmpty
  | t, [v] => t.one && zeroCell t v
  | _, _ => false
/-- So many things of a type, one behind the other, at zero. -/
def zeroRows (ty : Ty) : Nat → List Value → Bool
  | 0, vs => vs.isEmpty
  | n + 1, vs => zeroRow ty (vs.take ty.size) && zeroRows ty n (vs.drop ty.size)
def fieldsFit (f : TypeId → Ty → Bool) : List Field → Nat → Ty → Bool
  | [], _, .unit => true
  | g :: gs, off, .prod a b => Nat.beq g.offset off && f g.type a && Nat.blt 0 a.size && fieldsFit f gs (off + a.size) b
  | _, _, _ => false
def shapeFit (f : TypeId → Ty → Bool) : Ty → TypeDesc → Bool
  | .bool, .bool => true
  | .int k, .int k' => decide (k = k')
  | .str, .string => true
  | .err, .interface _ => true
  | .slice e, .slice te => f te e
  | .opq, .struct _ => false
  | .opq, .array _ _ => false
  | .opq, _ => true
  | .prod a b, .struct fs => fieldsFit f fs.toList 0 (.prod a b)
  | .unit, .struct fs => fieldsFit f fs.toList 0 .unit
  | _, _ => false
def fits (P : Program) : Nat → TypeId → Ty → Bool
  | 0, _, _ => false
  | n + 1, t, ty => match P.info? t, P.underlying t with
    | some i, some d => Nat.beq i.size ty.size && Nat.ble i.bytes 4096 &&
        (match i.zero with | some z => zeroRow ty z.cells.toList | none => false) && shapeFit (fits P n) ty d
    | _, _ => false
/-- What a fit says. -/
structure Fit (P : Program) (t : TypeId) (ty : Ty) (i : TypeInfo) (d : TypeDesc) : Prop where
  info : P.info? t = some i
  und : P.underlying t = some d
  size : i.size = ty.size
  bytes : i.bytes ≤ 4096
  zero : ∃ z, i.zero = some z ∧ zeroRow ty z.cells.toList = true
theorem fits_out {P : Program} {n : Nat} {t : TypeId} {ty : Ty} (h : fits P n t ty = true) :
    ∃ m i d, n = m + 1 ∧ Fit P t ty i d ∧ shapeFit (fits P m) ty d = true := by
  cases n with
  | zero => simp [fits] at h
  | succ m =>
    simp only [fits] at h
    split at h
    · rename_i i d hi hd
      simp only [Bool.and_eq_true] at h
      obtain ⟨⟨⟨h1, h2⟩, h3⟩, h4⟩ := h
      refine ⟨m, i, d, rfl, ⟨hi, hd, Nat.eq_of_beq_eq_true h1, Nat.le_of_ble_eq_true h2, ?_⟩, h4⟩
      split at h3
      · rename_i z hz; exact ⟨z, hz, h3⟩
      · cases h3
    · cases h
def zeroD : (t : Ty) → D t
  | .bool => false
  | .int _ => 0
  | .str => []
  | .err => .nil
  | .opq => ()
  | .unit => ()
  | .prod a b => (zeroD a, zeroD b)
  | .slice _ => []
/-- The cells of a thing of a type at zero. -/
def zeroCs : Ty → List C
  | .opq => [.any]
  | .unit => []
  | .prod a b => zeroCs a ++ zeroCs b
  | .slice _ => [.nilS]
  | .bool => [.lit false]
  | .int k => [.d (.int k) 0]
  | .str => [.d .str []]
  | .err => [.d .err .nil]
def castD {a b : Ty} (h : Ty.beq a b = true) (x : D a) : D b := Ty.eq_of_beq h ▸ x
theorem castD_rel {eT : TypeId} {a b : Ty} (h : Ty.beq a b = true) (x : D a) {A : Avoid} {w : World} {vs : List Value} (hr : R eT a x A w vs) : R eT b (castD h x) A w vs := by
  have := Ty.eq_of_beq h; subst this; exact hr
theorem castD_vr {eT : TypeId} {a b : Ty} (h : Ty.beq a b = true) (x : D a) {A : Avoid} {w : World} {v : Value} (hr : VR eT a x A w v) : VR eT b (castD h x) A w v := by
  have := Ty.eq_of_beq h; subst this; exact hr
def asD (want : Ty) : C → Option (D want)
  | .lit b => match h : Ty.beq .bool want with
    | true => some (castD h (a := .bool) b)
    | false => none
  | .d t x => match h : Ty.beq t want with
    | true => some (castD h x)
    | false => none
  | .app t xs _ => match h : Ty.beq (.slice t) want with
    | true => some (castD h (a := .slice t) xs)
    | false => none
  | .nilS => match want with
    | .slice _ => some []
    | _ => none
  | .emp => match want with
    | .slice _ => some []
    | _ => none
  | _ => none
def packD : (t : Ty) → List C → Option (D t × List C)
  | .prod a b, cs => match packD a cs with
    | some (x, cs1) => match packD b cs1 with
      | some (y, cs2) => some ((x, y), cs2)
      | none => none
    | none => none
  | .unit, cs => some ((), cs)
  | t, c :: cs => match asD t c with
    | some x => some (x, cs)
    | none => none
  | _, [] => none
def asD0 (want : Ty) : SV0 → Option (D want)
  | .one c => asD want c
  | .agg cs => match want.one with
    | true => none
    | false => match packD want cs with
      | some (x, []) => some x
      | _ => none
def toCells : (t : Ty) → D t → List C
  | .prod a b, x => toCells a x.1 ++ toCells b x.2
  | .unit, _ => []
  | t, x => [.d t x]
/-- The part of a thing that lies from some cell on, of a type. -/
def at? : (t : Ty) → D t → Nat → (want : Ty) → Option (D want)
  | .prod a b, x, off, want => match (Nat.beq off 0 && Ty.beq (.prod a b) want) with
    | true => match h : Ty.beq (.prod a b) want with
      | true => some (castD h (a := .prod a b) x)
      | false => none
    | false => match Nat.blt off a.size with
      | true => at? a x.1 off want
      | false => at? b x.2 (off - a.size) want
  | t, x, off, want => match Nat.beq off 0 with
    | true => match h : Ty.beq t want with
      | true => some (castD h x)
      | false => none
    | false => none
def comp : (t : Ty) → D t → Nat → Option ((u : Ty) × D u)
  | .prod a _, x, 0 => some ⟨a, x.1⟩
  | .prod _ b, x, f + 1 => comp b x.2 f
  | _, _, _ => none
def offOf : Ty → Nat → Option Nat
  | .prod _ _, 0 => some 0
  | .prod a b, f + 1 => match offOf b f with
    | some o => some (a.size + o)
    | none => none
  | _, _ => none
section
variable {eT : TypeId} {X : Ext}
theorem R.slice_nil {e : Ty} {A : Avoid} {w : World} : R eT (.slice e) [] A w [.slice none 0 0] :=
  ⟨_, rfl, by simp, .inl ⟨rfl, none, 0, rfl⟩⟩
theorem asD_rel {S : Sit} {want : Ty} {c : C} {x : D want} {v : Value} (h : asD want c = some x) (hc : CR eT S c v) : VR eT want x S.A S.w v := by
  cases c <;> simp only [asD] at h
  case lit b =>
    split at h
    · cases h
      rename_i hb
      exact castD_vr hb _ (VR.of_one rfl (show R eT .bool b _ _ _ from by rw [show v = _ from hc]; rfl))
    · cases h
  case d t y =>
    split at h
    · cases h; rename_i hb; exact castD_vr hb _ hc
    · cases h
  case app t xs n =>
    split at h
    · cases h; rename_i hb; exact castD_vr hb _ hc.1
    · cases h
  case nilS =>
    cases want <;> simp at h
    subst h
    rw [show v = _ from hc]
    exact VR.of_one rfl R.slice_nil
  case emp =>
    cases want <;> simp at h
    subst h
    obtain ⟨a, rfl⟩ := hc
    exact VR.of_one rfl ⟨_, rfl, by simp, .inl ⟨rfl, a, 0, rfl⟩⟩
  all_goals cases h
theorem R_of_one_VR {t : Ty} {x : D t} {A : Avoid} {w : World} {v : Value} (ho : v.oneCell' = true) (h : VR eT t x A w v) : t.one = true ∧ R eT t x A w [v] := by
  unfold VR at h
  split at h
  · rename_i h1; exact ⟨h1, h⟩
  · obtain ⟨cs, rfl, _⟩ := h; simp [Value.oneCell'] at ho
theorem packD_rel {S : Sit} : ∀ {t : Ty} {cs cs' : List C} {x : D t} {vs : List Value}, packD t cs = some (x, cs') → CRs eT S cs vs →
    ∃ us vs', vs = us ++ vs' ∧ R eT t x S.A S.w us ∧ CRs eT S cs' vs' := by
  have one : ∀ {t : Ty} {c : C} {cs cs' : List C} {x : D t} {vs : List Value}, (match asD t c with | some x => some (x, cs) | none => none) = some (x, cs') → CRs eT S (c :: cs) vs →
      ∃ us vs', vs = us ++ vs' ∧ R eT t x S.A S.w us ∧ CRs eT S cs' vs' := by
    intro t c cs cs' x vs h hc
    cases hc with
    | cons h1 h2 h3 =>
      rename_i v vs0
      split at h
      · rename_i y hy
        cases h
        exact ⟨[v], vs0, rfl, (R_of_one_VR h2 (asD_rel hy h1)).2, h3⟩
      · cases h
  intro t
  induction t with
  | prod a b iha ihb =>
    intro cs cs' x vs h hc
    simp only [packD] at h
    split at h
    · rename_i y cs1 h1
      split at h
      · rename_i z cs2 h2
        cases h
        obtain ⟨u1, v1, rfl, r1, k1⟩ := iha h1 hc
        obtain ⟨u2, v2, rfl, r2, k2⟩ := ihb h2 k1
        exact ⟨u1 ++ u2, v2, by simp, ⟨u1, u2, rfl, r1, r2⟩, k2⟩
      · cases h
    · cases h
  | unit =>
    intro cs cs' x vs h hc
    simp only [packD] at h
    cases h
    exact ⟨[], vs, rfl, rfl, hc⟩
  | bool => intro cs cs' x vs h hc; cases cs with | nil => simp [packD] at h | cons c cs => exact one (t := .bool) h hc
  | int k => intro cs cs' x vs h hc; cases cs with | nil => simp [packD] at h | cons c cs => exact one (t := .int k) h hc
  | str => intro cs cs' x vs h hc; cases cs with | nil => simp [packD] at h | cons c cs => exact one (t := .str) h hc
  | err => intro cs cs' x vs h hc; cases cs with | nil => simp [packD] at h | cons c cs => exact one (t := .err) h hc
  | opq => intro cs cs' x vs h hc; cases cs with | nil => simp [packD] at h | cons c cs => exact one (t := .opq) h hc
  | slice e _ => intro cs cs' x vs h hc; cases cs with | nil => simp [packD] at h | cons c cs => exact one (t := .slice e) h hc
theorem asD0_rel {S : Sit} {want : Ty} {c : SV0} {x : D want} {v : Value} (h : asD0 want c = some x) (hc : SV0R eT S c v) : VR eT want x S.A S.w v := by
  cases c with
  | one c => exact asD_rel h hc
  | agg cs =>
    simp only [asD0] at h
    obtain ⟨vs, rfl, hcs⟩ := hc
    split at h
    · cases h
    · rename_i ho
      split at h
      · rename_i y hy
        cases h
        obtain ⟨us, vs', rfl, r, k⟩ := packD_rel hy hcs
        cases k
        unfold VR
        rw [if_neg (by simp [ho])]
        exact ⟨_, rfl, by simpa using r⟩
      · cases h
theorem CRs.append {S : Sit} {cs cs' : List C} {vs vs' : List Value} (h : CRs eT S cs vs) (h' : CRs eT S cs' vs') : CRs eT S (cs ++ cs') (vs ++ vs') := by
  induction h with
  | nil => exact h'
  | cons h1 h2 _ ih => exact .cons h1 h2 ih
theorem CRs.length {S : Sit} {cs : List C} {vs : List Value} (h : CRs eT S cs vs) : cs.length = vs.length := by
  induction h with
  | nil => rfl
  | cons _ _ _ ih => simp [ih]
theorem CRs.get {S : Sit} {cs : List C} {vs : List Value} (h : CRs eT S cs vs) : ∀ {j : Nat} {c : C}, cs[j]? = some c → ∃ v, vs[j]? = some v ∧ CR eT S c v ∧ v.oneCell' = true := by
  induction h with
  | nil => intro j c h; simp at h
  | cons h1 h2 _ ih =>
    intro j c h
    cases j with
    | zero => simp at h; subst h; exact ⟨_, rfl, h1, h2⟩
    | succ j => simp at h; simpa using ih h
theorem CRs.drop {S : Sit} {cs : List C} {vs : List Value} (h : CRs eT S cs vs) : ∀ k, CRs eT S (cs.drop k) (vs.drop k) := by
  induction h with
  | nil => intro k; simp; exact .nil
  | cons h1 h2 h3 ih =>
    intro k
    cases k with
    | zero => exact .cons h1 h2 h3
    | succ k => exact ih k
theorem CRs.take {S : Sit} {cs : List C} {vs : List Value} (h : CRs eT S cs vs) : ∀ k, CRs eT S (cs.take k) (vs.take k) := by
  induction h with
  | nil => intro k; simp; exact .nil
  | cons h1 h2 h3 ih =>
    intro k
    cases k with
    | zero => exact .nil
    | succ k => exact .cons h1 h2 (ih k)
theorem toCells_rel {S : Sit} : ∀ {t : Ty} {x : D t} {vs : List Value}, R eT t x S.A S.w vs → CRs eT S (toCells t x) vs := by
  intro t
  induction t with
  | prod a b iha ihb =>
    intro x vs h
    obtain ⟨u1, u2, rfl, h1, h2⟩ := h
    exact (iha h1).append (ihb h2)
  | unit => intro x vs h; cases h; exact .nil
  | slice e _ =>
    intro x vs h
    have ho := h.oneCell
    obtain ⟨v, rfl, hr⟩ := id h
    exact .cons (VR.of_one rfl h) (ho v (by simp)) .nil
  | err =>
    intro x vs h
    have ho := h.oneCell
    obtain ⟨v, rfl, hr⟩ := id h
    exact .cons (VR.of_one rfl h) (ho v (by simp)) .nil
  | bool => intro x vs h; cases h; exact .cons (VR.of_one rfl rfl) rfl .nil
  | int k => intro x vs h; have h' := h; obtain ⟨rfl, _⟩ := h; exact .cons (VR.of_one rfl h') rfl .nil
  | str => intro x vs h; have h' := h; obtain ⟨rfl, _⟩ := h; exact .cons (VR.of_one rfl h') rfl .nil
  | opq => intro x vs h; exact h.elim
theorem at?_rel : ∀ {t : Ty} {x : D t} {off : Nat} {want : Ty} {y : D want} {A : Avoid} {w : World} {vs : List Value}, at? t x off want = some y → R eT t x A w vs →
    R eT want y A w ((vs.drop off).take want.size) := by
  have one : ∀ {t : Ty} {x : D t} {off : Nat} {want : Ty} {y : D want} {A : Avoid} {w : World} {vs : List Value},
      (match Nat.beq off 0 with | true => (match h : Ty.beq t want with | true => some (castD h x) | false => none) | false => none) = some y → R eT t x A w vs →
      R eT want y A w ((vs.drop off).take want.size) := by
    intro t x off want y A w vs h hr
    split at h
    · rename_i h0
      have h0 := Nat.eq_of_beq_eq_true h0
      subst h0
      split at h
      · rename_i hb
        cases h
        have e := castD_rel hb x hr
        have hl := e.length
        simp only [List.drop_zero]
        rw [List.take_of_length_le (by omega)]
        exact e
      · cases h
    · cases h
  intro t
  induction t with
  | prod a b iha ihb =>
    intro x off want y A w vs h hr
    simp only [at?] at h
    split at h
    · rename_i hb0
      simp at hb0
      split at h
      · rename_i hb
        cases h
        have e := castD_rel hb x hr
        have hl := e.length
        rw [hb0.1, List.drop_zero, List.take_of_length_le (by omega)]
        exact e
      · cases h
    · obtain ⟨u1, u2, rfl, r1, r2⟩ := hr
      have hl1 := r1.length
      have hl2 := r2.length
      split at h
      · rename_i hlt
        have hlt : off < a.size := blt_lt hlt
        have := iha h r1
        have hlw := this.length
        simp only [List.length_take, List.length_drop] at hlw
        rw [List.drop_append_of_le_length (by omega), List.take_append_of_le_length (by simp only [List.length_drop]; omega)]
        exact this
      · rename_i hlt
        have hlt : ¬ off < a.size := blt_not hlt
        have := ihb h r2
        rw [List.drop_append, List.drop_of_length_le (by omega), List.nil_append]
        rw [hl1]
        exact this
  | unit => intro x off want y A w vs h hr; exact one (t := .unit) h hr
  | bool => intro x off want y A w vs h hr; exact one (t := .bool) h hr
  | int k => intro x off want y A w vs h hr; exact one (t := .int k) h hr
  | str => intro x off want y A w vs h hr; exact one (t := .str) h hr
  | err => intro x off want y A w vs h hr; exact one (t := .err) h hr
  | opq => intro x off want y A w vs h hr; exact one (t := .opq) h hr
  | slice e _ => intro x off want y A w vs h hr; exact one (t := .slice e) h hr
end
end Go.Vg
