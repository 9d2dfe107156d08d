/- A part of the proof that the law TopStamp holds of the given program: facts that are used there. -/
import Derived.WalkKit
import Derived.Below
import Derived.Orders
namespace Go.Vg
/-- Nothing below B has turned; what is drawn may be. -/
structure Below (B : Nat) (w w' : World) : Prop where
  os : w'.os = w.os
  output : w'.output = w.output
  size : w.heap.size ≤ w'.heap.size
  block : ∀ k, k < B → w'.heap[k]? = w.heap[k]?
theorem Below.of {B : Nat} {w w' : World} (h : Go.RowKit.Below B w w') : Below B w w' := ⟨h.os, h.output, h.size, h.block⟩
theorem Below.refl (B : Nat) (w : World) : Below B w w := ⟨rfl, rfl, Nat.le_refl _, fun _ _ => rfl⟩
theorem Below.trans {B : Nat} {a b c : World} (h : Below B a b) (k : Below B b c) : Below B a c :=
  ⟨k.os.trans h.os, k.output.trans h.output, Nat.le_trans h.size k.size, fun i hi => (k.block i hi).trans (h.block i hi)⟩
theorem Below.mono {B B' : Nat} {w w' : World} (h : Below B w w') (hB : B' ≤ B) : Below B' w w' := ⟨h.os, h.output, h.size, fun k hk => h.block k (Nat.lt_of_lt_of_le hk hB)⟩
theorem Below.drew {B : Nat} {a w : World} (h : Below B a w) : Below B a w.drew := ⟨h.os, h.output, h.size, h.block⟩
theorem Below.alloc {B : Nat} {a w : World} (h : Below B a w) (hB : B ≤ w.heap.size) (o : Obj) : Below B a (w.alloc o) := h.trans (.of ((Go.RowKit.Below.refl B w).alloc hB o))
theorem Below.cell {B : Nat} {w w' : World} (h : Below B w w') {p : Addr} (hp : p.block < B) : w'.cell? p = w.cell? p := World.cell?_of_block (w := w) (h.block p.block hp)
theorem Below.same {W w' : World} (h : Below W.heap.size W w') {p : MemPlace} (hp : p.block < W.heap.size) : W.sameAt w' p := by
  cases p with
  | cell b o => exact World.cell?_of_block (w := W) (h.block b hp)
  | map b => exact h.block b hp
theorem Below.frame {W w' : World} (h : Below W.heap.size W w') (may : MemPlace → Prop) : W.keptBut w' may := by
  refine ⟨h.os, h.output, fun i hi => ?_⟩
  rw [h.block i hi]
  split <;> simp_all
/-- Errors as data. -/
inductive Err where
  | nil
  | no (n : Int)
  | other
/-- Types of data. -/
inductive Ty where
  | bool | int (k : IntKind) | str | err | opq | unit
  | prod (a b : Ty)
  | slice (e : Ty)
@[reducible] def D : Ty → Type
  | .bool => Bool
  | .int _ => Int
  | .str => List UInt8
  | .err => Err
  | .opq => Unit
  | .unit => Unit
  | .prod a b => D a × D b
  | .slice e => List (D e)
def Ty.beq : Ty → Ty → Bool
  | .bool, .bool => true
  | .int k, .int k' => decide (k = k')
  | .str, .str => true
  | .err, .err => true
  | .opq, .opq => true
  | .unit, .unit => true
  | .prod a b, .prod c d => Ty.beq a c && Ty.beq b d
  | .slice a, .slice b => Ty.beq a b
  | _, _ => false
theorem Ty.eq_of_beq : ∀ {a b : Ty}, Ty.beq a b = true → a = b := by
  intro a
  induction a with
  | prod a b iha ihb => intro c h; cases c <;> simp [Ty.beq] at h; rw [iha h.1, ihb h.2]
  | slice a ih => intro c h; cases c <;> simp [Ty.beq] at h; rw [ih h]
  | int k => intro c h; cases c <;> simp [Ty.beq] at h; rw [h]
  | _ => intro c h; cases c <;> simp [Ty.beq] at h; rfl
/-- How many cells. -/
def Ty.size : Ty → Nat
  | .unit => 0
  | .prod a b => a.size + b.size
  | _ => 1
/-- Is it one cell that is no struct? -/
def Ty.one : Ty → Bool
  | .unit | .prod _ _ => false
  | _ => true
/-- No slice within: its value hangs on no memory. -/
def Ty.flat : Ty → Bool
  | .slice _ => false
  | .prod a b => a.flat && b.flat
  | _ => true
abbrev Avoid := Nat → Nat → Prop
def big : Nat := 9223372036854775807
theorem big_eq : big = 9223372036854775807 := rfl
/-- The cells 'us' stand from there on, outside A. -/
def Row (A : Avoid) (w : World) (b o : Nat) (us : List Value) : Prop :=
  ∀ j u, us[j]? = some u → w.cell? ⟨b, o + j, none⟩ = some u ∧ ¬ A b (o + j)
section
variable (eT : TypeId)
def ErrR : Err → Value → Prop
  | .nil, v => v = .nilIface
  | .no n, v => v = .iface eT (.int .i64 n) ∧ IntKind.i64.min ≤ n ∧ n ≤ IntKind.i64.max
  | .other, v => ∃ t u, v = .iface t u ∧ t ≠ eT
def R : (t : Ty) → D t → Avoid → World → List Value → Prop
  | .bool, x, _, _, vs => vs = [.bool x]
  | .int k, x, _, _, vs => vs = [.int k x] ∧ k.min ≤ x ∧ x ≤ k.max
  | .str, x, _, _, vs => vs = [.string ⟨x.toArray⟩] ∧ x.length ≤ big
  | .err, x, _, _, vs => ∃ v, vs = [v] ∧ ErrR eT x v
  | .opq, _, _, _, _ => False
  | .unit, _, _, _, vs => vs = []
  | .prod a b, x, A, w, vs => ∃ u1 u2, vs = u1 ++ u2 ∧ R a x.1 A w u1 ∧ R b x.2 A w u2
  | .slice e, x, A, w, vs => ∃ v, vs = [v] ∧ x.length ≤ big ∧
      ((x = [] ∧ ∃ a c, v = .slice a 0 c) ∨
       ∃ b o cap, v = .slice (some ⟨b, o, none⟩) x.length cap ∧ x.length ≤ cap ∧
         ∀ i y, x[i]? = some y → ∃ us, R e y A w us ∧ Row A w b (o + i * e.size) us)
/-- A value of one temporary. -/
def VR (t : Ty) (x : D t) (A : Avoid) (w : World) (v : Value) : Prop :=
  if t.one then R eT t x A w [v] else ∃ cs, v = .agg cs ∧ R eT t x A w cs.toList
variable {eT}
theorem R.length : ∀ {t : Ty} {x : D t} {A : Avoid} {w : World} {vs : List Value}, R eT t x A w vs → vs.length = t.size := by
  intro t
  induction t with
  | prod a b iha ihb =>
    intro x A w vs h
    obtain ⟨u1, u2, rfl, h1, h2⟩ := h
    simp [Ty.size, iha h1, ihb h2]
  | slice e _ => intro x A w vs h; obtain ⟨v, rfl, _⟩ := h; rfl
  | err => intro x A w vs h; obtain ⟨v, rfl, _⟩ := h; rfl
  | int k => intro x A w vs h; obtain ⟨rfl, _⟩ := h; rfl
  | str => intro x A w vs h; obtain ⟨rfl, _⟩ := h; rfl
  | opq => intro x A w vs h; exact h.elim
  | bool => intro x A w vs h; cases h; rfl
  | unit => intro x A w vs h; cases h; rfl
/-- Every cell of a reading is the value of one cell. -/
theorem R.oneCell : ∀ {t : Ty} {x : D t} {A : Avoid} {w : World} {vs : List Value}, R eT t x A w vs → ∀ v ∈ vs, v.oneCell' = true := by
  intro t
  induction t with
  | prod a b iha ihb =>
    intro x A w vs h v hv
    obtain ⟨u1, u2, rfl, h1, h2⟩ := h
    rcases List.mem_append.1 hv with h | h
    · exact iha h1 v h
    · exact ihb h2 v h
  | slice e _ =>
    intro x A w vs h v hv
    obtain ⟨u, rfl, _, h | ⟨b, o, cap, h, _⟩⟩ := h
    · obtain ⟨_, _, rfl⟩ := h.2; simp at hv; rw [hv]; rfl
    · simp at hv; rw [hv, h]; rfl
  | err =>
    intro x A w vs h v hv
    obtain ⟨u, rfl, h⟩ := h
    simp at hv; subst hv
    cases x with
    | nil => rw [show v = _ from h]; rfl
    | no n => rw [show v = _ from h.1]; rfl
    | other => obtain ⟨t, u, rfl, _⟩ := h; rfl
  | int k => intro x A w vs h v hv; obtain ⟨rfl, _⟩ := h; simp at hv; subst hv; rfl
  | str => intro x A w vs h v hv; obtain ⟨rfl, _⟩ := h; simp at hv; subst hv; rfl
  | opq => intro x A w vs h; exact h.elim
  | bool => intro x A w vs h v hv; cases h; simp at hv; subst hv; rfl
  | unit => intro x A w vs h v hv; cases h; simp at hv
/-- What is read outside A is read the same in a world that is the same outside A; and outside a smaller set. -/
theorem R.frame : ∀ {t : Ty} {x : D t} {A A' : Avoid} {w w' : World} {vs : List Value}, R eT t x A w vs →
    (∀ b o v, ¬ A b o → w.cell? ⟨b, o, none⟩ = some v → w'.cell? ⟨b, o, none⟩ = some v ∧ ¬ A' b o) → R eT t x A' w' vs := by
  intro t
  induction t with
  | prod a b iha ihb =>
    intro x A A' w w' vs h hf
    obtain ⟨u1, u2, rfl, h1, h2⟩ := h
    exact ⟨u1, u2, rfl, iha h1 hf, ihb h2 hf⟩
  | slice e ih =>
    intro x A A' w w' vs h hf
    obtain ⟨v, rfl, hl, h⟩ := h
    refine ⟨v, rfl, hl, ?_⟩
    rcases h with h | ⟨b, o, cap, rfl, hc, h⟩
    · exact .inl h
    · refine .inr ⟨b, o, cap, rfl, hc, fun i y hy => ?_⟩
      obtain ⟨us, h1, h2⟩ := h i y hy
      refine ⟨us, ih h1 hf, fun j u hu => ?_⟩
      have := h2 j u hu
      exact hf _ _ _ this.2 this.1
  | _ => intro x A A' w w' vs h _; exact h
theorem R.of_flat : ∀ {t : Ty} {x : D t} {A A' : Avoid} {w w' : World} {vs : List Value}, t.flat = true → R eT t x A w vs → R eT t x A' w' vs := by
  intro t
  induction t with
  | prod a b iha ihb =>
    intro x A A' w w' vs hf h
    simp [Ty.flat] at hf
    obtain ⟨u1, u2, rfl, h1, h2⟩ := h
    exact ⟨u1, u2, rfl, iha hf.1 h1, ihb hf.2 h2⟩
  | slice e ih => intro x A A' w w' vs hf h; simp [Ty.flat] at hf
  | _ => intro x A A' w w' vs _ h; exact h
theorem Row.frame {A A' : Avoid} {w w' : World} {b o : Nat} {us : List Value} (h : Row A w b o us)
    (hf : ∀ b o v, ¬ A b o → w.cell? ⟨b, o, none⟩ = some v → w'.cell? ⟨b, o, none⟩ = some v ∧ ¬ A' b o) : Row A' w' b o us :=
  fun j u hu => hf _ _ _ (h j u hu).2 (h j u hu).1
theorem VR.frame {t : Ty} {x : D t} {A A' : Avoid} {w w' : World} {v : Value} (h : VR eT t x A w v)
    (hf : ∀ b o v, ¬ A b o → w.cell? ⟨b, o, none⟩ = some v → w'.cell? ⟨b, o, none⟩ = some v ∧ ¬ A' b o) : VR eT t x A' w' v := by
  unfold VR at h ⊢
  split
  · rename_i h1; rw [if_pos h1] at h; exact h.frame hf
  · rename_i h1; rw [if_neg h1] at h; obtain ⟨cs, rfl, h⟩ := h; exact ⟨cs, rfl, h.frame hf⟩
theorem VR.of_flat {t : Ty} {x : D t} {A A' : Avoid} {w w' : World} {v : Value} (hfl : t.flat = true) (h : VR eT t x A w v) : VR eT t x A' w' v := by
  unfold VR at h ⊢
  split
  · rename_i h1; rw [if_pos h1] at h; exact h.of_flat hfl
  · rename_i h1; rw [if_neg h1] at h; obtain ⟨cs, rfl, h⟩ := h; exact ⟨cs, rfl, h.of_flat hfl⟩
/-- The cells of a value are its reading. -/
theorem VR.cells {t : Ty} {x : D t} {A : Avoid} {w : World} {v : Value} (h : VR eT t x A w v) : R eT t x A w v.cells.toList := by
  unfold VR at h
  split at h
  · rename_i h1
    have := h.oneCell v (by simp)
    cases v <;> simp_all [Value.cells, Value.oneCell']
  · obtain ⟨cs, rfl, h⟩ := h; exact h
theorem VR.one {t : Ty} {x : D t} {A : Avoid} {w : World} {v : Value} (ht : t.one = true) (h : VR eT t x A w v) : R eT t x A w [v] := by
  unfold VR at h; rwa [if_pos ht] at h
theorem VR.of_one {t : Ty} {x : D t} {A : Avoid} {w : World} {v : Value} (ht : t.one = true) (h : R eT t x A w [v]) : VR eT t x A w v := by
  unfold VR; rwa [if_pos ht]
theorem Ty.size_one {t : Ty} (h : t.one = true) : t.size = 1 := by cases t <;> simp_all [Ty.one, Ty.size]
end
end Go.Vg
