/- A part of the proof that the law TopStamp holds of the given program: facts that are used there. -/
import Derived.Test.YtgokjhhcfemnhabVg6
import Derived.Laws.Cells
import Derived.Laws.CopyRow
import Derived.Laws.Append
import Derived.Laws.MakeOwn
import Derived.Laws.Tables
namespace Go.Vg
open Go.RowKit
/-! Lists whose elements have rows of their own. -/
theorem plain_flat : ∀ {t : Ty}, t.scal = true → t.flat = true := by
  intro t
  induction t with
  | prod a b iha ihb => intro h; simp [Ty.scal] at h; simp [Ty.flat, iha h.1, ihb h.2]
  | slice e _ => intro h; simp [Ty.scal] at h
  | _ => intro _; rfl
theorem plain_eT : ∀ {t : Ty} {e1 e2 : TypeId} {x : D t} {A A' : Avoid} {w w' : World} {us : List Value}, t.scal = true → R e1 t x A w us → R e2 t x A' w' us := by
  intro t
  induction t with
  | prod a b iha ihb =>
    intro e1 e2 x A A' w w' us h hr
    simp [Ty.scal] at h
    obtain ⟨u1, u2, rfl, h1, h2⟩ := hr
    exact ⟨u1, u2, rfl, iha h.1 h1, ihb h.2 h2⟩
  | slice e _ => intro e1 e2 x A A' w w' us h; simp [Ty.scal] at h
  | err => intro e1 e2 x A A' w w' us h; simp [Ty.scal] at h
  | opq => intro e1 e2 x A A' w w' us h; simp [Ty.scal] at h
  | bool => intro e1 e2 x A A' w w' us _ h; exact h
  | int k => intro e1 e2 x A A' w w' us _ h; exact h
  | str => intro e1 e2 x A A' w w' us _ h; exact h
  | unit => intro e1 e2 x A A' w w' us _ h; exact h
theorem spot_slice {t : Ty} {s : Spot (.slice t)} (h : spot (.slice t) = some s) : t.scal = true ∧ t.size = 1 ∧ s = ⟨0, t, fun y => y, fun _ ys => ys⟩ := by
  unfold spot at h
  split at h
  · rename_i hb
    simp only [Bool.and_eq_true] at hb
    cases h
    exact ⟨hb.1, Nat.eq_of_beq_eq_true hb.2, rfl⟩
  · cases h
theorem spot_prod {a b : Ty} {s : Spot (.prod a b)} (h : spot (.prod a b) = some s) :
    (∃ s', spot a = some s' ∧ b.scal = true ∧ s = ⟨s'.off, s'.t, fun y => s'.get y.1, fun y ys => (s'.put y.1 ys, y.2)⟩) ∨
    (∃ s', a.scal = true ∧ spot b = some s' ∧ s = ⟨a.size + s'.off, s'.t, fun y => s'.get y.2, fun y ys => (y.1, s'.put y.2 ys)⟩) := by
  rw [spot] at h
  split at h
  · rename_i s' hs
    split at h
    · rename_i hb; cases h; exact .inl ⟨s', hs, hb, rfl⟩
    · cases h
  · split at h
    · rename_i s' ha hs; cases h; exact .inr ⟨s', ha, hs, rfl⟩
    · cases h
theorem spot_t : ∀ {e : Ty} {s : Spot e}, spot e = some s → s.t.scal = true ∧ s.t.size = 1 := by
  intro e
  induction e with
  | slice t _ => intro s h; obtain ⟨h1, h2, rfl⟩ := spot_slice h; exact ⟨h1, h2⟩
  | prod a b iha ihb =>
    intro s h
    rcases spot_prod h with ⟨s', h1, _, rfl⟩ | ⟨s', _, h1, rfl⟩
    · exact iha h1
    · exact ihb h1
  | _ => intro s h; cases h
theorem spot_lt : ∀ {e : Ty} {s : Spot e}, spot e = some s → s.off < e.size := by
  intro e
  induction e with
  | slice t _ => intro s h; obtain ⟨_, _, rfl⟩ := spot_slice h; exact Nat.one_pos
  | prod a b iha ihb =>
    intro s h
    simp only [Ty.size]
    rcases spot_prod h with ⟨s', h1, _, rfl⟩ | ⟨s', _, h1, rfl⟩
    · have := iha h1; simp only; omega
    · have := ihb h1; simp only; omega
  | _ => intro s h; cases h
/-- An element's own row. -/
theorem spot_get : ∀ {e : Ty} {s : Spot e} {y : D e} {A : Avoid} {w : World} {us : List Value} {h : Value} {eT : TypeId}, spot e = some s → R eT e y A w us → us[s.off]? = some h → R eT (.slice s.t) (s.get y) A w [h] := by
  intro e
  induction e with
  | slice t _ =>
    intro s y A w us h eT hs hr hu
    obtain ⟨_, _, rfl⟩ := spot_slice hs
    obtain ⟨v, rfl, h2⟩ := hr
    simp at hu; subst hu
    exact ⟨v, rfl, h2⟩
  | prod a b iha ihb =>
    intro s y A w us h eT hs hr hu
    obtain ⟨u1, u2, rfl, r1, r2⟩ := hr
    rcases spot_prod hs with ⟨s', h1, _, rfl⟩ | ⟨s', _, h1, rfl⟩
    · have := spot_lt h1
      simp only at hu
      rw [List.getElem?_append_left (by rw [r1.length]; omega)] at hu
      exact iha h1 r1 hu
    · simp only at hu
      rw [List.getElem?_append_right (by rw [r1.length]; omega), r1.length, Nat.add_sub_cancel_left] at hu
      exact ihb h1 r2 hu
  | _ => intro s y A w us h eT hs; cases hs
/-- An element whose own row has become another. -/
theorem spot_put : ∀ {e : Ty} {s : Spot e} {y : D e} {ys : List (D s.t)} {A A' : Avoid} {w w' : World} {us : List Value} {h : Value} {eT : TypeId}, spot e = some s → R eT e y A w us → us[s.off]? = some h →
    R eT (.slice s.t) ys A' w' [h] → R eT e (s.put y ys) A' w' us := by
  intro e
  induction e with
  | slice t _ =>
    intro s y ys A A' w w' us h eT hs hr hu hy
    obtain ⟨_, _, rfl⟩ := spot_slice hs
    obtain ⟨v, rfl, h2⟩ := hr
    simp at hu; subst hu
    exact hy
  | prod a b iha ihb =>
    intro s y ys A A' w w' us h eT hs hr hu hy
    obtain ⟨u1, u2, rfl, r1, r2⟩ := hr
    rcases spot_prod hs with ⟨s', h1, hb, rfl⟩ | ⟨s', ha, h1, rfl⟩
    · have := spot_lt h1
      simp only at hu
      rw [List.getElem?_append_left (by rw [r1.length]; omega)] at hu
      exact ⟨u1, u2, rfl, iha h1 r1 hu hy, r2.of_flat (plain_flat hb)⟩
    · simp only at hu
      rw [List.getElem?_append_right (by rw [r1.length]; omega), r1.length, Nat.add_sub_cancel_left] at hu
      exact ⟨u1, u2, rfl, r1.of_flat (plain_flat ha), ihb h1 r2 hu hy⟩
  | _ => intro s y ys A A' w w' us h eT hs; cases hs
theorem slice_eT {t : Ty} {e1 e2 : TypeId} {xs : List (D t)} {A : Avoid} {w : World} {us : List Value} (ht : t.scal = true) (h : R e1 (.slice t) xs A w us) : R e2 (.slice t) xs A w us := by
  obtain ⟨v, rfl, hl, h⟩ := h
  refine ⟨v, rfl, hl, ?_⟩
  rcases h with h | ⟨b, o, cap, h1, h2, h3⟩
  · exact .inl h
  · exact .inr ⟨b, o, cap, h1, h2, fun i y hy => let ⟨us, k1, k2⟩ := h3 i y hy; ⟨us, plain_eT ht k1, k2⟩⟩
theorem spot_eT : ∀ {e : Ty} {s : Spot e} {y : D e} {A : Avoid} {w : World} {us : List Value} {e1 e2 : TypeId}, spot e = some s → R e1 e y A w us → R e2 e y A w us := by
  intro e
  induction e with
  | slice t _ => intro s y A w us e1 e2 hs hr; exact slice_eT (spot_slice hs).1 hr
  | prod a b iha ihb =>
    intro s y A w us e1 e2 hs hr
    obtain ⟨u1, u2, rfl, r1, r2⟩ := hr
    rcases spot_prod hs with ⟨s', h1, hb, rfl⟩ | ⟨s', ha, h1, rfl⟩
    · exact ⟨u1, u2, rfl, iha h1 r1, plain_eT hb r2⟩
    · exact ⟨u1, u2, rfl, plain_eT ha r1, ihb h1 r2⟩
  | _ => intro s y A w us e1 e2 hs; cases hs
theorem only_cell {c : Option Nat} {w w' : World} (h : ∀ b, c = some b → w'.heap[b]? = w.heap[b]?) : ∀ b o v, ¬ Only c b o → w.cell? ⟨b, o, none⟩ = some v → w'.cell? ⟨b, o, none⟩ = some v ∧ ¬ Only c b o := by
  intro b o v hn hc
  refine ⟨?_, hn⟩
  have hb : c = some b := by unfold Only at hn; exact (Classical.not_not.1 hn).symm
  rw [World.cell?_of_block (w := w) (w' := w') (a := ⟨b, o, none⟩) (h b hb)]; exact hc
theorem mem_filterMap_id {c : Nat} : ∀ {cs : List (Option Nat)}, c ∈ cs.filterMap id ↔ ∃ i : Nat, cs[i]? = some (some c) := by
  intro cs
  simp only [List.mem_filterMap, id]
  constructor
  · rintro ⟨x, hx, rfl⟩
    obtain ⟨i, hi⟩ := List.getElem?_of_mem hx
    exact ⟨i, hi⟩
  · rintro ⟨i, hi⟩
    exact ⟨some c, List.mem_of_getElem? hi, rfl⟩
theorem DeepRows.frame {e : Ty} {s : Spot e} {xs : List (D e)} {w w' : World} {b : Nat} {cs : List (Option Nat)} {hs : List Value} {vs : Array Value} (h : DeepRows e s xs w b cs hs vs)
    (hb : ∀ i c : Nat, cs[i]? = some (some c) → w'.heap[c]? = w.heap[c]?) : DeepRows e s xs w' b cs hs vs := by
  refine ⟨h.hl, h.cl, h.inj, fun i c hi => ?_, fun i y hy => ?_⟩
  · rw [hb i c hi]; exact h.blk i c hi
  · obtain ⟨c, k, us, h1, h2, h3, h4, h5⟩ := h.row i y hy
    exact ⟨c, k, us, h1, h2, h3, h4.frame (only_cell fun b' e' => hb i b' (by rw [h1, e'])), h5⟩
theorem DeepR.frame {t : Ty} {x : D t} {l : Loc} {w w' : World} (h : DeepR t x l w) (hb : ∀ b ∈ l.bs, w'.heap[b]? = w.heap[b]?) : DeepR t x l w' := by
  cases t <;> try exact h.elim
  obtain ⟨s, hs, top, hs', hv, h⟩ := h
  refine ⟨s, hs, top, hs', hv, ?_⟩
  rcases h with h | ⟨b, vs, T, cap, cs, h1, h2, h3, h4, h5, h6, h7⟩
  · exact .inl h
  · refine .inr ⟨b, vs, T, cap, cs, h1, h2, by rw [hb b (by rw [h2]; simp)]; exact h3, h4, h5, h6, h7.frame fun i c hi => hb c ?_⟩
    rw [h2]
    exact List.mem_cons_of_mem _ (mem_filterMap_id.2 ⟨i, hi⟩)
theorem DeepR.inside {t : Ty} {x : D t} {l : Loc} {w : World} (h : DeepR t x l w) : ∀ b ∈ l.bs, b < w.heap.size := by
  cases t <;> try exact h.elim
  have key : ∀ {b' : Nat} {o : Obj}, w.heap[b']? = some o → b' < w.heap.size := fun h => (Array.getElem?_eq_some_iff.1 h).1
  obtain ⟨s, hs, top, hs', hv, h⟩ := h
  rcases h with ⟨_, _, _, h⟩ | ⟨b, vs, T, cap, cs, h1, h2, h3, h4, h5, h6, h7⟩
  · rw [h]; simp
  · rw [h2]
    intro b' hb'
    rcases List.mem_cons.1 hb' with rfl | hb'
    · exact key h3
    · obtain ⟨i, hi⟩ := mem_filterMap_id.1 hb'
      obtain ⟨_, vs', T', h⟩ := h7.blk i b' hi
      exact key h
/-- The list as data, once its blocks are not kept off. -/
theorem DeepR.data {eT : TypeId} {e : Ty} {xs : List (D e)} {l : Loc} {w : World} {v : Value} {A : Avoid} (h : DeepR (.slice e) xs l w) (hv : XPR .top l.v v) (hA : ∀ b ∈ l.bs, ∀ o, ¬ A b o) : VR eT (.slice e) xs A w v := by
  obtain ⟨s, hs, top, hs', hl, h⟩ := h
  obtain ⟨hs'', hl'⟩ := hv
  rw [hl] at hl'
  simp at hl'
  obtain ⟨rfl, rfl⟩ := hl'
  rcases h with ⟨rfl, _, ⟨a, rfl⟩, _⟩ | ⟨b, vs, T, cap, cs, h1, h2, h3, h4, h5, h6, h7⟩
  · exact VR.of_one rfl ⟨_, rfl, by simp, .inl ⟨rfl, a, 0, rfl⟩⟩
  · refine VR.of_one rfl ⟨_, rfl, h6, .inr ⟨b, 0, cap, h1, h5, fun i y hy => ?_⟩⟩
    obtain ⟨c, k, us, k1, k2, k3, k4, k5⟩ := h7.row i y hy
    refine ⟨us, (spot_eT hs k4).frame fun b' o' v' hn hc => ⟨hc, ?_⟩, fun j u hj => ⟨?_, hA b (by rw [h2]; simp) _⟩⟩
    · have hb' : c = some b' := by unfold Only at hn; exact (Classical.not_not.1 hn).symm
      exact hA b' (by rw [h2]; exact List.mem_cons_of_mem _ (mem_filterMap_id.2 ⟨i, by rw [k1, hb']⟩)) o'
    · rw [cell_of_row w b _ vs T (0, 0) h3, Nat.zero_add]
      exact k5 j u hj
theorem deep_top {e : Ty} {xs : List (D e)} {l : Loc} {w : World} {v : Value} (h : DeepR (.slice e) xs l w) (hv : XPR .top l.v v) : xs.length ≤ big ∧ ∃ a c, v = .slice a xs.length c := by
  obtain ⟨s, hs, top, hs', hl, h⟩ := h
  obtain ⟨hs'', hl'⟩ := hv
  rw [hl] at hl'
  simp at hl'
  obtain ⟨rfl, rfl⟩ := hl'
  rcases h with ⟨rfl, _, ⟨a, rfl⟩, _⟩ | ⟨b, vs, T, cap, cs, h1, h2, h3, h4, h5, h6, h7⟩
  · exact ⟨by simp, a, 0, rfl⟩
  · exact ⟨h6, _, cap, h1⟩
/-- What is known where there is an i-th. -/
structure DeepAt (e : Ty) (s : Spot e) (xs : List (D e)) (l : Loc) (w : World) where
  top : Value
  hs : List Value
  b : Nat
  vs : Array Value
  T : TypeId
  cap : Nat
  cs : List (Option Nat)
  lv : l.v = .tuple (top :: hs).toArray
  tv : top = .slice (some ⟨b, 0, none⟩) xs.length cap
  lb : l.bs = b :: cs.filterMap id
  heap : w.heap[b]? = some (.cells vs T (0, 0))
  size : vs.size = cap * e.size
  fit : xs.length ≤ cap
  big : xs.length ≤ Go.Vg.big
  rows : DeepRows e s xs w b cs hs vs
theorem deep_at {e : Ty} {s : Spot e} (hsp : spot e = some s) {xs : List (D e)} {l : Loc} {w : World} (h : DeepR (.slice e) xs l w) (hne : 0 < xs.length) : Nonempty (DeepAt e s xs l w) := by
  obtain ⟨s', hs, top, hs', hl, h⟩ := h
  rw [hsp] at hs
  cases hs
  rcases h with ⟨rfl, _⟩ | ⟨b, vs, T, cap, cs, h1, h2, h3, h4, h5, h6, h7⟩
  · simp at hne
  · exact ⟨⟨top, hs', b, vs, T, cap, cs, hl, h1, h2, h3, h4, h5, h6, h7⟩⟩
theorem deep_spot {t : Ty} {xs : D t} {l : Loc} {w : World} (h : DeepR t xs l w) : ∃ e s, t = .slice e ∧ spot e = some s := by
  cases t <;> try exact h.elim
  obtain ⟨s, hs, _⟩ := h
  exact ⟨_, s, rfl, hs⟩
/-- An element's row. -/
theorem deep_row {e : Ty} {s : Spot e} (hsp : spot e = some s) {xs : List (D e)} {l : Loc} {w : World} (h : DeepR (.slice e) xs l w) {i : Nat} (hi : i < xs.length) {v : Value} (hv : XPR (.row i) l.v v) :
    ∃ c, R 0 (.slice s.t) (s.get xs[i]) (Only c) w [v] := by
  obtain ⟨d⟩ := deep_at hsp h (by omega)
  obtain ⟨t, hs'', hl', hget⟩ := hv
  rw [d.lv] at hl'
  simp at hl'
  obtain ⟨rfl, rfl⟩ := hl'
  obtain ⟨c, k, us, k1, k2, k3, k4, k5⟩ := d.rows.row i _ (List.getElem?_eq_getElem hi)
  rw [hget] at k2
  cases k2
  exact ⟨c, spot_get hsp k4 k3⟩
end Go.Vg
