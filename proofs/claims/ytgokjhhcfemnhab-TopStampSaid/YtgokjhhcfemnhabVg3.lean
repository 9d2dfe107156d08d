/- A part of the proof that the law TopStamp holds of the given program: facts that are used there. -/
import Derived.Test.YtgokjhhcfemnhabVg2
namespace Go.Vg
open Go.RowKit
inductive VC : Type 1 where
  | leaf (p : Prop)
  | and (p : Prop) (k : VC)
  | imp (p : Prop) (k : VC)
  | all (α : Type) (k : α → VC)
  | ite (c : Bool) (a b : VC)
  | both (a b : VC)
  | ff
def VC.holds : VC → Prop
  | .leaf p => p
  | .and p k => p ∧ k.holds
  | .imp p k => p → k.holds
  | .all α k => ∀ x : α, (k x).holds
  | .ite c a b => (c = true → a.holds) ∧ (c = false → b.holds)
  | .both a b => a.holds ∧ b.holds
  | .ff => False
section
variable {eT : TypeId} {X : Ext}
theorem below_cell {w w' : World} (h : Below w.heap.size w w') {b o : Nat} {v : Value} (hc : w.cell? ⟨b, o, none⟩ = some v) : w'.cell? ⟨b, o, none⟩ = some v := by
  rw [h.cell (p := ⟨b, o, none⟩) (World.block_lt_of_cell? w _ hc)]; exact hc
/-- The world has grown, no more. -/
theorem step_world {S S' : Sit} (g : Good eT X S) (hO : S'.O = S.O) (hob : S'.ob = S.ob) (hloc : S'.loc = S.loc) (hn : S'.next = S.next)
    (hw : Below S.w.heap.size S.w S'.w) : Tr S S' ∧ Good eT X S' := by
  have hA : S'.A = S.A := by funext b o; simp [Sit.A, hO, hob, hloc]
  have ht : Tr S S' := {
    O := hO
    next := by rw [hn]; exact Nat.le_refl _
    os := hw.os
    output := hw.output
    size := hw.size
    own := fun b h => .inl (by simpa [Sit.owns, hob, hloc] using h)
    cell := fun b o v ha hc => ⟨below_cell hw hc, by rw [hA]; exact ha⟩
    block := fun b hb _ => hw.block b hb
    loc := fun n _ _ => by rw [hloc]
    kind := fun n oc' _ h => ⟨oc', by rw [← hob]; exact h, by cases oc' <;> simp [SameKind, hloc]⟩ }
  refine ⟨ht, ⟨fun n oc h => ?_, fun n m oc oc' b h1 h2 h3 h4 => ?_, fun n oc b off h1 h2 => ?_⟩⟩
  · rw [hob] at h
    obtain ⟨h1, h2⟩ := g.obj n oc h
    refine ⟨by rw [hn]; exact h1, ?_⟩
    rw [hloc]
    exact h2.tr ht fun b hb => hw.block b (h2.inside b hb)
  · rw [hob] at h1 h2; rw [hloc] at h3 h4; exact g.apart n m oc oc' b h1 h2 h3 h4
  · rw [hob] at h1; rw [hloc] at h2; rw [hO]; exact g.out n oc b off h1 h2
/-- A new object in new blocks. -/
theorem step_new {S S' : Sit} {oc : OC} {l : Loc} (g : Good eT X S) (hO : S'.O = S.O) (hOin : ∀ b off, S.O b off → b < S.w.heap.size)
    (hob : ∀ m, S'.ob m = if S.next = m then some oc else S.ob m) (hloc : ∀ m, S'.loc m = if S.next = m then l else S.loc m) (hn : S'.next = S.next + 1)
    (hw : Below S.w.heap.size S.w S'.w) (hl : ∀ b ∈ l.bs, S.w.heap.size ≤ b) : Tr S S' ∧ (OR eT X S' l oc → Good eT X S') := by
  have hne : ∀ n oc', S.ob n = some oc' → S.next ≠ n := fun n oc' h e => by have := (g.obj n oc' h).1; omega
  have ht : Tr S S' := {
    O := hO
    next := by rw [hn]; omega
    os := hw.os
    output := hw.output
    size := hw.size
    own := fun b h => by
      obtain ⟨n, oc', h1, h2⟩ := h
      rw [hob] at h1; rw [hloc] at h2
      by_cases e : S.next = n
      · rw [if_pos e] at h2; exact .inr (hl b h2)
      · rw [if_neg e] at h1 h2; exact .inl ⟨n, oc', h1, h2⟩
    cell := fun b o v ha hc => ⟨below_cell hw hc, fun h => by
      rcases h with h | ⟨n, oc', h1, h2, h3⟩
      · rw [hO] at h; exact ha (.inl h)
      · rw [hob] at h1; rw [hloc] at h2
        by_cases e : S.next = n
        · rw [if_pos e] at h2
          have := hl b h2
          have := World.block_lt_of_cell? S.w _ hc
          simp at this; omega
        · rw [if_neg e] at h1 h2; exact ha (.inr ⟨n, oc', h1, h2, h3⟩)⟩
    block := fun b hb _ => hw.block b hb
    loc := fun n hlt _ => by rw [hloc, if_neg (by omega)]
    kind := fun n oc' hlt h => by
      rw [hob, if_neg (by omega)] at h
      exact ⟨oc', h, by cases oc' <;> simp [SameKind]; rw [hloc, if_neg (by omega)]⟩ }
  refine ⟨ht, fun ho => ⟨fun n oc' h => ?_, fun n m oc1 oc2 b h1 h2 h3 h4 => ?_, fun n oc' b off h1 h2 => ?_⟩⟩
  · rw [hob] at h
    rw [hloc]
    by_cases e : S.next = n
    · rw [if_pos e] at h ⊢; cases h; exact ⟨by omega, ho⟩
    · rw [if_neg e] at h ⊢
      obtain ⟨h1, h2⟩ := g.obj n oc' h
      exact ⟨by omega, h2.tr ht fun b hb => hw.block b (h2.inside b hb)⟩
  · rw [hob] at h1 h2; rw [hloc] at h3 h4
    by_cases e : S.next = n
    · by_cases e' : S.next = m
      · omega
      · rw [if_pos e] at h3; rw [if_neg e'] at h2 h4
        have := hl b h3
        have := (g.obj m oc2 h2).2.inside b h4
        omega
    · rw [if_neg e] at h1 h3
      by_cases e' : S.next = m
      · rw [if_pos e'] at h4
        have := hl b h4
        have := (g.obj n oc1 h1).2.inside b h3
        omega
      · rw [if_neg e'] at h2 h4; exact g.apart n m oc1 oc2 b h1 h2 h3 h4
  · rw [hob] at h1; rw [hloc] at h2; rw [hO]
    by_cases e : S.next = n
    · rw [if_pos e] at h2
      intro hc
      have := hl b h2
      have := hOin b off hc
      omega
    · rw [if_neg e] at h1 h2; exact g.out n oc' b off h1 h2
/-- One object's content is another one now; it may have moved (a token alone). -/
theorem step_set {S S' : Sit} {n : Nat} {oc oc' : OC} {l' : Loc} (g : Good eT X S) (hO : S'.O = S.O) (hOin : ∀ b off, S.O b off → b < S.w.heap.size)
    (hn0 : S.ob n = some oc) (hob : ∀ m, S'.ob m = if n = m then some oc' else S.ob m) (hloc : ∀ m, S'.loc m = if n = m then l' else S.loc m) (hn : S'.next = S.next)
    (hl : (∀ t ys, oc ≠ .tok t ys) → l' = S.loc n) (hk : SameKind (S.loc n) l' oc oc')
    (hos : S'.w.os = S.w.os) (hout : S'.w.output = S.w.output) (hsize : S.w.heap.size ≤ S'.w.heap.size)
    (hb : ∀ b, b < S.w.heap.size → b ∉ (S.loc n).bs → S'.w.heap[b]? = S.w.heap[b]?)
    (hc : ∀ b o v, b ∈ (S.loc n).bs → o < oc.lo → S.w.cell? ⟨b, o, none⟩ = some v → S'.w.cell? ⟨b, o, none⟩ = some v)
    (hlo : ∀ b ∈ l'.bs, (b ∈ (S.loc n).bs ∧ oc.lo ≤ oc'.lo) ∨ S.w.heap.size ≤ b) : Tr S S' ∧ (OR eT X S' l' oc' → Good eT X S') := by
  have ht : Tr S S' := {
    O := hO
    next := by rw [hn]; exact Nat.le_refl _
    os := hos
    output := hout
    size := hsize
    own := fun b h => by
      obtain ⟨m, oc1, h1, h2⟩ := h
      rw [hob] at h1; rw [hloc] at h2
      by_cases e : n = m
      · rw [if_pos e] at h2
        rcases hlo b h2 with h | h
        · exact .inl ⟨n, oc, hn0, h.1⟩
        · exact .inr h
      · rw [if_neg e] at h1 h2; exact .inl ⟨m, oc1, h1, h2⟩
    cell := fun b o v ha hcell => by
      have hlt := World.block_lt_of_cell? S.w _ hcell
      simp only at hlt
      constructor
      · by_cases hm : b ∈ (S.loc n).bs
        · refine hc b o v hm ?_ hcell
          apply Nat.lt_of_not_le
          intro hle
          exact ha (.inr ⟨n, oc, hn0, hm, hle⟩)
        · rw [World.cell?_of_block (w := S.w) (w' := S'.w) (a := ⟨b, o, none⟩) (hb b hlt hm)]; exact hcell
      · intro h
        rcases h with h | ⟨m, oc1, h1, h2, h3⟩
        · rw [hO] at h; exact ha (.inl h)
        · rw [hob] at h1; rw [hloc] at h2
          by_cases e : n = m
          · rw [if_pos e] at h1 h2
            cases h1
            rcases hlo b h2 with h | h
            · exact ha (.inr ⟨n, oc, hn0, h.1, by omega⟩)
            · omega
          · rw [if_neg e] at h1 h2; exact ha (.inr ⟨m, oc1, h1, h2, h3⟩)
    block := fun b hlt ho => hb b hlt fun hm => ho ⟨n, oc, hn0, hm⟩
    loc := fun m _ hf => by
      rw [hloc]
      by_cases e : n = m
      · rw [if_pos e, ← e]
        refine hl fun t ys e' => ?_
        subst e; subst e'
        exact hf t ys hn0
      · rw [if_neg e]
    kind := fun m oc1 _ h => by
      rw [hob] at h
      rw [hloc]
      by_cases e : n = m
      · rw [if_pos e] at h ⊢; cases h; subst e; exact ⟨oc, hn0, hk⟩
      · rw [if_neg e] at h ⊢; exact ⟨oc1, h, by cases oc1 <;> simp [SameKind]⟩ }
  refine ⟨ht, fun ho => ⟨fun m oc1 h => ?_, fun m1 m2 oc1 oc2 b h1 h2 h3 h4 => ?_, fun m oc1 b off h1 h2 => ?_⟩⟩
  · rw [hob] at h
    rw [hloc]
    by_cases e : n = m
    · rw [if_pos e] at h ⊢; cases h; exact ⟨by rw [hn, ← e]; exact (g.obj n oc hn0).1, ho⟩
    · rw [if_neg e] at h ⊢
      obtain ⟨h1, h2⟩ := g.obj m oc1 h
      refine ⟨by omega, h2.tr ht fun b hbm => hb b (h2.inside b hbm) fun hbn => e (g.apart n m oc oc1 b hn0 h hbn hbm)⟩
  · rw [hob] at h1 h2; rw [hloc] at h3 h4
    have key : ∀ m oc1, n ≠ m → S.ob m = some oc1 → b ∈ l'.bs → b ∈ (S.loc m).bs → False := by
      intro m oc1 e hm hbl hbm
      rcases hlo b hbl with h | h
      · exact e (g.apart n m oc oc1 b hn0 hm h.1 hbm)
      · have := (g.obj m oc1 hm).2.inside b hbm; omega
    by_cases e : n = m1
    · by_cases e' : n = m2
      · omega
      · rw [if_pos e] at h3; rw [if_neg e'] at h2 h4; exact (key m2 oc2 e' h2 h3 h4).elim
    · rw [if_neg e] at h1 h3
      by_cases e' : n = m2
      · rw [if_pos e'] at h4; exact (key m1 oc1 e h1 h4 h3).elim
      · rw [if_neg e'] at h2 h4; exact g.apart m1 m2 oc1 oc2 b h1 h2 h3 h4
  · rw [hob] at h1; rw [hloc] at h2; rw [hO]
    by_cases e : n = m
    · rw [if_pos e] at h2
      rcases hlo b h2 with h | h
      · exact g.out n oc b off hn0 h.1
      · intro hc'; have := hOin b off hc'; omega
    · rw [if_neg e] at h1 h2; exact g.out m oc1 b off h1 h2
end
end Go.Vg
