/- A part of the proof that the law FilesSays holds of the given program: facts that are used there. -/
import Derived.Test.YtgokjhhcfemnhaaMrl22
import Derived.Test.YtgokjhhcfemnhaaMrl17
set_option linter.unusedSimpArgs false
set_option linter.unusedVariables false
namespace Go.Mrl
open Go.Vg
/-! Files by names. -/
@[reducible] def tFV : Ty := .prod .str (.prod (.int .i64) .unit)
abbrev FE := Str × (Str × Int × Unit) × Int × Unit
abbrev FZ := (Int × Unit) × (List FE × Int × Unit) × Unit
def bornF (y : FE) : Int := y.2.2.1
def keyF (y : FE) : Str := y.1
def readFs (x : FZ) (s : Str) : Str × Int × Int :=
  if hasE tFV x.2.1.1 s = true then ((getE tFV x.2.1.1 s).1, (getE tFV x.2.1.1 s).2.1, 0) else ([], 0, 5)
def writeFs (x : FZ) (s t : Str) : FZ × Int :=
  if ¬ nameFault s = 0 then (x, nameFault s) else if 1200 < t.length then (x, 2)
  else if (hasE tFV x.2.1.1 s = false ∧ x.2.1.1.length = 6) ∨ x.1.1 = 1000000 then (x, 8)
  else (((x.1.1 + 1, ()), (putE tFV x.2.1.1 s (t, x.1.1 + 1, ()) x.2.1.2.1, clkE tFV x.2.1.1 s x.2.1.2.1, ()), ()), 0)
def removeFs (x : FZ) (s : Str) : FZ × Int :=
  if hasE tFV x.2.1.1 s = true then ((x.1, (delE tFV x.2.1.1 s, x.2.1.2.1, ()), ()), 0) else (x, 5)
def listFs (x : FZ) : List Str := sortS (x.2.1.1.map keyF)
def newFs : FZ := ((0, ()), ([], 0, ()), ())
theorem readFs_no {x : FZ} {s : Str} (h : hasE tFV x.2.1.1 s = false) : readFs x s = ([], 0, 5) := by unfold readFs; rw [if_neg (by rw [h]; simp)]
theorem readFs_yes {x : FZ} {s : Str} (h : hasE tFV x.2.1.1 s = true) : readFs x s = ((getE tFV x.2.1.1 s).1, (getE tFV x.2.1.1 s).2.1, 0) := by unfold readFs; rw [if_pos h]
theorem writeFs_name {x : FZ} {s t : Str} (h : ¬ nameFault s = 0) : writeFs x s t = (x, nameFault s) := by unfold writeFs; rw [if_pos h]
theorem writeFs_many {x : FZ} {s t : Str} (h : nameFault s = 0) (h1 : 1200 < t.length) : writeFs x s t = (x, 2) := by unfold writeFs; rw [if_neg (by simp [h]), if_pos h1]
theorem writeFs_full {x : FZ} {s t : Str} (h : nameFault s = 0) (h1 : ¬ 1200 < t.length) (h2 : (hasE tFV x.2.1.1 s = false ∧ x.2.1.1.length = 6) ∨ x.1.1 = 1000000) : writeFs x s t = (x, 8) := by unfold writeFs; rw [if_neg (by simp [h]), if_neg h1, if_pos h2]
theorem writeFs_ok {x : FZ} {s t : Str} (h : nameFault s = 0) (h1 : ¬ 1200 < t.length) (h2 : ¬ ((hasE tFV x.2.1.1 s = false ∧ x.2.1.1.length = 6) ∨ x.1.1 = 1000000)) :
    writeFs x s t = (((x.1.1 + 1, ()), (putE tFV x.2.1.1 s (t, x.1.1 + 1, ()) x.2.1.2.1, clkE tFV x.2.1.1 s x.2.1.2.1, ()), ()), 0) := by unfold writeFs; rw [if_neg (by simp [h]), if_neg h1, if_neg h2]
theorem removeFs_no {x : FZ} {s : Str} (h : hasE tFV x.2.1.1 s = false) : removeFs x s = (x, 5) := by unfold removeFs; rw [if_neg (by rw [h]; simp)]
theorem removeFs_yes {x : FZ} {s : Str} (h : hasE tFV x.2.1.1 s = true) : removeFs x s = ((x.1, (delE tFV x.2.1.1 s, x.2.1.2.1, ()), ()), 0) := by unfold removeFs; rw [if_pos h]
/-- What is left, when one more was seen. -/
theorem left_more {es : List FE} {seen : List Int} {y : FE} (h : y ∈ leftE tFV es seen) : (leftE tFV es (seen ++ [bornF y])).length < (leftE tFV es seen).length := by
  have e : leftE tFV es (seen ++ [bornF y]) = (leftE tFV es seen).filter fun z => !(bornF z == bornF y) := by
    unfold leftE
    rw [List.filter_filter]
    apply List.filter_congr
    intro z _
    show (!(seen ++ [bornF y]).contains (bornF z)) = _
    rw [Bool.eq_iff_iff]
    simp [bornF, and_comm]
  rw [e]
  exact List.length_filter_lt_length_iff_exists.2 ⟨y, h, by simp⟩
theorem nodup_map_inj {α β : Type} {f : α → β} {l : List α} (h : (l.map f).Nodup) : l.Nodup := by
  unfold List.Nodup at h ⊢
  rw [List.pairwise_map] at h
  exact h.imp fun hne e => hne (by rw [e])
theorem nodup_len {α : Type} [DecidableEq α] : ∀ {a b : List α}, a.Nodup → (∀ y ∈ a, y ∈ b) → a.length ≤ b.length
  | [], _, _, _ => by simp
  | x :: a, b, hn, hs => by
    have hn' := List.nodup_cons.1 hn
    have h1 : (b.erase x).length = b.length - 1 := List.length_erase_of_mem (hs x (by simp))
    have h2 : 0 < b.length := List.length_pos_of_mem (hs x (by simp))
    have := nodup_len (b := b.erase x) hn'.2 fun y hy => (List.mem_erase_of_ne (fun (e : y = x) => hn'.1 (by rw [← e]; exact hy))).2 (hs y (by simp [hy]))
    simp only [List.length_cons]
    omega
theorem seen_len {es x : List FE} (hs : ∀ y ∈ x, y ∈ es) (hn : (x.map bornF).Nodup) : x.length ≤ es.length := by
  have h1 := nodup_map_inj hn
  exact nodup_len h1 hs
structure SeenF (es : List FE) (x : List FE) : Prop where
  sub : ∀ y ∈ x, y ∈ es
  nodup : (x.map bornF).Nodup
theorem SeenF.more {es x : List FE} {y : FE} (h : SeenF es x) (hy : y ∈ leftE tFV es (x.map bornF)) : SeenF es (x ++ [y]) := by
  unfold leftE at hy
  have hy' := List.mem_filter.1 hy
  have hn : bornF y ∉ x.map bornF := by
    have := hy'.2
    simpa [bornF] using this
  refine ⟨fun z hz => ?_, ?_⟩
  · rcases List.mem_append.1 hz with hz | hz
    · exact h.sub z hz
    · simp at hz; subst hz; exact hy'.1
  · rw [List.map_append, List.nodup_append]
    refine ⟨h.nodup, by simp, fun a ha b hb => ?_⟩
    simp at hb; subst hb
    exact fun e => hn (e ▸ ha)
theorem nodup_of_map {α β : Type} {f : α → β} {l : List α} (h : (l.map f).Nodup) : l.Nodup := by
  unfold List.Nodup at h ⊢
  rw [List.pairwise_map] at h
  exact h.imp fun hne e => hne (by rw [e])
theorem born_inj : ∀ {es : List FE}, (es.map bornF).Nodup → ∀ {a b : FE}, a ∈ es → b ∈ es → bornF a = bornF b → a = b
  | [], _, _, _, h, _, _ => by simp at h
  | y :: r, hn, a, b, ha, hb, e => by
    simp only [List.map_cons, List.nodup_cons] at hn
    rcases List.mem_cons.1 ha with ha' | ha' <;> rcases List.mem_cons.1 hb with hb' | hb'
    · rw [ha', hb']
    · exact (hn.1 (by rw [← ha', e]; exact List.mem_map_of_mem hb')).elim
    · exact (hn.1 (by rw [← hb', ← e]; exact List.mem_map_of_mem ha')).elim
    · exact born_inj hn.2 ha' hb' e
theorem SeenF.all {es x : List FE} (h : SeenF es x) (hn : (es.map bornF).Nodup) (hl : leftE tFV es (x.map bornF) = []) : x.Perm es := by
  refine (List.perm_ext_iff_of_nodup (nodup_of_map h.nodup) (nodup_of_map hn)).2 fun y => ⟨h.sub y, fun hy => ?_⟩
  have hin : bornF y ∈ x.map bornF := by
    apply Classical.byContradiction
    intro hc
    have : y ∈ leftE tFV es (x.map bornF) := List.mem_filter.2 ⟨hy, by simpa [bornF] using hc⟩
    rw [hl] at this; simp at this
  obtain ⟨z, hz, e⟩ := List.mem_map.1 hin
  have := born_inj hn (h.sub z hz) hy e
  rw [← this]; exact hz
theorem list_of_seen {es x : List FE} (h : SeenF es x) (hn : (es.map bornF).Nodup) (hl : leftE tFV es (x.map bornF) = []) : sortS (x.map keyF) = sortS (es.map keyF) := sortS_perm_eq ((h.all hn hl).map keyF)
/-- The round's entry is the one that came out. -/
theorem at_mem : ∀ {es : List FE} {y : FE}, (es.map bornF).Nodup → y ∈ es → atE tFV es (bornF y) = y ∧ bornE tFV es (bornF y) = true
  | [], _, _, h => by simp at h
  | z :: r, y, hn, hy => by
    simp only [List.map_cons, List.nodup_cons] at hn
    rcases List.mem_cons.1 hy with rfl | hy
    · exact ⟨by rw [atE]; exact if_pos rfl, by rw [bornE]; exact if_pos rfl⟩
    · have hne : ¬ bornF z = bornF y := fun e => hn.1 (by rw [e]; exact List.mem_map_of_mem hy)
      obtain ⟨h1, h2⟩ := at_mem hn.2 hy
      exact ⟨by rw [atE]; exact (if_neg hne).trans h1, by rw [bornE]; exact (if_neg hne).trans h2⟩
theorem lastI_snoc (l : List Int) (a : Int) : lastI (l ++ [a]) = a := by simp [lastI]
end Go.Mrl
