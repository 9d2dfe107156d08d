/- A part of the proof that the law TopStamp holds of the given program: facts that are used there. -/
import Derived.Test.YtgokjhhcfemnhabMrl25
set_option linter.unusedSimpArgs false
set_option linter.unusedVariables false
namespace Go.Mrl
open Go.Vg
/-! Stamps. -/
def removeS : Str := [114, 101, 109, 111, 118, 101]
def dstep (x : FZ) (a : D tAct) : FZ := if a.1 = writeS then (writeFs x a.2.1 a.2.2.1).1 else if a.1 = removeS then (removeFs x a.2.1).1 else x
def doneF (x : FZ) (l : List (D tAct)) : FZ := l.foldl dstep x
theorem doneF_next {x : FZ} {l : List (D tAct)} {i : Nat} (h : i < l.length) : doneF x (l.take (i + 1)) = dstep (doneF x (l.take i)) (nth tAct l i) := by rw [take_snoc (t := tAct) h]; simp [doneF]
theorem dstep_write {x : FZ} {a : D tAct} (h : a.1 = writeS) : dstep x a = (writeFs x a.2.1 a.2.2.1).1 := if_pos h
theorem dstep_remove {x : FZ} {a : D tAct} (h : ¬ a.1 = writeS) (h2 : a.1 = removeS) : dstep x a = (removeFs x a.2.1).1 := by unfold dstep; rw [if_neg h, if_pos h2]
theorem dstep_none {x : FZ} {a : D tAct} (h : ¬ a.1 = writeS) (h2 : ¬ a.1 = removeS) : dstep x a = x := by unfold dstep; rw [if_neg h, if_neg h2]
theorem slice_one {l : List (D tAct)} {i : Nat} (h : i < l.length) : (l.take (i + 1)).drop i = [nth tAct l i] := by
  rw [take_snoc (t := tAct) h, List.drop_append_of_le_length (by simp; omega), List.drop_eq_nil_of_le (by simp; omega)]; rfl
theorem doneF_slice {x : FZ} {l : List (D tAct)} {i : Nat} (h : i < l.length) : doneF (doneF x (l.take i)) ((l.take (i + 1)).drop i) = doneF x (l.take (i + 1)) := by
  rw [slice_one h, doneF_next h]; rfl
structure StampInv (x : FZ) : Prop where
  good : ∃ r, FilesInv x r
  stamp : ∀ y ∈ x.2.1.1, y.2.1.2.1 ≤ x.1.1
theorem StampInv.new : StampInv newFs := ⟨⟨_, FilesInv.new⟩, fun y hy => by simp [newFs] at hy⟩
theorem putE_mem {s : Str} {v : Str × Int × Unit} {c : Int} : ∀ {es : List FE} {y : FE}, y ∈ putE tFV es s v c → y.2.1 = v ∨ y ∈ es
  | [], y, h => by simp [putE] at h; subst h; exact .inl rfl
  | z :: r, y, h => by
    unfold putE at h
    split at h
    · rcases List.mem_cons.1 h with rfl | h
      · exact .inl rfl
      · exact .inr (by simp [h])
    · rcases List.mem_cons.1 h with rfl | h
      · exact .inr (by simp)
      · rcases putE_mem h with h | h
        · exact .inl h
        · exact .inr (by simp [h])
theorem writeFs_cases (x : FZ) (s t : Str) : ((writeFs x s t).1 = x ∧ ¬ (writeFs x s t).2 = 0) ∨
    ((writeFs x s t).1 = ((x.1.1 + 1, ()), (putE tFV x.2.1.1 s (t, x.1.1 + 1, ()) x.2.1.2.1, clkE tFV x.2.1.1 s x.2.1.2.1, ()), ()) ∧ (writeFs x s t).2 = 0) := by
  unfold writeFs
  split
  · rename_i h; exact .inl ⟨rfl, h⟩
  · split
    · exact .inl ⟨rfl, by simp⟩
    · split
      · exact .inl ⟨rfl, by simp⟩
      · exact .inr ⟨rfl, rfl⟩
theorem StampInv.write {x : FZ} (h : StampInv x) (s t : Str) : StampInv (writeFs x s t).1 ∧ x.1.1 ≤ (writeFs x s t).1.1.1 := by
  obtain ⟨r, hr⟩ := h.good
  have hg := (hr.write s t).1
  rcases writeFs_cases x s t with ⟨e, _⟩ | ⟨e, _⟩
  · rw [e]; exact ⟨h, Int.le_refl _⟩
  · rw [e] at hg ⊢
    refine ⟨⟨⟨_, hg⟩, fun y hy => ?_⟩, by simp only; omega⟩
    rcases putE_mem hy with hy | hy
    · rw [hy]; exact Int.le_refl _
    · have := h.stamp y hy; simp only; omega
theorem StampInv.remove {x : FZ} (h : StampInv x) (s : Str) : StampInv (removeFs x s).1 ∧ x.1.1 ≤ (removeFs x s).1.1.1 := by
  obtain ⟨r, hr⟩ := h.good
  have hg := (hr.remove s).1
  cases c : hasE tFV x.2.1.1 s with
  | false => rw [removeFs_no c]; exact ⟨h, Int.le_refl _⟩
  | true =>
    rw [removeFs_yes c] at hg ⊢
    exact ⟨⟨⟨_, hg⟩, fun y hy => h.stamp y (delE_sub.subset hy)⟩, Int.le_refl _⟩
theorem StampInv.dstep {x : FZ} (h : StampInv x) (a : D tAct) : StampInv (dstep x a) ∧ x.1.1 ≤ (Mrl.dstep x a).1.1 := by
  unfold Mrl.dstep
  split
  · exact h.write _ _
  · split
    · exact h.remove _
    · exact ⟨h, Int.le_refl _⟩
theorem StampInv.done : ∀ (l : List (D tAct)) {x : FZ}, StampInv x → StampInv (doneF x l)
  | [], _, h => h
  | a :: l, _, h => StampInv.done l (h.dstep a).1
theorem stamp_read {x : FZ} (h : StampInv x) {s : Str} (hn : (errNo (readFs x s).2.2).isNil = true) : (readFs x s).2.1 ≤ x.1.1 := by
  have hc := errNo_nil.1 hn
  cases c : hasE tFV x.2.1.1 s with
  | false => rw [readFs_no c] at hc; simp at hc
  | true =>
    obtain ⟨r, hr⟩ := h.good
    obtain ⟨y, hy, e⟩ := hasE_iff.1 c
    rw [readFs_yes c, getE_mem hr.names y hy e]
    exact h.stamp y hy
theorem getE_put {s k : Str} {v : Str × Int × Unit} {c : Int} : ∀ {es : List FE}, hasE tFV (putE tFV es s v c) k = (decide (k = s) || hasE tFV es k) ∧ getE tFV (putE tFV es s v c) k = if k = s then v else getE tFV es k
  | [] => by
    by_cases h : s = k
    · subst h; simp [putE, hasE, getE]
    · have h' : ¬ k = s := fun e => h e.symm
      simp [putE, hasE, getE, h, h']
  | z :: r => by
    obtain ⟨i1, i2⟩ := getE_put (s := s) (k := k) (v := v) (c := c) (es := r)
    unfold putE
    by_cases e : z.1 = s
    · rw [if_pos e]
      by_cases h : s = k
      · subst h; simp [hasE, getE]
      · have h' : ¬ k = s := fun e => h e.symm
        have h2 : ¬ z.1 = k := fun e2 => h (e.symm.trans e2)
        simp [hasE, getE, h, h', h2]
    · rw [if_neg e]
      by_cases h : z.1 = k
      · have h' : ¬ k = s := fun e2 => e (h.trans e2)
        simp [hasE, getE, h, h']
      · simp only [hasE, getE, if_neg h]; exact ⟨i1, i2⟩
theorem read_other {x : FZ} {s k t : Str} (h : ¬ k = s) : readFs (writeFs x s t).1 k = readFs x k := by
  rcases writeFs_cases x s t with ⟨e, _⟩ | ⟨e, _⟩
  · rw [e]
  · rw [e]
    unfold readFs
    simp only [(getE_put (s := s) (k := k) (v := (t, x.1.1 + 1, ())) (c := x.2.1.2.1) (es := x.2.1.1)).1, (getE_put (s := s) (k := k) (v := (t, x.1.1 + 1, ())) (c := x.2.1.2.1) (es := x.2.1.1)).2, h, decide_false, Bool.false_or, if_false]
theorem read_self {x : FZ} {s t : Str} (h : (errNo (writeFs x s t).2).isNil = true) : readFs (writeFs x s t).1 s = (t, x.1.1 + 1, 0) := by
  rcases writeFs_cases x s t with ⟨_, e⟩ | ⟨e, _⟩
  · exact absurd (errNo_nil.1 h) e
  · rw [e]
    unfold readFs
    simp only [(getE_put (s := s) (k := s) (v := (t, x.1.1 + 1, ())) (c := x.2.1.2.1) (es := x.2.1.1)).1, (getE_put (s := s) (k := s) (v := (t, x.1.1 + 1, ())) (c := x.2.1.2.1) (es := x.2.1.1)).2]
    simp
theorem write_err {x : FZ} {s t : Str} (h : (errNo (writeFs x s t).2).isNil = false) : (writeFs x s t).1 = x := by
  rcases writeFs_cases x s t with ⟨e, _⟩ | ⟨_, e⟩
  · exact e
  · rw [e] at h; cases h
theorem read_listed {x : FZ} {i : Nat} (h : i < (listFs x).length) : (readFs x (nth .str (listFs x) i)).2.2 = 0 := by
  have hm : nth .str (listFs x) i ∈ listFs x := nth_mem (t := .str) h
  obtain ⟨y, hy, e⟩ := List.mem_map.1 ((sortS_perm _).mem_iff.1 hm)
  rw [readFs_yes (hasE_iff.2 ⟨y, hy, e⟩)]
theorem map_next {α : Type} {f : Str → α} {l : List Str} {i : Nat} (h : i < l.length) : (l.take i).map f ++ [f (nth .str l i)] = (l.take (i + 1)).map f := by
  rw [take_snoc (t := .str) h, List.map_append]; rfl
theorem nth_mapT {t : Ty} {f : Str → D t} {l : List Str} {i : Nat} (h : i < l.length) : nth t (l.map f) i = f (nth .str l i) := by
  refine nth_eq (t := t) ?_
  rw [List.getElem?_map, getElem?_nth (t := .str) h]; rfl
theorem StampInv.pre {x : FZ} (h : StampInv x) : x.2.1.1.length ≤ 6 ∧ 0 ≤ x.1.1 ∧ x.1.1 ≤ 1000000 := let ⟨_, hr⟩ := h.good; hr.pre
theorem StampInv.lpre {x : FZ} (h : StampInv x) : x.2.1.1.length ≤ 6 ∧ (x.2.1.1.map bornF).Nodup := let ⟨_, hr⟩ := h.good; hr.lpre
theorem StampInv.llen {x : FZ} (h : StampInv x) : (listFs x).length ≤ 6 := by
  unfold listFs; rw [(sortS_perm _).length_eq, List.length_map]; exact h.pre.1
end Go.Mrl
