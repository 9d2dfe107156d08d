/- A part of the proof that the law FilesSays holds of the given program: facts that are used there. -/
import Derived.Test.YtgokjhhcfemnhaaMrl23
import Derived.Test.YtgokjhhcfemnhaaMrl11
set_option linter.unusedSimpArgs false
set_option linter.unusedVariables false
namespace Go.Mrl
open Go.Vg
/-! The document's files: by rising names. -/
abbrev RF := Str × Str × Int × Unit
abbrev RS := List RF × Int × Unit
def nameR (y : RF) : Str := y.1
def isNot (s : Str) (y : RF) : Bool := !(y.1 == s)
def findR : List RF → Str → Str × Int × Int
  | [], _ => ([], 0, 5)
  | y :: r, s => if y.1 = s then (y.2.1, y.2.2.1, 0) else findR r s
def insF (s : Str) (e : RF) : List RF → List RF
  | [] => [e]
  | y :: r => if (Op.bytesLess s y.1 || s == y.1) = true then e :: (y :: r).filter (isNot s) else y :: insF s e r
def writeR (x : RS) (s t : Str) : RS × Int :=
  if ¬ nameFault s = 0 then (x, nameFault s) else if 1200 < t.length then (x, 2)
  else if (0 < (findR x.1 s).2.2 ∧ x.1.length = 6) ∨ x.2.1 = 1000000 then (x, 8)
  else ((insF s (s, t, x.2.1 + 1, ()) x.1, x.2.1 + 1, ()), 0)
def removeR (x : RS) (s : Str) : RS × Int := if (x.1.filter (isNot s)).length = x.1.length then (x, 5) else ((x.1.filter (isNot s), x.2), 0)
theorem findR_code (L : List RF) (s : Str) : (findR L s).2.2 = 0 ∨ (findR L s).2.2 = 5 := by
  induction L with
  | nil => exact .inr rfl
  | cons y r ih => unfold findR; split; exact .inl rfl; exact ih
/-- What the two say of the same. -/
def toF (y : FE) : RF := (y.1, y.2.1.1, y.2.1.2.1, ())
def Rising (L : List RF) : Prop := L.Pairwise fun a b => ltS a.1 b.1
structure FilesInv (x : FZ) (r : RS) : Prop where
  now : r.2.1 = x.1.1
  lo : 0 ≤ x.1.1
  hi : x.1.1 ≤ 1000000
  len : x.2.1.1.length ≤ 6
  born : (x.2.1.1.map bornF).Nodup
  old : ∀ y ∈ x.2.1.1, bornF y < x.2.1.2.1
  rise : Rising r.1
  perm : r.1.Perm (x.2.1.1.map toF)
theorem FilesInv.new : FilesInv newFs ([], 0, ()) := ⟨rfl, Int.le_refl _, by decide, by decide, by decide, fun y hy => by simp [newFs] at hy, .nil, .refl _⟩
theorem rising_nodup {L : List RF} (h : Rising L) : (L.map nameR).Nodup := by
  unfold List.Nodup
  rw [List.pairwise_map]
  exact h.imp fun hlt e => by unfold nameR at e; rw [e] at hlt; exact ltS_irrefl _ hlt
theorem FilesInv.names {x : FZ} {r : RS} (h : FilesInv x r) : (x.2.1.1.map keyF).Nodup := by
  have h1 := (h.perm.map nameR).nodup_iff.1 (rising_nodup h.rise)
  rw [List.map_map] at h1
  exact h1
theorem findR_mem : ∀ {L : List RF} {s : Str}, (L.map nameR).Nodup → ∀ y ∈ L, y.1 = s → findR L s = (y.2.1, y.2.2.1, 0)
  | [], _, _, _, h, _ => by simp at h
  | z :: r, s, hn, y, hy, e => by
    simp only [List.map_cons, List.nodup_cons] at hn
    unfold findR
    rcases List.mem_cons.1 hy with rfl | hy
    · rw [if_pos e]
    · have : ¬ z.1 = s := fun e2 => hn.1 (by rw [show nameR z = nameR y from e2.trans e.symm]; exact List.mem_map_of_mem hy)
      rw [if_neg this]
      exact findR_mem hn.2 y hy e
theorem findR_no : ∀ {L : List RF} {s : Str}, (∀ y ∈ L, ¬ y.1 = s) → findR L s = ([], 0, 5)
  | [], _, _ => rfl
  | z :: r, s, h => by
    unfold findR
    rw [if_neg (h z (by simp))]
    exact findR_no fun y hy => h y (by simp [hy])
theorem hasE_iff : ∀ {es : List FE} {s : Str}, hasE tFV es s = true ↔ ∃ y ∈ es, y.1 = s
  | [], _ => by simp [hasE]
  | z :: r, s => by
    unfold hasE
    by_cases c : z.1 = s
    · simp [c]
    · rw [if_neg c, hasE_iff]; simp [c]
theorem getE_mem : ∀ {es : List FE} {s : Str}, (es.map keyF).Nodup → ∀ y ∈ es, y.1 = s → getE tFV es s = y.2.1
  | [], _, _, _, h, _ => by simp at h
  | z :: r, s, hn, y, hy, e => by
    simp only [List.map_cons, List.nodup_cons] at hn
    unfold getE
    rcases List.mem_cons.1 hy with rfl | hy
    · rw [if_pos e]
    · have : ¬ z.1 = s := fun e2 => hn.1 (by rw [show keyF z = keyF y from e2.trans e.symm]; exact List.mem_map_of_mem hy)
      rw [if_neg this]
      exact getE_mem hn.2 y hy e
theorem FilesInv.read {x : FZ} {r : RS} (h : FilesInv x r) (s : Str) : readFs x s = findR r.1 s := by
  by_cases c : hasE tFV x.2.1.1 s = true
  · obtain ⟨y, hy, e⟩ := hasE_iff.1 c
    rw [readFs_yes c, getE_mem h.names y hy e]
    exact (findR_mem (rising_nodup h.rise) (toF y) (h.perm.mem_iff.2 (List.mem_map_of_mem hy)) e).symm
  · rw [readFs_no (by simpa using c)]
    refine (findR_no fun y hy e => c ?_).symm
    obtain ⟨z, hz, rfl⟩ := List.mem_map.1 (h.perm.mem_iff.1 hy)
    exact hasE_iff.2 ⟨z, hz, e⟩
theorem FilesInv.list {x : FZ} {r : RS} (h : FilesInv x r) : listFs x = r.1.map nameR := by
  unfold listFs
  refine sortS_eq ?_ ?_
  · have := h.perm.map nameR
    rw [List.map_map] at this
    exact this
  · rw [List.pairwise_map]
    exact h.rise.imp leS_of_lt
theorem isNot_iff {s : Str} {y : RF} : isNot s y = true ↔ ¬ y.1 = s := by simp [isNot]
theorem insF_mem {s : Str} {e : RF} : ∀ {L : List RF} {y : RF}, y ∈ insF s e L → y = e ∨ y ∈ L
  | [], y, h => by simp [insF] at h; exact .inl h
  | z :: r, y, h => by
    unfold insF at h
    split at h
    · rcases List.mem_cons.1 h with h | h
      · exact .inl h
      · exact .inr (List.mem_filter.1 h).1
    · rcases List.mem_cons.1 h with rfl | h
      · exact .inr (by simp)
      · rcases insF_mem h with h | h
        · exact .inl h
        · exact .inr (by simp [h])
theorem not_le {s a : Str} (h : ¬ (Op.bytesLess s a || s == a) = true) : ltS a s := by
  simp at h
  exact lt_of_leS_ne (a := a) (b := s) (by unfold leS ltS; rw [h.1]; simp) (fun e => h.2 e.symm)
theorem insF_rising {s : Str} {e : RF} (he : e.1 = s) : ∀ {L : List RF}, Rising L → Rising (insF s e L)
  | [], _ => by simp [insF, Rising]
  | z :: r, h => by
    have h' := List.pairwise_cons.1 h
    unfold insF
    split
    · rename_i c
      refine List.pairwise_cons.2 ⟨fun y hy => ?_, h.filter _⟩
      have hy' := List.mem_filter.1 hy
      have hn := isNot_iff.1 hy'.2
      have hz : leS s z.1 := by
        simp at c
        rcases c with c | rfl
        · exact leS_of_lt c
        · exact leS_refl _
      have hzy : leS z.1 y.1 := by
        rcases List.mem_cons.1 hy'.1 with e2 | hy2
        · rw [e2]; exact leS_refl _
        · exact leS_of_lt (h'.1 y hy2)
      rw [he]
      exact lt_of_leS_ne (leS_trans hz hzy) (fun e2 => hn e2.symm)
    · rename_i c
      have hlt := not_le c
      refine List.pairwise_cons.2 ⟨fun y hy => ?_, insF_rising he h'.2⟩
      rcases insF_mem hy with rfl | hy
      · rw [he]; exact hlt
      · exact h'.1 y hy
theorem filter_all {s : Str} : ∀ {L : List RF}, (∀ y ∈ L, ¬ y.1 = s) → L.filter (isNot s) = L := fun h => List.filter_eq_self.2 fun y hy => isNot_iff.2 (h y hy)
theorem insF_perm {s : Str} {e : RF} : ∀ {L : List RF}, Rising L → (insF s e L).Perm (e :: L.filter (isNot s))
  | [], _ => .refl _
  | z :: r, h => by
    have h' := List.pairwise_cons.1 h
    unfold insF
    split
    · exact .refl _
    · rename_i c
      have hlt := not_le c
      have hz : isNot s z = true := isNot_iff.2 fun e => by rw [e] at hlt; exact ltS_irrefl _ hlt
      rw [List.filter_cons, if_pos hz]
      exact ((insF_perm h'.2).cons z).trans (List.Perm.swap e z _)
theorem putE_perm {s : Str} {v : Str × Int × Unit} {c : Int} : ∀ {es : List FE}, (es.map keyF).Nodup → ((putE tFV es s v c).map toF).Perm ((s, v.1, v.2.1, ()) :: (es.map toF).filter (isNot s))
  | [], _ => .refl _
  | z :: r, hn => by
    simp only [List.map_cons, List.nodup_cons] at hn
    unfold putE
    by_cases e : z.1 = s
    · rw [if_pos e]
      have h1 : isNot s (toF z) = false := by
        cases h : isNot s (toF z) with
        | false => rfl
        | true => exact absurd e (isNot_iff.1 h)
      rw [List.map_cons, List.map_cons, List.filter_cons, if_neg (by rw [h1]; simp), filter_all]
      · exact .refl _
      · intro y hy e2
        obtain ⟨z2, hz2, rfl⟩ := List.mem_map.1 hy
        exact hn.1 (by rw [show keyF z = keyF z2 from e.trans (show s = z2.1 from e2.symm)]; exact List.mem_map_of_mem hz2)
    · rw [if_neg e]
      have h1 : isNot s (toF z) = true := isNot_iff.2 e
      rw [List.map_cons, List.map_cons, List.filter_cons, if_pos h1]
      exact ((putE_perm hn.2).cons (toF z)).trans (List.Perm.swap _ _ _)
theorem putE_born {s : Str} {v : Str × Int × Unit} {c : Int} : ∀ {es : List FE}, (putE tFV es s v c).map bornF = if hasE tFV es s = true then es.map bornF else es.map bornF ++ [c]
  | [] => rfl
  | z :: r => by
    unfold putE hasE
    by_cases e : z.1 = s
    · rw [if_pos e, if_pos e]; rfl
    · rw [if_neg e, if_neg e, List.map_cons, putE_born]
      split <;> rfl
theorem delE_map {s : Str} : ∀ {es : List FE}, (es.map keyF).Nodup → (delE tFV es s).map toF = (es.map toF).filter (isNot s)
  | [], _ => rfl
  | z :: r, hn => by
    simp only [List.map_cons, List.nodup_cons] at hn
    unfold delE
    by_cases e : z.1 = s
    · have h1 : ¬ isNot s (toF z) = true := fun h => isNot_iff.1 h e
      rw [if_pos e, List.map_cons, List.filter_cons, if_neg h1, filter_all]
      intro y hy e2
      obtain ⟨z2, hz2, rfl⟩ := List.mem_map.1 hy
      exact hn.1 (by rw [show keyF z = keyF z2 from e.trans (show s = z2.1 from e2.symm)]; exact List.mem_map_of_mem hz2)
    · have h1 : isNot s (toF z) = true := isNot_iff.2 e
      rw [if_neg e, List.map_cons, List.map_cons, List.filter_cons, if_pos h1, delE_map hn.2]
theorem delE_sub {s : Str} : ∀ {es : List FE}, (delE tFV es s).Sublist es
  | [] => .refl _
  | z :: r => by
    unfold delE
    split
    · exact List.sublist_cons_self _ _
    · exact delE_sub.cons_cons _
theorem FilesInv.has {x : FZ} {r : RS} (h : FilesInv x r) (s : Str) : 0 < (findR r.1 s).2.2 ↔ hasE tFV x.2.1.1 s = false := by
  rw [← h.read s]
  cases c : hasE tFV x.2.1.1 s with
  | true => rw [readFs_yes c]; simp
  | false => rw [readFs_no c]; simp
theorem FilesInv.write {x : FZ} {r : RS} (h : FilesInv x r) (s t : Str) : FilesInv (writeFs x s t).1 (writeR r s t).1 ∧ (writeFs x s t).2 = (writeR r s t).2 := by
  have hlen : r.1.length = x.2.1.1.length := by rw [h.perm.length_eq, List.length_map]
  have hc : ((hasE tFV x.2.1.1 s = false ∧ x.2.1.1.length = 6) ∨ x.1.1 = 1000000) ↔ ((0 < (findR r.1 s).2.2 ∧ r.1.length = 6) ∨ r.2.1 = 1000000) := by rw [h.has, hlen, h.now]
  by_cases h1 : nameFault s = 0
  · by_cases h2 : 1200 < t.length
    · rw [writeFs_many h1 h2]
      unfold writeR; rw [if_neg (by simp [h1]), if_pos h2]
      exact ⟨h, rfl⟩
    · by_cases h3 : (hasE tFV x.2.1.1 s = false ∧ x.2.1.1.length = 6) ∨ x.1.1 = 1000000
      · rw [writeFs_full h1 h2 h3]
        unfold writeR; rw [if_neg (by simp [h1]), if_neg h2, if_pos (hc.1 h3)]
        exact ⟨h, rfl⟩
      · rw [writeFs_ok h1 h2 h3]
        unfold writeR; rw [if_neg (by simp [h1]), if_neg h2, if_neg (fun h' => h3 (hc.2 h'))]
        refine ⟨⟨by rw [h.now], by have := h.lo; simp only; omega, by have := h.hi; simp only; omega, ?_, ?_, ?_, insF_rising (s := s) (e := (s, t, r.2.1 + 1, ())) rfl h.rise, ?_⟩, rfl⟩
        · have hp := (putE_perm (s := s) (v := (t, x.1.1 + 1, ())) (c := x.2.1.2.1) h.names).length_eq
          have hb := congrArg List.length (putE_born (s := s) (v := (t, x.1.1 + 1, ())) (c := x.2.1.2.1) (es := x.2.1.1))
          simp only [List.length_map] at hb
          show (putE tFV x.2.1.1 s (t, x.1.1 + 1, ()) x.2.1.2.1).length ≤ 6
          rw [hb]
          have := h.len
          cases c : hasE tFV x.2.1.1 s with
          | true => simpa using this
          | false =>
            have : ¬ x.2.1.1.length = 6 := fun e => h3 (.inl ⟨c, e⟩)
            simp; omega
        · show ((putE tFV x.2.1.1 s (t, x.1.1 + 1, ()) x.2.1.2.1).map bornF).Nodup
          rw [putE_born]
          split
          · exact h.born
          · rw [List.nodup_append]
            refine ⟨h.born, by simp, fun a ha b hb e => ?_⟩
            simp at hb
            obtain ⟨y, hy, rfl⟩ := List.mem_map.1 ha
            have := h.old y hy
            omega
        · intro y hy
          have hy' : bornF y ∈ (putE tFV x.2.1.1 s (t, x.1.1 + 1, ()) x.2.1.2.1).map bornF := List.mem_map_of_mem hy
          rw [putE_born] at hy'
          show bornF y < clkE tFV x.2.1.1 s x.2.1.2.1
          unfold clkE
          split at hy'
          · rename_i c
            rw [if_pos c]
            obtain ⟨z, hz, e⟩ := List.mem_map.1 hy'
            rw [← e]; exact h.old z hz
          · rename_i c
            rw [if_neg c]
            rcases List.mem_append.1 hy' with hy' | hy'
            · obtain ⟨z, hz, e⟩ := List.mem_map.1 hy'
              have := h.old z hz
              omega
            · simp at hy'; omega
        · refine (insF_perm h.rise).trans ?_
          rw [h.now]
          exact ((h.perm.filter _).cons _).trans (putE_perm (v := (t, x.1.1 + 1, ())) (c := x.2.1.2.1) h.names).symm
  · rw [writeFs_name h1]
    unfold writeR; rw [if_pos h1]
    exact ⟨h, rfl⟩
theorem FilesInv.remove {x : FZ} {r : RS} (h : FilesInv x r) (s : Str) : FilesInv (removeFs x s).1 (removeR r s).1 ∧ (removeFs x s).2 = (removeR r s).2 := by
  have hp : (r.1.filter (isNot s)).Perm ((delE tFV x.2.1.1 s).map toF) := by rw [delE_map h.names]; exact h.perm.filter _
  cases c : hasE tFV x.2.1.1 s with
  | false =>
    have hall : r.1.filter (isNot s) = r.1 := filter_all fun y hy e => by
      obtain ⟨z, hz, rfl⟩ := List.mem_map.1 (h.perm.mem_iff.1 hy)
      have := hasE_iff.2 ⟨z, hz, e⟩
      rw [c] at this; cases this
    rw [removeFs_no c]
    unfold removeR; rw [if_pos (by rw [hall])]
    exact ⟨h, rfl⟩
  | true =>
    obtain ⟨y, hy, e⟩ := hasE_iff.1 c
    have hlt : (r.1.filter (isNot s)).length < r.1.length := List.length_filter_lt_length_iff_exists.2 ⟨toF y, h.perm.mem_iff.2 (List.mem_map_of_mem hy), by rw [isNot_iff]; exact fun h => h e⟩
    rw [removeFs_yes c]
    unfold removeR; rw [if_neg (by omega)]
    refine ⟨⟨h.now, h.lo, h.hi, Nat.le_trans delE_sub.length_le h.len, (delE_sub.map bornF).nodup h.born, fun y hy => h.old y (delE_sub.subset hy), List.Pairwise.filter _ h.rise, hp⟩, rfl⟩
/-! The loops, step by step. -/
theorem drop_nthF {L : List RF} {i : Nat} (h : i < L.length) : L.drop i = nth tFile L i :: L.drop (i + 1) := drop_nth (t := tFile) h
theorem findR_at : ∀ {L : List RF} {s : Str} {i : Nat}, (∀ j, j < i → ¬ (nth tFile L j).1 = s) → i < L.length → (nth tFile L i).1 = s → findR L s = ((nth tFile L i).2.1, (nth tFile L i).2.2.1, 0)
  | [], _, _, _, h, _ => by simp at h
  | y :: r, s, 0, _, _, e => by unfold findR; rw [if_pos (show y.1 = s from e)]; rfl
  | y :: r, s, i + 1, hn, h, e => by
    unfold findR
    rw [if_neg (show ¬ y.1 = s from hn 0 (by omega))]
    exact findR_at (L := r) (i := i) (fun j hj => hn (j + 1) (by omega)) (by simpa using h) e
theorem findR_end {L : List RF} {s : Str} (h : ∀ j, j < L.length → ¬ (nth tFile L j).1 = s) : findR L s = ([], 0, 5) :=
  findR_no fun y hy e => by
    obtain ⟨j, hj, rfl⟩ := mem_nth (t := tFile) hy
    exact h j hj e
def InsInv (L : List RF) (s : Str) (e : RF) (i : Nat) (laid : Bool) (out : List RF) : Prop :=
  (laid = false → out ++ insF s e (L.drop i) = insF s e L) ∧ (laid = true → out ++ (L.drop i).filter (isNot s) = insF s e L) ∧ out.length ≤ i + 1 ∧ (laid = false → out.length ≤ i)
theorem InsInv.start (L : List RF) (s : Str) (e : RF) : InsInv L s e 0 false [] := ⟨fun _ => rfl, fun h => (by cases h), by simp, fun _ => by simp⟩
theorem InsInv.put {L : List RF} {s : Str} {e : RF} {i : Nat} {out : List RF} (h : InsInv L s e i false out) (hi : i < L.length) (hle : (Op.bytesLess s (nth tFile L i).1 || s == (nth tFile L i).1) = true)
    (hne : ¬ (nth tFile L i).1 = s) : InsInv L s e (i + 1) true (out ++ [e] ++ [nth tFile L i]) := by
  refine ⟨fun h => by (cases h), fun _ => ?_, by have := h.2.2.2 rfl; simp; omega, fun h => by cases h⟩
  rw [← h.1 rfl, drop_nthF hi, insF, if_pos hle, List.filter_cons, if_pos (isNot_iff.2 hne)]
  simp
theorem InsInv.putOnly {L : List RF} {s : Str} {e : RF} {i : Nat} {out : List RF} (h : InsInv L s e i false out) (hi : i < L.length) (hle : (Op.bytesLess s (nth tFile L i).1 || s == (nth tFile L i).1) = true)
    (hne : (nth tFile L i).1 = s) : InsInv L s e (i + 1) true (out ++ [e]) := by
  refine ⟨fun h => by (cases h), fun _ => ?_, by have := h.2.2.2 rfl; simp; omega, fun h => by cases h⟩
  rw [← h.1 rfl, drop_nthF hi, insF, if_pos hle, List.filter_cons, if_neg (fun h => isNot_iff.1 h hne)]
  simp
theorem InsInv.low {L : List RF} {s : Str} {e : RF} {i : Nat} {out : List RF} (h : InsInv L s e i false out) (hi : i < L.length) (hle : (Op.bytesLess s (nth tFile L i).1 || s == (nth tFile L i).1) = false) : InsInv L s e (i + 1) false (out ++ [nth tFile L i]) := by
  refine ⟨fun _ => ?_, fun h => by (cases h), by have := h.2.2.2 rfl; simp; omega, fun _ => by have := h.2.2.2 rfl; simp; omega⟩
  rw [← h.1 rfl, drop_nthF hi, insF, if_neg (by rw [hle]; simp)]
  simp
theorem le_self (s : Str) : (Op.bytesLess s s || s == s) = true := by simp
theorem InsInv.high {L : List RF} {s : Str} {e : RF} {i : Nat} {out : List RF} (h : InsInv L s e i true out) (hi : i < L.length) (hne : ¬ (nth tFile L i).1 = s) : InsInv L s e (i + 1) true (out ++ [nth tFile L i]) := by
  refine ⟨fun h => by (cases h), fun _ => ?_, by have := h.2.2.1; simp; omega, fun h => by cases h⟩
  rw [← h.2.1 rfl, drop_nthF hi, List.filter_cons, if_pos (isNot_iff.2 hne)]
  simp
theorem InsInv.skip {L : List RF} {s : Str} {e : RF} {i : Nat} {out : List RF} (h : InsInv L s e i true out) (hi : i < L.length) (hne : (nth tFile L i).1 = s) : InsInv L s e (i + 1) true out := by
  refine ⟨fun h => by (cases h), fun _ => ?_, by have := h.2.2.1; omega, fun h => by cases h⟩
  rw [← h.2.1 rfl, drop_nthF hi, List.filter_cons, if_neg (fun h => isNot_iff.1 h hne)]
theorem InsInv.last {L : List RF} {s : Str} {e : RF} {i : Nat} {out : List RF} (h : InsInv L s e i false out) (hi : L.length ≤ i) : out ++ [e] = insF s e L := by
  rw [← h.1 rfl, List.drop_eq_nil_of_le hi]; rfl
theorem InsInv.all {L : List RF} {s : Str} {e : RF} {i : Nat} {out : List RF} (h : InsInv L s e i true out) (hi : L.length ≤ i) : out = insF s e L := by
  rw [← h.2.1 rfl, List.drop_eq_nil_of_le hi]; simp
theorem filt_keep {L out T : List RF} {s : Str} {i : Nat} (h : out ++ (L.drop i).filter (isNot s) = T) (hi : i < L.length) (hne : ¬ (nth tFile L i).1 = s) : out ++ [nth tFile L i] ++ (L.drop (i + 1)).filter (isNot s) = T := by
  rw [← h, drop_nthF hi, List.filter_cons, if_pos (isNot_iff.2 hne)]; simp
theorem filt_skip {L out T : List RF} {s : Str} {i : Nat} (h : out ++ (L.drop i).filter (isNot s) = T) (hi : i < L.length) (hne : (nth tFile L i).1 = s) : out ++ (L.drop (i + 1)).filter (isNot s) = T := by
  rw [← h, drop_nthF hi, List.filter_cons, if_neg (fun h => isNot_iff.1 h hne)]
theorem filt_end {L out T : List RF} {s : Str} {i : Nat} (h : out ++ (L.drop i).filter (isNot s) = T) (hi : L.length ≤ i) : out = T := by
  rw [← h, List.drop_eq_nil_of_le hi]; simp
theorem names_next {L : List RF} {i : Nat} (hi : i < L.length) : (L.take i).map nameR ++ [(nth tFile L i).1] = (L.take (i + 1)).map nameR := by
  rw [take_snoc (t := tFile) hi, List.map_append]; rfl
theorem writeR_name {x : RS} {s t : Str} (h : ¬ nameFault s = 0) : writeR x s t = (x, nameFault s) := by unfold writeR; rw [if_pos h]
theorem writeR_many {x : RS} {s t : Str} (h : nameFault s = 0) (h1 : 1200 < t.length) : writeR x s t = (x, 2) := by unfold writeR; rw [if_neg (by simp [h]), if_pos h1]
theorem writeR_full {x : RS} {s t : Str} (h : nameFault s = 0) (h1 : ¬ 1200 < t.length) (h2 : (0 < (findR x.1 s).2.2 ∧ x.1.length = 6) ∨ x.2.1 = 1000000) : writeR x s t = (x, 8) := by unfold writeR; rw [if_neg (by simp [h]), if_neg h1, if_pos h2]
theorem writeR_ok {x : RS} {s t : Str} (h : nameFault s = 0) (h1 : ¬ 1200 < t.length) (h2 : ¬ ((0 < (findR x.1 s).2.2 ∧ x.1.length = 6) ∨ x.2.1 = 1000000)) :
    writeR x s t = ((insF s (s, t, x.2.1 + 1, ()) x.1, x.2.1 + 1, ()), 0) := by unfold writeR; rw [if_neg (by simp [h]), if_neg h1, if_neg h2]
theorem removeR_no {x : RS} {s : Str} (h : (x.1.filter (isNot s)).length = x.1.length) : removeR x s = (x, 5) := by unfold removeR; rw [if_pos h]
theorem removeR_yes {x : RS} {s : Str} (h : ¬ (x.1.filter (isNot s)).length = x.1.length) : removeR x s = ((x.1.filter (isNot s), x.2), 0) := by unfold removeR; rw [if_neg h]
end Go.Mrl
