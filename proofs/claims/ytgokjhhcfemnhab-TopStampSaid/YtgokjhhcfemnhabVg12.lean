/- A part of the proof that the law TopStamp holds of the given program: facts that are used there. -/
import Derived.Test.YtgokjhhcfemnhabVg11
namespace Go.Vg
open Go.RowKit
/-- The parts of a struct are laid into its cells. -/
def buildCs (st : St) (ty : Ty) : List (Nat × SV0) → List C → Option (List C)
  | [], cs => some cs
  | (i, v) :: rest, cs => match offOf ty i, compTy ty i with
    | some off, some u => match flat0 st u v with
      | some us => match Nat.beq us.length u.size && Nat.ble (off + us.length) cs.length with
        | true => buildCs st ty rest (cs.take off ++ us ++ cs.drop (off + us.length))
        | false => none
      | none => none
    | _, _ => none
def dataList (e : Ty) : List SV0 → Option (List (D e))
  | [] => some []
  | v :: vs => match asD0 e v, dataList e vs with
    | some x, some xs => some (x :: xs)
    | _, _ => none
def inOrder : Nat → List (Nat × Operand) → Bool
  | _, [] => true
  | k, (i, _) :: r => Nat.beq i k && inOrder (k + 1) r
def buildVC (cx : Cx) (st : St) (t : TypeId) (parts : List (Nat × Operand)) (K : SV → VC) : VC :=
  match look cx.τ t with
  | some ty => match ty.one with
    | true => .ff
    | false => match buildCs st ty (parts.map fun p => (p.1, ev0 st.env p.2)) (zeroCs ty) with
      | some cs => K (.s (.agg cs))
      | none => .ff
  | none => .ff
section
variable {X : Ext} {P : Program} {cx : Cx}
theorem fold_set (off : Nat) : ∀ (vs : List Value) (j : Nat) (cs : Array Value), off + j + vs.length ≤ cs.size →
    ((vs.zipIdx j).foldl (fun (cs : Array Value) p => cs.setIfInBounds (off + p.2) p.1) cs).toList = cs.toList.take (off + j) ++ vs ++ cs.toList.drop (off + j + vs.length) := by
  intro vs
  induction vs with
  | nil => intro j cs h; simp
  | cons v vs ih =>
    intro j cs h
    simp only [List.zipIdx_cons, List.foldl_cons]
    rw [ih (j + 1) _ (by simp at h ⊢; omega)]
    simp only [List.length_cons] at h
    apply List.ext_getElem?
    intro k
    have hl : off + (j + 1) + vs.length ≤ (cs.setIfInBounds (off + j) v).toList.length := by simp; omega
    rw [splice_get _ _ _ _ hl, show off + j + (v :: vs).length = off + j + (v :: vs).length from rfl, splice_get cs.toList (v :: vs) (off + j) k (by simp; omega)]
    simp only [List.length_cons, Array.getElem?_toList, Array.getElem?_setIfInBounds]
    by_cases h1 : k < off + j
    · rw [if_pos (by omega), if_pos h1, if_neg (by omega)]
    · by_cases h2 : k = off + j
      · subst h2
        rw [if_pos (by omega), if_pos rfl, if_pos (by omega), if_neg (by omega), if_pos (by omega)]
        simp
      · rw [if_neg (by omega), if_neg h1]
        by_cases h3 : k < off + (j + 1) + vs.length
        · rw [if_pos h3, if_pos (by omega), show k - (off + j) = (k - (off + (j + 1))) + 1 from by omega]
          simp
        · rw [if_neg h3, if_neg (by omega), if_neg (by omega)]
theorem fill_step (place : Nat → Option (Nat × Nat)) (cells : Array Value) (i off size : Nat) (v : Value) (rest : List (Nat × Value)) (hp : place i = some (off, size)) (hs : v.cells.size = size) (hfit : off + v.cells.size ≤ cells.size) :
    Instr.fill place cells ((i, v) :: rest) = Instr.fill place (cells.toList.take off ++ v.cells.toList ++ cells.toList.drop (off + v.cells.toList.length)).toArray rest := by
  have : (v.cells.zipIdx.foldl (fun (cs : Array Value) (p : Value × Nat) => cs.setIfInBounds (off + p.2) p.1) cells) = (cells.toList.take off ++ v.cells.toList ++ cells.toList.drop (off + v.cells.toList.length)).toArray := by
    rw [← Array.foldl_toList, Array.toList_zipIdx]
    apply Array.toList_inj.1
    rw [fold_set off v.cells.toList 0 cells (by simpa using hfit)]
    simp
  have hc : (v.cells.size ≠ size || off + v.cells.size > cells.size) = false := by
    simp [hs]; omega
  simp only [Instr.fill, hp, hc]
  simp only [Bool.false_eq_true, if_false]
  rw [← this]
theorem compTy_get {f : TypeId → Ty → Bool} : ∀ {fs : List Field} {off : Nat} {ty u : Ty} {k o : Nat}, fieldsFit f fs off ty = true → offOf ty k = some o → compTy ty k = some u →
    ∃ fd, fs[k]? = some fd ∧ fd.offset = off + o ∧ f fd.type u = true := by
  intro fs
  induction fs with
  | nil => intro off ty u k o h h'; cases ty <;> simp [fieldsFit] at h; cases k <;> simp [offOf] at h'
  | cons g gs ih =>
    intro off ty u k o h h' hc
    cases ty <;> simp only [fieldsFit, Bool.false_eq_true] at h
    rename_i a b
    simp only [Bool.and_eq_true] at h
    obtain ⟨⟨⟨h1, h2⟩, h3⟩, h4⟩ := h
    cases k with
    | zero =>
      simp [offOf] at h'
      simp [compTy] at hc
      subst hc
      exact ⟨g, rfl, by have := Nat.eq_of_beq_eq_true h1; omega, h2⟩
    | succ k =>
      simp only [offOf] at h'
      simp only [compTy] at hc
      split at h'
      · rename_i o' ho'
        cases h'
        obtain ⟨fd, k1, k2, k3⟩ := ih h4 ho' hc
        exact ⟨fd, by simpa using k1, by omega, k3⟩
      · cases h'
theorem run_places_list {n : Nat} : ∀ {fs : List Field} {off : Nat} {ty : Ty}, fieldsFit (fits P n) fs off ty = true → ∀ w, (fs.mapM fun f => do pure (f.offset, ← sizeOf f.type) : Sem (List (Nat × Nat))).run P w = .ok (fs.map fun f => (f.offset, P.cellsOf f.type)) w := by
  intro fs
  induction fs with
  | nil => intro off ty h w; rfl
  | cons g gs ih =>
    intro off ty h w
    cases ty <;> simp only [fieldsFit, Bool.false_eq_true] at h
    simp only [Bool.and_eq_true] at h
    obtain ⟨⟨⟨h1, h2⟩, h3⟩, h4⟩ := h
    obtain ⟨m', i', d', _, hf', _⟩ := fits_out h2
    have hs : P.cellsOf g.type = i'.size := by simp [Program.cellsOf, hf'.info]
    rw [List.mapM_cons]
    simp only [Sem.run_bind, fit_sizeOf hf', Result.andThen_ok, Sem.run_pure, ih h4, List.map_cons, hs, hf'.size]
theorem run_places {n : Nat} {fs : Array Field} {off : Nat} {ty : Ty} (h : fieldsFit (fits P n) fs.toList off ty = true) (w : World) :
    (fs.mapM fun f => do pure (f.offset, ← sizeOf f.type) : Sem (Array (Nat × Nat))).run P w = .ok (fs.map fun f => (f.offset, P.cellsOf f.type)) w := by
  rw [← Array.toArray_toList (xs := fs), List.mapM_toArray, Sem.run_map, run_places_list h]
  simp only [Result.andThen_ok, List.map_toArray]
inductive PartsR (eT : TypeId) (S : Sit) : List (Nat × SV0) → List (Nat × Value) → Prop
  | nil : PartsR eT S [] []
  | cons {i v u ps qs} : SV0R eT S v u → PartsR eT S ps qs → PartsR eT S ((i, v) :: ps) ((i, u) :: qs)
theorem buildCs_rel {O : Avoid} {st : St} {loc : Nat → Loc} {w : World} (g : Good cx.eT X (sit O st loc w)) {ty : Ty} {m : Nat} {fs : Array Field} (hff : fieldsFit (fits P m) fs.toList 0 ty = true)
    {places : Array (Nat × Nat)} (hpl : ∀ (k : Nat) (fd : Field) (u : Ty), fs[k]? = some fd → fits P m fd.type u = true → places[k]? = some (fd.offset, u.size)) :
    ∀ {parts : List (Nat × SV0)} {pv : List (Nat × Value)} {cs cs' : List C} {cells : Array Value}, buildCs st ty parts cs = some cs' → PartsR cx.eT (sit O st loc w) parts pv →
      CRs cx.eT (sit O st loc w) cs cells.toList → ∃ cells', Instr.fill (places[·]?) cells pv = some cells' ∧ CRs cx.eT (sit O st loc w) cs' cells'.toList := by
  intro parts
  induction parts with
  | nil =>
    intro pv cs cs' cells h hp hc
    cases hp
    simp only [buildCs] at h
    cases h
    exact ⟨cells, rfl, hc⟩
  | cons p rest ih =>
    intro pv cs cs' cells h hp hc
    obtain ⟨i, v⟩ := p
    cases hp with
    | cons hv h2 =>
      rename_i u pv
      simp only [buildCs] at h
      split at h
      · rename_i off ut ho hcm
        split at h
        · rename_i us hus
          split at h
          · rename_i hb
            simp only [Bool.and_eq_true] at hb
            have hb1 := Nat.eq_of_beq_eq_true hb.1
            have hb2 := Nat.le_of_ble_eq_true hb.2
            obtain ⟨uv, huv, hcr, hlen⟩ := flat0_rel g hus hv
            have hul := hcr.length
            obtain ⟨fd, hfd, hoff, hft⟩ := compTy_get hff ho hcm
            have hplace := hpl i fd ut (by rw [← Array.getElem?_toList]; exact hfd) hft
            rw [hoff, Nat.zero_add] at hplace
            have hcl := hc.length
            have hsz : u.cells.size = ut.size := by rw [← Array.length_toList, huv, hlen]
            rw [fill_step (places[·]?) cells i off ut.size u pv hplace hsz (by rw [← Array.length_toList (xs := cells), ← hcl]; omega)]
            refine ih h h2 ?_
            rw [huv, ← hul]
            simpa using ((hc.take off).append hcr).append (hc.drop (off + us.length))
          · cases h
        · cases h
      · cases h
theorem buildVC_sound (hok : TyOK P cx) {O : Avoid} {st : St} {loc : Nat → Loc} {w : World} {a : Act} (g : Good cx.eT X (sit O st loc w)) (he : EnvR cx.eT (sit O st loc w) st.env a)
    {t : TypeId} {parts : Array (Nat × Operand)} {K : SV → VC} (h : (buildVC cx st t parts.toList K).holds) :
    ∃ sv v, (K sv).holds ∧ SVR cx.eT (sit O st loc w) sv v ∧ ∀ w', (Instr.build t (parts.map fun (i, x) => (i, a.eval x))).run P w' = .ok v w' := by
  unfold buildVC at h
  split at h
  · rename_i ty ht
    obtain ⟨m, ti, d, hf, hs⟩ := shape_of hok ht
    split at h
    · exact h.elim
    · rename_i ho
      split at h
      · rename_i cs hcs
        obtain ⟨z, hz, hzr⟩ := hf.zero
        have : ∃ fs, d = .struct fs ∧ fieldsFit (fits P m) fs.toList 0 ty = true := by
          cases ty <;> simp [Ty.one] at ho <;> cases d <;> simp [shapeFit] at hs
          · exact ⟨_, rfl, hs⟩
          · exact ⟨_, rfl, hs⟩
        obtain ⟨fs, rfl, hff⟩ := this
        have hsizes : ∀ (k : Nat) (fd : Field) (u : Ty), fs[k]? = some fd → fits P m fd.type u = true → (fs.map fun f => (f.offset, P.cellsOf f.type))[k]? = some (fd.offset, u.size) := by
          intro k fd u hk hfu
          obtain ⟨m', i', d', _, hf', _⟩ := fits_out hfu
          simp [hk, Program.cellsOf, hf'.info, hf'.size]
        have hfor : PartsR cx.eT (sit O st loc w) (parts.toList.map fun p => (p.1, ev0 st.env p.2)) (parts.toList.map fun p => (p.1, a.eval p.2)) := by
          generalize parts.toList = l
          induction l with
          | nil => exact .nil
          | cons p l ih => exact .cons (ev0_rel he p.2) ih
        obtain ⟨cells', h1, h2⟩ := buildCs_rel (P := P) g hff hsizes hcs hfor (zero_rel hzr)
        refine ⟨_, .agg cells', h, ⟨cells'.toList, by simp, h2⟩, fun w' => ?_⟩
        have hmap : (fs.mapM fun f => do pure (f.offset, ← sizeOf f.type) : Sem (Array (Nat × Nat))).run P w' = .ok (fs.map fun f => (f.offset, P.cellsOf f.type)) w' := run_places hff w'
        have hpl : (parts.map fun (i, x) => (i, a.eval x)).toList = parts.toList.map fun p => (p.1, a.eval p.2) := by simp
        have hzv : (zeroValue t).run P w' = .ok z w' := by simp [zeroValue, typeInfo, hf.info, hz]
        simp only [Instr.build, Sem.run_bind, hzv, Result.andThen_ok, run_underlying hf.und, hmap, hpl, h1, Sem.run_pure]
      · exact h.elim
  · exact h.elim
end
end Go.Vg
