/- A part of the proof that the law TopStamp holds of the given program: facts that are used there. -/
import Derived.Test.YtgokjhhcfemnhabVg13
namespace Go.Vg
open Go.RowKit
def emptyC (n : Nat) (e : Ty) (xs : List (D e)) : C :=
  match n with
  | 0 => .emp
  | _ => .d (.slice e) xs
def buildSliceVC (cx : Cx) (st : St) (t : TypeId) (n : Nat) (parts : List (Nat × Operand)) (K : C → VC) : VC :=
  match look cx.τ t with
  | some (.slice e) => match inOrder 0 parts && (Nat.beq parts.length n && (Nat.ble (n * e.size) 16777216 && Nat.ble n 1000000)), dataList e (parts.map fun p => ev0 st.env p.2) with
    | true, some xs => K (emptyC n e xs)
    | _, _ => .ff
  | _ => .ff
def makeSliceVC (cx : Cx) (st : St) (t : TypeId) (l c : C) (K : SV → St → VC) : VC :=
  match look cx.τ t, asIntC l, asIntC c with
  | some (.slice e), some n, some m => match noOpq e with
    | true => .and (0 ≤ n ∧ m = n ∧ n ≤ 1000000000) (K (.s (.one (.mrow st.next))) (fresh st (.mrow e (List.replicate n.toNat (zeroD e)))))
    | false => .ff
  | _, _, _ => .ff
section
variable {X : Ext} {P : Program} {cx : Cx}
theorem zero_R {eT : TypeId} {A : Avoid} {w : World} : ∀ {ty : Ty} {vs : List Value}, zeroRow ty vs = true → noOpq ty = true → R eT ty (zeroD ty) A w vs := by
  intro ty
  induction ty with
  | prod a b iha ihb =>
    intro vs h hn
    simp only [zeroRow, Bool.and_eq_true] at h
    simp only [noOpq, Bool.and_eq_true] at hn
    exact ⟨_, _, (List.take_append_drop a.size vs).symm, iha h.1 hn.1, ihb h.2 hn.2⟩
  | unit => intro vs h _; cases vs <;> simp [zeroRow] at h; rfl
  | bool =>
    intro vs h _
    match vs, h with
    | [v], h => cases v <;> simp [zeroRow, Ty.one, zeroCell] at h; subst h; rfl
  | int k =>
    intro vs h _
    match vs, h with
    | [v], h =>
      cases v <;> simp [zeroRow, Ty.one, zeroCell] at h
      obtain ⟨rfl, rfl⟩ := h
      exact ⟨rfl, by cases k <;> simp [zeroD, IntKind.min, IntKind.max, IntKind.signed, IntKind.bits]⟩
  | str =>
    intro vs h _
    match vs, h with
    | [v], h => cases v <;> simp [zeroRow, Ty.one, zeroCell] at h; subst h; exact ⟨rfl, by simp [zeroD]⟩
  | err =>
    intro vs h _
    match vs, h with
    | [v], h => cases v <;> simp [zeroRow, Ty.one, zeroCell] at h; exact ⟨_, rfl, rfl⟩
  | opq => intro vs h hn; simp [noOpq] at hn
  | slice e _ =>
    intro vs h _
    match vs, h with
    | [v], h =>
      cases v <;> simp [zeroRow, Ty.one, zeroCell] at h
      rename_i a l c
      cases a <;> simp at h
      obtain ⟨rfl, rfl⟩ := h
      exact R.slice_nil
theorem zeroRows_rel {eT : TypeId} {A : Avoid} {w : World} {e : Ty} (hno : noOpq e = true) : ∀ {n : Nat} {vs : List Value}, zeroRows e n vs = true →
    vs.length = n * e.size ∧ ∀ (i : Nat) (y : D e), (List.replicate n (zeroD e))[i]? = some y → ∃ us, R eT e y A w us ∧ ∀ j u, us[j]? = some u → vs[i * e.size + j]? = some u := by
  intro n
  induction n with
  | zero =>
    intro vs h
    simp only [zeroRows, List.isEmpty_iff] at h
    subst h
    exact ⟨by simp, fun i y hy => by simp at hy⟩
  | succ n ih =>
    intro vs h
    simp only [zeroRows, Bool.and_eq_true] at h
    obtain ⟨h1, h2⟩ := h
    have r0 := zero_R (eT := eT) (A := A) (w := w) h1 hno
    have hl0 := r0.length
    obtain ⟨hl, hel⟩ := ih h2
    have hle : e.size ≤ vs.length := by rw [List.length_take] at hl0; omega
    refine ⟨by rw [List.length_drop] at hl; rw [Nat.succ_mul]; omega, fun i y hy => ?_⟩
    cases i with
    | zero =>
      simp only [List.replicate_succ, List.getElem?_cons_zero, Option.some.injEq] at hy
      subst hy
      refine ⟨_, r0, fun j u hj => ?_⟩
      rw [List.getElem?_take] at hj
      split at hj
      · simpa using hj
      · cases hj
    | succ i =>
      simp only [List.replicate_succ, List.getElem?_cons_succ] at hy
      obtain ⟨us, k1, k2⟩ := hel i y hy
      refine ⟨us, k1, fun j u hj => ?_⟩
      have := k2 j u hj
      rw [List.getElem?_drop] at this
      rw [← this]
      congr 1
      rw [Nat.succ_mul]; omega
theorem fill_row (size : Nat) : ∀ (pv : List (Nat × Value)) (k : Nat) (cells : Array Value), (∀ i p, pv[i]? = some p → p.1 = k + i) → (∀ p ∈ pv, p.2.cells.size = size) → k * size + pv.length * size = cells.size →
    Instr.fill (fun i => some (i * size, size)) cells pv = some (cells.toList.take (k * size) ++ (pv.map fun p => p.2.cells.toList).flatten).toArray := by
  intro pv
  induction pv with
  | nil =>
    intro k cells _ _ h
    simp only [Instr.fill, List.map_nil, List.flatten_nil, List.append_nil]
    rw [List.take_of_length_le (by simp at h ⊢; omega), Array.toArray_toList]
  | cons p pv ih =>
    intro k cells hi hs h
    obtain ⟨i, v⟩ := p
    have h0 : i = k := by simpa using hi 0 (i, v) rfl
    subst h0
    have hv := hs (i, v) (by simp)
    simp only at hv
    simp only [List.length_cons, Nat.add_mul] at h
    rw [fill_step _ cells i (i * size) size v pv rfl hv (by omega)]
    have hvl : v.cells.toList.length = size := by simpa using hv
    have e1 : (cells.toList.take (i * size) ++ v.cells.toList ++ cells.toList.drop (i * size + v.cells.toList.length)).toArray.size = cells.size := by
      simp only [List.size_toArray, List.length_append, List.length_take, List.length_drop, Array.length_toList, hvl]
      omega
    rw [ih (i + 1) _ (fun j p hp => by have := hi (j + 1) p (by simpa using hp); omega) (fun p hp => hs p (by simp [hp])) (by rw [e1, Nat.add_mul]; omega)]
    congr 2
    rw [List.map_cons, List.flatten_cons, ← List.append_assoc]
    congr 1
    have hl : (cells.toList.take (i * size) ++ v.cells.toList).length = (i + 1) * size := by
      simp only [List.length_append, List.length_take, Array.length_toList, hvl, Nat.add_mul]; omega
    rw [List.take_append_of_le_length (by omega), List.take_of_length_le (by omega)]
theorem dataList_rel {S : Sit} {e : Ty} : ∀ {l : List SV0} {us : List Value} {xs : List (D e)}, dataList e l = some xs → SV0Rs cx.eT S l us →
    xs.length = l.length ∧ (∀ u ∈ us, u.cells.size = e.size) ∧ RowsL cx.eT e xs S.A S.w (us.map fun u => u.cells.toList).flatten := by
  intro l
  induction l with
  | nil => intro us xs h hr; cases hr; simp [dataList] at h; subst h; exact ⟨rfl, by simp, fun i y hy => by simp at hy⟩
  | cons v l ih =>
    intro us xs h hr
    cases hr with
    | cons h1 h2 =>
      rename_i u us
      simp only [dataList] at h
      split at h
      · rename_i x xs' hx hxs
        cases h
        obtain ⟨k1, k2, k3⟩ := ih hxs h2
        have hvr := VR.cells (asD0_rel hx h1)
        refine ⟨by simp [k1], fun u' hu' => ?_, ?_⟩
        · rcases List.mem_cons.1 hu' with rfl | hu'
          · rw [← Array.length_toList, hvr.length]
          · exact k2 _ hu'
        · rw [List.map_cons, List.flatten_cons]
          exact RowsL.cons hvr k3
      · cases h
theorem evs_rel {S : Sit} {env : List (Nat × SV)} {a : Act} (he : EnvR cx.eT S env a) : ∀ (ps : List (Nat × Operand)), SV0Rs cx.eT S (ps.map fun p => ev0 env p.2) (ps.map fun p => a.eval p.2)
  | [] => .nil
  | p :: ps => .cons (ev0_rel he p.2) (evs_rel he ps)
theorem inOrder_get : ∀ {ps : List (Nat × Operand)} {k : Nat}, inOrder k ps = true → ∀ i p, ps[i]? = some p → p.1 = k + i := by
  intro ps
  induction ps with
  | nil => intro k _ i p h; simp at h
  | cons q ps ih =>
    intro k h i p hp
    obtain ⟨j, x⟩ := q
    simp only [inOrder, Bool.and_eq_true] at h
    cases i with
    | zero => simp at hp; subst hp; exact Nat.eq_of_beq_eq_true h.1
    | succ i => have := ih h.2 i p (by simpa using hp); omega
theorem buildSliceVC_sound (hok : TyOK P cx) {O : Avoid} {st : St} {loc : Nat → Loc} {w : World} {a : Act} (g : Good cx.eT X (sit O st loc w)) (hO : OIn O w) (he : EnvR cx.eT (sit O st loc w) st.env a)
    {t : TypeId} {n : Nat} {parts : Array (Nat × Operand)} {K : C → VC} (h : (buildSliceVC cx st t n parts.toList K).holds) :
    ∃ c v w', (K c).holds ∧ Below w.heap.size w w' ∧ Good cx.eT X (sit O st loc w') ∧ Tr (sit O st loc w) (sit O st loc w') ∧ CR cx.eT (sit O st loc w') c v ∧ (Instr.buildSlice t n (parts.map fun (i, x) => (i, a.eval x))).run P w = .ok v w' := by
  unfold buildSliceVC at h
  split at h
  · rename_i e ht
    obtain ⟨te, ti, td, hu, hf⟩ := und_slice hok ht
    obtain ⟨z, hz, hzr⟩ := hf.zero
    split at h
    · rename_i xs hc hd
      simp only [Bool.and_eq_true] at hc
      obtain ⟨hio, hn, hsz, hbig⟩ := hc
      have hn := Nat.eq_of_beq_eq_true hn
      have hsz := Nat.le_of_ble_eq_true hsz
      have hbig := Nat.le_of_ble_eq_true hbig
      obtain ⟨k1, k2, k3⟩ := dataList_rel (cx := cx) hd (evs_rel he parts.toList)
      have hxl : xs.length = n := by rw [k1, List.length_map, hn]
      have hpl : (parts.map fun (i, x) => (i, a.eval x)).toList = parts.toList.map fun p => (p.1, a.eval p.2) := by simp
      have hzs : z.cells.size = e.size := by rw [← Array.length_toList]; exact (zero_rel (S := sit O st loc w) (cx := cx) hzr).length.symm.trans (zeroCs_length e)
      generalize hflat : ((parts.toList.map fun p => a.eval p.2).map fun u => u.cells.toList).flatten = flat at k3
      have hflen : flat.length = n * e.size := by
        rw [← hflat, ← hn]
        generalize parts.toList = l at k2
        clear hflat hpl hn hio hd k1 k3 h
        induction l with
        | nil => simp
        | cons p l ih =>
          simp only [List.map_cons, List.flatten_cons, List.length_append, Array.length_toList, List.length_cons, Nat.add_mul]
          rw [ih (fun u hu => k2 u (by simp only [List.map_cons, List.mem_cons]; exact .inr hu)), k2 (a.eval p.2) (by simp)]
          omega
      have hfill : ∀ cells : Array Value, cells.size = n * e.size → Instr.fill (fun i => some (i * e.size, e.size)) cells (parts.toList.map fun p => (p.1, a.eval p.2)) = some flat.toArray := by
        intro cells hcs
        rw [fill_row e.size _ 0 cells (fun i p hp => by
            rw [List.getElem?_map] at hp
            cases hq : parts.toList[i]? with
            | none => rw [hq] at hp; cases hp
            | some q => rw [hq] at hp; cases hp; exact inOrder_get hio i q hq)
          (fun p hp => by
            obtain ⟨q, hq, rfl⟩ := List.mem_map.1 hp
            exact k2 _ (List.mem_map.2 ⟨q, hq, rfl⟩))
          (by simp [hn, hcs])]
        simp only [Nat.zero_mul, List.take_zero, List.nil_append]
        rw [← hflat]
        simp [List.map_map, Function.comp_def]
      have hw : Below w.heap.size w (w.alloc (.cells flat.toArray te)) := (Below.refl _ w).alloc (Nat.le_refl _) _
      obtain ⟨tr, g'⟩ := step_world (S := sit O st loc w) (S' := sit O st loc (w.alloc (.cells flat.toArray te))) g rfl rfl rfl rfl hw
      have hheap : (w.alloc (.cells flat.toArray te)).heap[w.heap.size]? = some (.cells flat.toArray te (0, 0)) := heap_alloc_new w _
      refine ⟨_, .slice (some ⟨w.heap.size, 0, none⟩) n n, _, h, hw, g', tr, ?_, ?_⟩
      · have mk : ∀ v, (n = 0 → ∃ a, v = Value.slice a 0 0) → CR cx.eT (sit O st loc (w.alloc (.cells flat.toArray te))) (.d (.slice e) xs) v → CR cx.eT (sit O st loc (w.alloc (.cells flat.toArray te))) (emptyC n e xs) v := by
          intro v h1 h2
          cases n with
          | zero => exact h1 rfl
          | succ n => exact h2
        refine mk _ (fun h0 => ⟨some ⟨w.heap.size, 0, none⟩, by rw [h0]⟩) ?_
        show VR cx.eT (.slice e) xs _ _ _
        have := slice_of_cells (eT := cx.eT) (xs := xs) (A := (sit O st loc (w.alloc (.cells flat.toArray te))).A) (w := w.alloc (.cells flat.toArray te)) (b := w.heap.size) (o := 0) (cap := n) (cs := flat)
          (by rw [hxl]; unfold big; omega) (by omega) ?_ (k3.frame tr.cell)
        · rw [hxl] at this; exact this
        · intro j u hj
          rw [Nat.zero_add, cell_of_row _ w.heap.size j _ te (0, 0) hheap]
          refine ⟨by simpa using hj, ?_⟩
          rintro (hA | ⟨m, oc, h1, h2, _⟩)
          · have := hO _ _ hA; omega
          · have := (g.obj m oc h1).2.inside _ h2
            simp [sit] at this
      · have hsz' : ¬ (n * e.size > 2 ^ 24) := by omega
        by_cases h0 : n * e.size = 0
        · simp [Instr.buildSlice, run_underlying hu, fit_sizeOf hf, h0, newRow]
          rw [hfill _ (by rw [h0]; simp)]
          simp
        · have := hfill ((Array.range (n * e.size)).map fun k => z.cells[k % z.cells.size]!) (by simp)
          simp [Instr.buildSlice, run_underlying hu, fit_sizeOf hf, h0, hsz', newRow, zeroValue, typeInfo, hf.info, hz]
          rw [this]
          simp
    · exact h.elim
  · exact h.elim
theorem makeSliceVC_sound (hok : TyOK P cx) {O : Avoid} {st : St} {loc : Nat → Loc} {w : World} (g : Good cx.eT X (sit O st loc w)) (hO : OIn O w)
    {t : TypeId} {l c : C} {vl vc : Value} {K : SV → St → VC} (hl : CR cx.eT (sit O st loc w) l vl) (hc : CR cx.eT (sit O st loc w) c vc) (h : (makeSliceVC cx st t l c K).holds) :
    ∃ sv v st' loc' w', (K sv st').holds ∧ Below w.heap.size w w' ∧ st'.env = st.env ∧ Good cx.eT X (sit O st' loc' w') ∧ Tr (sit O st loc w) (sit O st' loc' w') ∧ SVR cx.eT (sit O st' loc' w') sv v ∧ (Instr.makeSlice t vl vc).run P w = .ok v w' := by
  unfold makeSliceVC at h
  split at h
  · rename_i e n m ht hn hm
    obtain ⟨te, ti, td, hu, hf⟩ := und_slice hok ht
    obtain ⟨z, hz, hzr⟩ := hf.zero
    split at h
    · rename_i hno
      obtain ⟨⟨h0, hmn, hbig⟩, h⟩ := h
      subst hmn
      obtain ⟨kl, rfl, _⟩ := asIntC_rel hn hl
      obtain ⟨kc, rfl, _⟩ := asIntC_rel hm hc
      have hbytes : (ti.bytes : Int) * m ≤ 281474976710656 := by
        have h1 := hf.bytes
        have h2 : (ti.bytes : Int) * m ≤ 4096 * 1000000000 := Int.mul_le_mul (by omega) hbig h0 (by omega)
        omega
      have hrun := run_make (P := P) w t te ti z hu hf.info hz kl kc m m h0 (Int.le_refl _) hbytes (by omega)
      have hzs : z.cells.size = e.size := by rw [← Array.length_toList]; exact (zero_rel (S := sit O st loc w) (cx := cx) hzr).length.symm.trans (zeroCs_length e)
      have hw : Below w.heap.size w (w.alloc (.cells (madeCells z.cells (m.toNat * ti.size)) te)) := (Below.refl _ w).alloc (Nat.le_refl _) _
      obtain ⟨tr, g'⟩ := fresh_step (oc := .mrow e (List.replicate m.toNat (zeroD e))) (l := ⟨.slice (some ⟨w.heap.size, 0, none⟩) m.toNat m.toNat, [w.heap.size]⟩) g hO hw (by simp)
      have hg := g' (.inr ⟨w.heap.size, madeCells z.cells (m.toNat * ti.size), te, m.toNat, by simp, rfl, heap_alloc_new w _, by rw [size_madeCells, hf.size], by simp, by simp; unfold big; omega, ?_⟩)
      · refine ⟨_, _, _, _, _, h, hw, rfl, hg, tr, ⟨by simp [sit, fresh], fun t' xs' hy => ?_⟩, hrun⟩
        simp [sit, updLoc]
      · intro i y hy
        have hi := getElem?_lt hy
        rw [List.length_replicate] at hi
        rw [List.getElem?_replicate, if_pos hi] at hy
        cases hy
        refine ⟨z.cells.toList, zero_R hzr hno, fun j u hj => ?_⟩
        have hjl := getElem?_lt hj
        rw [Array.length_toList] at hjl
        have hlt : i * e.size + j < m.toNat * ti.size := by
          have : (i + 1) * e.size ≤ m.toNat * e.size := Nat.mul_le_mul_right _ hi
          rw [Nat.add_mul] at this
          rw [hf.size]
          omega
        have hmod : (i * e.size + j) % z.cells.size = j := by
          rw [hzs, Nat.add_comm, Nat.add_mul_mod_self_right, Nat.mod_eq_of_lt (by omega)]
        simp only [madeCells, Array.getElem?_map, Array.getElem?_range, hlt, if_true, Option.map_some, hmod]
        rw [getElem!_pos z.cells j hjl]
        rw [Array.getElem?_toList, Array.getElem?_eq_getElem hjl] at hj
        exact hj
    · exact h.elim
  · exact h.elim
/-- Where copying goes: a row of one's own, or a part of it; from where on, and how many. -/
def copyTo (st : St) (e : Ty) (d : C) : Option (Nat × (List (D e) × (Nat × Nat))) :=
  match d with
  | .mrow n => match look st.objs n with
    | some (.mrow e' xs) => match h : Ty.beq (.slice e') (.slice e) with
      | true => some (n, (castD h (a := .slice e') (b := .slice e) xs, (0, xs.length)))
      | false => none
    | _ => none
  | .msub n u lo len => match look st.objs n with
    | some (.mrow e' xs) => match h : Ty.beq (.slice e') (.slice e), Ty.beq u e' with
      | true, true => some (n, (castD h (a := .slice e') (b := .slice e) xs, (lo, len)))
      | _, _ => none
    | _ => none
  | _ => none
/-- What is copied; and what must be so for it. -/
def copyFrom (st : St) (e : Ty) (s : C) : Option (List (D e) × Prop) :=
  match srcD st e s with
  | some ys => some (ys, True)
  | none => match s with
    | .msub _ _ _ _ => match copyTo st e s with
      | some (_, (zs, (lo, len))) => some ((zs.drop lo).take len, lo + len ≤ zs.length)
      | none => none
    | _ => none
def copyVC (cx : Cx) (st : St) (t : TypeId) (d s : C) (K : SV → St → VC) : VC :=
  match look cx.τ t with
  | some (.slice e) => match e.one, copyTo st e d, copyFrom st e s with
    | true, some (n, (xs, (lo, len))), some (ys, p) => .and (p ∧ lo + len ≤ xs.length)
        (K (.s (.one (.d (.int .i64) (min ys.length len : Nat)))) (setObj st n (.mrow e (xs.take lo ++ ys.take (min ys.length len) ++ xs.drop (lo + min ys.length len)))))
    | _, _, _ => .ff
  | _ => .ff
theorem copyTo_rel {O : Avoid} {st : St} {loc : Nat → Loc} {w : World} {e : Ty} {d : C} {n lo len : Nat} {xs : List (D e)} {v : Value} (h : copyTo st e d = some (n, (xs, (lo, len)))) (hd : CR cx.eT (sit O st loc w) d v) :
    look st.objs n = some (.mrow e xs) ∧ ((OR cx.eT X (sit O st loc w) (loc n) (.mrow e xs)) → (len = 0 ∧ ∃ a c, v = .slice a 0 c) ∨ ∃ b c, (loc n).bs = [b] ∧ v = .slice (some ⟨b, lo * e.size, none⟩) len c) := by
  unfold copyTo at h
  split at h
  · rename_i n'
    split at h
    · rename_i e' xs' hob
      split at h
      · rename_i hb
        have : e' = e := by have := Ty.eq_of_beq hb; cases this; rfl
        subst this
        rw [castL_self] at h
        cases h
        refine ⟨hob, fun hor => ?_⟩
        have hv := hd.2 _ _ hob
        rcases hor with ⟨rfl, ⟨a, ha⟩, _⟩ | ⟨b, vs, T, cap, h1, h2, _⟩
        · exact .inl ⟨rfl, a, 0, hv.trans ha⟩
        · exact .inr ⟨b, cap, h2, by rw [Nat.zero_mul]; exact hv.trans h1⟩
      · cases h
    · cases h
  · rename_i n' u lo' len'
    split at h
    · rename_i e' xs' hob
      split at h
      · rename_i hb hu
        have : e' = e := by have := Ty.eq_of_beq hb; cases this; rfl
        subst this
        have := Ty.eq_of_beq hu
        subst this
        rw [castL_self] at h
        cases h
        exact ⟨hob, fun _ => hd.2 _ hob⟩
      · cases h
    · cases h
  · cases h
theorem R_sub {eT : TypeId} {e : Ty} {xs : List (D e)} {A : Avoid} {w : World} {cs : List Value} (h : RowsL eT e xs A w cs) (lo len : Nat) : RowsL eT e ((xs.drop lo).take len) A w ((cs.drop (lo * e.size)).take (len * e.size)) := by
  intro i y hy
  rw [List.getElem?_take] at hy
  split at hy
  · rename_i hi
    rw [List.getElem?_drop] at hy
    obtain ⟨us, h1, h2⟩ := h _ y hy
    refine ⟨us, h1, fun j u hj => ?_⟩
    have hjl := getElem?_lt hj
    rw [h1.length] at hjl
    have h3 := h2 j u hj
    have : (i + 1) * e.size ≤ len * e.size := Nat.mul_le_mul_right _ hi
    rw [Nat.add_mul] at this
    rw [List.getElem?_take, if_pos (by omega), List.getElem?_drop]
    rw [show lo * e.size + (i * e.size + j) = (lo + i) * e.size + j by rw [Nat.add_mul]; omega]
    exact h3
  · cases hy
theorem copyFrom_rel {O : Avoid} {st : St} {loc : Nat → Loc} {w : World} (g : Good cx.eT X (sit O st loc w)) {e : Ty} {s : C} {ys : List (D e)} {p : Prop} {v : Value} (h : copyFrom st e s = some (ys, p)) (hp : p)
    (hs : CR cx.eT (sit O st loc w) s v) : Src cx.eT e ys (sit O st loc w).A w v := by
  unfold copyFrom at h
  split at h
  · rename_i ys' hsrc
    cases h
    exact srcD_rel g hsrc hs
  · split at h
    · split at h
      · rename_i n zs lo len hct
        cases h
        obtain ⟨hob, hr⟩ := copyTo_rel (X := X) hct hs
        have hor := (g.obj _ _ hob).2
        have hyl : ((zs.drop lo).take len).length = len := by rw [List.length_take, List.length_drop]; omega
        rcases hr hor with ⟨h0, a, c, hv⟩ | ⟨b, c, h1, hv⟩
        · subst h0
          exact .inl ⟨by simp, a, c, hv⟩
        · rcases hor with ⟨_, _, h2⟩ | ⟨b', vs, T, cap, h2, h3, hheap, hvs, hcap, _, he⟩
          · exact absurd (h1.symm.trans h2) (by simp)
          · have hbb : b = b' := by have h4 : (loc n).bs = [b'] := h3; rw [h1] at h4; cases h4; rfl
            subst hbb
            have hle : zs.length * e.size ≤ vs.size := by rw [hvs]; exact Nat.mul_le_mul_right _ hcap
            obtain ⟨cs, hcs, k1, k2, k3⟩ := elems_cells he hle
            refine .inr ⟨b, lo * e.size, c, (cs.drop (lo * e.size)).take (len * e.size), by rw [hyl]; exact hv, ?_, fun j u hj => ?_, R_sub k2 lo len, fun u hu => k3 u (List.mem_of_mem_drop (List.mem_of_mem_take hu))⟩
            · rw [hyl, List.length_take, List.length_drop, k1]
              have : (lo + len) * e.size ≤ zs.length * e.size := Nat.mul_le_mul_right _ hp
              rw [Nat.add_mul] at this
              omega
            · rw [cell_of_row w b _ vs T (0, 0) hheap]
              rw [List.getElem?_take] at hj
              split at hj
              · rw [List.getElem?_drop, hcs, List.getElem?_take] at hj
                split at hj
                · simpa using hj
                · cases hj
              · cases hj
      · cases h
    · cases h
theorem copyVC_sound (hok : TyOK P cx) {O : Avoid} {st : St} {loc : Nat → Loc} {w : World} (g : Good cx.eT X (sit O st loc w)) (hO : OIn O w)
    {t t' ty : TypeId} {d s : C} {K : SV → St → VC} {vd vx : Value} (hd : CR cx.eT (sit O st loc w) d vd) (hs : CR cx.eT (sit O st loc w) s vx) (h : (copyVC cx st t d s K).holds) :
    ∃ sv v st' loc' w', (K sv st').holds ∧ st'.env = st.env ∧ Good cx.eT X (sit O st' loc' w') ∧ Tr (sit O st loc w) (sit O st' loc' w') ∧ SVR cx.eT (sit O st' loc' w') sv v ∧
      (Builtin.copy_ #[t, t'] ty #[vd, vx]).run P w = .ok v w' := by
  unfold copyVC at h
  split at h
  case h_2 => exact h.elim
  rename_i e ht
  obtain ⟨te, ti, td, hu, hf⟩ := und_slice hok ht
  split at h
  case h_2 => exact h.elim
  rename_i n xs lo len ys p hone hct hcf
  obtain ⟨⟨hp, hle⟩, h⟩ := h
  have hsz := Ty.size_one hone
  obtain ⟨hob, hdst⟩ := copyTo_rel (X := X) hct hd
  have hn := (g.obj n _ hob).1
  have hor := (g.obj n _ hob).2
  have hsrc := copyFrom_rel g hcf hp hs
  have his : (P.info? te).map (·.size) = some 1 := by rw [hf.info]; simp [hf.size, hsz]
  have hbig : xs.length ≤ big := by
    rcases hor with ⟨rfl, _, _⟩ | ⟨_, _, _, _, _, _, _, _, _, h1, _⟩
    · simp
    · exact h1
  generalize hk : min ys.length len = k at h
  have hkr : IntKind.i64.min ≤ (k : Int) ∧ (k : Int) ≤ IntKind.i64.max := big_range (by omega)
  -- nothing goes over
  have none0 : k = 0 → ∀ dp dc sp sl sc, vd = .slice dp len dc → vx = .slice sp sl sc → sl = ys.length → ∃ sv v st' loc' w', (K sv st').holds ∧ st'.env = st.env ∧ Good cx.eT X (sit O st' loc' w') ∧ Tr (sit O st loc w) (sit O st' loc' w') ∧ SVR cx.eT (sit O st' loc' w') sv v ∧
      (Builtin.copy_ #[t, t'] ty #[vd, vx]).run P w = .ok v w' := by
    intro hk0 dp dc sp sl sc e1 e2 e3
    subst hk0
    have hst : sit O (setObj st n (.mrow e (xs.take lo ++ ys.take 0 ++ xs.drop (lo + 0)))) loc w = sit O st loc w := by
      have : look (setObj st n (.mrow e (xs.take lo ++ ys.take 0 ++ xs.drop (lo + 0)))).objs = look st.objs := by
        funext m
        rw [look_set]
        by_cases e1 : n = m
        · rw [if_pos e1, ← e1, hob]; simp
        · rw [if_neg e1]
      simp only [sit, this]; rfl
    have hrun := run_copy_none (P := P) w t t' ty te dp sp len dc sl sc hu his (by rw [e3]; exact hk)
    have hI : ∀ S : Sit, CR cx.eT S (.d (.int .i64) ((0 : Nat) : Int)) (goInt 0) := fun S => int_rel.2 ⟨rfl, hkr⟩
    refine ⟨.s (.one (.d (.int .i64) ((0 : Nat) : Int))), goInt 0, _, loc, w, h, rfl, by rw [hst]; exact g, by rw [hst]; exact Tr.refl _, hI (sit O (setObj st n (.mrow e (xs.take lo ++ ys.take 0 ++ xs.drop (lo + 0)))) loc w), ?_⟩
    rw [e1, e2]; exact hrun
  have hsl : ∃ sp sc, vx = .slice sp ys.length sc := by
    rcases hsrc with ⟨rfl, a, c, hv⟩ | ⟨b, o, cap, cs, hv, _⟩
    · exact ⟨a, c, by simpa using hv⟩
    · exact ⟨_, _, hv⟩
  obtain ⟨sp, sc, hvx⟩ := hsl
  have hdl : ∃ dp dc, vd = .slice dp len dc := by
    rcases hdst hor with ⟨rfl, a, c, hv⟩ | ⟨b, c, _, hv⟩
    · exact ⟨a, c, hv⟩
    · exact ⟨_, _, hv⟩
  obtain ⟨dp, dc, hvd⟩ := hdl
  by_cases hk0 : k = 0
  · exact none0 hk0 dp dc sp _ sc hvd hvx rfl
  · rcases hdst hor with ⟨h0, _⟩ | ⟨b, c, hb, hv⟩
    · omega
    · rcases hsrc with ⟨rfl, _⟩ | ⟨b2, o2, cap2, cs, hv2, hcl, hcc, hrl, hone'⟩
      · simp at hk; omega
      · rcases hor with ⟨_, _, h2⟩ | ⟨b', vs, T, cap, h2, h3, hheap, hvs, hcap, _, he⟩
        · exact absurd (hb.symm.trans h2) (by simp)
        · have hbb : b = b' := by have h4 : (loc n).bs = [b'] := h3; rw [hb] at h4; cases h4; rfl
          subst hbb
          rw [hsz, Nat.mul_one] at hv hvs
          rw [hsz, Nat.mul_one] at hcl
          have hkl : (cs.take k).length = k := by rw [List.length_take]; omega
          have hfit : lo + (cs.take k).length ≤ vs.size := by rw [hkl, hvs]; omega
          have hrun := run_copy_row (P := P) w t t' ty te b lo len c ⟨b2, o2, none⟩ ys.length cap2 vs T (cs.take k) hu his hheap (by rw [hkl]; exact hk.symm)
            (fun j u hj => by
              rw [Addr.add_lit]
              rw [List.getElem?_take] at hj
              split at hj
              · exact hcc j u hj
              · cases hj) hfit (fun u hu => hone' u (List.mem_of_mem_take hu))
          rw [hkl] at hrun
          have hst := set_step (X := X) (cx := cx) (oc' := .mrow e (xs.take lo ++ ys.take k ++ xs.drop (lo + k))) (cs' := (vs.toList.take lo ++ cs.take k ++ vs.toList.drop (lo + k)).toArray) g hO hob h3 (by simp [SameKind]) rfl rfl
          have hxl : (xs.take lo ++ ys.take k ++ xs.drop (lo + k)).length = xs.length := by
            simp only [List.length_append, List.length_take, List.length_drop]; omega
          have hI : ∀ S : Sit, CR cx.eT S (.d (.int .i64) (k : Int)) (goInt k) := fun S => int_rel.2 ⟨rfl, hkr⟩
          refine ⟨.s (.one (.d (.int .i64) (k : Int))), goInt k, _, loc, _, h, rfl, hst.2 (.inr ⟨b, _, T, cap, by rw [hxl]; exact h2, h3, setRow_heap w b vs _ T (0, 0) hheap, ?_, by rw [hxl]; exact hcap, by rw [hxl]; exact hbig, ?_⟩), hst.1, hI (sit O (setObj st n (.mrow e (xs.take lo ++ ys.take k ++ xs.drop (lo + k)))) loc (w.setRow b (vs.toList.take lo ++ cs.take k ++ vs.toList.drop (lo + k)).toArray)), ?_⟩
          · rw [hsz, Nat.mul_one]
            simp only [List.size_toArray, List.length_append, List.length_take, List.length_drop, Array.length_toList]
            rw [hkl] at hfit
            omega
          · intro i y hy
            have hone1 : ∀ {z : D e} {us : List Value} {A : Avoid} {w : World}, R cx.eT e z A w us → ∃ u, us = [u] := fun hr => List.length_eq_one_iff.1 (by rw [hr.length, hsz])
            have old : ∀ i', xs[i']? = some y → (i < lo ∨ lo + k ≤ i) → i' = i → ∃ us, R cx.eT e y (sit O (setObj st n (.mrow e (xs.take lo ++ ys.take k ++ xs.drop (lo + k)))) loc (w.setRow b (vs.toList.take lo ++ cs.take k ++ vs.toList.drop (lo + k)).toArray)).A (w.setRow b (vs.toList.take lo ++ cs.take k ++ vs.toList.drop (lo + k)).toArray) us ∧
                ∀ j u, us[j]? = some u → (vs.toList.take lo ++ cs.take k ++ vs.toList.drop (lo + k)).toArray[i * e.size + j]? = some u := by
              intro i' hx hr hi
              subst hi
              obtain ⟨us, r1, r2⟩ := he i' y hx
              refine ⟨us, r1.frame hst.1.cell, fun j u hj => ?_⟩
              obtain ⟨u0, rfl⟩ := hone1 r1
              have hj0 : j = 0 := by have := getElem?_lt hj; simp at this; exact this
              subst hj0
              have := r2 0 u hj
              rw [hsz, Nat.mul_one] at this ⊢
              have hsp := splice_get vs.toList (cs.take k) lo i' (by rw [Array.length_toList]; exact hfit)
              rw [hkl] at hsp
              rw [List.getElem?_toArray, Nat.add_zero, hsp]
              rw [Nat.add_zero] at this
              rcases hr with hr | hr
              · rw [if_pos hr, Array.getElem?_toList]; exact this
              · rw [if_neg (by omega), if_neg (by omega), Array.getElem?_toList]; exact this
            by_cases c1 : i < lo
            · rw [List.append_assoc, List.getElem?_append, if_pos (by rw [List.length_take]; omega), List.getElem?_take, if_pos c1] at hy
              exact old i hy (.inl c1) rfl
            · by_cases c2 : i < lo + k
              · rw [List.append_assoc, List.getElem?_append, if_neg (by rw [List.length_take]; omega), List.getElem?_append, if_pos (by simp only [List.length_take]; omega), List.getElem?_take] at hy
                simp only [List.length_take] at hy
                rw [show min lo xs.length = lo by omega] at hy
                rw [if_pos (by omega)] at hy
                obtain ⟨us, r1, r2⟩ := hrl _ y hy
                refine ⟨us, r1.frame hst.1.cell, fun j u hj => ?_⟩
                obtain ⟨u0, rfl⟩ := hone1 r1
                have hj0 : j = 0 := by have := getElem?_lt hj; simp at this; exact this
                subst hj0
                have := r2 0 u hj
                rw [hsz, Nat.mul_one, Nat.add_zero] at this ⊢
                have hsp := splice_get vs.toList (cs.take k) lo i (by rw [Array.length_toList]; exact hfit)
                rw [hkl] at hsp
                rw [List.getElem?_toArray, hsp, if_neg c1, if_pos c2, List.getElem?_take, if_pos (by omega)]
                exact this
              · rw [List.append_assoc, List.getElem?_append, if_neg (by rw [List.length_take]; omega), List.getElem?_append, if_neg (by simp only [List.length_take]; omega), List.getElem?_drop] at hy
                simp only [List.length_take] at hy
                rw [show lo + k + (i - min lo xs.length - min k ys.length) = i by omega] at hy
                exact old i hy (.inr (by omega)) rfl
          · rw [hv, hv2]; exact hrun
end
end Go.Vg
