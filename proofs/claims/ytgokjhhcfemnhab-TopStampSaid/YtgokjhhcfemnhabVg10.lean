/- A part of the proof that the law TopStamp holds of the given program: facts that are used there. -/
import Derived.Test.YtgokjhhcfemnhabVg9
namespace Go.Vg
open Go.RowKit
def noOpq : Ty → Bool
  | .opq => false
  | .prod a b => noOpq a && noOpq b
  | _ => true
def cellTys : Ty → List Ty
  | .prod a b => cellTys a ++ cellTys b
  | .unit => []
  | t => [t]
/-- Nil slices become tokens: lists that may be appended to. -/
def tokz : List Ty → List C → St → List C × St
  | .slice e :: ts, .nilS :: cs, st =>
    match tokz ts cs { st with objs := (st.next, .tok e []) :: st.objs, next := st.next + 1 } with
    | (cs', st') => (.app e [] st.next :: cs', st')
  | _ :: ts, c :: cs, st => match tokz ts cs st with
    | (cs', st') => (c :: cs', st')
  | [], cs, st => (cs, st)
  | _, [], st => ([], st)
/-- A known cell whose value is that of one cell. -/
def okC (st : St) : C → Bool
  | .any => false
  | .d t _ => t.one
  | .mrow n => match look st.objs n with
    | some (.mrow _ _) => true
    | _ => false
  | .aref n => match look st.objs n with
    | some (.arr _ _) => true
    | _ => false
  | .xref n => match look st.objs n with
    | some (.ext (_ + 1) _ _) => true
    | _ => false
  | .ref n _ => match look st.objs n with
    | some (.cells _ _) => true
    | _ => false
  | .eref _ _ _ _ => false
  | .msub _ _ _ _ => false
  | .lit _ => true
  | .app _ _ _ => true
  | .nilS => true
  | .nilP => true
  | .emp => true
  | .iref _ _ => true
  | .fn _ _ => true
  | .xd _ _ => false
def flat0 (st : St) (ty : Ty) (v : SV0) : Option (List C) :=
  match v with
  | .one (.d t x) => match Ty.beq t ty with
    | true => some (toCells t x)
    | false => none
  | .one (.lit b) => match ty with
    | .bool => some [.d .bool b]
    | _ => none
  | .one c => match ty.one && okC st c with
    | true => some [c]
    | false => none
  | .agg cs => match ty.one, Nat.beq cs.length ty.size with
    | false, true => some cs
    | _, _ => none
def fresh (st : St) (oc : OC) : St := { st with objs := (st.next, oc) :: st.objs, next := st.next + 1 }
def movVC (cx : Cx) (st : St) (x : Operand) (ty : TypeId) (K : SV → St → VC) : VC :=
  match ev st.env x, look cx.τ ty with
  | .s (.one .nilS), some (.slice e) => K (.s (.one (.app e [] st.next))) (fresh st (.tok e []))
  | v, _ => K v st
def allocVC (cx : Cx) (st : St) (t : TypeId) (K : SV → St → VC) : VC :=
  match look cx.τ t with
  | some ty => match tokz (cellTys ty) (zeroCs ty) st with
    | (cs, st') => K (.s (.one (.ref st'.next 0))) (fresh st' (.cells t cs))
  | none => match look cx.arrs t with
    | some (n, te) => match look cx.τ te with
      | some e => match noOpq e with
        | true => K (.s (.one (.aref st.next))) (fresh st (.arr e (List.replicate n (zeroD e))))
        | false => .ff
      | none => .ff
    | none => .ff
def boxVC (cx : Cx) (st : St) (t : TypeId) (v : SV0) (K : SV → St → VC) : VC :=
  match look cx.τ t with
  | some ty => match flat0 st ty v with
    | some cs0 => match tokz (cellTys ty) cs0 st with
      | (cs, st') => K (.s (.one (.ref st'.next 0))) (fresh st' (.cells t cs))
    | none => .ff
  | none => .ff
section
variable {X : Ext} {P : Program} {cx : Cx}
def OIn (O : Avoid) (w : World) : Prop := ∀ b off, O b off → b < w.heap.size
theorem sit_fresh_ob (O : Avoid) (st : St) (loc : Nat → Loc) (w : World) (oc : OC) (m : Nat) : (sit O (fresh st oc) loc w).ob m = if st.next = m then some oc else look st.objs m := by
  simp only [sit, fresh, look_cons]
def updLoc (loc : Nat → Loc) (n : Nat) (l : Loc) : Nat → Loc := fun m => if n = m then l else loc m
/-- A new object. -/
theorem fresh_step {O : Avoid} {st : St} {loc : Nat → Loc} {w w' : World} {oc : OC} {l : Loc} (g : Good cx.eT X (sit O st loc w)) (hO : OIn O w)
    (hw : Below w.heap.size w w') (hl : ∀ b ∈ l.bs, w.heap.size ≤ b) :
    Tr (sit O st loc w) (sit O (fresh st oc) (updLoc loc st.next l) w') ∧
      (OR cx.eT X (sit O (fresh st oc) (updLoc loc st.next l) w') l oc → Good cx.eT X (sit O (fresh st oc) (updLoc loc st.next l) w')) :=
  step_new (S := sit O st loc w) (S' := sit O (fresh st oc) (updLoc loc st.next l) w') g rfl hO (fun m => sit_fresh_ob O st _ w' oc m) (fun _ => rfl) rfl hw hl
theorem OIn.tr {O : Avoid} {w w' : World} (h : OIn O w) (hs : w.heap.size ≤ w'.heap.size) : OIn O w' := fun b off hb => Nat.lt_of_lt_of_le (h b off hb) hs
theorem tokz_sound : ∀ {ts : List Ty} {cs : List C} {O : Avoid} {st : St} {loc : Nat → Loc} {w : World} {vs : List Value}, Good cx.eT X (sit O st loc w) → OIn O w → CRs cx.eT (sit O st loc w) cs vs →
    ∃ loc', Good cx.eT X (sit O (tokz ts cs st).2 loc' w) ∧ Tr (sit O st loc w) (sit O (tokz ts cs st).2 loc' w) ∧ CRs cx.eT (sit O (tokz ts cs st).2 loc' w) (tokz ts cs st).1 vs ∧ (tokz ts cs st).2.env = st.env := by
  intro ts
  induction ts with
  | nil => intro cs O st loc w vs g _ h; exact ⟨loc, by simpa [tokz] using g, by simpa [tokz] using Tr.refl _, by simpa [tokz] using h, by simp [tokz]⟩
  | cons t ts ih =>
    intro cs O st loc w vs g hO h
    cases h with
    | nil =>
      have e : tokz (t :: ts) [] st = ([], st) := by cases t <;> rfl
      rw [e]
      exact ⟨loc, g, Tr.refl _, .nil, rfl⟩
    | cons h1 h2 h3 =>
      rename_i c v cs vs
      have plain : tokz (t :: ts) (c :: cs) st = ((c :: (tokz ts cs st).1), (tokz ts cs st).2) →
          ∃ loc', Good cx.eT X (sit O (tokz (t :: ts) (c :: cs) st).2 loc' w) ∧ Tr (sit O st loc w) (sit O (tokz (t :: ts) (c :: cs) st).2 loc' w) ∧
            CRs cx.eT (sit O (tokz (t :: ts) (c :: cs) st).2 loc' w) (tokz (t :: ts) (c :: cs) st).1 (v :: vs) ∧ (tokz (t :: ts) (c :: cs) st).2.env = st.env := by
        intro e
        rw [e]
        obtain ⟨loc', g', tr, hc, he⟩ := ih g hO h3
        exact ⟨loc', g', tr, .cons (h1.tr tr) h2 hc, he⟩
      by_cases hs : (∃ e, t = .slice e) ∧ c = .nilS
      · obtain ⟨⟨e, rfl⟩, rfl⟩ := hs
        obtain ⟨tr1, g1⟩ := fresh_step (oc := .tok e []) (l := ⟨.slice none 0 0, []⟩) g hO (Below.refl _ w) (by simp)
        have g1 := g1 (.inl ⟨rfl, ⟨none, rfl⟩, rfl⟩)
        obtain ⟨loc', g', tr, hc, he⟩ := ih g1 hO (h3.tr tr1)
        have e1 : tokz (.slice e :: ts) (.nilS :: cs) st = (.app e [] st.next :: (tokz ts cs (fresh st (.tok e []))).1, (tokz ts cs (fresh st (.tok e []))).2) := rfl
        rw [e1]
        refine ⟨loc', g', tr1.trans tr, .cons (CR.tr tr ?_) h2 hc, he⟩
        rw [show v = _ from h1]
        refine ⟨VR.of_one rfl R.slice_nil, by simp [sit, fresh], fun ys hy => ?_⟩
        rw [sit_fresh_ob, if_pos rfl] at hy
        cases hy
        exact ⟨Nat.le_refl _, fun _ => by simp [sit, updLoc]⟩
      · apply plain
        cases t <;> (try rfl)
        cases c <;> (try rfl)
        exact (hs ⟨⟨_, rfl⟩, rfl⟩).elim
theorem okC_rel {O : Avoid} {st : St} {loc : Nat → Loc} {w : World} {c : C} {v : Value} (g : Good cx.eT X (sit O st loc w)) (h : okC st c = true) (hc : CR cx.eT (sit O st loc w) c v) : v.oneCell' = true := by
  unfold okC at h
  split at h
  · cases h
  · exact (VR.one h hc).oneCell v (by simp)
  · split at h
    · rename_i t xs hob
      rcases (g.obj _ _ hob).2 with ⟨_, ⟨a, ha⟩, _⟩ | ⟨b, vs, T, cap, hl, _⟩
      · rw [hc.2 _ _ hob, ha]; rfl
      · rw [hc.2 _ _ hob, hl]; rfl
    · cases h
  · split at h
    · rename_i t xs hob
      obtain ⟨_, b, vs, T, hl, _⟩ := g.obj _ _ hob
      rw [hc.2 _ _ hob, hl]; rfl
    · cases h
  · split at h
    · rename_i k t x hob
      obtain ⟨_, h1⟩ := g.obj _ _ hob
      rw [hc.2 _ hob rfl]
      cases k with
      | zero =>
        obtain ⟨e, rfl, b, es, clk, hm⟩ := X.map.1 h1
        rw [hm.lv]; rfl
      | succ k =>
        obtain ⟨a, ha⟩ := X.ptr (by omega) h1
        rw [ha]; rfl
    · cases h
  · split at h
    · rename_i T cs hob
      obtain ⟨b, _, h2⟩ := hc.2 _ _ hob
      rw [h2]; rfl
    · cases h
  · cases h
  · cases h
  · rw [show v = _ from hc]; rfl
  · exact (VR.one rfl hc.1).oneCell v (by simp)
  · rw [show v = _ from hc]; rfl
  · rw [show v = _ from hc]; rfl
  · obtain ⟨a, rfl⟩ := hc; rfl
  · obtain ⟨b, o, us, h, _⟩ := hc; rw [h]; rfl
  · rw [hc.1]; rfl
  · cases h
theorem flat0_rel {O : Avoid} {st : St} {loc : Nat → Loc} {w : World} {ty : Ty} {v : SV0} {cs : List C} {u : Value} (g : Good cx.eT X (sit O st loc w)) (h : flat0 st ty v = some cs) (hv : SV0R cx.eT (sit O st loc w) v u) :
    ∃ us, u.cells.toList = us ∧ CRs cx.eT (sit O st loc w) cs us ∧ us.length = ty.size := by
  unfold flat0 at h
  split at h
  · split at h
    · rename_i hb
      cases h
      have hr := VR.cells (show VR cx.eT _ _ _ _ u from hv)
      exact ⟨_, rfl, toCells_rel hr, by rw [hr.length, Ty.eq_of_beq hb]⟩
    · cases h
  · split at h
    · cases h
      rw [show u = _ from hv]
      exact ⟨_, rfl, .cons (bool_rel.2 rfl) rfl .nil, rfl⟩
    · cases h
  · rename_i c _ _
    split at h
    · rename_i h1
      simp only [Bool.and_eq_true] at h1
      cases h
      have := okC_rel g h1.2 hv
      have hcell : u.cells.toList = [u] := by cases u <;> simp_all [Value.cells, Value.oneCell']
      exact ⟨_, hcell, .cons hv this .nil, by rw [Ty.size_one h1.1]; rfl⟩
    · cases h
  · split at h
    · rename_i h1
      cases h
      obtain ⟨vs, rfl, hc⟩ := hv
      exact ⟨vs, by simp [Value.cells], hc, by rw [← hc.length]; exact Nat.eq_of_beq_eq_true h1⟩
    · cases h
theorem movVC_sound {O : Avoid} {st : St} {loc : Nat → Loc} {w : World} {a : Act} (g : Good cx.eT X (sit O st loc w)) (hO : OIn O w) (he : EnvR cx.eT (sit O st loc w) st.env a)
    {x : Operand} {ty : TypeId} {K : SV → St → VC} (h : (movVC cx st x ty K).holds) :
    ∃ sv st' loc', (K sv st').holds ∧ st'.env = st.env ∧ Good cx.eT X (sit O st' loc' w) ∧ Tr (sit O st loc w) (sit O st' loc' w) ∧ SVR cx.eT (sit O st' loc' w) sv (a.eval x) := by
  have hx := ev_rel he x
  unfold movVC at h
  split at h
  · rename_i e hl _
    rw [hl] at hx
    obtain ⟨tr1, g1⟩ := fresh_step (oc := .tok e []) (l := ⟨.slice none 0 0, []⟩) g hO (Below.refl _ w) (by simp)
    have g1 := g1 (.inl ⟨rfl, ⟨none, rfl⟩, rfl⟩)
    refine ⟨_, _, _, h, rfl, g1, tr1, ?_⟩
    rw [show a.eval x = _ from hx]
    refine ⟨VR.of_one rfl R.slice_nil, by simp [sit, fresh], fun ys hy => ?_⟩
    rw [sit_fresh_ob, if_pos rfl] at hy
    cases hy
    exact ⟨Nat.le_refl _, fun _ => by simp [sit, updLoc]⟩
  · exact ⟨_, _, _, h, rfl, g, Tr.refl _, hx⟩
/-- A new box of these cells. -/
theorem newBox {O : Avoid} {st : St} {loc : Nat → Loc} {w : World} {t : TypeId} {ts : List Ty} {cs : List C} {vs : List Value} (g : Good cx.eT X (sit O st loc w)) (hO : OIn O w)
    (hc : CRs cx.eT (sit O st loc w) cs vs) {K : SV → St → VC} (h : (K (.s (.one (.ref (tokz ts cs st).2.next 0))) (fresh (tokz ts cs st).2 (.cells t (tokz ts cs st).1))).holds) :
    ∃ sv st' loc', (K sv st').holds ∧ st'.env = st.env ∧ Good cx.eT X (sit O st' loc' (w.alloc (.cells vs.toArray t))) ∧
      Tr (sit O st loc w) (sit O st' loc' (w.alloc (.cells vs.toArray t))) ∧ SVR cx.eT (sit O st' loc' (w.alloc (.cells vs.toArray t))) sv (.pointer (some ⟨w.heap.size, 0, none⟩)) := by
  obtain ⟨loc', g', tr, hc', he⟩ := tokz_sound (ts := ts) g hO hc
  have hb : Below w.heap.size w (w.alloc (.cells vs.toArray t)) := (Below.refl _ w).alloc (Nat.le_refl _) _
  obtain ⟨tr1, g1⟩ := fresh_step (oc := .cells t (tokz ts cs st).1) (l := ⟨.pointer (some ⟨w.heap.size, 0, none⟩), [w.heap.size]⟩) g' hO hb (by simp)
  have g1 := g1 ⟨w.heap.size, vs, rfl, rfl, heap_alloc_new w _, hc'.tr tr1⟩
  refine ⟨_, _, _, h, he, g1, tr.trans tr1, ⟨by simp [sit, fresh], fun T cs' hy => ?_⟩⟩
  rw [sit_fresh_ob, if_pos rfl] at hy
  exact ⟨w.heap.size, by simp [sit, updLoc], rfl⟩
theorem zero_rel {S : Sit} : ∀ {ty : Ty} {vs : List Value}, zeroRow ty vs = true → CRs cx.eT S (zeroCs ty) vs := by
  intro ty
  induction ty with
  | prod a b iha ihb =>
    intro vs h
    simp only [zeroRow, Bool.and_eq_true] at h
    have := (iha h.1).append (ihb h.2)
    rwa [List.take_append_drop] at this
  | unit => intro vs h; cases vs <;> simp [zeroRow] at h; exact .nil
  | bool =>
    intro vs h
    match vs, h with
    | [v], h =>
      cases v <;> simp [zeroRow, Ty.one, zeroCell] at h
      subst h
      exact .cons rfl rfl .nil
  | int k =>
    intro vs h
    match vs, h with
    | [v], h =>
      cases v <;> simp [zeroRow, Ty.one, zeroCell] at h
      obtain ⟨rfl, rfl⟩ := h
      exact .cons (int_rel.2 ⟨rfl, by cases k <;> simp [IntKind.min, IntKind.max, IntKind.signed, IntKind.bits]⟩) rfl .nil
  | str =>
    intro vs h
    match vs, h with
    | [v], h =>
      cases v <;> simp [zeroRow, Ty.one, zeroCell] at h
      rename_i s
      subst h
      exact .cons (str_rel.2 ⟨rfl, by simp⟩) rfl .nil
  | err =>
    intro vs h
    match vs, h with
    | [v], h =>
      cases v <;> simp [zeroRow, Ty.one, zeroCell] at h
      exact .cons (err_rel.2 rfl) rfl .nil
  | opq =>
    intro vs h
    match vs, h with
    | [v], h =>
      refine .cons trivial ?_ .nil
      cases v <;> simp [zeroRow, Ty.one, zeroCell] at h <;> rfl
  | slice e _ =>
    intro vs h
    match vs, h with
    | [v], h =>
      cases v <;> simp [zeroRow, Ty.one, zeroCell] at h
      rename_i a l c
      cases a <;> simp at h
      obtain ⟨rfl, rfl⟩ := h
      exact .cons rfl rfl .nil
end
end Go.Vg
