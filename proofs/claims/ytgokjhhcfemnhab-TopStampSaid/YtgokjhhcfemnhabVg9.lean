/- A part of the proof that the law TopStamp holds of the given program: facts that are used there. -/
import Derived.Test.YtgokjhhcfemnhabVg8
import Derived.Laws.Cells
import Derived.Laws.CopyRow
import Derived.Laws.Append
import Derived.Laws.MakeOwn
import Derived.Laws.Tables
namespace Go.Vg
open Go.RowKit
def compTy : Ty → Nat → Option Ty
  | .prod a _, 0 => some a
  | .prod _ b, f + 1 => compTy b f
  | _, _ => none
def deepIdx (st : St) (n : Nat) (p : XP) (e : Ty) (i : Int) (K : C → VC) : VC :=
  match look st.objs n with
  | some (.ext 0 (.slice e') xs) => match p with
    | .top => match Ty.beq e' e with
      | true => .and (0 ≤ i ∧ i < List.length xs) (K (.xd n (.el e' i.toNat 0)))
      | false => .ff
    | .row k => match spot e' with
      | some s => match Ty.beq s.t e with
        | true => .and (k < List.length xs ∧ 0 ≤ i ∧ i < (s.get (nth e' xs k)).length) (K (.xd n (.cell k i.toNat)))
        | false => .ff
      | none => .ff
    | _ => .ff
  | _ => .ff
def deepLoad (st : St) (n : Nat) (p : XP) (ty : Ty) (K : SV → VC) : VC :=
  match look st.objs n with
  | some (.ext 0 (.slice e') xs) => match p with
    | .el e i o => match Ty.beq e' e, spot e' with
      | true, some s => match Nat.beq o s.off && Ty.beq ty (.slice s.t) with
        | true => .and (i < List.length xs) (K (.s (.one (.xd n (.row i)))))
        | false => match ty.scal with
          | true => .and (i < List.length xs) (match at? e' (nth e' xs i) o ty with
            | some z => K (.s (.one (.d ty z)))
            | none => .ff)
          | false => .ff
      | _, _ => .ff
    | .cell i j => match spot e' with
      | some s => match Ty.beq s.t ty with
        | true => .and (i < List.length xs ∧ j < (s.get (nth e' xs i)).length) (K (.s (.one (.d s.t (nth s.t (s.get (nth e' xs i)) j)))))
        | false => .ff
      | none => .ff
    | _ => .ff
  | _ => .ff
def idxVC (cx : Cx) (st : St) (t : TypeId) (x : C) (i : Int) (K : C → VC) : VC :=
  match look cx.τ t with
  | some (.slice e) => match rowD e x with
    | some xs => .and (0 ≤ i ∧ i < xs.length) (K (.iref e (nth e xs i.toNat)))
    | none => match x with
      | .mrow n => match look st.objs n with
        | some (.mrow e' xs) => match Ty.beq e' e with
          | true => .and (0 ≤ i ∧ i < xs.length) (K (.eref n e' i.toNat 0))
          | false => .ff
        | _ => .ff
      | .xd n p => deepIdx st n p e i K
      | _ => .ff
  | _ => match look cx.arrs t with
    | some (len, te) => match look cx.τ te, x with
      | some e, .aref n => match look st.objs n with
        | some (.arr e' xs) => match Ty.beq e' e with
          | true => .and (0 ≤ i ∧ i < len ∧ i < xs.length) (K (.eref n e' i.toNat 0))
          | false => .ff
        | _ => .ff
      | _, _ => .ff
    | none => .ff
def fieldVC (cx : Cx) (st : St) (t : TypeId) (x : C) (f : Nat) (K : C → VC) : VC :=
  match look cx.τ t with
  | some ty => match offOf ty f, x with
    | some _, .iref u y => match h : Ty.beq u ty with
      | true => match comp ty (castD h y) f with
        | some ⟨u', z⟩ => K (.iref u' z)
        | none => .ff
      | false => .ff
    | some off, .ref n o => match look st.objs n with
      | some (.cells _ _) => K (.ref n (o + off))
      | _ => .ff
    | some off, .eref n u i o => match look st.objs n with
      | some (.mrow u' _) => match Ty.beq u' u with
        | true => K (.eref n u i (o + off))
        | false => .ff
      | some (.arr u' _) => match Ty.beq u' u with
        | true => K (.eref n u i (o + off))
        | false => .ff
      | _ => .ff
    | some off, .xd n (.el e i o) => match look st.objs n with
      | some (.ext 0 _ _) => K (.xd n (.el e i (o + off)))
      | _ => .ff
    | _, _ => .ff
  | none => .ff
def elemVC (u : Ty) (xs : List (D u)) (i o : Nat) (ty : Ty) (K : SV → VC) : VC :=
  .and (i < xs.length) (match at? u (nth u xs i) o ty with
    | some z => K (.s (.one (.d ty z)))
    | none => .ff)
def loadVC (cx : Cx) (st : St) (t : TypeId) (x : C) (K : SV → VC) : VC :=
  match look cx.τ t with
  | some ty => match x with
    | .iref u y => match h : Ty.beq u ty with
      | true => K (.s (.one (.d ty (castD h y))))
      | false => .ff
    | .ref n o => match look st.objs n with
      | some (.cells _ cs) => match ty.one with
        | true => match cs[o]? with
          | some c => K (.s (.one c))
          | none => .ff
        | false => match Nat.ble (o + ty.size) cs.length with
          | true => K (.s (.agg ((cs.drop o).take ty.size)))
          | false => .ff
      | _ => .ff
    | .eref n u i o => match look st.objs n with
      | some (.mrow u' xs) => match Ty.beq u' u with
        | true => elemVC u' xs i o ty K
        | false => .ff
      | some (.arr u' xs) => match Ty.beq u' u with
        | true => elemVC u' xs i o ty K
        | false => .ff
      | _ => .ff
    | .xd n p => deepLoad st n p ty K
    | _ => .ff
  | none => .ff
def optInt (st : St) (x : Option Operand) (dflt : Int) : Option Int :=
  match x with
  | none => some dflt
  | some o => asIntC (ev1 st.env o)
def sliceVC (cx : Cx) (st : St) (t : TypeId) (x : C) (lo hi : Option Operand) (K : C → VC) : VC :=
  match look cx.τ t with
  | some .str => match x with
    | .d .str s => match optInt st lo 0, optInt st hi s.length with
      | some l, some h => .and (0 ≤ l ∧ l ≤ h ∧ h ≤ s.length) (K (.d .str ((s.take h.toNat).drop l.toNat)))
      | _, _ => .ff
    | _ => .ff
  | some (.slice e) => match rowD e x with
    | some xs => match optInt st lo 0, optInt st hi xs.length with
      | some l, some h => .and (0 ≤ l ∧ l ≤ h ∧ h ≤ xs.length) (K (.d (.slice e) ((xs.take h.toNat).drop l.toNat)))
      | _, _ => .ff
    | none => match x with
      | .mrow n => match look st.objs n with
        | some (.mrow e' xs) => match Ty.beq e' e, optInt st lo 0, optInt st hi xs.length with
          | true, some l, some h => .and (0 ≤ l ∧ l ≤ h ∧ h ≤ xs.length) (K (.msub n e' l.toNat (h.toNat - l.toNat)))
          | _, _, _ => .ff
        | _ => .ff
      | _ => .ff
  | _ => .ff
/-- Operations that read memory. -/
def readVC (cx : Cx) (st : St) (op : Op) (K : SV → VC) : VC :=
  let K1 : C → VC := fun c => K (.s (.one c))
  match op with
  | .indexAddr t x i => match asIntC (ev1 st.env i) with
    | some i => idxVC cx st t (ev1 st.env x) i K1
    | none => .ff
  | .fieldAddr t x f => fieldVC cx st t (ev1 st.env x) f K1
  | .load t x => loadVC cx st t (ev1 st.env x) K
  | .slice t x lo hi none => sliceVC cx st t (ev1 st.env x) lo hi K1
  | op => pureVC cx st op K
section
variable {X : Ext} {P : Program} {cx : Cx}
theorem rowD_rel {S : Sit} {e : Ty} {c : C} {xs : List (D e)} {v : Value} (h : rowD e c = some xs) (hc : CR cx.eT S c v) : VR cx.eT (.slice e) xs S.A S.w v := by
  unfold rowD at h
  split at h
  · split at h
    · rename_i hb; cases h; exact castD_vr hb _ hc
    · cases h
  · split at h
    · rename_i hb; cases h; exact castD_vr hb _ hc.1
    · cases h
  · cases h
    rw [show v = _ from hc]
    exact VR.of_one rfl R.slice_nil
  · cases h
    obtain ⟨a, rfl⟩ := hc
    exact VR.of_one rfl ⟨_, rfl, by simp, .inl ⟨rfl, a, 0, rfl⟩⟩
  · cases h
theorem fit_sizeOf {t : TypeId} {ty : Ty} {i : TypeInfo} {d : TypeDesc} (h : Fit P t ty i d) (w : World) : (sizeOf t).run P w = .ok ty.size w := by
  simp [sizeOf, typeInfo, h.info, h.size]
theorem fit_one {t : TypeId} {ty : Ty} {i : TypeInfo} {d : TypeDesc} {f : TypeId → Ty → Bool} (h : Fit P t ty i d) (hs : shapeFit f ty d = true) (w : World) :
    (isAgg t).run P w = .ok (!ty.one) w := by
  have : (match d with | .struct _ => true | .array _ _ => true | _ => false) = !ty.one := by
    cases ty <;> cases d <;> first | rfl | exact absurd hs (by simp [shapeFit])
  cases d <;> simp_all [isAgg, run_underlying h.und]
/-- A row of a block, read. -/
theorem row_cells {A : Avoid} {w : World} {b o : Nat} {us : List Value} (h : Row A w b o us) : ∀ j v, us[j]? = some v → w.cell? ((⟨b, o, none⟩ : Addr).add j) = some v := by
  intro j v hj
  rw [Addr.add_lit]
  exact (h j v hj).1
theorem run_load_cells {t : TypeId} {ty : Ty} {i : TypeInfo} {d : TypeDesc} {f : TypeId → Ty → Bool} (h : Fit P t ty i d) (hs : shapeFit f ty d = true) {b o : Nat} {us : List Value} (hl : us.length = ty.size)
    (w0 : World) (hc0 : ∀ j v, us[j]? = some v → w0.cell? ⟨b, o + j, none⟩ = some v) :
    ∃ v, (∀ w, Below w0.heap.size w0 w → (Instr.loadAt t (.pointer (some ⟨b, o, none⟩))).run P w = .ok v w) ∧ (if ty.one then us = [v] else v = .agg us.toArray) := by
  by_cases ho : ty.one = true
  · have h1 := Ty.size_one ho
    match us, hl with
    | [v], _ =>
      refine ⟨v, fun w hb => ?_, by rw [if_pos ho]⟩
      have := below_cell hb (hc0 0 v rfl)
      simp only [Nat.add_zero] at this
      simp [Instr.loadAt, Instr.sureAddr, loadVar, fit_one h hs, ho, this]
    | [], hl => rw [h1] at hl; cases hl
    | _ :: _ :: _, hl => rw [h1] at hl; simp at hl
  · refine ⟨.agg us.toArray, fun w hb => ?_, by rw [if_neg ho]⟩
    have hc' : ∀ j v, us[j]? = some v → w.cell? ((⟨b, o, none⟩ : Addr).add j) = some v := by
      intro j v hj; rw [Addr.add_lit]; exact below_cell hb (hc0 j v hj)
    have := run_loadCells_list (P := P) w ⟨b, o, none⟩ us hc'
    rw [hl] at this
    simp [Instr.loadAt, Instr.sureAddr, loadVar, fit_one h hs, ho, fit_sizeOf h, this]
theorem VR_of_cells {ty : Ty} {x : D ty} {A : Avoid} {w : World} {us : List Value} {v : Value} (hr : R cx.eT ty x A w us) (hv : if ty.one then us = [v] else v = .agg us.toArray) : VR cx.eT ty x A w v := by
  unfold VR
  split
  · rename_i h; rw [if_pos h] at hv; rw [← hv]; exact hr
  · rename_i h; rw [if_neg h] at hv; exact ⟨_, hv, by simpa using hr⟩
theorem slice_elem {e : Ty} {xs : List (D e)} {A : Avoid} {w : World} {v : Value} (h : VR cx.eT (.slice e) xs A w v) {i : Nat} (hi : i < xs.length) :
    ∃ b o cap, v = .slice (some ⟨b, o, none⟩) xs.length cap ∧ ∃ us, R cx.eT e xs[i] A w us ∧ Row A w b (o + i * e.size) us := by
  obtain ⟨u, hu, hl, h⟩ := VR.one rfl h
  simp at hu; subst hu
  rcases h with ⟨rfl, _⟩ | ⟨b, o, cap, rfl, hc, h⟩
  · simp at hi
  · exact ⟨b, o, cap, rfl, h i xs[i] (List.getElem?_eq_getElem hi)⟩
theorem run_indexAt {t te : TypeId} (hu : P.underlying t = some (.slice te)) {size : Nat} (hs : ∀ w, (sizeOf te).run P w = .ok size w) {b o len cap : Nat} {k : IntKind} {i : Int} (h0 : 0 ≤ i) (h1 : i < len) (w : World) :
    (Instr.indexAt t (.slice (some ⟨b, o, none⟩) len cap) (.int k i)).run P w = .ok (.pointer (some ⟨b, o + i.toNat * size, none⟩)) w := by
  simp [Instr.indexAt, asIntOf, run_underlying hu, h0, h1, hs, Addr.add_lit]
theorem run_indexAt_arr {t te : TypeId} {n : Nat} (hu : P.underlying t = some (.array n te)) {size : Nat} (hs : ∀ w, (sizeOf te).run P w = .ok size w) {b o : Nat} {k : IntKind} {i : Int} (h0 : 0 ≤ i) (h1 : i < n) (w : World) :
    (Instr.indexAt t (.pointer (some ⟨b, o, none⟩)) (.int k i)).run P w = .ok (.pointer (some ⟨b, o + i.toNat * size, none⟩)) w := by
  simp [Instr.indexAt, Instr.sureAddr, asIntOf, run_underlying hu, h0, h1, hs, Addr.add_lit]
theorem deepIdx_rel {O : Avoid} {st : St} {loc : Nat → Loc} {w : World} (g : Good cx.eT X (sit O st loc w)) {t te : TypeId} {n : Nat} {p : XP} {e : Ty} {i : Int} {k : IntKind} {K : C → VC} {vx : Value}
    (hu : P.underlying t = some (.slice te)) (hsz : ∀ w, (sizeOf te).run P w = .ok e.size w) (hx : CR cx.eT (sit O st loc w) (.xd n p) vx) (h : (deepIdx st n p e i K).holds) :
    ∃ c u, (K c).holds ∧ CR cx.eT (sit O st loc w) c u ∧ ∀ w', (Instr.indexAt t vx (.int k i)).run P w' = .ok u w' := by
  unfold deepIdx at h
  split at h
  · rename_i e' xs hob
    have hd := X.deep.1 (g.obj n _ hob).2
    split at h
    · split at h
      · rename_i hb
        have := Ty.eq_of_beq hb
        subst this
        obtain ⟨⟨h0, h1⟩, h⟩ := h
        obtain ⟨e1, s, he, hs⟩ := deep_spot hd
        cases he
        obtain ⟨d⟩ := deep_at hs hd (by omega)
        obtain ⟨hs', hl⟩ := hx.2 _ _ hob
        have hl := d.lv.symm.trans hl
        simp at hl
        obtain ⟨rfl, rfl⟩ := hl
        refine ⟨_, _, h, ⟨hx.1, fun t' x' _ => ⟨d.b, _, _, d.hs, by rw [← d.tv]; exact d.lv, rfl⟩⟩, fun w' => ?_⟩
        rw [d.tv, run_indexAt hu hsz h0 h1]
        simp
      · exact h.elim
    · rename_i kk
      split at h
      · rename_i s hs
        split at h
        · rename_i hb
          have := Ty.eq_of_beq hb
          subst this
          obtain ⟨⟨hk, h0, h1⟩, h⟩ := h
          have hv := hx.2 _ _ hob
          obtain ⟨c0, hr⟩ := deep_row hs hd hk hv
          have hi : i.toNat < (s.get xs[kk]).length := by rw [nth_eq (List.getElem?_eq_getElem hk)] at h1; omega
          obtain ⟨b, o, cap, rfl, us, hus, hrow⟩ := slice_elem (cx := cx) (VR.of_one rfl (slice_eT (spot_t hs).1 hr)) hi
          obtain ⟨top, hs', hl, hget⟩ := hv
          refine ⟨_, _, h, ⟨hx.1, fun t' x' _ => ⟨top, hs', b, o, _, _, hl, hget, rfl⟩⟩, fun w' => ?_⟩
          rw [nth_eq (List.getElem?_eq_getElem hk)] at h1
          rw [run_indexAt hu hsz h0 h1, (spot_t hs).2, Nat.mul_one]
        · exact h.elim
      · exact h.elim
    · exact h.elim
  · exact h.elim
theorem idxVC_rel (hok : TyOK P cx) {O : Avoid} {st : St} {loc : Nat → Loc} {w : World} (g : Good cx.eT X (sit O st loc w)) {t : TypeId} {x : C} {i : Int} {k : IntKind} {K : C → VC} {vx : Value}
    (hx : CR cx.eT (sit O st loc w) x vx) (h : (idxVC cx st t x i K).holds) :
    ∃ c u, (K c).holds ∧ CR cx.eT (sit O st loc w) c u ∧ ∀ w', (Instr.indexAt t vx (.int k i)).run P w' = .ok u w' := by
  unfold idxVC at h
  split at h
  · rename_i e ht
    obtain ⟨te, ii, dd, hu, hf⟩ := und_slice hok ht
    split at h
    · rename_i xs hr
      obtain ⟨⟨h0, h1⟩, h2⟩ := h
      have hi : i.toNat < xs.length := by omega
      obtain ⟨b, o, cap, rfl, us, hus, hrow⟩ := slice_elem (rowD_rel hr hx) hi
      rw [nth_eq (List.getElem?_eq_getElem hi)] at h2
      exact ⟨_, _, h2, ⟨b, _, us, rfl, hus, hrow⟩, fun w' => run_indexAt hu (fit_sizeOf hf) h0 h1 w'⟩
    · split at h
      · rename_i n
        split at h
        · rename_i e' xs hob
          split at h
          · rename_i hb
            have := Ty.eq_of_beq hb
            subst this
            obtain ⟨⟨h0, h1⟩, h2⟩ := h
            rcases (g.obj _ _ hob).2 with ⟨rfl, _, _⟩ | ⟨b, vs, T, cap, hv, hbs, _⟩
            · simp at h1; omega
            rw [hx.2 _ _ hob, hv]
            refine ⟨_, _, h2, ⟨hx.1, fun _ => ⟨b, hbs, rfl⟩⟩, fun w' => ?_⟩
            rw [run_indexAt hu (fit_sizeOf hf) h0 h1 w']
            simp
          · exact h.elim
        · exact h.elim
      · exact deepIdx_rel g hu (fit_sizeOf hf) hx h
      · exact h.elim
  · split at h
    · rename_i len te ht
      have hu := hok.arr t len te ht
      split at h
      · rename_i e n he
        obtain ⟨m, ii, dd, hf, _⟩ := shape_of hok he
        split at h
        · rename_i e' xs hob
          split at h
          · rename_i hb
            have := Ty.eq_of_beq hb
            subst this
            obtain ⟨⟨h0, h1, h3⟩, h2⟩ := h
            obtain ⟨_, b, vs, T, hv, hbs, _⟩ := g.obj _ _ hob
            rw [hx.2 _ _ hob, hv]
            refine ⟨_, _, h2, ⟨hx.1, fun _ => ⟨b, hbs, rfl⟩⟩, fun w' => ?_⟩
            rw [run_indexAt_arr hu (fit_sizeOf hf) h0 h1 w']
            simp
          · exact h.elim
        · exact h.elim
      · exact h.elim
    · exact h.elim
theorem offOf_get {f : TypeId → Ty → Bool} : ∀ {fs : List Field} {off : Nat} {ty : Ty} {k o : Nat}, fieldsFit f fs off ty = true → offOf ty k = some o →
    ∃ fd u, fs[k]? = some fd ∧ fd.offset = off + o ∧ f fd.type u = true ∧ 0 < u.size := by
  intro fs
  induction fs with
  | nil => intro off ty k o h h'; cases ty <;> simp [fieldsFit] at h; cases k <;> simp [offOf] at h'
  | cons g gs ih =>
    intro off ty k o h h'
    cases ty <;> simp only [fieldsFit, Bool.false_eq_true] at h
    rename_i a b
    simp only [Bool.and_eq_true] at h
    obtain ⟨⟨⟨h1, h2⟩, h3⟩, h4⟩ := h
    cases k with
    | zero =>
      simp [offOf] at h'
      exact ⟨g, a, rfl, by have := Nat.eq_of_beq_eq_true h1; omega, h2, blt_lt h3⟩
    | succ k =>
      simp only [offOf] at h'
      split at h'
      · rename_i o' ho'
        cases h'
        obtain ⟨fd, u, k1, k2, k3, k4⟩ := ih h4 ho'
        exact ⟨fd, u, by simpa using k1, by omega, k3, k4⟩
      · cases h'
theorem comp_rel : ∀ {t : Ty} {x : D t} {k : Nat} {u : Ty} {z : D u} {o : Nat} {A : Avoid} {w : World} {vs : List Value}, comp t x k = some ⟨u, z⟩ → offOf t k = some o → R cx.eT t x A w vs →
    ∃ us, R cx.eT u z A w us ∧ ∀ j v, us[j]? = some v → vs[o + j]? = some v := by
  intro t
  induction t with
  | prod a b iha ihb =>
    intro x k u z o A w vs h h' hr
    obtain ⟨u1, u2, rfl, r1, r2⟩ := hr
    cases k with
    | zero =>
      simp [comp] at h; simp [offOf] at h'
      obtain ⟨rfl, h⟩ := h
      cases h
      subst h'
      refine ⟨u1, r1, fun j v hj => ?_⟩
      rw [Nat.zero_add, List.getElem?_append_left (by
        rcases Nat.lt_or_ge j u1.length with h | h
        · exact h
        · rw [List.getElem?_eq_none h] at hj; cases hj)]
      exact hj
    | succ k =>
      simp only [comp] at h
      simp only [offOf] at h'
      split at h'
      · rename_i o' ho'
        cases h'
        obtain ⟨us, k1, k2⟩ := ihb h ho' r2
        refine ⟨us, k1, fun j v hj => ?_⟩
        have := k2 j v hj
        rw [Nat.add_assoc, List.getElem?_append_right (by rw [r1.length]; omega), r1.length]
        rw [show a.size + (o' + j) - a.size = o' + j from by omega]
        exact this
      · cases h'
  | _ => intro x k u z o A w vs h; cases k <;> simp [comp] at h
theorem run_fieldAt {t : TypeId} {ty : Ty} {k off : Nat} (hok : TyOK P cx) (ht : look cx.τ t = some ty) (ho : offOf ty k = some off) {b o : Nat} (w : World) :
    (Instr.fieldAt t (.pointer (some ⟨b, o, none⟩)) k).run P w = .ok (.pointer (some ⟨b, o + off, none⟩)) w := by
  obtain ⟨m, i, d, hf, hs⟩ := shape_of hok ht
  have : ∃ fs, d = .struct fs ∧ fieldsFit (fits P m) fs.toList 0 ty = true := by
    cases ty <;> (try (cases k <;> simp [offOf] at ho; done))
    cases d <;> simp [shapeFit] at hs
    exact ⟨_, rfl, hs⟩
  obtain ⟨fs, rfl, hff⟩ := this
  obtain ⟨fd, u, h1, h2, h3, h4⟩ := offOf_get hff ho
  obtain ⟨m', i', d', _, hf', _⟩ := fits_out h3
  have h1' : fs[k]? = some fd := by rw [← Array.getElem?_toList]; exact h1
  have hne : u.size ≠ 0 := by omega
  simp [Instr.fieldAt, run_underlying hf.und, h1', Instr.sureAddr, fieldPlace, fit_sizeOf hf', hne, Addr.add_lit, h2]
theorem fieldVC_rel (hok : TyOK P cx) {O : Avoid} {st : St} {loc : Nat → Loc} {w : World} {t : TypeId} {x : C} {f : Nat} {K : C → VC} {vx : Value}
    (hx : CR cx.eT (sit O st loc w) x vx) (h : (fieldVC cx st t x f K).holds) :
    ∃ c u, (K c).holds ∧ CR cx.eT (sit O st loc w) c u ∧ ∀ w', (Instr.fieldAt t vx f).run P w' = .ok u w' := by
  unfold fieldVC at h
  split at h
  · rename_i ty ht
    split at h
    · rename_i off u y ho
      split at h
      · rename_i hb
        split at h
        · rename_i u' z hz
          obtain ⟨b, o, us, rfl, hr, hrow⟩ := hx
          obtain ⟨us', k1, k2⟩ := comp_rel hz ho (castD_rel hb y hr)
          refine ⟨_, _, h, ⟨b, o + off, us', rfl, k1, fun j v hj => ?_⟩, fun w' => run_fieldAt hok ht ho w'⟩
          have := hrow _ _ (k2 j v hj)
          rw [Nat.add_assoc]; exact this
        · exact h.elim
      · exact h.elim
    · rename_i off n o ho
      split at h
      · rename_i T cs hob
        obtain ⟨b, h1, rfl⟩ := hx.2 _ _ hob
        exact ⟨_, _, h, ⟨hx.1, fun T' cs' _ => ⟨b, h1, rfl⟩⟩, fun w' => run_fieldAt hok ht ho w'⟩
      · exact h.elim
    · rename_i off n u i o ho
      have fin : (∃ xs, look st.objs n = some (.mrow u xs) ∨ look st.objs n = some (.arr u xs)) → (K (.eref n u i (o + off))).holds →
          ∃ c u, (K c).holds ∧ CR cx.eT (sit O st loc w) c u ∧ ∀ w', (Instr.fieldAt t vx f).run P w' = .ok u w' := by
        intro hl hk
        obtain ⟨b, h1, rfl⟩ := hx.2 hl
        exact ⟨_, _, hk, ⟨hx.1, fun _ => ⟨b, h1, rfl⟩⟩, fun w' => by rw [run_fieldAt hok ht ho w']; simp [Nat.add_assoc]⟩
      split at h
      · rename_i u' xs hob
        split at h
        · rename_i hb; have := Ty.eq_of_beq hb; subst this; exact fin ⟨_, .inl hob⟩ h
        · exact h.elim
      · rename_i u' xs hob
        split at h
        · rename_i hb; have := Ty.eq_of_beq hb; subst this; exact fin ⟨_, .inr hob⟩ h
        · exact h.elim
      · exact h.elim
    · rename_i off n e i o ho
      split at h
      · rename_i t' x' hob
        obtain ⟨b, k, c, hs', hl, rfl⟩ := hx.2 _ _ hob
        exact ⟨_, _, h, ⟨hx.1, fun t'' x'' _ => ⟨b, k, c, hs', hl, rfl⟩⟩, fun w' => by rw [run_fieldAt hok ht ho w']; simp [Nat.add_assoc]⟩
      · exact h.elim
    · exact h.elim
  · exact h.elim
theorem deepLoad_rel {O : Avoid} {st : St} {loc : Nat → Loc} {w : World} (g : Good cx.eT X (sit O st loc w)) {t : TypeId} {ty : Ty} {ii : TypeInfo} {dd : TypeDesc} {f : TypeId → Ty → Bool} (hf : Fit P t ty ii dd) (hsf : shapeFit f ty dd = true)
    {n : Nat} {p : XP} {K : SV → VC} {vx : Value} (hx : CR cx.eT (sit O st loc w) (.xd n p) vx) (h : (deepLoad st n p ty K).holds) :
    ∃ c u, (K c).holds ∧ SVR cx.eT (sit O st loc w) c u ∧ ∀ w', Below w.heap.size w w' → (Instr.loadAt t vx).run P w' = .ok u w' := by
  unfold deepLoad at h
  split at h
  · rename_i e' xs hob
    have hd := X.deep.1 (g.obj n _ hob).2
    have hv := hx.2 _ _ hob
    split at h
    · rename_i e i o
      split at h
      · rename_i s hb hs
        have := Ty.eq_of_beq hb
        subst this
        have cells : ∀ (hi : i < List.length xs), ∃ b c k us hs' top, (loc n).v = .tuple (top :: hs').toArray ∧ hs'[i]? = some k ∧ us[s.off]? = some k ∧ R 0 e' xs[i] (Only c) w us ∧ vx = .pointer (some ⟨b, i * e'.size + o, none⟩) ∧
            ∀ j u, us[o + j]? = some u → w.cell? ⟨b, i * e'.size + o + j, none⟩ = some u := by
          intro hi
          obtain ⟨d⟩ := deep_at hs hd (by omega)
          obtain ⟨b, k0, c0, hs', hl, hvx⟩ := hv
          have hl := d.lv.symm.trans hl
          simp at hl
          obtain ⟨ht, rfl⟩ := hl
          rw [d.tv] at ht
          simp at ht
          obtain ⟨c, k, us, k1, k2, k3, k4, k5⟩ := d.rows.row i _ (List.getElem?_eq_getElem hi)
          refine ⟨b, c, k, us, d.hs, d.top, d.lv, k2, k3, k4, hvx, fun j u hj => ?_⟩
          rw [← ht.1, cell_of_row w d.b _ d.vs d.T (0, 0) d.heap, Nat.add_assoc]
          exact k5 _ _ hj
        split at h
        · rename_i hb2
          simp only [Bool.and_eq_true] at hb2
          have ho := Nat.eq_of_beq_eq_true hb2.1
          have hty := Ty.eq_of_beq hb2.2
          subst hty
          subst ho
          obtain ⟨hi, h⟩ := h
          obtain ⟨b, c, k, us, hs', top, hl, k2, k3, k4, hvx, hcell⟩ := cells hi
          obtain ⟨v', r1, r2⟩ := run_load_cells hf hsf (b := b) (o := i * e'.size + s.off) (us := [k]) rfl w (by
            intro j u hj
            cases j with
            | zero => simp at hj; subst hj; exact hcell 0 _ k3
            | succ j => simp at hj)
          simp [Ty.one] at r2
          subst r2
          subst hvx
          exact ⟨_, _, h, ⟨hx.1, fun t' x' _ => ⟨top, hs', hl, k2⟩⟩, r1⟩
        · split at h
          · rename_i hpl
            obtain ⟨hi, h⟩ := h
            rw [nth_eq (List.getElem?_eq_getElem hi)] at h
            split at h
            · rename_i z hz
              obtain ⟨b, c, k, us, hs', top, hl, k2, k3, k4, hvx, hcell⟩ := cells hi
              have hz' := at?_rel hz k4
              obtain ⟨v', r1, r2⟩ := run_load_cells hf hsf (b := b) (o := i * e'.size + o) (us := (us.drop o).take ty.size) hz'.length w (by
                intro j u hj
                rw [List.getElem?_take] at hj
                split at hj
                · rw [List.getElem?_drop] at hj; exact hcell j _ hj
                · cases hj)
              subst hvx
              exact ⟨_, v', h, VR_of_cells (plain_eT hpl hz') r2, r1⟩
            · exact h.elim
          · exact h.elim
      · exact h.elim
    · rename_i i j
      split at h
      · rename_i s hs
        split at h
        · rename_i hb
          have := Ty.eq_of_beq hb
          subst this
          obtain ⟨⟨hi, hj⟩, h⟩ := h
          obtain ⟨top, hs', b, o, k0, c0, hl, hget, hvx⟩ := hv
          obtain ⟨c, hr⟩ := deep_row hs hd hi ⟨top, hs', hl, hget⟩
          rw [nth_eq (List.getElem?_eq_getElem hi)] at h hj
          rw [nth_eq (List.getElem?_eq_getElem hj)] at h
          obtain ⟨b', o', cap', hv', us, hus, hrow⟩ := slice_elem (cx := cx) (VR.of_one rfl (slice_eT (spot_t hs).1 hr)) hj
          simp at hv'
          obtain ⟨⟨rfl, rfl⟩, _, _⟩ := hv'
          rw [(spot_t hs).2, Nat.mul_one] at hrow
          obtain ⟨v', r1, r2⟩ := run_load_cells hf hsf (b := b) (o := o + j) hus.length w (fun j' v' hj' => (hrow j' v' hj').1)
          subst hvx
          exact ⟨_, v', h, VR_of_cells (plain_eT (spot_t hs).1 hus) r2, r1⟩
        · exact h.elim
      · exact h.elim
    · exact h.elim
  · exact h.elim
theorem loadVC_rel (hok : TyOK P cx) {O : Avoid} {st : St} {loc : Nat → Loc} {w : World} (g : Good cx.eT X (sit O st loc w)) {t : TypeId} {x : C} {K : SV → VC} {vx : Value}
    (hx : CR cx.eT (sit O st loc w) x vx) (h : (loadVC cx st t x K).holds) :
    ∃ c u, (K c).holds ∧ SVR cx.eT (sit O st loc w) c u ∧ ∀ w', Below w.heap.size w w' → (Instr.loadAt t vx).run P w' = .ok u w' := by
  unfold loadVC at h
  split at h
  · rename_i ty ht
    obtain ⟨m, i, d, hf, hs⟩ := shape_of hok ht
    have elem : ∀ {n : Nat} {u' : Ty} {xs : List (D u')} {ix o b : Nat} {vs : Array Value} {T : TypeId}, vx = .pointer (some ⟨b, ix * u'.size + o, none⟩) → w.heap[b]? = some (.cells vs T (0, 0)) →
        Elems cx.eT (sit O st loc w) u' xs vs → (elemVC u' xs ix o ty K).holds → ∃ c u, (K c).holds ∧ SVR cx.eT (sit O st loc w) c u ∧ ∀ w', Below w.heap.size w w' → (Instr.loadAt t vx).run P w' = .ok u w' := by
      intro n u' xs ix o b vs T hv hb he h
      obtain ⟨hlt, h⟩ := h
      have hget := List.getElem?_eq_getElem hlt
      rw [nth_eq hget] at h
      obtain ⟨us, hr, hus⟩ := he _ _ hget
      split at h
      · rename_i z hz
        have hz' := at?_rel hz hr
        have hlen := hz'.length
        obtain ⟨v, h1, h2⟩ := run_load_cells hf hs (b := b) (o := ix * u'.size + o) (us := (us.drop o).take ty.size) hlen w (by
          intro j v hj
          rw [List.getElem?_take] at hj
          split at hj
          · rw [List.getElem?_drop] at hj
            have := hus _ _ hj
            rw [show ix * u'.size + o + j = ix * u'.size + (o + j) from by omega, cell_of_row w b _ vs T (0, 0) hb]
            exact this
          · cases hj)
        subst hv
        exact ⟨_, v, h, VR_of_cells hz' h2, h1⟩
      · exact h.elim
    split at h
    · rename_i u y
      split at h
      · rename_i hb
        obtain ⟨b, o, us, rfl, hr, hrow⟩ := hx
        have hr := castD_rel hb y hr
        obtain ⟨v, h1, h2⟩ := run_load_cells hf hs hr.length w (fun j v hj => (hrow j v hj).1)
        exact ⟨_, v, h, VR_of_cells hr h2, h1⟩
      · exact h.elim
    · rename_i n o
      split at h
      · rename_i T cs hob
        obtain ⟨b0, hb0, rfl⟩ := hx.2 _ _ hob
        obtain ⟨_, b, vs, hv, hbs, hheap, hcs⟩ := g.obj _ _ hob
        rw [hb0] at hv
        cases hv
        have cell : ∀ j v, vs[j]? = some v → w.cell? ⟨b0, j, none⟩ = some v := by
          intro j v hj
          rw [cell_of_row w b0 j vs.toArray T (0, 0) hheap]
          simpa using hj
        split at h
        · rename_i ho
          split at h
          · rename_i c hc
            obtain ⟨v, hv, hcr, hov⟩ := hcs.get hc
            have hl : [v].length = ty.size := by rw [Ty.size_one ho]; rfl
            obtain ⟨v', h1, h2⟩ := run_load_cells hf hs (b := b0) (o := o) hl w (by
              intro j u hj
              cases j with
              | zero => simp at hj; subst hj; exact cell _ _ hv
              | succ j => simp at hj)
            rw [if_pos ho] at h2
            simp at h2; subst h2
            exact ⟨_, _, h, hcr, h1⟩
          · exact h.elim
        · rename_i ho
          split at h
          · rename_i hle
            have hle := Nat.le_of_ble_eq_true hle
            have hlen := hcs.length
            have hl : ((vs.drop o).take ty.size).length = ty.size := by
              simp only [List.length_take, List.length_drop]; omega
            obtain ⟨v', h1, h2⟩ := run_load_cells hf hs (b := b0) (o := o) hl w (by
              intro j u hj
              rw [List.getElem?_take] at hj
              split at hj
              · rw [List.getElem?_drop] at hj; exact cell _ _ hj
              · cases hj)
            rw [if_neg (by simp [ho])] at h2
            exact ⟨_, _, h, ⟨_, h2, (hcs.drop o).take _⟩, h1⟩
          · exact h.elim
      · exact h.elim
    · rename_i n u ix o
      split at h
      · rename_i u' xs hob
        split at h
        · rename_i hb
          have := Ty.eq_of_beq hb
          subst this
          obtain ⟨b, hb1, hv⟩ := hx.2 ⟨_, .inl hob⟩
          rcases (g.obj _ _ hob).2 with ⟨_, _, hbs⟩ | ⟨b', vs, T, cap, _, hbs, hheap, _, _, _, he⟩
          · rw [hbs] at hb1; cases hb1
          rw [hbs] at hb1
          cases hb1
          exact elem (n := n) hv hheap he h
        · exact h.elim
      · rename_i u' xs hob
        split at h
        · rename_i hb
          have := Ty.eq_of_beq hb
          subst this
          obtain ⟨b, hb1, hv⟩ := hx.2 ⟨_, .inr hob⟩
          obtain ⟨_, b', vs, T, _, hbs, hheap, _, he⟩ := g.obj _ _ hob
          rw [hbs] at hb1
          cases hb1
          exact elem (n := n) hv hheap he h
        · exact h.elim
      · exact h.elim
    · exact deepLoad_rel g hf hs hx h
    · exact h.elim
  · exact h.elim
theorem optInt_rel {S : Sit} {st : St} {a : Act} (he : EnvR cx.eT S st.env a) {x : Option Operand} {dflt r : Int} (h : optInt st x dflt = some r) :
    (x = none ∧ r = dflt) ∨ ∃ o k, x = some o ∧ a.eval o = .int k r := by
  cases x with
  | none => simp [optInt] at h; exact .inl ⟨rfl, h.symm⟩
  | some o =>
    obtain ⟨k, hk, _⟩ := asIntC_rel h (ev1_rel he o)
    exact .inr ⟨o, k, rfl, hk⟩
theorem run_bounds {isSlice : Bool} {len cap : Nat} {lo hi : Option Value} {l h : Int} (hlo : (lo = none ∧ l = 0) ∨ ∃ k, lo = some (.int k l)) (hhi : (hi = none ∧ h = len) ∨ ∃ k, hi = some (.int k h))
    (h0 : 0 ≤ l) (h1 : l ≤ h) (h2 : h ≤ len) (h3 : len ≤ cap) (w : World) : (Instr.sliceBounds isSlice len cap lo hi none).run P w = .ok (l.toNat, h.toNat, cap) w := by
  have hb : ∀ (k : IntKind) (n : Int) (y : Nat) (code : BoundsCode), 0 ≤ n → n ≤ y → (Instr.sliceBound (.int k n) y code).run P w = .ok n.toNat w := by
    intro k n y code hn hy
    simp [Instr.sliceBound, asIntOf, hn, hy]
  have e1 : (h.toNat : Int) = h := Int.toNat_of_nonneg (by omega)
  rcases hlo with ⟨rfl, rfl⟩ | ⟨kl, rfl⟩ <;> rcases hhi with ⟨rfl, rfl⟩ | ⟨kh, rfl⟩
  · simp [Instr.sliceBounds]
  · simp [Instr.sliceBounds, hb kh h cap _ (by omega) (by omega)]
  · simp [Instr.sliceBounds, hb kl l len _ h0 (by omega)]
  · simp [Instr.sliceBounds, hb kh h cap _ (by omega) (by omega), hb kl l h.toNat _ h0 (by omega)]
theorem slice_rel {e : Ty} {xs : List (D e)} {A : Avoid} {w : World} {v : Value} {t te : TypeId} (hu : P.underlying t = some (.slice te)) (hs : ∀ w, (sizeOf te).run P w = .ok e.size w)
    (hv : VR cx.eT (.slice e) xs A w v) {lo hi : Option Value} {l h : Int} (hlo : (lo = none ∧ l = 0) ∨ ∃ k, lo = some (.int k l)) (hhi : (hi = none ∧ h = xs.length) ∨ ∃ k, hi = some (.int k h))
    (h0 : 0 ≤ l) (h1 : l ≤ h) (h2 : h ≤ xs.length) :
    ∃ u, (∀ w', (Instr.sliceAt t v lo hi none).run P w' = .ok u w') ∧ VR cx.eT (.slice e) ((xs.take h.toNat).drop l.toNat) A w u := by
  obtain ⟨u, hu', hl, hr⟩ := VR.one rfl hv
  simp at hu'; subst hu'
  have hlen : ((xs.take h.toNat).drop l.toNat).length = h.toNat - l.toNat := by
    simp only [List.length_drop, List.length_take]; omega
  rcases hr with ⟨rfl, a, c, rfl⟩ | ⟨b, o, cap, rfl, hc, hr⟩
  · simp at h2
    have : h = 0 := by omega
    have : l = 0 := by omega
    have hsome : (∃ u, (∀ w', (Instr.sliceAt t (.slice a 0 c) lo hi none).run P w' = .ok (.slice u 0 c) w')) := by
      have hb := fun w' => run_bounds (P := P) (isSlice := true) (len := 0) (cap := c) hlo (by simpa using hhi) h0 h1 (by simpa using h2) (Nat.zero_le _) w'
      cases a with
      | none =>
        refine ⟨none, fun w' => ?_⟩
        simp [Instr.sliceAt, Instr.slice, run_underlying hu, hb, hs]
        omega
      | some a =>
        refine ⟨some a, fun w' => ?_⟩
        simp [Instr.sliceAt, Instr.slice, run_underlying hu, hb, hs, Addr.add, *]
    obtain ⟨u, hsome⟩ := hsome
    refine ⟨.slice u 0 c, hsome, ?_⟩
    exact VR.of_one rfl (by rw [show (([] : List (D e)).take h.toNat).drop l.toNat = [] from by simp]; exact ⟨_, rfl, by simp, .inl ⟨rfl, u, c, rfl⟩⟩)
  · have hb := fun w' => run_bounds (P := P) (isSlice := true) (len := xs.length) (cap := cap) hlo hhi h0 h1 h2 hc w'
    refine ⟨.slice (if cap = l.toNat then some ⟨b, o, none⟩ else some ⟨b, o + l.toNat * e.size, none⟩) (h.toNat - l.toNat) (cap - l.toNat), fun w' => ?_, VR.of_one rfl ⟨_, rfl, by omega, ?_⟩⟩
    · simp [Instr.sliceAt, Instr.slice, run_underlying hu, hb, hs, Addr.add_lit]
    · rw [hlen]
      by_cases hcl : cap = l.toNat
      · refine .inr ⟨b, o, cap - l.toNat, by rw [if_pos hcl], by omega, fun i y hy => ?_⟩
        have : i < ((xs.take h.toNat).drop l.toNat).length := by
          rcases Nat.lt_or_ge i ((xs.take h.toNat).drop l.toNat).length with hh | hh
          · exact hh
          · rw [List.getElem?_eq_none hh] at hy; cases hy
        omega
      · refine .inr ⟨b, o + l.toNat * e.size, cap - l.toNat, by rw [if_neg hcl], by omega, fun i y hy => ?_⟩
        rw [List.getElem?_drop, List.getElem?_take] at hy
        split at hy
        · obtain ⟨us, k1, k2⟩ := hr _ _ hy
          refine ⟨us, k1, ?_⟩
          rw [show o + l.toNat * e.size + i * e.size = o + (l.toNat + i) * e.size from by rw [Nat.add_mul]; omega]
          exact k2
        · cases hy
theorem run_sub {t te : TypeId} {size : Nat} (hu : P.underlying t = some (.slice te)) (hs : ∀ w, (sizeOf te).run P w = .ok size w) {b len cap : Nat} (hc : len ≤ cap)
    {lo hi : Option Value} {l h : Int} (hlo : (lo = none ∧ l = 0) ∨ ∃ k, lo = some (.int k l)) (hhi : (hi = none ∧ h = len) ∨ ∃ k, hi = some (.int k h)) (h0 : 0 ≤ l) (h1 : l ≤ h) (h2 : h ≤ len) (w' : World) :
    (Instr.sliceAt t (.slice (some ⟨b, 0, none⟩) len cap) lo hi none).run P w' = .ok (.slice (if cap = l.toNat then some ⟨b, 0, none⟩ else some ⟨b, l.toNat * size, none⟩) (h.toNat - l.toNat) (cap - l.toNat)) w' := by
  have hb := fun w' => run_bounds (P := P) (isSlice := true) (len := len) (cap := cap) hlo hhi h0 h1 h2 hc w'
  simp [Instr.sliceAt, Instr.slice, run_underlying hu, hb, hs, Addr.add_lit]
theorem run_sub0 {t te : TypeId} {size : Nat} (hu : P.underlying t = some (.slice te)) (hs : ∀ w, (sizeOf te).run P w = .ok size w) {a : Option Addr}
    {lo hi : Option Value} {l h : Int} (hlo : (lo = none ∧ l = 0) ∨ ∃ k, lo = some (.int k l)) (hhi : (hi = none ∧ h = 0) ∨ ∃ k, hi = some (.int k h)) (h0 : 0 ≤ l) (h1 : l ≤ h) (h2 : h ≤ 0) :
    ∃ u, ∀ w', (Instr.sliceAt t (.slice a 0 0) lo hi none).run P w' = .ok (.slice u 0 0) w' := by
  have : h = 0 := by omega
  have : l = 0 := by omega
  have hb := fun w' => run_bounds (P := P) (isSlice := true) (len := 0) (cap := 0) hlo (by simpa using hhi) h0 h1 (by simpa using h2) (Nat.zero_le _) w'
  cases a with
  | none =>
    refine ⟨none, fun w' => ?_⟩
    simp [Instr.sliceAt, Instr.slice, run_underlying hu, hb, hs]
    omega
  | some a =>
    refine ⟨some a, fun w' => ?_⟩
    simp [Instr.sliceAt, Instr.slice, run_underlying hu, hb, hs, Addr.add, *]
theorem sliceVC_rel (hok : TyOK P cx) {O : Avoid} {st : St} {loc : Nat → Loc} {w : World} {a : Act} (g : Good cx.eT X (sit O st loc w)) (he : EnvR cx.eT (sit O st loc w) st.env a) {t : TypeId} {x : C} {lo hi : Option Operand} {K : C → VC} {vx : Value}
    (hx : CR cx.eT (sit O st loc w) x vx) (h : (sliceVC cx st t x lo hi K).holds) :
    ∃ c u, (K c).holds ∧ CR cx.eT (sit O st loc w) c u ∧ ∀ w', (Instr.sliceAt t vx (lo.map a.eval) (hi.map a.eval) none).run P w' = .ok u w' := by
  have conv : ∀ {x : Option Operand} {dflt r : Int}, optInt st x dflt = some r → (x.map a.eval = none ∧ r = dflt) ∨ ∃ k, x.map a.eval = some (.int k r) := by
    intro x dflt r hr
    rcases optInt_rel he hr with ⟨rfl, h⟩ | ⟨o, k, rfl, h⟩
    · exact .inl ⟨rfl, h⟩
    · exact .inr ⟨k, by simp [h]⟩
  unfold sliceVC at h
  split at h
  · rename_i ht
    have hu := und_str hok ht
    split at h
    · rename_i s
      obtain ⟨rfl, hl⟩ := str_rel.1 hx
      split at h
      · rename_i l hh e1 e2
        obtain ⟨⟨h0, h1, h2⟩, h⟩ := h
        refine ⟨_, .string ⟨((s.take hh.toNat).drop l.toNat).toArray⟩, h, str_rel.2 ⟨rfl, ?_⟩, fun w' => ?_⟩
        · simp only [List.length_drop, List.length_take]; omega
        · have hb := run_bounds (P := P) (isSlice := false) (len := s.length) (cap := s.length) (conv e1) (conv e2) h0 h1 h2 (Nat.le_refl _) w'
          have hsz : (⟨s.toArray⟩ : ByteArray).size = s.length := rfl
          simp only [Instr.sliceAt, Sem.run_bind, run_underlying hu, Result.andThen_ok, Instr.slice, Option.isSome_none, Bool.false_eq_true, if_false, hsz, hb, Sem.run_pure]
          congr 2
          have : (⟨s.toArray⟩ : ByteArray).extract l.toNat hh.toNat = ⟨(s.toArray).extract l.toNat hh.toNat⟩ := by
            apply ByteArray.ext
            simp
          rw [this]
          congr 1
          apply Array.toList_inj.1
          simp [List.extract_eq_take_drop, List.drop_take]
      · exact h.elim
    · exact h.elim
  · rename_i e ht
    obtain ⟨te, ii, dd, hu, hf⟩ := und_slice hok ht
    split at h
    · rename_i xs hr
      split at h
      · rename_i l hh e1 e2
        obtain ⟨⟨h0, h1, h2⟩, h⟩ := h
        obtain ⟨u, k1, k2⟩ := slice_rel hu (fit_sizeOf hf) (rowD_rel hr hx) (conv e1) (conv e2) h0 h1 h2
        exact ⟨_, u, h, k2, k1⟩
      · exact h.elim
    · split at h
      · rename_i n
        split at h
        · rename_i e' xs hob
          split at h
          · rename_i l hh hb e1 e2
            have := Ty.eq_of_beq hb
            subst this
            obtain ⟨⟨h0, h1, h2⟩, h⟩ := h
            have hv := hx.2 _ _ hob
            rcases (g.obj _ _ hob).2 with ⟨rfl, ⟨a0, ha⟩, _⟩ | ⟨b, vs, T, cap, hv2, hbs, _, _, hc, _⟩
            · obtain ⟨u, hr⟩ := run_sub0 (P := P) hu (fit_sizeOf hf) (a := a0) (conv e1) (conv e2) h0 h1 (by simpa using h2)
              rw [hv, ha]
              refine ⟨_, _, h, ⟨hx.1, fun xs' _ => .inl ⟨?_, _, _, rfl⟩⟩, hr⟩
              simp at h2; omega
            · rw [hv, hv2]
              refine ⟨_, _, h, ⟨hx.1, fun xs' _ => ?_⟩, fun w' => run_sub (P := P) hu (fit_sizeOf hf) hc (conv e1) (conv e2) h0 h1 h2 w'⟩
              by_cases hcl : cap = l.toNat
              · exact .inl ⟨by omega, _, _, by rw [show hh.toNat - l.toNat = 0 by omega]⟩
              · exact .inr ⟨b, _, hbs, by rw [if_neg hcl]⟩
          · exact h.elim
        · exact h.elim
      · exact h.elim
  · exact h.elim
/-- What 'readVC' says of an operation is so. -/
theorem readVC_sound (hok : TyOK P cx) {O : Avoid} {st : St} {loc : Nat → Loc} {w : World} {a : Act} (g : Good cx.eT X (sit O st loc w)) (he : EnvR cx.eT (sit O st loc w) st.env a)
    {o : Oper} {K : SV → VC} (h : (readVC cx st o.op K).holds) :
    ∃ sv v, (K sv).holds ∧ SVR cx.eT (sit O st loc w) sv v ∧ (execOp a.eval o).run P w = .ok (.value v) w := by
  unfold readVC at h
  simp only at h
  split at h
  · rename_i t x i hop
    split at h
    · rename_i n hn
      obtain ⟨k, hk, _⟩ := asIntC_rel hn (ev1_rel he i)
      obtain ⟨c, u, h1, h2, h3⟩ := idxVC_rel (P := P) hok g (k := k) (ev1_rel he x) h
      exact ⟨_, u, h1, h2, by simp [execOp, hop, hk, h3]⟩
    · exact h.elim
  · rename_i t x f hop
    obtain ⟨c, u, h1, h2, h3⟩ := fieldVC_rel (P := P) hok (ev1_rel he x) h
    exact ⟨_, u, h1, h2, by simp [execOp, hop, h3]⟩
  · rename_i t x hop
    obtain ⟨c, u, h1, h2, h3⟩ := loadVC_rel (P := P) hok g (ev1_rel he x) h
    exact ⟨_, u, h1, h2, by simp [execOp, hop, h3 w (Below.refl _ _)]⟩
  · rename_i t x lo hi hop
    obtain ⟨c, u, h1, h2, h3⟩ := sliceVC_rel (P := P) hok g he (ev1_rel he x) h
    exact ⟨_, u, h1, h2, by simp [execOp, hop, h3]⟩
  · obtain ⟨sv, v, h1, h2, h3⟩ := pureVC_sound (P := P) hok g he h
    exact ⟨sv, v, h1, h2, h3 w⟩
end
end Go.Vg
