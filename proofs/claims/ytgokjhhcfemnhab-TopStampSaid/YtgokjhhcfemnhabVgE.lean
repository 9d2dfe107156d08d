/- A part of the proof that the law TopStamp holds of the given program: facts that are used there. -/
import Derived.Test.YtgokjhhcfemnhabVg14
namespace Go.Vg
open Go.RowKit
/-! Lists whose elements have rows of their own: made, appended, written. -/
def deepNilVC (cx : Cx) (st : St) (x : Operand) (ty : TypeId) (K : SV → St → VC) : VC :=
  match ev st.env x, look cx.τ ty with
  | .s (.one .nilS), some (.slice e) => match spot e with
    | some _ => K (.s (.one (.xd st.next .top))) (fresh st (.ext 0 (.slice e) []))
    | none => .ff
  | _, _ => .ff
/-- An element with a row of its own, as a list of its own. -/
def deepBuild (cx : Cx) (st : St) (t : TypeId) (v : SV0) (K : SV → St → VC) : VC :=
  match look cx.τ t with
  | some (.slice e) => match spot e, flat0 st e v, Nat.ble e.size 1000 with
    | some s, some cs, true => match cs[s.off]?, packD e (cs.set s.off .nilS) with
      | some (.mrow m), some (y0, []) => match look st.objs m with
        | some (.mrow t' zs) => match h : Ty.beq (.slice t') (.slice s.t) with
          | true => K (.s (.one (.xd st.next .top))) (fresh (dropObj (dropObj st m) m) (.ext 0 (.slice e) [s.put y0 (castD h (a := .slice t') zs)]))
          | false => .ff
        | _ => .ff
      | _, _ => .ff
    | _, _, _ => .ff
  | _ => .ff
def deepApp (cx : Cx) (st : St) (t : TypeId) (n m : Nat) (K : SV → St → VC) : VC :=
  match look cx.τ t, look st.objs n, look st.objs m with
  | some (.slice e), some (.ext 0 (.slice e1) xs), some (.ext 0 (.slice e2) ys) => match h1 : Ty.beq (.slice e1) (.slice e), h2 : Ty.beq (.slice e2) (.slice e), Nat.beq n m with
    | true, true, false => .and (0 < List.length ys ∧ List.length xs + List.length ys ≤ 1000000000)
        (K (.s (.one (.xd st.next .top))) (fresh (dropObj (dropObj st n) m) (.ext 0 (.slice e) (castD h1 (a := .slice e1) xs ++ castD h2 (a := .slice e2) ys))))
    | _, _, _ => .ff
  | _, _, _ => .ff
def deepStore (st : St) (n : Nat) (i j : Nat) (ty : Ty) (v : SV0) (K : SV → St → VC) : VC :=
  match look st.objs n with
  | some (.ext 0 (.slice e) xs) => match spot e with
    | some s => match asD0 s.t v, Ty.beq s.t ty with
      | some z, true => .and (i < List.length xs ∧ j < (s.get (nth e xs i)).length) (K (.s (.one .any)) (setObj st n (.ext 0 (.slice e) (List.set xs i (s.put (nth e xs i) ((s.get (nth e xs i)).set j z))))))
      | _, _ => .ff
    | none => .ff
  | _ => .ff
section
variable {X : Ext} {P : Program} {cx : Cx}
theorem drop2_ob (st : St) (n m k : Nat) (oc : OC) (h : look (dropObj (dropObj st n) m).objs k = some oc) : k ≠ n ∧ k ≠ m ∧ look st.objs k = some oc := by
  simp only [dropObj] at h
  rw [look_del] at h
  split at h
  · cases h
  · rename_i h1
    rw [look_del] at h
    split at h
    · cases h
    · rename_i h2; exact ⟨fun e => h2 e.symm, fun e => h1 e.symm, h⟩
/-- Two things become one. -/
theorem merge_step {O : Avoid} {st : St} {loc : Nat → Loc} {w w' : World} (g : Good cx.eT X (sit O st loc w)) (hO : OIn O w) (n m : Nat) {oc : OC} {l : Loc}
    (hos : w'.os = w.os) (hout : w'.output = w.output) (hsize : w.heap.size ≤ w'.heap.size)
    (hlo : ∀ k oc', (k = n ∨ k = m) → look st.objs k = some oc' → oc'.lo = 0)
    (hb : ∀ b, b < w.heap.size → (∀ k oc', (k = n ∨ k = m) → look st.objs k = some oc' → b ∉ (loc k).bs) → w'.heap[b]? = w.heap[b]?)
    (hl : ∀ b ∈ l.bs, (∃ k oc', (k = n ∨ k = m) ∧ look st.objs k = some oc' ∧ b ∈ (loc k).bs) ∨ w.heap.size ≤ b) :
    Tr (sit O st loc w) (sit O (fresh (dropObj (dropObj st n) m) oc) (updLoc loc st.next l) w') ∧
      (OR cx.eT X (sit O (fresh (dropObj (dropObj st n) m) oc) (updLoc loc st.next l) w') l oc → Good cx.eT X (sit O (fresh (dropObj (dropObj st n) m) oc) (updLoc loc st.next l) w')) := by
  have hob : ∀ k oc', (sit O (fresh (dropObj (dropObj st n) m) oc) (updLoc loc st.next l) w').ob k = some oc' → (k = st.next ∧ oc' = oc) ∨ (k ≠ st.next ∧ k ≠ n ∧ k ≠ m ∧ look st.objs k = some oc') := by
    intro k oc' h
    rw [sit_fresh_ob] at h
    split at h
    · rename_i e; cases h; exact .inl ⟨e.symm, rfl⟩
    · rename_i e; obtain ⟨h1, h2, h3⟩ := drop2_ob st n m k oc' h; exact .inr ⟨fun e' => e e'.symm, h1, h2, h3⟩
  have hloc : ∀ k, k ≠ st.next → (updLoc loc st.next l) k = loc k := fun k h => by simp only [updLoc]; rw [if_neg (fun e => h e.symm)]
  have hlocn : (updLoc loc st.next l) st.next = l := by simp [updLoc]
  have hkeep : ∀ k oc', k ≠ n → k ≠ m → look st.objs k = some oc' → ∀ b ∈ (loc k).bs, w'.heap[b]? = w.heap[b]? := by
    intro k oc' h1 h2 h3 b hbk
    refine hb b ((g.obj k oc' h3).2.inside b hbk) fun k' oc'' hk' hk'' hbk' => ?_
    have := g.apart k k' oc' oc'' b h3 hk'' hbk hbk'
    rcases hk' with rfl | rfl <;> contradiction
  have hnewA : ∀ b o, b < w.heap.size → b ∈ l.bs → (sit O st loc w).A b o := by
    intro b o hlt hbl
    rcases hl b hbl with ⟨k, oc', hk, h1, h2⟩ | h
    · exact .inr ⟨k, oc', h1, h2, by rw [hlo k oc' hk h1]; exact Nat.zero_le _⟩
    · omega
  have ht : Tr (sit O st loc w) (sit O (fresh (dropObj (dropObj st n) m) oc) (updLoc loc st.next l) w') := {
    O := rfl
    next := by show st.next ≤ st.next + 1; omega
    os := hos
    output := hout
    size := hsize
    own := fun b h => by
      obtain ⟨k, oc', h1, h2⟩ := h
      rcases hob k oc' h1 with ⟨rfl, rfl⟩ | ⟨e, e1, e2, h3⟩
      · rw [show (sit O _ (updLoc loc st.next l) w').loc st.next = l from hlocn] at h2
        rcases hl b h2 with ⟨k', oc'', _, h4, h5⟩ | h
        · exact .inl ⟨k', oc'', h4, h5⟩
        · exact .inr h
      · rw [show (sit O _ (updLoc loc st.next l) w').loc k = loc k from hloc k e] at h2
        exact .inl ⟨k, oc', h3, h2⟩
    cell := fun b o v ha hcell => by
      have hlt := World.block_lt_of_cell? w _ hcell
      simp only at hlt
      constructor
      · have : w'.heap[b]? = w.heap[b]? := hb b hlt fun k oc' hk h1 h2 => ha (.inr ⟨k, oc', h1, h2, by rw [hlo k oc' hk h1]; exact Nat.zero_le _⟩)
        show w'.cell? _ = _
        rw [World.cell?_of_block (w := w) (w' := w') (a := ⟨b, o, none⟩) this]; exact hcell
      · rintro (h | ⟨k, oc', h1, h2, h3⟩)
        · exact ha (.inl h)
        · rcases hob k oc' h1 with ⟨rfl, rfl⟩ | ⟨e, e1, e2, h4⟩
          · rw [show (sit O _ (updLoc loc st.next l) w').loc st.next = l from hlocn] at h2
            exact ha (hnewA b o hlt h2)
          · rw [show (sit O _ (updLoc loc st.next l) w').loc k = loc k from hloc k e] at h2
            exact ha (.inr ⟨k, oc', h4, h2, h3⟩)
    block := fun b hlt ho => hb b hlt fun k oc' _ h1 h2 => ho ⟨k, oc', h1, h2⟩
    loc := fun k hlt _ => hloc k (by simp [sit] at hlt; omega)
    kind := fun k oc' hlt h => by
      rcases hob k oc' h with ⟨rfl, rfl⟩ | ⟨e, e1, e2, h3⟩
      · simp [sit] at hlt
      · refine ⟨oc', h3, ?_⟩
        have : (sit O (fresh (dropObj (dropObj st n) m) oc) (updLoc loc st.next l) w').loc k = (sit O st loc w).loc k := hloc k e
        rw [this]
        cases oc' <;> simp [SameKind] }
  refine ⟨ht, fun hor => ⟨fun k oc' h => ?_, fun m1 m2 oc1 oc2 b h1 h2 h3 h4 => ?_, fun k oc' b off h1 h2 => ?_⟩⟩
  · rcases hob k oc' h with ⟨rfl, rfl⟩ | ⟨e, e1, e2, h3⟩
    · exact ⟨by simp [sit, fresh, dropObj], by rw [show (sit O _ (updLoc loc st.next l) w').loc st.next = l from hlocn]; exact hor⟩
    · obtain ⟨k1, k2⟩ := g.obj k oc' h3
      refine ⟨by simp only [sit, fresh, dropObj] at k1 ⊢; omega, ?_⟩
      rw [show (sit O _ (updLoc loc st.next l) w').loc k = (sit O st loc w).loc k from hloc k e]
      exact k2.tr ht (hkeep k oc' e1 e2 h3)
  · have key : ∀ k oc', k ≠ n → k ≠ m → look st.objs k = some oc' → b ∈ l.bs → b ∈ (loc k).bs → False := by
      intro k oc' e1 e2 hk hbl hbk
      rcases hl b hbl with ⟨k', oc'', hk', h5, h6⟩ | h
      · have := g.apart k k' oc' oc'' b hk h5 hbk h6
        rcases hk' with rfl | rfl <;> contradiction
      · have := (g.obj k oc' hk).2.inside b hbk
        simp only [sit] at this; omega
    rcases hob m1 oc1 h1 with ⟨rfl, rfl⟩ | ⟨e, e1, e2, h5⟩ <;> rcases hob m2 oc2 h2 with ⟨rfl, rfl⟩ | ⟨e', e1', e2', h6⟩
    · rfl
    · rw [show (sit O _ (updLoc loc st.next l) w').loc st.next = l from hlocn] at h3
      rw [show (sit O _ (updLoc loc st.next l) w').loc m2 = loc m2 from hloc m2 e'] at h4
      exact (key m2 oc2 e1' e2' h6 h3 h4).elim
    · rw [show (sit O _ (updLoc loc st.next l) w').loc st.next = l from hlocn] at h4
      rw [show (sit O _ (updLoc loc st.next l) w').loc m1 = loc m1 from hloc m1 e] at h3
      exact (key m1 oc1 e1 e2 h5 h4 h3).elim
    · rw [show (sit O _ (updLoc loc st.next l) w').loc m1 = loc m1 from hloc m1 e] at h3
      rw [show (sit O _ (updLoc loc st.next l) w').loc m2 = loc m2 from hloc m2 e'] at h4
      exact g.apart m1 m2 oc1 oc2 b h5 h6 h3 h4
  · rcases hob k oc' h1 with ⟨rfl, rfl⟩ | ⟨e, e1, e2, h3⟩
    · rw [show (sit O _ (updLoc loc st.next l) w').loc st.next = l from hlocn] at h2
      rcases hl b h2 with ⟨k', oc'', _, h5, h6⟩ | h
      · exact g.out k' oc'' b off h5 h6
      · intro hA; have := hO _ _ hA; omega
    · rw [show (sit O _ (updLoc loc st.next l) w').loc k = loc k from hloc k e] at h2
      exact g.out k oc' b off h3 h2
theorem deepNil_sound {O : Avoid} {st : St} {loc : Nat → Loc} {w : World} {a : Act} (g : Good cx.eT X (sit O st loc w)) (hO : OIn O w) (he : EnvR cx.eT (sit O st loc w) st.env a)
    {x : Operand} {ty : TypeId} {K : SV → St → VC} (h : (deepNilVC cx st x ty K).holds) :
    ∃ sv st' loc', (K sv st').holds ∧ st'.env = st.env ∧ Good cx.eT X (sit O st' loc' w) ∧ Tr (sit O st loc w) (sit O st' loc' w) ∧ SVR cx.eT (sit O st' loc' w) sv (a.eval x) := by
  have hx := ev_rel he x
  unfold deepNilVC at h
  split at h
  · rename_i e hl _
    rw [hl] at hx
    split at h
    · rename_i s hs
      obtain ⟨tr1, g1⟩ := fresh_step (oc := .ext 0 (.slice e) []) (l := ⟨.tuple #[.slice none 0 0], []⟩) g hO (Below.refl _ w) (by simp)
      have g1 := g1 (X.deep.2 ⟨s, hs, .slice none 0 0, [], rfl, .inl ⟨rfl, rfl, ⟨none, rfl⟩, rfl⟩⟩)
      refine ⟨_, _, _, h, rfl, g1, tr1, ?_⟩
      rw [show a.eval x = _ from hx]
      refine ⟨by simp [sit, fresh], fun t' x' hy => ?_⟩
      exact ⟨[], by simp [sit, updLoc]⟩
    · exact h.elim
  · exact h.elim
theorem spot_put_set : ∀ {e : Ty} {s : Spot e} {y : D e} {ys : List (D s.t)} {A A' : Avoid} {w w' : World} {us : List Value} {h h0 : Value} {eT : TypeId}, spot e = some s → R eT e y A w (us.set s.off h0) →
    R eT (.slice s.t) ys A' w' [h] → us[s.off]? = some h → R eT e (s.put y ys) A' w' us := by
  intro e
  induction e with
  | slice t _ =>
    intro s y ys A A' w w' us h h0 eT hs hr hy hu
    obtain ⟨_, _, rfl⟩ := spot_slice hs
    obtain ⟨v, hv, h2⟩ := hr
    have hl : us.length = 1 := by have := congrArg List.length hv; simpa using this
    match us, hl with
    | [u], _ => simp at hu; subst hu; exact hy
  | prod a b iha ihb =>
    intro s y ys A A' w w' us h h0 eT hs hr hy hu
    obtain ⟨u1, u2, hv, r1, r2⟩ := hr
    have hl1 := r1.length
    rcases spot_prod hs with ⟨s', h1, hb, rfl⟩ | ⟨s', ha, h1, rfl⟩
    · have hlt := spot_lt h1
      simp only at hv hu
      have e1 : us.set s'.off h0 = (us.take a.size).set s'.off h0 ++ us.drop a.size := by
        conv => lhs; rw [← List.take_append_drop a.size us]
        have hul : s'.off < us.length := getElem?_lt hu
        rw [List.set_append_left _ _ (by rw [List.length_take]; omega)]
      have hlen : us.length = a.size + u2.length := by have := congrArg List.length hv; simp only [List.length_set, List.length_append] at this; omega
      rw [e1] at hv
      obtain ⟨k1, k2⟩ := List.append_inj hv (by rw [List.length_set, List.length_take]; omega)
      subst k1 k2
      refine ⟨us.take a.size, us.drop a.size, (List.take_append_drop _ _).symm, iha h1 r1 hy ?_, r2.of_flat (plain_flat hb)⟩
      rw [List.getElem?_take, if_pos hlt]; exact hu
    · have hlt := spot_lt h1
      simp only at hv hu
      have hul := getElem?_lt hu
      have e1 : us.set (a.size + s'.off) h0 = us.take a.size ++ (us.drop a.size).set s'.off h0 := by
        conv => lhs; rw [← List.take_append_drop a.size us]
        rw [List.set_append_right _ _ (by rw [List.length_take]; omega)]
        congr 2
        rw [List.length_take]; omega
      rw [e1] at hv
      obtain ⟨k1, k2⟩ := List.append_inj hv (by rw [List.length_take]; omega)
      subst k1 k2
      refine ⟨us.take a.size, us.drop a.size, (List.take_append_drop _ _).symm, r1.of_flat (plain_flat ha), ihb h1 r2 hy ?_⟩
      rw [List.getElem?_drop]; exact hu
  | _ => intro s y ys A A' w w' us h h0 eT hs; cases hs
/-- A slice of one element. -/
theorem run_buildOne (cx : Cx) {t te : TypeId} {e : Ty} {ti : TypeInfo} {td : TypeDesc} (hu : P.underlying t = some (.slice te)) (hf : Fit P te e ti td) {v : Value} (hv : v.cells.toList.length = e.size) (hp : 0 < e.size) (hbig : e.size ≤ 16777216) (w : World) :
    (Instr.buildSlice t 1 #[(0, v)]).run P w = .ok (.slice (some ⟨w.heap.size, 0, none⟩) 1 1) (w.alloc (.cells v.cells te)) := by
  obtain ⟨z, hz, hzr⟩ := hf.zero
  have hzs : z.cells.size = e.size := by
    rw [← Array.length_toList]
    exact (zero_rel (S := ⟨fun _ _ => False, fun _ => none, fun _ => default, 0, w⟩) (cx := cx) hzr).length.symm.trans (zeroCs_length e)
  have hfill : ∀ cells : Array Value, cells.size = e.size → Instr.fill (fun i => some (i * e.size, e.size)) cells [(0, v)] = some v.cells := by
    intro cells hcs
    rw [fill_row e.size [(0, v)] 0 cells (fun i p hp => by
        cases i with
        | zero => simp at hp; subst hp; rfl
        | succ i => simp at hp)
      (fun p hp => by simp at hp; subst hp; rw [← Array.length_toList]; exact hv)
      (by simp [hcs])]
    simp
  have hfl := hfill ((Array.range (1 * e.size)).map fun k => z.cells[k % z.cells.size]!) (by simp)
  have h0 : e.size ≠ 0 := by omega
  have hsz' : ¬ (e.size > 2 ^ 24) := by omega
  have hfl' := hfill ((Array.range (e.size)).map fun k => z.cells[k % z.cells.size]!) (by simp)
  simp [Instr.buildSlice, run_underlying hu, fit_sizeOf hf, h0, hsz', newRow, zeroValue, typeInfo, hf.info, hz]
  rw [hfl']
  simp
theorem CRs.set {eT : TypeId} {S : Sit} {cs : List C} {vs : List Value} (h : CRs eT S cs vs) : ∀ {k : Nat} {c : C} {v : Value}, CR eT S c v → v.oneCell' = true → CRs eT S (cs.set k c) (vs.set k v) := by
  induction h with
  | nil => intro k c v _ _; exact .nil
  | cons h1 h2 h3 ih =>
    intro k c v hc hv
    cases k with
    | zero => exact .cons hc hv h3
    | succ k => exact .cons h1 h2 (ih hc hv)
theorem deepBuild_sound (hok : TyOK P cx) {O : Avoid} {st : St} {loc : Nat → Loc} {w : World} (g : Good cx.eT X (sit O st loc w)) (hO : OIn O w)
    {t : TypeId} {v : SV0} {u : Value} {K : SV → St → VC} (hv : SV0R cx.eT (sit O st loc w) v u) (h : (deepBuild cx st t v K).holds) :
    ∃ sv val st' loc' w', (K sv st').holds ∧ st'.env = st.env ∧ Below w.heap.size w w' ∧ Good cx.eT X (sit O st' loc' w') ∧ Tr (sit O st loc w) (sit O st' loc' w') ∧ SVR cx.eT (sit O st' loc' w') sv val ∧
      (Instr.buildSlice t 1 #[(0, u)]).run P w = .ok val w' := by
  unfold deepBuild at h
  split at h
  case h_2 => exact h.elim
  rename_i e ht
  obtain ⟨te, ti, td, hu, hf⟩ := und_slice hok ht
  split at h
  case h_2 => exact h.elim
  rename_i s cs hs hfl hsm
  have hsm := Nat.le_of_ble_eq_true hsm
  obtain ⟨us, hus, hcr, hul⟩ := flat0_rel g hfl hv
  split at h
  case h_2 => exact h.elim
  rename_i m y0 hm hp
  split at h
  case h_2 => exact h.elim
  rename_i t' zs hob
  split at h
  case h_2 => exact h.elim
  rename_i hb
  have htt : t' = s.t := by have := Ty.eq_of_beq hb; cases this; rfl
  subst htt
  rw [castL_self] at h
  obtain ⟨hd, hget, hch, _⟩ := hcr.get hm
  have hdv := hch.2 _ _ hob
  have hset := hcr.set (k := s.off) (c := .nilS) (v := .slice none 0 0) rfl rfl
  obtain ⟨us1, us2, he12, hr0, hnil⟩ := packD_rel hp hset
  cases hnil
  rw [List.append_nil] at he12
  subst he12
  have hoff := spot_lt hs
  have hrun := run_buildOne (P := P) cx hu hf (v := u) (by rw [hus]; exact hul) (by omega) (by omega) w
  have hbel : Below w.heap.size w (w.alloc (.cells u.cells te)) := (Below.refl _ w).alloc (Nat.le_refl _) _
  have hheap : (w.alloc (.cells u.cells te)).heap[w.heap.size]? = some (.cells u.cells te (0, 0)) := heap_alloc_new w _
  have hlo : ∀ k oc', (k = m ∨ k = m) → look st.objs k = some oc' → oc'.lo = 0 := by
    intro k oc' hk hl
    have : k = m := by rcases hk with h | h <;> exact h
    subst this; rw [hob] at hl; cases hl; rfl
  have fin : ∀ (co : Option Nat), (∀ c, co = some c → c ∈ (loc m).bs) → (∀ c, co = some c → c ≠ w.heap.size ∧ ∃ vs T, (w.alloc (.cells u.cells te)).heap[c]? = some (.cells vs T (0, 0))) →
      R 0 (.slice s.t) zs (Only co) (w.alloc (.cells u.cells te)) [hd] →
      ∃ sv val st' loc' w', (K sv st').holds ∧ st'.env = st.env ∧ Below w.heap.size w w' ∧ Good cx.eT X (sit O st' loc' w') ∧ Tr (sit O st loc w) (sit O st' loc' w') ∧ SVR cx.eT (sit O st' loc' w') sv val ∧
        (Instr.buildSlice t 1 #[(0, u)]).run P w = .ok val w' := by
    intro co hco1 hco2 hr
    obtain ⟨tr, gd⟩ := merge_step (w' := w.alloc (.cells u.cells te)) (oc := .ext 0 (.slice e) [s.put y0 zs]) (l := ⟨.tuple #[.slice (some ⟨w.heap.size, 0, none⟩) 1 1, hd], w.heap.size :: [co].filterMap id⟩) g hO m m hbel.os hbel.output hbel.size hlo
      (fun b hlt _ => hbel.block b hlt) (fun b hbm => by
        rcases List.mem_cons.1 hbm with rfl | hbm
        · exact .inr (Nat.le_refl _)
        · obtain ⟨i, hi⟩ := mem_filterMap_id.1 hbm
          cases i with
          | zero => simp at hi; exact .inl ⟨m, _, .inl rfl, hob, hco1 b hi⟩
          | succ i => simp at hi)
    have gd := gd (X.deep.2 ⟨s, hs, _, [hd], rfl, .inr ⟨w.heap.size, u.cells, te, 1, [co], rfl, rfl, hheap, by rw [← Array.length_toList, hus, hul]; omega, Nat.le_refl _, by unfold big; simp, {
        hl := rfl
        cl := rfl
        inj := fun i j c hi hj => by
          have := getElem?_lt hi; have := getElem?_lt hj
          simp at *; omega
        blk := fun i c hi => by
          cases i with
          | zero => simp at hi; exact hco2 c hi
          | succ i => simp at hi
        row := fun i y hy => by
          cases i with
          | succ i => simp at hy
          | zero =>
            simp at hy
            subst hy
            refine ⟨co, hd, us, rfl, rfl, hget, spot_put_set hs (spot_eT hs hr0) hr hget, fun j x hj => ?_⟩
            rw [Nat.zero_mul, Nat.zero_add, ← Array.getElem?_toList, hus]; exact hj }⟩⟩)
    refine ⟨_, _, _, _, _, h, rfl, hbel, gd, tr, ⟨by simp [sit, fresh, dropObj], fun t' x' hy => ⟨[hd], by simp [sit, updLoc]⟩⟩, hrun⟩
  rcases (g.obj m _ hob).2 with ⟨rfl, ⟨a, ha⟩, _⟩ | ⟨c, vs, T, cap, h1, h2, h3, h4, h5, h6, h7⟩
  · refine fin none (fun c hc => by cases hc) (fun c hc => by cases hc) ⟨hd, rfl, by simp, .inl ⟨rfl, a, 0, hdv.trans ha⟩⟩
  · have hclt : c < w.heap.size := (g.obj m _ hob).2.inside c (by rw [h2]; simp)
    have hch : (w.alloc (.cells u.cells te)).heap[c]? = some (.cells vs T (0, 0)) := (hbel.block c hclt).trans h3
    refine fin (some c) (fun c' hc => by cases hc; show c ∈ (loc m).bs; rw [show (loc m).bs = [c] from h2]; simp) (fun c' hc => by cases hc; exact ⟨by omega, vs, T, hch⟩) ⟨hd, rfl, h6, .inr ⟨c, 0, cap, hdv.trans h1, h5, fun i y hy => ?_⟩⟩
    obtain ⟨us', r1, r2⟩ := h7 i y hy
    refine ⟨us', plain_eT (spot_t hs).1 r1, fun j x hj => ⟨?_, by simp [Only]⟩⟩
    rw [cell_of_row _ c _ vs T (0, 0) hch, Nat.zero_add]; exact r2 j x hj
theorem deep_news {e : Ty} {s : Spot e} {ys : List (D e)} {w : World} {b : Nat} {cs : List (Option Nat)} {hs : List Value} {vs : Array Value} (h : DeepRows e s ys w b cs hs vs) (hl : ys.length * e.size ≤ vs.size) :
    ∃ news : List Value, news.length = ys.length * e.size ∧ (∀ (k : Nat) (u : Value), news[k]? = some u → vs[k]? = some u) ∧ (∀ (k : Nat) (u : Value), k < ys.length * e.size → vs[k]? = some u → news[k]? = some u) ∧ ∀ u ∈ news, u.oneCell' = true := by
  refine ⟨vs.toList.take (ys.length * e.size), by simp; omega, fun k u hk => ?_, fun k u hk hu => ?_, fun u hu => ?_⟩
  · rw [List.getElem?_take] at hk
    split at hk
    · simpa using hk
    · cases hk
  · rw [List.getElem?_take, if_pos hk]; simpa using hu
  · obtain ⟨k, hk, rfl⟩ := List.getElem_of_mem hu
    have hlen : (vs.toList.take (ys.length * e.size)).length = ys.length * e.size := by simp; omega
    have hk' : k < ys.length * e.size := by omega
    have hpos : 0 < e.size := by
      rcases Nat.eq_zero_or_pos e.size with h0 | h0
      · rw [h0] at hk'; omega
      · exact h0
    have hi : k / e.size < ys.length := Nat.div_lt_of_lt_mul (by rw [Nat.mul_comm]; exact hk')
    obtain ⟨c, hh, us, _, _, _, h1, h2⟩ := h.row _ _ (List.getElem?_eq_getElem hi)
    have hjlt : k % e.size < us.length := by rw [h1.length]; exact Nat.mod_lt _ hpos
    have := h2 _ _ (List.getElem?_eq_getElem hjlt)
    rw [show k / e.size * e.size + k % e.size = k from by rw [Nat.mul_comm]; exact Nat.div_add_mod k e.size] at this
    have h3 : (vs.toList.take (ys.length * e.size))[k]? = some us[k % e.size] := by rw [List.getElem?_take, if_pos hk']; simpa using this
    rw [List.getElem?_eq_getElem hk] at h3
    rw [Option.some.inj h3]
    exact h1.oneCell _ (List.getElem_mem hjlt)
theorem DeepRows.join {e : Ty} {s : Spot e} {xs ys : List (D e)} {w w' : World} {b1 b2 b' : Nat} {cs1 cs2 : List (Option Nat)} {hs1 hs2 : List Value} {vs1 vs2 vs' : Array Value}
    (h1 : DeepRows e s xs w b1 cs1 hs1 vs1) (h2 : DeepRows e s ys w b2 cs2 hs2 vs2)
    (hd : ∀ c : Nat, (∃ i : Nat, cs1[i]? = some (some c)) → (∃ j : Nat, cs2[j]? = some (some c)) → False)
    (hb : ∀ c : Nat, ((∃ i : Nat, cs1[i]? = some (some c)) ∨ (∃ j : Nat, cs2[j]? = some (some c))) → c ≠ b' ∧ w'.heap[c]? = w.heap[c]?)
    (hv1 : ∀ k u, k < xs.length * e.size → vs1[k]? = some u → vs'[k]? = some u)
    (hv2 : ∀ k u, k < ys.length * e.size → vs2[k]? = some u → vs'[xs.length * e.size + k]? = some u) :
    DeepRows e s (xs ++ ys) w' b' (cs1 ++ cs2) (hs1 ++ hs2) vs' := by
  have get : ∀ (i : Nat) (c : Nat), (cs1 ++ cs2)[i]? = some (some c) → (i < xs.length ∧ cs1[i]? = some (some c)) ∨ (xs.length ≤ i ∧ cs2[i - xs.length]? = some (some c)) := by
    intro i c hi
    rw [List.getElem?_append, h1.cl] at hi
    split at hi
    · rename_i hlt; exact .inl ⟨hlt, hi⟩
    · rename_i hlt; exact .inr ⟨by omega, hi⟩
  refine ⟨by simp [h1.hl, h2.hl], by simp [h1.cl, h2.cl], fun i j c hi hj => ?_, fun i c hi => ?_, fun i y hy => ?_⟩
  · rcases get i c hi with ⟨a1, a2⟩ | ⟨a1, a2⟩ <;> rcases get j c hj with ⟨b1, b2⟩ | ⟨b1, b2⟩
    · exact h1.inj i j c a2 b2
    · exact (hd c ⟨_, a2⟩ ⟨_, b2⟩).elim
    · exact (hd c ⟨_, b2⟩ ⟨_, a2⟩).elim
    · have := h2.inj _ _ c a2 b2; omega
  · rcases get i c hi with ⟨a1, a2⟩ | ⟨a1, a2⟩
    · obtain ⟨k1, k2⟩ := hb c (.inl ⟨_, a2⟩)
      rw [k2]; exact ⟨k1, (h1.blk _ c a2).2⟩
    · obtain ⟨k1, k2⟩ := hb c (.inr ⟨_, a2⟩)
      rw [k2]; exact ⟨k1, (h2.blk _ c a2).2⟩
  · rw [List.getElem?_append] at hy
    split at hy
    · rename_i hlt
      obtain ⟨c, k, us, k1, k2, k3, k4, k5⟩ := h1.row i y hy
      refine ⟨c, k, us, by rw [List.getElem?_append, h1.cl, if_pos hlt]; exact k1, by rw [List.getElem?_append, h1.hl, if_pos hlt]; exact k2, k3, k4.frame (only_cell fun b e' => (hb b (.inl ⟨i, by rw [k1, e']⟩)).2), fun j u hj => ?_⟩
      refine hv1 _ u ?_ (k5 j u hj)
      have := getElem?_lt hj
      rw [k4.length] at this
      have : (i + 1) * e.size ≤ xs.length * e.size := Nat.mul_le_mul_right _ hlt
      rw [Nat.add_mul] at this
      omega
    · rename_i hlt
      have hil := getElem?_lt hy
      obtain ⟨c, k, us, k1, k2, k3, k4, k5⟩ := h2.row _ y hy
      refine ⟨c, k, us, by rw [List.getElem?_append, h1.cl, if_neg hlt]; exact k1, by rw [List.getElem?_append, h1.hl, if_neg hlt]; exact k2, k3, k4.frame (only_cell fun b e' => (hb b (.inr ⟨_, by rw [k1, e']⟩)).2), fun j u hj => ?_⟩
      have e1 : i * e.size + j = xs.length * e.size + ((i - xs.length) * e.size + j) := by
        rw [← Nat.add_assoc, ← Nat.add_mul, show xs.length + (i - xs.length) = i from by omega]
      rw [e1]
      refine hv2 _ u ?_ (k5 j u hj)
      have := getElem?_lt hj
      rw [k4.length] at this
      have : (i - xs.length + 1) * e.size ≤ ys.length * e.size := Nat.mul_le_mul_right _ hil
      rw [Nat.add_mul] at this
      omega
theorem deepApp_sound (hok : TyOK P cx) {O : Avoid} {st : St} {loc : Nat → Loc} {w : World} (g : Good cx.eT X (sit O st loc w)) (hO : OIn O w)
    {t ty : TypeId} {n m : Nat} {K : SV → St → VC} {vs vx : Value} (hs : CR cx.eT (sit O st loc w) (.xd n .top) vs) (hx : CR cx.eT (sit O st loc w) (.xd m .top) vx) (h : (deepApp cx st t n m K).holds) :
    ∃ sv v st' loc' w', (K sv st').holds ∧ st'.env = st.env ∧ Good cx.eT X (sit O st' loc' w') ∧ Tr (sit O st loc w) (sit O st' loc' w') ∧ SVR cx.eT (sit O st' loc' w') sv v ∧
      (Builtin.append_ #[t, t] ty #[vs, vx]).run P w = .ok v w' := by
  unfold deepApp at h
  split at h
  case h_2 => exact h.elim
  rename_i e e1 xs e2 ys ht hob1 hob2
  obtain ⟨te, ti, td, hu, hf⟩ := und_slice hok ht
  obtain ⟨z, hz, hzr⟩ := hf.zero
  have hzs : z.cells.size = e.size := by
    rw [← Array.length_toList]
    exact (zero_rel (S := sit O st loc w) (cx := cx) hzr).length.symm.trans (zeroCs_length e)
  split at h
  case h_2 => exact h.elim
  rename_i hb1 hb2 hnm
  have hnm : n ≠ m := fun e' => by subst e'; rw [Nat.beq_refl] at hnm; cases hnm
  have he1 : e1 = e := by have := Ty.eq_of_beq hb1; cases this; rfl
  subst he1
  have he2 : e2 = e1 := by have := Ty.eq_of_beq hb2; cases this; rfl
  subst he2
  rw [castL_self, castL_self] at h
  obtain ⟨⟨hpos, hle⟩, h⟩ := h
  have hd1 := X.deep.1 (g.obj n _ hob1).2
  have hd2 := X.deep.1 (g.obj m _ hob2).2
  obtain ⟨_, s, hee, hsp⟩ := deep_spot hd1
  cases hee
  obtain ⟨d2⟩ := deep_at hsp hd2 hpos
  have hvx : vx = d2.top := by
    obtain ⟨hs', hl⟩ := hx.2 _ _ hob2
    have hl := d2.lv.symm.trans hl
    simp at hl
    exact hl.1.symm
  have hvx : vx = .slice (some ⟨d2.b, 0, none⟩) (List.length ys) d2.cap := hvx.trans d2.tv
  have hys : List.length ys * e2.size ≤ d2.vs.size := by rw [d2.size]; exact Nat.mul_le_mul_right _ d2.fit
  obtain ⟨news, hn1, hn2, hn3, hn4⟩ := deep_news d2.rows hys
  have hnews : ∀ j u, news[j]? = some u → w.cell? ((⟨d2.b, 0, none⟩ : Addr).add j) = some u := fun j u hj => by
    rw [Addr.add_lit, Nat.zero_add, cell_of_row w d2.b _ d2.vs d2.T (0, 0) d2.heap]; exact hn2 j u hj
  have hbytes : (List.length xs + List.length ys) * ti.bytes ≤ 140737488355328 := by have := Nat.mul_le_mul hle hf.bytes; omega
  have hm2 : ∀ c : Nat, (∃ j : Nat, d2.cs[j]? = some (some c)) → c ∈ (loc m).bs := fun c hc => by
    rw [show (loc m).bs = _ from d2.lb]; exact List.mem_cons_of_mem _ (mem_filterMap_id.2 hc)
  have hlo : ∀ k oc', (k = n ∨ k = m) → look st.objs k = some oc' → oc'.lo = 0 := by
    intro k oc' hk hl
    rcases hk with rfl | rfl
    · rw [hob1] at hl; cases hl; rfl
    · rw [hob2] at hl; cases hl; rfl
  have fin : ∀ (w' : World) (b' cap' b1 : Nat) (vs' vs1 : Array Value) (T' : TypeId) (cs1 : List (Option Nat)) (hs1 : List Value), DeepRows e2 s xs w b1 cs1 hs1 vs1 →
      w'.os = w.os → w'.output = w.output → w.heap.size ≤ w'.heap.size → (∀ c : Nat, (∃ i : Nat, cs1[i]? = some (some c)) → c ∈ (loc n).bs) →
      ((b' ∈ (loc n).bs ∧ ∀ c : Nat, (∃ i : Nat, cs1[i]? = some (some c)) → c ≠ b') ∨ w.heap.size ≤ b') → (∀ b, b < w.heap.size → b ≠ b' → w'.heap[b]? = w.heap[b]?) →
      w'.heap[b']? = some (.cells vs' T' (0, 0)) → vs'.size = cap' * e2.size → List.length xs + List.length ys ≤ cap' →
      (∀ k u, k < List.length xs * e2.size → vs1[k]? = some u → vs'[k]? = some u) → (∀ k u, k < List.length ys * e2.size → d2.vs[k]? = some u → vs'[List.length xs * e2.size + k]? = some u) →
      (Builtin.append_ #[t, t] ty #[vs, vx]).run P w = .ok (.slice (some ⟨b', 0, none⟩) (List.length xs + List.length ys) cap') w' →
      ∃ sv v st' loc' w', (K sv st').holds ∧ st'.env = st.env ∧ Good cx.eT X (sit O st' loc' w') ∧ Tr (sit O st loc w) (sit O st' loc' w') ∧ SVR cx.eT (sit O st' loc' w') sv v ∧
        (Builtin.append_ #[t, t] ty #[vs, vx]).run P w = .ok v w' := by
    intro w' b' cap' b1 vs' vs1 T' cs1 hs1 hrows hos hout hsize hin1 hb' hoth hheap' hsz' hcap' hv1 hv2 hrun
    have hin1' : ∀ c : Nat, (∃ i : Nat, cs1[i]? = some (some c)) → c < w.heap.size := fun c hc => (g.obj n _ hob1).2.inside c (hin1 c hc)
    have hin2' : ∀ c : Nat, (∃ i : Nat, d2.cs[i]? = some (some c)) → c < w.heap.size := fun c hc => (g.obj m _ hob2).2.inside c (hm2 c hc)
    have hne : ∀ c : Nat, ((∃ i : Nat, cs1[i]? = some (some c)) ∨ (∃ j : Nat, d2.cs[j]? = some (some c))) → c ≠ b' ∧ w'.heap[c]? = w.heap[c]? := by
      intro c hc
      have hclt : c < w.heap.size := hc.elim (hin1' c) (hin2' c)
      have hcb : c ≠ b' := by
        rcases hb' with ⟨k1, k2⟩ | k1
        · rcases hc with hc | hc
          · exact k2 c hc
          · intro e'
            subst e'
            exact hnm (g.apart n m _ _ c hob1 hob2 k1 (hm2 c hc))
        · omega
      exact ⟨hcb, hoth c hclt hcb⟩
    have hj := hrows.join d2.rows (w' := w') (b' := b') (vs' := vs') (fun c h1 h2 => hnm (g.apart n m _ _ c hob1 hob2 (hin1 c h1) (hm2 c h2))) hne hv1 hv2
    obtain ⟨tr, gd⟩ := merge_step (w' := w') (oc := .ext 0 (.slice e2) (xs ++ ys)) (l := ⟨.tuple (Value.slice (some ⟨b', 0, none⟩) (List.length xs + List.length ys) cap' :: (hs1 ++ d2.hs)).toArray, b' :: (cs1 ++ d2.cs).filterMap id⟩) g hO n m hos hout hsize hlo
      (fun b hlt hb => by
        refine hoth b hlt fun e' => ?_
        subst e'
        rcases hb' with ⟨k1, _⟩ | k1
        · exact hb n _ (.inl rfl) hob1 k1
        · omega)
      (fun b hbm => by
        rcases List.mem_cons.1 hbm with rfl | hbm
        · rcases hb' with ⟨k1, _⟩ | k1
          · exact .inl ⟨n, _, .inl rfl, hob1, k1⟩
          · exact .inr k1
        · rw [List.filterMap_append] at hbm
          rcases List.mem_append.1 hbm with hbm | hbm
          · exact .inl ⟨n, _, .inl rfl, hob1, hin1 b (mem_filterMap_id.1 hbm)⟩
          · exact .inl ⟨m, _, .inr rfl, hob2, hm2 b (mem_filterMap_id.1 hbm)⟩)
    have gd := gd (X.deep.2 ⟨s, hsp, _, _, rfl, .inr ⟨b', vs', T', cap', cs1 ++ d2.cs, by rw [List.length_append], rfl, hheap', hsz', by rw [List.length_append]; exact hcap', by rw [List.length_append]; unfold big; omega, hj⟩⟩)
    exact ⟨_, _, _, _, _, h, rfl, gd, tr, ⟨by simp [sit, fresh, dropObj], fun t' x' hy => ⟨hs1 ++ d2.hs, by simp [sit, updLoc]⟩⟩, hrun⟩
  subst hvx
  obtain ⟨s', hsp', top, hs', hl1, hcase⟩ := hd1
  rw [hsp] at hsp'
  cases hsp'
  have hvs : vs = top := by
    obtain ⟨hs'', hl⟩ := hs.2 _ _ hob1
    have hl := hl1.symm.trans hl
    simp at hl
    exact hl.1.symm
  have hbel : ∀ (cells : Array Value), Below w.heap.size w (w.drew.alloc (.cells cells te)) := fun _ => (Below.refl _ w).drew.alloc (Nat.le_refl _) _
  rcases hcase with ⟨hx0, hh0, ⟨a0, ha0⟩, hbs0⟩ | ⟨b1, vs1, T1, cap1, cs1, ht1, hbs1, hheap1, hsz1, hfit1, hbig1, hrows1⟩
  · have hvs0 : vs = .slice a0 0 0 := hvs.trans ha0
    subst hvs0
    subst hx0
    have hrun := run_append_emp (P := P) (w := w) (t := t) (ty := ty) hu hf.info hz a0 (a := ⟨d2.b, 0, none⟩) (n := List.length ys) (c := d2.cap) (news := news) (by rw [hn1, hf.size]) hnews hpos (by simp at hle; omega)
      (by have := hbytes; simp only [List.length_nil, Nat.zero_add] at this; omega)
    have hc' : List.length ys ≤ grownCap w (List.length ys) 0 te := grownCap_ge w _ _ _
    have hB := hbel (news.toArray ++ Builtin.zeroCells z.cells (grownCap w (List.length ys) 0 te - List.length ys))
    refine fin _ w.heap.size (grownCap w (List.length ys) 0 te) 0 _ #[] te [] [] ⟨rfl, rfl, fun i j c hi => by simp at hi, fun i c hi => by simp at hi, fun i y hy => by simp at hy⟩ hB.os hB.output hB.size (fun c ⟨i, hi⟩ => by simp at hi)
      (.inr (Nat.le_refl _)) (fun b hlt _ => hB.block b hlt) (heap_alloc_new w.drew _) ?_ (by simpa using hc') (fun k u hk => by simp at hk) (fun k u hk hu => ?_) (by rw [hrun]; simp)
    · simp only [Array.size_append, List.size_toArray, size_zeroCells, hzs, hn1, ← Nat.add_mul]
      congr 1; omega
    · have := hn3 k u hk hu
      simp only [List.length_nil, Nat.zero_mul, Nat.zero_add]
      rw [Array.getElem?_append, if_pos (by simpa using getElem?_lt this)]
      simpa using this
  · have hvs0 : vs = .slice (some ⟨b1, 0, none⟩) (List.length xs) cap1 := hvs.trans ht1
    subst hvs0
    have hxs : List.length xs * e2.size ≤ vs1.size := by rw [hsz1]; exact Nat.mul_le_mul_right _ hfit1
    obtain ⟨olds, ho1, ho2, ho3, _⟩ := deep_news hrows1 hxs
    have hmem1 : ∀ c : Nat, (∃ i : Nat, cs1[i]? = some (some c)) → c ∈ (loc n).bs := fun c hc => by
      rw [show (loc n).bs = _ from hbs1]; exact List.mem_cons_of_mem _ (mem_filterMap_id.2 hc)
    by_cases hroom : List.length xs + List.length ys ≤ cap1
    · have hmul : (List.length xs + List.length ys) * e2.size ≤ cap1 * e2.size := Nat.mul_le_mul_right _ hroom
      rw [Nat.add_mul] at hmul
      have hfit : List.length xs * ti.size + news.length ≤ vs1.size := by rw [hf.size, hsz1, hn1]; exact hmul
      have hrun := run_append_in (P := P) (ty := ty) hu hf.info hheap1 (a := ⟨d2.b, 0, none⟩) (c := d2.cap) (by rw [hn1, hf.size]) hnews hn4 hroom hfit
      rw [hf.size] at hrun hfit
      generalize hcur' : (vs1.toList.take (List.length xs * e2.size) ++ news ++ vs1.toList.drop (List.length xs * e2.size + news.length)).toArray = cur' at hrun
      have hget : ∀ k : Nat, cur'[k]? = if k < List.length xs * e2.size then vs1[k]? else if k < List.length xs * e2.size + news.length then news[k - List.length xs * e2.size]? else vs1[k]? := by
        intro k
        rw [← hcur', List.getElem?_toArray, splice_get _ _ _ _ (by simpa using hfit)]
        simp
      have hsz' : cur'.size = vs1.size := by
        rw [← hcur']; simp only [List.size_toArray, List.length_append, List.length_take, List.length_drop, Array.length_toList]; omega
      refine fin (w.setRow b1 cur') b1 cap1 b1 cur' vs1 T1 cs1 hs' hrows1 rfl rfl (by simp [World.setRow]) hmem1 (.inl ⟨by rw [show (loc n).bs = _ from hbs1]; simp, fun c ⟨i, hi⟩ => (hrows1.blk i c hi).1⟩)
        (fun b _ hne => setRow_other w b1 b cur' (fun e' => hne e')) (setRow_heap w b1 vs1 cur' T1 (0, 0) hheap1) (by rw [hsz', hsz1]) hroom (fun k u hk hu => ?_) (fun k u hk hu => ?_) hrun
      · rw [hget, if_pos hk]; exact hu
      · rw [hget, if_neg (by omega), if_pos (by rw [hn1]; omega), Nat.add_sub_cancel_left]; exact hn3 k u hk hu
    · have hrun := run_append_grow (P := P) w t ty te ti z hu hf.info hz ⟨b1, 0, none⟩ (List.length xs) cap1 olds (by rw [ho1, hf.size])
        (fun j u hj => by rw [Addr.add_lit, Nat.zero_add, cell_of_row w b1 _ vs1 T1 (0, 0) hheap1]; exact ho2 j u hj)
        ⟨d2.b, 0, none⟩ (List.length ys) d2.cap news (by rw [hn1, hf.size]) hnews (by omega) (by omega) (growslice_fits (by omega) hbytes)
      have hc' : List.length xs + List.length ys ≤ grownCap w (List.length xs + List.length ys) cap1 te := grownCap_ge w _ _ _
      have hB := hbel (olds.toArray ++ news.toArray ++ Builtin.zeroCells z.cells (grownCap w (List.length xs + List.length ys) cap1 te - (List.length xs + List.length ys)))
      refine fin _ w.heap.size (grownCap w (List.length xs + List.length ys) cap1 te) b1 _ vs1 te cs1 hs' hrows1 hB.os hB.output hB.size hmem1 (.inr (Nat.le_refl _)) (fun b hlt _ => hB.block b hlt) (heap_alloc_new w.drew _) ?_ hc'
        (fun k u hk hu => ?_) (fun k u hk hu => ?_) hrun
      · simp only [Array.size_append, List.size_toArray, size_zeroCells, hzs, hn1, ho1, ← Nat.add_mul]
        congr 1; omega
      · have := ho3 k u hk hu
        rw [Array.getElem?_append, if_pos (by simp; have := getElem?_lt this; omega), Array.getElem?_append, if_pos (by simpa using getElem?_lt this)]
        simpa using this
      · have := hn3 k u hk hu
        have hlt := getElem?_lt this
        rw [Array.getElem?_append, if_pos (by simp [ho1]; omega), Array.getElem?_append, if_neg (by simp [ho1])]
        simp only [List.size_toArray, ho1, Nat.add_sub_cancel_left]
        simpa using this
/-- A block among those of one thing is written. -/
theorem set_step' {O : Avoid} {st : St} {loc : Nat → Loc} {w : World} {n b : Nat} {oc oc' : OC} {cs' : Array Value} (g : Good cx.eT X (sit O st loc w)) (hO : OIn O w)
    (hob : look st.objs n = some oc) (hbs : b ∈ (loc n).bs) (hk : SameKind (loc n) (loc n) oc oc') (h0 : oc.lo = 0) (h0' : oc'.lo = 0) :
    Tr (sit O st loc w) (sit O (setObj st n oc') loc (w.setRow b cs')) ∧
      (OR cx.eT X (sit O (setObj st n oc') loc (w.setRow b cs')) (loc n) oc' → Good cx.eT X (sit O (setObj st n oc') loc (w.setRow b cs'))) := by
  have hsz : (w.setRow b cs').heap.size = w.heap.size := by simp [World.setRow]
  refine step_set (S := sit O st loc w) (S' := sit O (setObj st n oc') loc (w.setRow b cs')) (n := n) (oc := oc) (oc' := oc') (l' := loc n) g rfl hO hob
    (fun m => look_set st n m oc') (fun m => ?_) rfl (fun _ => rfl) hk rfl rfl (by simp [sit, hsz]) ?_ ?_ ?_
  · show loc m = _
    by_cases e : n = m
    · rw [if_pos e, e]
    · rw [if_neg e]; rfl
  · intro b' _ hb'
    exact setRow_other w b b' cs' (fun e => hb' (by simp only [sit]; rw [e]; exact hbs))
  · intro b' o v _ ho; rw [h0] at ho; omega
  · intro b' hb'; exact .inl ⟨hb', by omega⟩
theorem deepStore_sound {O : Avoid} {st : St} {loc : Nat → Loc} {w : World} (g : Good cx.eT X (sit O st loc w)) (hO : OIn O w)
    {t : TypeId} {ty : Ty} {ti : TypeInfo} {td : TypeDesc} (hf : Fit P t ty ti td) {n i j : Nat} {v : SV0} {K : SV → St → VC} {vx vv : Value} (hx : CR cx.eT (sit O st loc w) (.xd n (.cell i j)) vx) (hv : SV0R cx.eT (sit O st loc w) v vv)
    (h : (deepStore st n i j ty v K).holds) :
    ∃ st' loc' w', (K (.s (.one .any)) st').holds ∧ st'.env = st.env ∧ Good cx.eT X (sit O st' loc' w') ∧ Tr (sit O st loc w) (sit O st' loc' w') ∧ (Instr.storeAt t vx vv).run P w = .ok () w' := by
  unfold deepStore at h
  split at h
  case h_2 => exact h.elim
  rename_i e xs hob
  split at h
  case h_2 => exact h.elim
  rename_i s hsp
  split at h
  case h_2 => exact h.elim
  rename_i z hz hb
  have := Ty.eq_of_beq hb
  subst this
  obtain ⟨⟨hi, hj⟩, h⟩ := h
  obtain ⟨hpl, hsz1⟩ := spot_t hsp
  have hgi := List.getElem?_eq_getElem hi
  rw [nth_eq hgi] at h hj
  have hd := X.deep.1 (g.obj n _ hob).2
  obtain ⟨d⟩ := deep_at hsp hd (by omega)
  obtain ⟨top, hs', b, o, k0, c0, hl, hget, hvx⟩ := hx.2 _ _ hob
  have hl := d.lv.symm.trans hl
  simp at hl
  obtain ⟨_, rfl⟩ := hl
  obtain ⟨c, hh, us, k1, k2, k3, k4, k5⟩ := d.rows.row i _ hgi
  rw [hget] at k2
  cases k2
  have hsl := spot_get hsp k4 k3
  obtain ⟨v1, hv1, hbig, hsl2⟩ := hsl
  simp at hv1
  subst hv1
  rcases hsl2 with ⟨h0, _⟩ | ⟨b2, o2, cap, hv2, hcap, hrow⟩
  · rw [h0] at hj; simp at hj
  simp at hv2
  obtain ⟨⟨rfl, rfl⟩, rfl, rfl⟩ := hv2
  have hgj := List.getElem?_eq_getElem hj
  obtain ⟨u1, hu1, hr1⟩ := hrow j _ hgj
  rw [hsz1, Nat.mul_one] at hr1
  have hu1l : u1.length = 1 := by rw [hu1.length, hsz1]
  have hcb : c = some b := by
    match u1, hu1l with
    | [x], _ => have := (hr1 0 x rfl).2; unfold Only at this; exact (Classical.not_not.1 this).symm
  subst hcb
  obtain ⟨hbb, vc, Tc, hheap⟩ := d.rows.blk i b k1
  have hvr := VR.cells (asD0_rel hz hv)
  have hul : vv.cells.toList.length = 1 := by rw [hvr.length, hsz1]
  have cellAt : ∀ i' y, (s.get xs[i])[i']? = some y → ∃ us', R 0 s.t y (Only (some b)) w us' ∧ us'.length = 1 ∧ ∀ u, us'[0]? = some u → vc[o + i']? = some u := by
    intro i' y hy
    obtain ⟨us', r1, r2⟩ := hrow i' y hy
    refine ⟨us', r1, by rw [r1.length, hsz1], fun u hu => ?_⟩
    have : w.cell? ⟨b, o + i' * s.t.size + 0, none⟩ = some u := (r2 0 u hu).1
    rw [hsz1, Nat.mul_one, Nat.add_zero, cell_of_row w b _ vc Tc (0, 0) hheap] at this
    exact this
  have hfit : o + j + vv.cells.toList.length ≤ vc.size := by
    obtain ⟨us', _, r2, r3⟩ := cellAt j _ hgj
    have := (Array.getElem?_eq_some_iff.1 (r3 _ (List.getElem?_eq_getElem (show 0 < us'.length by omega)))).1
    omega
  have hbs : b ∈ (loc n).bs := by rw [show (loc n).bs = _ from d.lb]; exact List.mem_cons_of_mem _ (mem_filterMap_id.2 ⟨i, k1⟩)
  subst hvx
  have hrun := run_store hf (b := b) (o := o + j) rfl hvr.length hvr.oneCell hheap hfit
  generalize hvc' : (vc.toList.take (o + j) ++ vv.cells.toList ++ vc.toList.drop (o + j + vv.cells.toList.length)).toArray = vc' at hrun
  have hget' : ∀ k : Nat, vc'[k]? = if k < o + j then vc[k]? else if k < o + j + vv.cells.toList.length then vv.cells.toList[k - (o + j)]? else vc[k]? := by
    intro k
    rw [← hvc', List.getElem?_toArray, splice_get _ _ _ _ (by simpa using hfit)]
    simp
  have hheap' := setRow_heap w b vc vc' Tc (0, 0) hheap
  have hst := set_step' (oc' := .ext 0 (.slice e) (List.set xs i (s.put xs[i] ((s.get xs[i]).set j z)))) (cs' := vc') g hO hob hbs (by simp [SameKind]) rfl rfl
  have hother : ∀ b', b' ≠ b → (w.setRow b vc').heap[b']? = w.heap[b']? := fun b' hne => setRow_other w b b' vc' hne
  have hnewrow : R 0 (.slice s.t) ((s.get xs[i]).set j z) (Only (some b)) (w.setRow b vc') [.slice (some ⟨b, o, none⟩) (s.get xs[i]).length c0] := by
    refine ⟨_, rfl, by rw [List.length_set]; exact hbig, .inr ⟨b, o, c0, by rw [List.length_set], by rw [List.length_set]; exact hcap, fun i' y hy => ?_⟩⟩
    by_cases e' : j = i'
    · subst e'
      rw [List.getElem?_set_self hj] at hy
      cases hy
      refine ⟨vv.cells.toList, plain_eT hpl hvr, fun q u hq => ⟨?_, by simp [Only]⟩⟩
      have hq' := getElem?_lt hq
      rw [hsz1, Nat.mul_one, cell_of_row _ b _ vc' Tc (0, 0) hheap', hget', if_neg (by omega), if_pos (by omega), show o + j + q - (o + j) = q from by omega]
      exact hq
    · rw [List.getElem?_set_ne e'] at hy
      obtain ⟨us', r1, r2, r3⟩ := cellAt i' y hy
      refine ⟨us', plain_eT hpl r1, fun q u hq => ⟨?_, by simp [Only]⟩⟩
      have hq' := getElem?_lt hq
      have hq0 : q = 0 := by omega
      subst hq0
      rw [hsz1, Nat.mul_one, Nat.add_zero, cell_of_row _ b _ vc' Tc (0, 0) hheap', hget']
      rw [hul]
      have := r3 u hq
      by_cases h1 : o + i' < o + j
      · rw [if_pos h1]; exact this
      · rw [if_neg h1, if_neg (by omega)]; exact this
  refine ⟨_, _, _, h, rfl, hst.2 (X.deep.2 ⟨s, hsp, d.top, d.hs, d.lv, .inr ⟨d.b, d.vs, d.T, d.cap, d.cs, by rw [List.length_set]; exact d.tv, d.lb, ?_, d.size, by rw [List.length_set]; exact d.fit, by rw [List.length_set]; exact d.big, ?_⟩⟩), hst.1, hrun⟩
  · exact (hother d.b (fun e' => hbb e'.symm)).trans d.heap
  · refine ⟨by rw [List.length_set]; exact d.rows.hl, by rw [List.length_set]; exact d.rows.cl, d.rows.inj, fun i' c' hi' => ?_, fun i' y hy => ?_⟩
    · refine ⟨(d.rows.blk i' c' hi').1, ?_⟩
      by_cases e' : c' = b
      · subst e'; exact ⟨vc', Tc, hheap'⟩
      · obtain ⟨vs', T', hh'⟩ := (d.rows.blk i' c' hi').2
        exact ⟨vs', T', (hother c' e').trans hh'⟩
    · by_cases e' : i = i'
      · subst e'
        rw [List.getElem?_set_self hi] at hy
        cases hy
        exact ⟨some b, _, us, k1, hget, k3, spot_put hsp k4 k3 hnewrow, k5⟩
      · rw [List.getElem?_set_ne e'] at hy
        obtain ⟨c', h', us', q1, q2, q3, q4, q5⟩ := d.rows.row i' y hy
        refine ⟨c', h', us', q1, q2, q3, q4.frame (only_cell fun b' eb => hother b' fun eb' => ?_), q5⟩
        subst eb'
        exact e' (d.rows.inj i i' b' k1 (by rw [q1, eb]))
end
end Go.Vg
