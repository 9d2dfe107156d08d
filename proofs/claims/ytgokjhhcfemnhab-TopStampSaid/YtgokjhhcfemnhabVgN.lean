/- A part of the proof that the law TopStamp holds of the given program: facts that are used there. -/
import Derived.Test.YtgokjhhcfemnhabVgM
namespace Go.Vg
open Go.RowKit
/-! Rows of one's own that are appended to, and stay rows. -/
def rowNilVC (cx : Cx) (st : St) (x : Operand) (ty : TypeId) (K : SV → St → VC) : VC :=
  match ev st.env x, look cx.τ ty with
  | .s (.one .nilS), some (.slice e) => match e.scal with
    | true => K (.s (.one (.mrow st.next))) (fresh st (.mrow e []))
    | false => deepNilVC cx st x ty K
  | _, _ => .ff
def rowAppVC (cx : Cx) (st : St) (t : TypeId) (n : Nat) (x : C) (K : SV → St → VC) : VC :=
  match look cx.τ t with
  | some (.slice e) => match e.scal, srcD st e x, look st.objs n with
    | true, some ys, some (.mrow e' zs) => match h : Ty.beq (.slice e') (.slice e) with
      | true => .and (0 < List.length ys ∧ List.length zs + List.length ys ≤ 1000000000) (K (.s (.one (.mrow st.next))) (fresh (dropObj (dropObj st n) n) (.mrow e (castD h (a := .slice e') zs ++ ys))))
      | false => .ff
    | _, _, _ => .ff
  | _ => .ff
section
variable {X : Ext} {P : Program} {cx : Cx}
theorem rowNil_sound {O : Avoid} {st : St} {loc : Nat → Loc} {w : World} {a : Act} (g : Good cx.eT X (sit O st loc w)) (hO : OIn O w) (he : EnvR cx.eT (sit O st loc w) st.env a)
    {x : Operand} {ty : TypeId} {K : SV → St → VC} (h : (rowNilVC cx st x ty K).holds) :
    ∃ sv st' loc', (K sv st').holds ∧ st'.env = st.env ∧ Good cx.eT X (sit O st' loc' w) ∧ Tr (sit O st loc w) (sit O st' loc' w) ∧ SVR cx.eT (sit O st' loc' w) sv (a.eval x) := by
  have hx := ev_rel he x
  unfold rowNilVC at h
  split at h
  case h_2 => exact h.elim
  rename_i e hl _
  rw [hl] at hx
  split at h
  · obtain ⟨tr1, g1⟩ := fresh_step (oc := .mrow e []) (l := ⟨.slice none 0 0, []⟩) g hO (Below.refl _ w) (by simp)
    have g1 := g1 (.inl ⟨rfl, ⟨none, rfl⟩, rfl⟩)
    refine ⟨_, _, _, h, rfl, g1, tr1, ?_⟩
    rw [show a.eval x = _ from hx]
    exact ⟨by simp [sit, fresh], fun t ys hy => by simp [sit, updLoc]⟩
  · exact deepNil_sound g hO he h
theorem rowApp_sound (hok : TyOK P cx) {O : Avoid} {st : St} {loc : Nat → Loc} {w : World} (g : Good cx.eT X (sit O st loc w)) (hO : OIn O w)
    {t ty : TypeId} {n : Nat} {x : C} {K : SV → St → VC} {vs vx : Value} (hs : CR cx.eT (sit O st loc w) (.mrow n) vs) (hx : CR cx.eT (sit O st loc w) x vx) (h : (rowAppVC cx st t n x K).holds) :
    ∃ sv v st' loc' w', (K sv st').holds ∧ st'.env = st.env ∧ Good cx.eT X (sit O st' loc' w') ∧ Tr (sit O st loc w) (sit O st' loc' w') ∧ SVR cx.eT (sit O st' loc' w') sv v ∧
      (Builtin.append_ #[t, t] ty #[vs, vx]).run P w = .ok v w' := by
  unfold rowAppVC at h
  split at h
  case h_2 => exact h.elim
  rename_i e ht
  obtain ⟨te, ti, td, hu, hf⟩ := und_slice hok ht
  obtain ⟨z, hz, hzr⟩ := hf.zero
  have hzs : z.cells.size = e.size := by
    rw [← Array.length_toList]
    exact (zero_rel (S := sit O st loc w) (cx := cx) hzr).length.symm.trans (zeroCs_length e)
  split at h
  case h_2 => exact h.elim
  rename_i ys e' zs hsc hys hob
  split at h
  case h_2 => exact h.elim
  rename_i hb1
  have he1 : e' = e := by have := Ty.eq_of_beq hb1; cases this; rfl
  subst he1
  rw [castL_self] at h
  obtain ⟨⟨hpos, hle⟩, h⟩ := h
  have hvl := hs.2 _ _ hob
  have hbytes : (List.length zs + List.length ys) * ti.bytes ≤ 140737488355328 := by have := Nat.mul_le_mul hle hf.bytes; omega
  rcases srcD_rel g hys hx with ⟨rfl, _⟩ | ⟨b, o, cap, cs, hvx, hcl, hcc, hrl, hone⟩
  · simp at hpos
  have hnews : ∀ j u, cs[j]? = some u → w.cell? ((⟨b, o, none⟩ : Addr).add j) = some u := fun j u hj => by rw [Addr.add_lit]; exact hcc j u hj
  subst hvx
  have fin : ∀ (w' : World) (b' cap' : Nat) (vs' : Array Value) (T' : TypeId) (olds : List Value), olds.length = List.length zs * e'.size → RowsL cx.eT e' zs (sit O st loc w).A w olds →
      w'.os = w.os → w'.output = w.output → w.heap.size ≤ w'.heap.size → (b' ∈ (loc n).bs ∨ w.heap.size ≤ b') → (∀ b, b < w.heap.size → b ≠ b' → w'.heap[b]? = w.heap[b]?) →
      w'.heap[b']? = some (.cells vs' T' (0, 0)) → vs'.size = cap' * e'.size → List.length zs + List.length ys ≤ cap' → (∀ (j : Nat) u, (olds ++ cs)[j]? = some u → vs'[j]? = some u) →
      (Builtin.append_ #[t, t] ty #[vs, .slice (some ⟨b, o, none⟩) ys.length cap]).run P w = .ok (.slice (some ⟨b', 0, none⟩) (List.length zs + List.length ys) cap') w' →
      ∃ sv v st' loc' w', (K sv st').holds ∧ st'.env = st.env ∧ Good cx.eT X (sit O st' loc' w') ∧ Tr (sit O st loc w) (sit O st' loc' w') ∧ SVR cx.eT (sit O st' loc' w') sv v ∧
        (Builtin.append_ #[t, t] ty #[vs, .slice (some ⟨b, o, none⟩) ys.length cap]).run P w = .ok v w' := by
    intro w' b' cap' vs' T' olds ho1 ho3 hos hout hsize hb' hoth hheap' hsz' hcap' hv hrun
    obtain ⟨tr, gd⟩ := merge_step (w' := w') (oc := .mrow e' (zs ++ ys)) (l := ⟨.slice (some ⟨b', 0, none⟩) (List.length zs + List.length ys) cap', [b']⟩) g hO n n hos hout hsize
      (fun k oc' hk hl => by
        have : k = n := by rcases hk with h | h <;> exact h
        subst this; rw [hob] at hl; cases hl; rfl)
      (fun b hlt hb => by
        refine hoth b hlt fun e' => ?_
        subst e'
        rcases hb' with k1 | k1
        · exact hb n _ (.inl rfl) hob k1
        · omega)
      (fun b hbm => by
        simp at hbm
        subst hbm
        rcases hb' with k1 | k1
        · exact .inl ⟨n, _, .inl rfl, hob, k1⟩
        · exact .inr k1)
    have gd := gd (.inr ⟨b', vs', T', cap', by rw [List.length_append], rfl, hheap', hsz', by rw [List.length_append]; exact hcap', by rw [List.length_append]; unfold big; omega, fun i y hy => by
      obtain ⟨us, r1, r2⟩ := (ho3.append ho1 hrl) i y hy
      exact ⟨us, plain_eT hsc r1, fun j u hj => hv _ u (r2 j u hj)⟩⟩)
    exact ⟨_, _, _, _, _, h, rfl, gd, tr, ⟨by simp [sit, fresh, dropObj], fun t xs hy => by simp [sit, updLoc]⟩, hrun⟩
  rcases (g.obj n _ hob).2 with ⟨rfl, ⟨a0, ha0⟩, hbs0⟩ | ⟨b1, vs1, T1, cap1, hl1, hbs1, hheap1, hsz1, hfit1, hbig1, he1⟩
  · have hvs0 : vs = .slice a0 0 0 := hvl.trans ha0
    subst hvs0
    have hrun := run_append_emp (P := P) (w := w) (t := t) (ty := ty) hu hf.info hz a0 (a := ⟨b, o, none⟩) (n := List.length ys) (c := cap) (news := cs) (by rw [hcl, hf.size]) hnews hpos (by simp at hle; omega)
      (by have := hbytes; simp only [List.length_nil, Nat.zero_add] at this; omega)
    have hc' : List.length ys ≤ grownCap w (List.length ys) 0 te := grownCap_ge w _ _ _
    have hB : Below w.heap.size w (w.drew.alloc (.cells (cs.toArray ++ Builtin.zeroCells z.cells (grownCap w (List.length ys) 0 te - List.length ys)) te)) := (Below.refl _ w).drew.alloc (Nat.le_refl _) _
    refine fin _ w.heap.size (grownCap w (List.length ys) 0 te) _ te [] (by simp) (fun i y hy => by simp at hy) hB.os hB.output hB.size (.inr (Nat.le_refl _)) (fun b hlt _ => hB.block b hlt) (heap_alloc_new w.drew _) ?_ (by simpa using hc')
      (fun j u hj => ?_) (by rw [hrun]; simp)
    · simp only [Array.size_append, List.size_toArray, size_zeroCells, hzs, hcl, ← Nat.add_mul]
      congr 1; omega
    · rw [List.nil_append] at hj
      rw [Array.getElem?_append, if_pos (by simpa using getElem?_lt hj)]
      simpa using hj
  · have hvs0 : vs = .slice (some ⟨b1, 0, none⟩) (List.length zs) cap1 := hvl.trans hl1
    subst hvs0
    have hxs : List.length zs * e'.size ≤ vs1.size := by rw [hsz1]; exact Nat.mul_le_mul_right _ hfit1
    obtain ⟨olds, ho, ho1, ho3, _⟩ := elems_cells he1 hxs
    have ho2 : ∀ j u, olds[j]? = some u → vs1[j]? = some u := fun j u hj => by
      rw [ho, List.getElem?_take] at hj
      split at hj
      · rwa [Array.getElem?_toList] at hj
      · cases hj
    by_cases hroom : List.length zs + List.length ys ≤ cap1
    · have hmul : (List.length zs + List.length ys) * e'.size ≤ cap1 * e'.size := Nat.mul_le_mul_right _ hroom
      rw [Nat.add_mul] at hmul
      have hfit : List.length zs * ti.size + cs.length ≤ vs1.size := by rw [hf.size, hsz1, hcl]; exact hmul
      have hrun := run_append_in (P := P) (ty := ty) hu hf.info hheap1 (a := ⟨b, o, none⟩) (c := cap) (by rw [hcl, hf.size]) hnews hone hroom hfit
      rw [hf.size] at hrun hfit
      generalize hcur' : (vs1.toList.take (List.length zs * e'.size) ++ cs ++ vs1.toList.drop (List.length zs * e'.size + cs.length)).toArray = cur' at hrun
      have hget : ∀ k : Nat, cur'[k]? = if k < List.length zs * e'.size then vs1[k]? else if k < List.length zs * e'.size + cs.length then cs[k - List.length zs * e'.size]? else vs1[k]? := by
        intro k
        rw [← hcur', List.getElem?_toArray, splice_get _ _ _ _ (by simpa using hfit)]
        simp
      have hsz' : cur'.size = vs1.size := by
        rw [← hcur']; simp only [List.size_toArray, List.length_append, List.length_take, List.length_drop, Array.length_toList]; omega
      refine fin (w.setRow b1 cur') b1 cap1 cur' T1 olds ho1 ho3 rfl rfl (by simp [World.setRow]) (.inl (by rw [show (loc n).bs = _ from hbs1]; simp))
        (fun b _ hne => setRow_other w b1 b cur' (fun e' => hne e')) (setRow_heap w b1 vs1 cur' T1 (0, 0) hheap1) (by rw [hsz', hsz1]) hroom (fun j u hj => ?_) hrun
      rw [List.getElem?_append, ho1] at hj
      rw [hget]
      by_cases h3 : j < List.length zs * e'.size
      · rw [if_pos h3] at hj ⊢; exact ho2 j u hj
      · rw [if_neg h3] at hj
        have := getElem?_lt hj
        rw [if_neg h3, if_pos (by omega)]; exact hj
    · have hrun := run_append_grow (P := P) w t ty te ti z hu hf.info hz ⟨b1, 0, none⟩ (List.length zs) cap1 olds (by rw [ho1, hf.size])
        (fun j u hj => by rw [Addr.add_lit, Nat.zero_add, cell_of_row w b1 _ vs1 T1 (0, 0) hheap1]; exact ho2 j u hj)
        ⟨b, o, none⟩ (List.length ys) cap cs (by rw [hcl, hf.size]) hnews (by omega) (by omega) (growslice_fits (by omega) hbytes)
      have hc' : List.length zs + List.length ys ≤ grownCap w (List.length zs + List.length ys) cap1 te := grownCap_ge w _ _ _
      have hB : Below w.heap.size w (w.drew.alloc (.cells (olds.toArray ++ cs.toArray ++ Builtin.zeroCells z.cells (grownCap w (List.length zs + List.length ys) cap1 te - (List.length zs + List.length ys))) te)) := (Below.refl _ w).drew.alloc (Nat.le_refl _) _
      refine fin _ w.heap.size (grownCap w (List.length zs + List.length ys) cap1 te) _ te olds ho1 ho3 hB.os hB.output hB.size (.inr (Nat.le_refl _)) (fun b hlt _ => hB.block b hlt) (heap_alloc_new w.drew _) ?_ hc' (fun j u hj => ?_) hrun
      · simp only [Array.size_append, List.size_toArray, size_zeroCells, hzs, hcl, ho1, ← Nat.add_mul]
        congr 1; omega
      · have hj' : (olds.toArray ++ cs.toArray)[j]? = some u := by
          rw [← Array.getElem?_toList]; simpa using hj
        rw [Array.getElem?_append, if_pos (by have := (Array.getElem?_eq_some_iff.1 hj').1; exact this)]
        exact hj'
end
end Go.Vg
