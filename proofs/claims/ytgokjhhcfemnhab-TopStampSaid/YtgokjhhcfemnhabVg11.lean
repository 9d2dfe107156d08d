/- A part of the proof that the law TopStamp holds of the given program: facts that are used there. -/
import Derived.Test.YtgokjhhcfemnhabVg10
import Derived.Laws.AppendOwn
import Derived.Laws.OwnMore
namespace Go.Vg
open Go.RowKit
def setD : (t : Ty) → D t → Nat → (want : Ty) → D want → Option (D t)
  | .prod a b, x, off, want, y => match (Nat.beq off 0 && Ty.beq want (.prod a b)) with
    | true => match h : Ty.beq want (.prod a b) with
      | true => some (castD h y)
      | false => none
    | false => match Nat.blt off a.size with
      | true => match setD a x.1 off want y with
        | some z => some (z, x.2)
        | none => none
      | false => match setD b x.2 (off - a.size) want y with
        | some z => some (x.1, z)
        | none => none
  | t, _, off, want, y => match Nat.beq off 0 with
    | true => match h : Ty.beq want t with
      | true => some (castD h y)
      | false => none
    | false => none
def setObj (st : St) (n : Nat) (oc : OC) : St := { st with objs := ins st.objs n oc }
def storeVC (cx : Cx) (st : St) (t : TypeId) (x : C) (v : SV0) (K : SV → St → VC) : VC :=
  match look cx.τ t with
  | some ty => match x with
    | .ref n o => match flat0 st ty v with
      | some us0 => match tokz (cellTys ty) us0 st with
        | (us, st') => match look st'.objs n with
          | some (.cells T cs) => match Nat.ble (o + us.length) cs.length with
            | true => K (.s (.one .any)) (setObj st' n (.cells T (cs.take o ++ us ++ cs.drop (o + us.length))))
            | false => .ff
          | _ => .ff
      | none => .ff
    | .eref n u i o => match asD0 ty v, look st.objs n with
      | some z, some (.mrow u' xs) => match Ty.beq u' u with
        | true => .and (i < xs.length) (match setD u' (nth u' xs i) o ty z with
          | some y' => K (.s (.one .any)) (setObj st n (.mrow u' (xs.set i y')))
          | none => .ff)
        | false => .ff
      | some z, some (.arr u' xs) => match Ty.beq u' u with
        | true => .and (i < xs.length) (match setD u' (nth u' xs i) o ty z with
          | some y' => K (.s (.one .any)) (setObj st n (.arr u' (xs.set i y')))
          | none => .ff)
        | false => .ff
      | _, _ => .ff
    | _ => .ff
  | none => .ff
section
variable {X : Ext} {P : Program} {cx : Cx}
theorem run_store {t : TypeId} {ty : Ty} {i : TypeInfo} {d : TypeDesc} (h : Fit P t ty i d) {b o : Nat} {cur : Array Value} {T : TypeId} {v : Value} {us : List Value} (hv : v.cells.toList = us)
    (hl : us.length = ty.size) (h1 : ∀ u ∈ us, u.oneCell' = true) {w : World} (hb : w.heap[b]? = some (.cells cur T (0, 0))) (hfit : o + us.length ≤ cur.size) :
    (Instr.storeAt t (.pointer (some ⟨b, o, none⟩)) v).run P w = .ok () (w.setRow b (cur.toList.take o ++ us ++ cur.toList.drop (o + us.length)).toArray) := by
  have hs : v.cells.size = ty.size := by rw [← Array.length_toList, hv, hl]
  have := run_storeCells_at P b o T us 0 cur w hb (by simpa using hfit) h1
  simp only [Nat.add_zero] at this
  simp [Instr.storeAt, Instr.sureAddr, storeVar, fit_sizeOf h, hs, hv, this]
theorem CRs.oneCells {eT : TypeId} {S : Sit} {cs : List C} {vs : List Value} (h : CRs eT S cs vs) : ∀ u ∈ vs, u.oneCell' = true := by
  induction h with
  | nil => intro u hu; simp at hu
  | cons _ h2 _ ih =>
    intro u hu
    rcases List.mem_cons.1 hu with rfl | hu
    · exact h2
    · exact ih u hu
theorem setD_rel {eT : TypeId} : ∀ {t : Ty} {x : D t} {off : Nat} {want : Ty} {y : D want} {x' : D t} {A : Avoid} {w : World} {vs us : List Value}, setD t x off want y = some x' → R eT t x A w vs → R eT want y A w us →
    off + us.length ≤ vs.length ∧ R eT t x' A w (vs.take off ++ us ++ vs.drop (off + us.length)) := by
  have one : ∀ {t : Ty} {x : D t} {off : Nat} {want : Ty} {y : D want} {x' : D t} {A : Avoid} {w : World} {vs us : List Value},
      (match Nat.beq off 0 with | true => (match h : Ty.beq want t with | true => some (castD h y) | false => none) | false => none) = some x' → R eT t x A w vs → R eT want y A w us →
      off + us.length ≤ vs.length ∧ R eT t x' A w (vs.take off ++ us ++ vs.drop (off + us.length)) := by
    intro t x off want y x' A w vs us h hr hu
    split at h
    · rename_i h0
      have h0 := Nat.eq_of_beq_eq_true h0
      subst h0
      split at h
      · rename_i hb
        cases h
        have e := castD_rel hb y hu
        have hl := e.length
        have hl2 := hr.length
        refine ⟨by omega, ?_⟩
        rw [List.drop_of_length_le (by omega)]
        simpa using e
      · cases h
    · cases h
  intro t
  induction t with
  | prod a b iha ihb =>
    intro x off want y x' A w vs us h hr hu
    simp only [setD] at h
    split at h
    · rename_i hb0
      simp only [Bool.and_eq_true] at hb0
      have h0 := Nat.eq_of_beq_eq_true hb0.1
      subst h0
      split at h
      · rename_i hb
        cases h
        have e := castD_rel hb y hu
        have hl := e.length
        have hl2 := hr.length
        refine ⟨by omega, ?_⟩
        rw [List.drop_of_length_le (by omega)]
        simpa using e
      · cases h
    · obtain ⟨u1, u2, rfl, r1, r2⟩ := hr
      have hl1 := r1.length
      split at h
      · rename_i hlt
        have hlt := blt_lt hlt
        split at h
        · rename_i z hz
          cases h
          obtain ⟨k1, k2⟩ := iha hz r1 hu
          refine ⟨by simp; omega, ?_⟩
          rw [List.take_append_of_le_length (by omega), List.drop_append_of_le_length (by omega), ← List.append_assoc]
          exact ⟨_, _, rfl, k2, r2⟩
        · cases h
      · rename_i hlt
        have hlt := blt_not hlt
        split at h
        · rename_i z hz
          cases h
          obtain ⟨k1, k2⟩ := ihb hz r2 hu
          refine ⟨by simp; omega, ?_⟩
          have e1 : (u1 ++ u2).take off = u1 ++ u2.take (off - a.size) := by
            rw [List.take_append, List.take_of_length_le (by omega), hl1]
          have e2 : (u1 ++ u2).drop (off + us.length) = u2.drop (off - a.size + us.length) := by
            rw [List.drop_append, List.drop_of_length_le (by omega), List.nil_append, hl1, show off + us.length - a.size = off - a.size + us.length from by omega]
          rw [e1, e2, List.append_assoc, List.append_assoc, ← List.append_assoc (u2.take _)]
          exact ⟨_, _, rfl, r1, k2⟩
        · cases h
  | unit => intro x off want y x' A w vs us h hr hu; exact one (t := .unit) h hr hu
  | bool => intro x off want y x' A w vs us h hr hu; exact one (t := .bool) h hr hu
  | int k => intro x off want y x' A w vs us h hr hu; exact one (t := .int k) h hr hu
  | str => intro x off want y x' A w vs us h hr hu; exact one (t := .str) h hr hu
  | err => intro x off want y x' A w vs us h hr hu; exact one (t := .err) h hr hu
  | opq => intro x off want y x' A w vs us h hr hu; exact one (t := .opq) h hr hu
  | slice e _ => intro x off want y x' A w vs us h hr hu; exact one (t := .slice e) h hr hu
theorem splice_get (vs uv : List Value) (p k : Nat) (h : p + uv.length ≤ vs.length) :
    (vs.take p ++ uv ++ vs.drop (p + uv.length))[k]? = if k < p then vs[k]? else if k < p + uv.length then uv[k - p]? else vs[k]? := by
  have hl : (vs.take p).length = p := by simp; omega
  rw [List.append_assoc, List.getElem?_append, hl]
  by_cases h1 : k < p
  · rw [if_pos h1, if_pos h1, List.getElem?_take, if_pos h1]
  · rw [if_neg h1, if_neg h1, List.getElem?_append]
    by_cases h2 : k < p + uv.length
    · rw [if_pos (by omega), if_pos h2]
    · rw [if_neg (by omega), if_neg h2, List.getElem?_drop, show p + uv.length + (k - p - uv.length) = k from by omega]
theorem getElem?_lt {α : Type} {l : List α} {i : Nat} {x : α} (h : l[i]? = some x) : i < l.length := by
  rcases Nat.lt_or_ge i l.length with h' | h'
  · exact h'
  · rw [List.getElem?_eq_none h'] at h; cases h
/-- One element of a row is another one now. -/
theorem elems_splice {eT : TypeId} {t : Ty} {xs : List (D t)} {A A' : Avoid} {w w' : World} {vs uv us : List Value} {ix o : Nat} {y' : D t}
    (he : ∀ i y, xs[i]? = some y → ∃ us, R eT t y A w us ∧ ∀ j u, us[j]? = some u → vs[i * t.size + j]? = some u)
    (hf : ∀ b o v, ¬ A b o → w.cell? ⟨b, o, none⟩ = some v → w'.cell? ⟨b, o, none⟩ = some v ∧ ¬ A' b o)
    (hlt : ix < xs.length) (hus : us.length = t.size) (husv : ∀ j u, us[j]? = some u → vs[ix * t.size + j]? = some u)
    (k1 : o + uv.length ≤ us.length) (k2 : R eT t y' A w (us.take o ++ uv ++ us.drop (o + uv.length))) (htot : ix * t.size + o + uv.length ≤ vs.length) :
    ∀ i y, (xs.set ix y')[i]? = some y → ∃ us, R eT t y A' w' us ∧ ∀ j u, us[j]? = some u → (vs.take (ix * t.size + o) ++ uv ++ vs.drop (ix * t.size + o + uv.length))[i * t.size + j]? = some u := by
  intro i y hy
  by_cases e : ix = i
  · subst e
    rw [List.getElem?_set_self hlt] at hy
    cases hy
    refine ⟨_, k2.frame hf, fun j v hj => ?_⟩
    rw [splice_get _ _ _ _ k1] at hj
    rw [splice_get _ _ _ _ htot]
    by_cases h1 : j < o
    · rw [if_pos h1] at hj
      rw [if_pos (by omega)]
      exact husv _ _ hj
    · rw [if_neg h1] at hj
      rw [if_neg (by omega)]
      by_cases h2 : j < o + uv.length
      · rw [if_pos h2] at hj
        rw [if_pos (by omega), show ix * t.size + j - (ix * t.size + o) = j - o from by omega]
        exact hj
      · rw [if_neg h2] at hj
        rw [if_neg (by omega)]
        exact husv _ _ hj
  · rw [List.getElem?_set_ne e] at hy
    obtain ⟨us2, r2, c2⟩ := he _ _ hy
    refine ⟨us2, r2.frame hf, fun j v hj => ?_⟩
    have hj' : j < t.size := by have := getElem?_lt hj; rw [r2.length] at this; exact this
    have hold := c2 j v hj
    rw [splice_get _ _ _ _ htot]
    rcases Nat.lt_or_gt_of_ne e with hlt' | hgt
    · have : (ix + 1) * t.size ≤ i * t.size := Nat.mul_le_mul_right _ hlt'
      rw [Nat.add_mul] at this
      rw [if_neg (by omega), if_neg (by omega)]
      exact hold
    · have : (i + 1) * t.size ≤ ix * t.size := Nat.mul_le_mul_right _ hgt
      rw [Nat.add_mul] at this
      rw [if_pos (by omega)]
      exact hold
theorem look_set (st : St) (n m : Nat) (oc : OC) : look (setObj st n oc).objs m = if n = m then some oc else look st.objs m := look_ins _ _ _ _
/-- A block of its own is written. -/
theorem set_step {O : Avoid} {st : St} {loc : Nat → Loc} {w : World} {n b : Nat} {oc oc' : OC} {cs' : Array Value} (g : Good cx.eT X (sit O st loc w)) (hO : OIn O w)
    (hob : look st.objs n = some oc) (hbs : (loc n).bs = [b]) (hk : SameKind (loc n) (loc n) oc oc') (h0 : oc.lo = 0) (h0' : oc'.lo = 0) :
    Tr (sit O st loc w) (sit O (setObj st n oc') loc (w.setRow b cs')) ∧
      (OR cx.eT X (sit O (setObj st n oc') loc (w.setRow b cs')) (loc n) oc' → Good cx.eT X (sit O (setObj st n oc') loc (w.setRow b cs'))) := by
  have hsz : (w.setRow b cs').heap.size = w.heap.size := by simp [World.setRow]
  refine step_set (S := sit O st loc w) (S' := sit O (setObj st n oc') loc (w.setRow b cs')) (n := n) (oc := oc) (oc' := oc') (l' := loc n) g rfl hO hob
    (fun m => look_set st n m oc') (fun m => ?_) rfl (fun _ => rfl) hk rfl rfl (by simp [sit, hsz]) ?_ ?_ ?_
  · show loc m = _
    by_cases e : n = m
    · rw [if_pos e, e]
    · rw [if_neg e]; rfl
  · intro b' _ hb'
    exact setRow_other w b b' cs' (fun e => hb' (by simp [sit, hbs, e]))
  · intro b' o v _ ho; rw [h0] at ho; omega
  · intro b' hb'; exact .inl ⟨hb', by omega⟩
theorem storeVC_sound (hok : TyOK P cx) {O : Avoid} {st : St} {loc : Nat → Loc} {w : World} (g : Good cx.eT X (sit O st loc w)) (hO : OIn O w)
    {t : TypeId} {x : C} {v : SV0} {K : SV → St → VC} {vx vv : Value} (hx : CR cx.eT (sit O st loc w) x vx) (hv : SV0R cx.eT (sit O st loc w) v vv)
    (h : (storeVC cx st t x v K).holds) :
    ∃ st' loc' w', (K (.s (.one .any)) st').holds ∧ st'.env = st.env ∧ Good cx.eT X (sit O st' loc' w') ∧ Tr (sit O st loc w) (sit O st' loc' w') ∧ (Instr.storeAt t vx vv).run P w = .ok () w' := by
  unfold storeVC at h
  split at h
  · rename_i ty ht
    obtain ⟨m, ti, d, hf, hs⟩ := shape_of hok ht
    split at h
    · rename_i n o
      split at h
      · rename_i us0 hfl
        obtain ⟨uv, huv, hcr, huty⟩ := flat0_rel g hfl hv
        obtain ⟨loc1, g1, tr1, hcr1, henv⟩ := tokz_sound (ts := cellTys ty) g hO hcr
        split at h
        rename_i us st' hu
        rw [hu] at g1 tr1 hcr1 henv
        simp only at g1 tr1 hcr1 henv
        split at h
        · rename_i T cs hob
          split at h
          · rename_i hle
            have hle := Nat.le_of_ble_eq_true hle
            have hx1 := CR.tr tr1 hx
            obtain ⟨b, hb1, rfl⟩ := hx1.2 _ _ hob
            obtain ⟨_, b', vs, hl, hbs, hheap, hcs⟩ := g1.obj _ _ hob
            have hbb : b = b' := by
              have := hb1.symm.trans hl
              cases this; rfl
            subst hbb
            have hcl := hcs.length
            have hul := hcr1.length
            have hrun := run_store hf (o := o) huv huty hcr1.oneCells hheap (by simp; omega)
            have hst := set_step (oc' := .cells T (cs.take o ++ us ++ cs.drop (o + us.length))) (cs' := (vs.toArray.toList.take o ++ uv ++ vs.toArray.toList.drop (o + uv.length)).toArray) g1 hO hob hbs (by simp [SameKind]) rfl rfl
            refine ⟨_, _, _, h, by rw [← henv]; rfl, hst.2 ⟨b, vs.take o ++ uv ++ vs.drop (o + uv.length), hl, hbs, ?_, ?_⟩, tr1.trans hst.1, hrun⟩
            · have := setRow_heap w b vs.toArray (vs.toArray.toList.take o ++ uv ++ vs.toArray.toList.drop (o + uv.length)).toArray T (0, 0) hheap
              simpa [sit] using this
            · have h5 : CRs cx.eT (sit O st' loc1 w) (cs.take o ++ us ++ cs.drop (o + us.length)) (vs.take o ++ uv ++ vs.drop (o + uv.length)) := by
                rw [← hul]
                exact ((hcs.take o).append hcr1).append (hcs.drop (o + us.length))
              exact h5.tr hst.1
          · exact h.elim
        · exact h.elim
      · exact h.elim
    · rename_i n u ix o
      have elem : ∀ {u' : Ty} {xs : List (D u')} {z : D ty} {y' : D u'} {b : Nat} {vs : Array Value} {T : TypeId} (oc' : OC) (oc : OC), vx = .pointer (some ⟨b, ix * u'.size + o, none⟩) → look st.objs n = some oc → (loc n).bs = [b] →
          SameKind (loc n) (loc n) oc oc' → oc.lo = 0 → oc'.lo = 0 → w.heap[b]? = some (.cells vs T (0, 0)) → Elems cx.eT (sit O st loc w) u' xs vs → xs.length * u'.size ≤ vs.size → ∀ (hlt : ix < xs.length),
          setD u' xs[ix] o ty z = some y' → VR cx.eT ty z (sit O st loc w).A w vv → (K (.s (.one .any)) (setObj st n oc')).holds →
          (∀ (vs' : Array Value) (w' : World), vs'.size = vs.size → w'.heap[b]? = some (.cells vs' T (0, 0)) → Elems cx.eT (sit O (setObj st n oc') loc w') u' (xs.set ix y') vs' → OR cx.eT X (sit O (setObj st n oc') loc w') (loc n) oc') →
          ∃ st' loc' w', (K (.s (.one .any)) st').holds ∧ st'.env = st.env ∧ Good cx.eT X (sit O st' loc' w') ∧ Tr (sit O st loc w) (sit O st' loc' w') ∧ (Instr.storeAt t vx vv).run P w = .ok () w' := by
        intro u' xs z y' b vs T oc' oc hvx hob hbs hk hlo hlo' hheap he hsz hlt hy' hvr hh hor
        have hvr := VR.cells hvr
        have hget := List.getElem?_eq_getElem hlt
        obtain ⟨us, hr, hus⟩ := he _ _ hget
        obtain ⟨k1, k2⟩ := setD_rel hy' hr hvr
        have hul := hr.length
        have hfit : ix * u'.size + o + vv.cells.toList.length ≤ vs.size := by
          have : (ix + 1) * u'.size ≤ xs.length * u'.size := Nat.mul_le_mul_right _ hlt
          rw [Nat.add_mul] at this
          omega
        subst hvx
        have hrun := run_store hf (b := b) (o := ix * u'.size + o) rfl hvr.length hvr.oneCell hheap hfit
        have hst := set_step (oc' := oc') (cs' := (vs.toList.take (ix * u'.size + o) ++ vv.cells.toList ++ vs.toList.drop (ix * u'.size + o + vv.cells.toList.length)).toArray) g hO hob hbs hk hlo hlo'
        refine ⟨_, _, _, hh, rfl, hst.2 (hor _ _ ?_ (setRow_heap w b vs _ T (0, 0) hheap) ?_), hst.1, hrun⟩
        · simp only [List.size_toArray, List.length_append, List.length_take, List.length_drop, Array.length_toList] at hfit ⊢
          omega
        · intro i y hy
          have := elems_splice (vs := vs.toList) (o := o) (fun i y hy => by
              obtain ⟨us, h1, h2⟩ := he i y hy
              exact ⟨us, h1, fun j u hj => by rw [Array.getElem?_toList]; exact h2 j u hj⟩)
            hst.1.cell hlt hul (fun j u hj => by rw [Array.getElem?_toList]; exact hus j u hj) k1 k2 (by rw [Array.length_toList]; exact hfit) i y hy
          obtain ⟨us', h1, h2⟩ := this
          exact ⟨us', h1, fun j u hj => by rw [List.getElem?_toArray]; exact h2 j u hj⟩
      split at h
      · rename_i z u' xs hz hob
        split at h
        · rename_i hb
          have := Ty.eq_of_beq hb
          subst this
          obtain ⟨hlt, h⟩ := h
          have hget := List.getElem?_eq_getElem hlt
          rw [nth_eq hget] at h
          split at h
          · rename_i y' hy'
            obtain ⟨b, hb1, hvx⟩ := hx.2 ⟨_, .inl hob⟩
            rcases (g.obj _ _ hob).2 with ⟨_, _, hbs⟩ | ⟨b', vs, T, cap, hl, hbs, hheap, hvs, hcap, hbig, he⟩
            · rw [hbs] at hb1; cases hb1
            have hbb : b = b' := by rw [hbs] at hb1; cases hb1; rfl
            subst hbb
            refine elem (.mrow u' (xs.set ix y')) _ hvx hob hbs (by simp [SameKind]) rfl rfl hheap he (by rw [hvs]; exact Nat.mul_le_mul_right _ hcap) hlt hy' (asD0_rel hz hv) h ?_
            intro vs' w' h1 h2 h3
            exact .inr ⟨b, vs', T, cap, by rw [List.length_set]; exact hl, hbs, h2, by rw [h1, hvs], by simpa using hcap, by simpa using hbig, h3⟩
          · exact h.elim
        · exact h.elim
      · rename_i z u' xs hz hob
        split at h
        · rename_i hb
          have := Ty.eq_of_beq hb
          subst this
          obtain ⟨hlt, h⟩ := h
          have hget := List.getElem?_eq_getElem hlt
          rw [nth_eq hget] at h
          split at h
          · rename_i y' hy'
            obtain ⟨b, hb1, hvx⟩ := hx.2 ⟨_, .inr hob⟩
            obtain ⟨_, b', vs, T, hl, hbs, hheap, hvs, he⟩ := g.obj _ _ hob
            have hbb : b = b' := by rw [hbs] at hb1; cases hb1; rfl
            subst hbb
            refine elem (.arr u' (xs.set ix y')) _ hvx hob hbs (by simp [SameKind]) rfl rfl hheap he (by rw [hvs]; exact Nat.le_refl _) hlt hy' (asD0_rel hz hv) h ?_
            intro vs' w' h1 h2 h3
            exact ⟨b, vs', T, hl, hbs, h2, by rw [h1, hvs, List.length_set], h3⟩
          · exact h.elim
        · exact h.elim
      · exact h.elim
    · exact h.elim
  · exact h.elim
end
end Go.Vg
