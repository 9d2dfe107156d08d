/- A part of the proof that the law TopStamp holds of the given program: facts that are used there. -/
import Derived.Test.YtgokjhhcfemnhabVg16
namespace Go.Vg
open Go.RowKit
def putVC (cx : Cx) (st : St) (dst : Option Tmp) (sv : SV) (K : St → VC) : VC :=
  match dst with
  | some d => match Nat.blt d cx.N with
    | true => K { st with env := (d, sv) :: st.env }
    | false => .ff
  | none => K st
def eqB : Bool → Bool → Bool
  | true, b => b
  | false, true => false
  | false, false => true
def litSt (st : St) (d : Nat) (b : Bool) : St := { st with env := (d, .s (.one (.lit b))) :: st.env }
def guardVC (opl : List Oper) (st : St) (o : Oper) (exec skip : St → VC) : VC :=
  match o.guard with
  | none => exec st
  | some (j, want) => match opl[j]? with
    | some oj => match oj.dst with
      | some d => match look st.env d with
        | some (.s (.one (.lit b))) => match eqB b want with
          | true => exec st
          | false => skip st
        | some (.s (.one (.d .bool g))) => match want with
          | true => .ite g (exec (litSt st d true)) (skip (litSt st d false))
          | false => .ite g (skip (litSt st d true)) (exec (litSt st d false))
        | some (.tup []) => skip st
        | _ => .ff
      | none => .ff
    | none => .ff
def stepVC (cx : Cx) (opl : List Oper) (st : St) (o : Oper) (K : St → VC) : VC :=
  guardVC opl st o (fun st => opVC cx st o fun sv st' => putVC cx st' o.dst sv K) (fun st => putVC cx st o.dst (.tup []) K)
def opsVC (cx : Cx) (opl : List Oper) : List Oper → St → (St → VC) → VC
  | [], st, K => K st
  | o :: r, st, K => stepVC cx opl st o fun st' => opsVC cx opl r st' K
def loudB (cx : Cx) (opl : List Oper) (j : Nat) : Bool :=
  match opl[j]? with
  | some o => Nat.beq (kindOf cx o) 3
  | none => false
def steadyB (cx : Cx) (opl : List Oper) (ms : List Nat) (listed : Array Bool) (i : Nat) : Bool :=
  match opl[i]? with
  | some o => match kindOf cx o with
    | 0 => true
    | 1 => (List.range opl.length).all fun j => Nat.beq j i || listed.getD j true || !(loudB cx opl j) || (ms.getD j 0).testBit i
    | _ => false
  | none => false
def allVC : List Nat → (Nat → VC) → VC
  | [], _ => .leaf True
  | [i], f => f i
  | i :: j :: r, f => .both (f i) (allVC (j :: r) f)
def anyVC (cx : Cx) (ops : Array Oper) (ms : List Nat) : Nat → Array Bool → St → (St → VC) → VC
  | 0, listed, st, K => match Region.ready .any ops listed with
    | [] => K st
    | _ => .ff
  | n + 1, listed, st, K => match Region.ready .any ops listed with
    | [] => K st
    | r :: rs => match (r :: rs).find? (steadyB cx ops.toList ms listed) with
      | some i => match ops[i]? with
        | some o => stepVC cx ops.toList st o fun st' => anyVC cx ops ms n (listed.setIfInBounds i true) st' K
        | none => .ff
      | none => allVC (r :: rs) fun i => match ops[i]? with
        | some o => stepVC cx ops.toList st o fun st' => anyVC cx ops ms n (listed.setIfInBounds i true) st' K
        | none => .ff
def depB (oj : Oper) (i : Nat) : Bool := oj.after.any fun e => Region.binds .any e && Nat.beq e.on i
def regionOK (ops : Array Oper) : Bool :=
  Region.noSelect ops && (List.range ops.size).all fun i => (List.range ops.size).all fun j => match ops[i]?, ops[j]? with
    | some oi, some oj => Nat.beq j i || depB oj i || depB oi j || oi.apart ops oj
    | _, _ => true
section
variable {X : Ext} {P : Program} {cx : Cx} {Q : Exit → Act → World → Prop}
structure ActR (cx : Cx) (S : Sit) (st : St) (a : Act) : Prop where
  size : a.tmps.size = cx.N
  defers : a.defers = []
  env : EnvR cx.eT S st.env a
/-- Stands for every temporary. -/
def allM : Nat := 4000000
def Agree (W : List Nat) (st st' : St) : Prop := allM ∉ W → ∀ t, t ∉ W → ∀ v, look st'.env t = some v → look st.env t = some v
theorem Agree.refl (W : List Nat) (st : St) : Agree W st st := fun _ _ _ _ h => h
/-- What stands behind a step. -/
def StepK (cx : Cx) (X : Ext) (O : Avoid) (K : St → VC) (W : List Nat) (st : St) (S : Sit) : Act → World → Prop :=
  fun a' w' => ∃ st' loc', (K st').holds ∧ Good cx.eT X (sit O st' loc' w') ∧ Tr S (sit O st' loc' w') ∧ ActR cx (sit O st' loc' w') st' a' ∧ Agree W st st'
theorem EnvR.tr {S S' : Sit} {env : List (Nat × SV)} {a : Act} (h : EnvR cx.eT S env a) (t : Tr S S') : EnvR cx.eT S' env a := fun i sv hi => (h i sv hi).tr t
theorem ActR.put {S S' : Sit} {st st' : St} {a : Act} {d : Nat} {v : Value} {sv : SV} (h : ActR cx S st a) (t : Tr S S') (he : st'.env = (d, sv) :: st.env) (hd : d < cx.N) (hv : SVR cx.eT S' sv v) : ActR cx S' st' (a.put (some d) v) := by
  refine ⟨by simp [Act.put, h.size], h.defers, fun i sv' hi => ?_⟩
  rw [he, look_cons] at hi
  simp only [Act.put]
  by_cases e : d = i
  · rw [if_pos e] at hi
    cases hi
    subst e
    rw [Array.getD_eq_getD_getElem?, Array.getElem?_setIfInBounds, if_pos rfl, if_pos (by rw [h.size]; exact hd)]
    exact hv
  · rw [if_neg e] at hi
    rw [Array.getD_eq_getD_getElem?, Array.getElem?_setIfInBounds, if_neg e, ← Array.getD_eq_getD_getElem?]
    exact (h.env i sv' hi).tr t
theorem putVC_sound {O : Avoid} {st st0 : St} {S : Sit} {loc : Nat → Loc} {w : World} {a : Act} {dst : Option Tmp} {sv : SV} {v : Value} {K : St → VC} {W : List Nat} (h : (putVC cx st dst sv K).holds)
    (hA : ActR cx S st0 a) (ht : Tr S (sit O st loc w)) (he : st.env = st0.env) (hv : SVR cx.eT (sit O st loc w) sv v) (g : Good cx.eT X (sit O st loc w)) (hW : ∀ d, dst = some d → d ∈ W) :
    StepK cx X O K W st0 S (a.put dst v) w := by
  unfold putVC at h
  split at h
  · rename_i d
    split at h
    · rename_i hd
      refine ⟨{ st with env := (d, sv) :: st.env }, loc, h, g, ht, ?_, fun _ t htW v hv => ?_⟩
      · have := hA.put (st' := { st with env := (d, sv) :: st.env }) ht (by rw [← he]) (blt_lt hd) hv
        exact ⟨this.size, this.defers, this.env⟩
      · have hv : look ((d, sv) :: st.env) t = some v := hv
        rw [look_cons, if_neg (fun (e : d = t) => htW (e ▸ hW d rfl)), he] at hv
        exact hv
    · exact h.elim
  · refine ⟨st, loc, h, g, ht, ⟨hA.size, hA.defers, by rw [he]; exact hA.env.tr ht⟩, fun _ t _ v hv => by rw [he] at hv; exact hv⟩
theorem eqB_iff (a b : Bool) : eqB a b = (a == b) := by cases a <;> cases b <;> rfl
theorem litSt_rel {O : Avoid} {st : St} {loc : Nat → Loc} {w : World} {a : Act} {d : Nat} {b : Bool} (hA : ActR cx (sit O st loc w) st a) (hv : a.tmps.getD d undef = .bool b) :
    ActR cx (sit O (litSt st d b) loc w) (litSt st d b) a := by
  refine ⟨hA.size, hA.defers, fun i sv hi => ?_⟩
  simp only [litSt, look_cons] at hi
  by_cases e : d = i
  · rw [if_pos e] at hi
    cases hi
    subst e
    rw [hv]; rfl
  · rw [if_neg e] at hi
    exact hA.env i sv hi
theorem yielded_bool {ops : Array Oper} {a : Act} {j d : Nat} {oj : Oper} {b : Bool} (hj : ops[j]? = some oj) (hd : oj.dst = some d) (hlt : d < a.tmps.size) (hv : a.tmps.getD d undef = .bool b) : yielded ops a.tmps j = some b := by
  have : a.tmps[d]? = some (.bool b) := by
    rw [Array.getElem?_eq_getElem hlt]
    rw [Array.getD_eq_getD_getElem?, Array.getElem?_eq_getElem hlt] at hv
    simpa using hv
  simp [yielded, hj, hd, this]
/-- A guard is decided: the operation is to be done, or passed over. -/
theorem guardVC_sound {O : Avoid} {st : St} {loc : Nat → Loc} {w : World} {a : Act} {ops : Array Oper} {o : Oper} {exec skip : St → VC} {W : List Nat} (hA : ActR cx (sit O st loc w) st a) (g : Good cx.eT X (sit O st loc w))
    (hW : ∀ (j : Nat) (oj : Oper) (d : Nat), ops[j]? = some oj → oj.dst = some d → d ∈ W)
    (h : (guardVC ops.toList st o exec skip).holds) :
    ∃ st', ActR cx (sit O st' loc w) st' a ∧ Good cx.eT X (sit O st' loc w) ∧ sit O st' loc w = sit O st loc w ∧ Agree W st st' ∧
      ((Region.wanted o (yielded ops a.tmps) = true ∧ (exec st').holds) ∨ (Region.wanted o (yielded ops a.tmps) = false ∧ (skip st').holds)) := by
  unfold guardVC at h
  split at h
  · rename_i hg
    exact ⟨st, hA, g, rfl, fun _ _ _ _ h => h, .inl ⟨by simp [Region.wanted, hg], h⟩⟩
  · rename_i j want hg
    split at h
    · rename_i oj hj
      have hj' : ops[j]? = some oj := by rw [← Array.getElem?_toList]; exact hj
      split at h
      · rename_i d hd
        have key : ∀ b, a.tmps.getD d undef = .bool b → Region.wanted o (yielded ops a.tmps) = (b == want) := by
          intro b hb
          have hlt : d < a.tmps.size := by
            rcases Nat.lt_or_ge d a.tmps.size with h' | h'
            · exact h'
            · rw [Array.getD_eq_getD_getElem?, Array.getElem?_eq_none h'] at hb; cases hb
          simp [Region.wanted, hg, yielded_bool hj' hd hlt hb]
        have lit : ∀ b, a.tmps.getD d undef = .bool b → ActR cx (sit O (litSt st d b) loc w) (litSt st d b) a ∧ Good cx.eT X (sit O (litSt st d b) loc w) ∧ sit O (litSt st d b) loc w = sit O st loc w ∧ Agree W st (litSt st d b) :=
          fun b hb => ⟨litSt_rel hA hb, g, rfl, fun _ t ht v hv => by simp only [litSt, look_cons] at hv; rwa [if_neg (fun (e : d = t) => ht (e ▸ hW j oj d hj' hd))] at hv⟩
        split at h
        · rename_i b hl
          have hv : a.tmps.getD d undef = .bool b := hA.env d _ hl
          have hk := key b hv
          rw [← eqB_iff] at hk
          split at h
          · rename_i he; exact ⟨st, hA, g, rfl, fun _ _ _ _ h => h, .inl ⟨by rw [hk, he], h⟩⟩
          · rename_i he; exact ⟨st, hA, g, rfl, fun _ _ _ _ h => h, .inr ⟨by rw [hk, he], h⟩⟩
        · rename_i b hl
          have hv : a.tmps.getD d undef = .bool b := (bool_rel (eT := cx.eT) (S := sit O st loc w) (b := b)).1 (hA.env d _ hl)
          have hk := key b hv
          obtain ⟨l1, l2, l3, l4⟩ := lit b hv
          split at h
          · cases b
            · exact ⟨_, l1, l2, l3, l4, .inr ⟨by rw [hk]; rfl, h.2 rfl⟩⟩
            · exact ⟨_, l1, l2, l3, l4, .inl ⟨by rw [hk]; rfl, h.1 rfl⟩⟩
          · cases b
            · exact ⟨_, l1, l2, l3, l4, .inl ⟨by rw [hk]; rfl, h.2 rfl⟩⟩
            · exact ⟨_, l1, l2, l3, l4, .inr ⟨by rw [hk]; rfl, h.1 rfl⟩⟩
        · rename_i hl
          obtain ⟨vs, hv, hvs⟩ := hA.env d _ hl
          cases hvs
          have hy : yielded ops a.tmps j = none := by
            rw [Array.getD_eq_getD_getElem?] at hv
            simp only [yielded, hj', hd, Option.bind_some]
            cases ht : a.tmps[d]? with
            | none => rfl
            | some x => rw [ht] at hv; simp only [Option.getD_some] at hv; subst hv; rfl
          exact ⟨st, hA, g, rfl, fun _ _ _ _ h => h, .inr ⟨by simp [Region.wanted, hg, hy], h⟩⟩
        · exact h.elim
      · exact h.elim
    · exact h.elim
theorem Agree.trans {W : List Nat} {a b c : St} (h : Agree W a b) (h' : Agree W b c) : Agree W a c := fun hm t ht v hv => h hm t ht v (h' hm t ht v hv)
theorem StepK.mono {O : Avoid} {K : St → VC} {W : List Nat} {st st1 : St} {S S1 : Sit} {a : Act} {w : World} (h : StepK cx X O K W st1 S1 a w) (ht : Tr S S1) (ha : Agree W st st1) : StepK cx X O K W st S a w := by
  obtain ⟨st', loc', k1, k2, k3, k4, k5⟩ := h
  exact ⟨st', loc', k1, k2, ht.trans k3, k4, ha.trans k5⟩
/-- One operation of a region. -/
theorem stepVC_sound (hok : CxOK P cx X) {O : Avoid} {st : St} {loc : Nat → Loc} {w : World} {a : Act} {ops : Array Oper} {o : Oper} {K : St → VC} {W : List Nat} (hA : ActR cx (sit O st loc w) st a) (g : Good cx.eT X (sit O st loc w)) (hO : OIn O w)
    (hW : ∀ (j : Nat) (oj : Oper) (d : Nat), ops[j]? = some oj → oj.dst = some d → d ∈ W) (hWo : ∀ d, o.dst = some d → d ∈ W) (h : (stepVC cx ops.toList st o K).holds) :
    if Region.wanted o (yielded ops a.tmps) then o.wp P a w (fun a' w' => (Nat.beq (kindOf cx o) 3 = false → Below w.heap.size w w') ∧ StepK cx X O K W st (sit O st loc w) a' w') Q
    else StepK cx X O K W st (sit O st loc w) (a.put o.dst undef) w := by
  obtain ⟨st', hA', g', hs, hag, hcase⟩ := guardVC_sound hA g hW h
  rcases hcase with ⟨hw, h'⟩ | ⟨hw, h'⟩
  · rw [if_pos hw]
    refine Oper.wp_mono ?_ (op_sound hok g' hO hA'.env h')
    rintro a' w' ⟨v, sv, st2, loc2, rfl, k1, k2, k3, k4, k5, k6⟩
    refine ⟨fun hl => k3 hl, ?_⟩
    exact (putVC_sound k1 hA' k5 k2 k6 k4 hWo).mono (by rw [hs]; exact Tr.refl _) hag
  · rw [if_neg (by simp [hw])]
    exact (putVC_sound (loc := loc) (w := w) h' hA' (Tr.refl _) rfl (show SVR cx.eT _ (.tup []) undef from ⟨[], rfl, .nil⟩) g' hWo).mono (by rw [hs]; exact Tr.refl _) hag
theorem opsVC_sound (hok : CxOK P cx X) {O : Avoid} {ops : Array Oper} {W : List Nat} (hW : ∀ (j : Nat) (oj : Oper) (d : Nat), ops[j]? = some oj → oj.dst = some d → d ∈ W) {K : St → VC} : ∀ (l : List Oper) {st : St} {loc : Nat → Loc} {w : World} {a : Act}, (∀ o ∈ l, ∀ d, o.dst = some d → d ∈ W) →
    ActR cx (sit O st loc w) st a → Good cx.eT X (sit O st loc w) → OIn O w → (opsVC cx ops.toList l st K).holds → (∀ st' loc' a' w', (K st').holds → Good cx.eT X (sit O st' loc' w') → Tr (sit O st loc w) (sit O st' loc' w') → ActR cx (sit O st' loc' w') st' a' → Agree W st st' → Q .normal a' w') →
    wpList P ops Q l a w := by
  intro l
  induction l with
  | nil => intro st loc w a _ hA g _ h hq; exact hq st loc a w h g (Tr.refl _) hA fun _ _ _ _ h => h
  | cons o l ih =>
    intro st loc w a hWl hA g hO h hq
    have hs := stepVC_sound (Q := Q) (P := P) hok hA g hO hW (hWl o (by simp)) h
    have next : ∀ a' w', StepK cx X O (fun st' => opsVC cx ops.toList l st' K) W st (sit O st loc w) a' w' → wpList P ops Q l a' w' := by
      rintro a' w' ⟨st', loc', k1, k2, k3, k4, k5⟩
      exact ih (fun o' ho' => hWl o' (by simp [ho'])) k4 k2 (hO.tr k3.size) k1 fun st2 loc2 a2 w2 m1 m2 m3 m4 m5 => hq st2 loc2 a2 w2 m1 m2 (k3.trans m3) m4 (k5.trans m5)
    unfold wpList
    split
    · rename_i hw
      rw [if_pos hw] at hs
      exact .inl (Oper.wp_mono (fun a' w' h' => next a' w' h'.2) hs)
    · rename_i hw
      rw [if_neg hw] at hs
      exact next _ _ hs
/-- Operations that may be taken first. -/
theorem op_steady (hok : CxOK P cx X) {O : Avoid} {st : St} {loc : Nat → Loc} {w : World} {a : Act} (g : Good cx.eT X (sit O st loc w)) (hO : OIn O w) (he : EnvR cx.eT (sit O st loc w) st.env a)
    {o : Oper} {K : SV → St → VC} (hk : kindOf cx o = 0 ∨ kindOf cx o = 1) (h : (opVC cx st o K).holds) :
    ∃ v sv st' loc', (K sv st').holds ∧ st'.env = st.env ∧ Good cx.eT X (sit O st' loc' w) ∧ Tr (sit O st loc w) (sit O st' loc' w) ∧ SVR cx.eT (sit O st' loc' w) sv v ∧
      ∀ w', (kindOf cx o = 0 ∨ Below w.heap.size w w') → (execOp a.eval o).run P w' = .ok (.value v) w' := by
  have same : ∀ {sv : SV} {v : Value}, (K sv st).holds → SVR cx.eT (sit O st loc w) sv v → (∀ w', (kindOf cx o = 0 ∨ Below w.heap.size w w') → (execOp a.eval o).run P w' = .ok (.value v) w') →
      ∃ v sv st' loc', (K sv st').holds ∧ st'.env = st.env ∧ Good cx.eT X (sit O st' loc' w) ∧ Tr (sit O st loc w) (sit O st' loc' w) ∧ SVR cx.eT (sit O st' loc' w) sv v ∧
      ∀ w', (kindOf cx o = 0 ∨ Below w.heap.size w w') → (execOp a.eval o).run P w' = .ok (.value v) w' :=
    fun h1 h2 h3 => ⟨_, _, st, loc, h1, rfl, g, Tr.refl _, h2, h3⟩
  have pure : (pureVC cx st o.op fun sv => K sv st).holds → ∃ v sv st' loc', (K sv st').holds ∧ st'.env = st.env ∧ Good cx.eT X (sit O st' loc' w) ∧ Tr (sit O st loc w) (sit O st' loc' w) ∧ SVR cx.eT (sit O st' loc' w) sv v ∧
      ∀ w', (kindOf cx o = 0 ∨ Below w.heap.size w w') → (execOp a.eval o).run P w' = .ok (.value v) w' := by
    intro h
    obtain ⟨sv, v, h1, h2, h3⟩ := pureVC_sound (P := P) hok.toTyOK g he h
    exact same h1 h2 fun w' _ => h3 w'
  have mov : ∀ x ty, (∀ w', (execOp a.eval o).run P w' = .ok (.value (a.eval x)) w') → (movVC cx st x ty K).holds → ∃ v sv st' loc', (K sv st').holds ∧ st'.env = st.env ∧ Good cx.eT X (sit O st' loc' w) ∧ Tr (sit O st loc w) (sit O st' loc' w) ∧ SVR cx.eT (sit O st' loc' w) sv v ∧
      ∀ w', (kindOf cx o = 0 ∨ Below w.heap.size w w') → (execOp a.eval o).run P w' = .ok (.value v) w' := by
    intro x ty hrun h
    obtain ⟨sv, st', loc', h1, h2, h3, h4, h5⟩ := movVC_sound g hO he h
    exact ⟨_, sv, st', loc', h1, h2, h3, h4, h5, fun w' _ => hrun w'⟩
  have read : (readVC cx st o.op fun sv => K sv st).holds → ∃ v sv st' loc', (K sv st').holds ∧ st'.env = st.env ∧ Good cx.eT X (sit O st' loc' w) ∧ Tr (sit O st loc w) (sit O st' loc' w) ∧ SVR cx.eT (sit O st' loc' w) sv v ∧
      ∀ w', (kindOf cx o = 0 ∨ Below w.heap.size w w') → (execOp a.eval o).run P w' = .ok (.value v) w' := by
    intro h
    unfold readVC at h
    simp only at h
    split at h
    · rename_i t x i hop
      split at h
      · rename_i n hn
        obtain ⟨k, hk', _⟩ := asIntC_rel hn (ev1_rel he i)
        obtain ⟨c, u, h1, h2, h3⟩ := idxVC_rel (P := P) hok.toTyOK g (k := k) (ev1_rel he x) h
        exact same h1 h2 fun w' _ => by simp [execOp, hop, hk', h3]
      · exact h.elim
    · rename_i t x f hop
      obtain ⟨c, u, h1, h2, h3⟩ := fieldVC_rel (P := P) hok.toTyOK (ev1_rel he x) h
      exact same h1 h2 fun w' _ => by simp [execOp, hop, h3]
    · rename_i t x hop
      obtain ⟨c, u, h1, h2, h3⟩ := loadVC_rel (P := P) hok.toTyOK g (ev1_rel he x) h
      refine same h1 h2 fun w' hb => ?_
      have hb : Below w.heap.size w w' := by
        rcases hb with hb | hb
        · simp [kindOf, hop] at hb
        · exact hb
      simp [execOp, hop, h3 w' hb]
    · rename_i t x lo hi hop
      obtain ⟨c, u, h1, h2, h3⟩ := sliceVC_rel (P := P) hok.toTyOK g he (ev1_rel he x) h
      exact same h1 h2 fun w' _ => by simp [execOp, hop, h3]
    · exact pure h
  unfold opVC at h
  split at h
  · rename_i hm; rw [mapVC_kind hm] at hk; omega
  unfold opVC0 at h
  split at h
  · rename_i s t x hop
    unfold convOpVC at h
    split at h
    · rename_i hs ht; simp [kindOf, hop, ht] at hk
    · exact read h
    · exact h.elim
  · rename_i x hop
    exact mov x _ (fun w' => by simp [execOp, hop]) h
  · rename_i x hop
    unfold asgVC at h
    split at h
    · obtain ⟨sv, st', loc', h1, h2, h3, h4, h5⟩ := rowNil_sound g hO he h
      exact ⟨_, sv, st', loc', h1, h2, h3, h4, h5, fun w' _ => by simp [execOp, hop]⟩
    · exact mov x _ (fun w' => by simp [execOp, hop]) h
  · rename_i t hop; simp [kindOf, hop] at hk
  · rename_i t x hop; simp [kindOf, hop] at hk
  · rename_i t ps hop
    obtain ⟨sv, v, h1, h2, h3⟩ := buildVC_sound hok.toTyOK g he h
    exact same h1 h2 fun w' _ => by have := h3 w'; simp only [execOp, hop, Sem.run_bind, Sem.run_pure]; rw [this]; rfl
  · rename_i t n ps hop; simp [kindOf, hop] at hk
  · rename_i t l c hop; simp [kindOf, hop] at hk
  · rename_i t x v hop; simp [kindOf, hop] at hk
  · rename_i fn first caps hop
    split at h
    · rename_i f ns hfi hcn
      obtain ⟨k1, k2⟩ := capNames_rel he hcn
      have hfi' : first = #[] := Array.toList_inj.1 hfi
      have hca : caps.map a.eval = (ns.map fun n => (loc n).v).toArray := by
        apply Array.toList_inj.1
        rw [Array.toList_map, k1]
      refine same (v := .func (.func f) #[] (ns.map fun n => (loc n).v).toArray) h ⟨rfl, k2⟩ fun w' _ => ?_
      simp [execOp, hop, Instr.makeFunc, hfi', hca]
    · exact h.elim
  · rename_i c hop
    unfold callOpVC at h
    split at h
    · rename_i f hcal
      exfalso
      have : kindOf cx o = 2 ∨ kindOf cx o = 3 := by
        unfold kindOf
        simp only [hop, hcal]
        split
        · rename_i heq; cases heq
        · rename_i heq; cases heq
        · rename_i heq; cases heq
        · split
          · exact .inl rfl
          · exact .inr rfl
        · exact .inr rfl
      omega
    · rename_i hcal; simp [kindOf, hop, hcal] at hk
    · rename_i hcal; simp [kindOf, hop, hcal] at hk
    · rename_i hcal
      split at h
      · rename_i x y harg
        have h1 : c.args = #[x, y] := Array.toList_inj.1 harg
        obtain ⟨c', v, k1, k2, k3⟩ := mmVC_rel (P := P) (ev1_rel he x) (ev1_rel he y) h
        refine same (v := v) k1 k2 fun w' _ => ?_
        have k3 := k3 w'
        simp only [if_true] at k3
        simp [execOp, hop, resolve, hcal, h1, invoke, builtin, Builtin.max_, k3]
      · exact h.elim
    · rename_i hcal
      split at h
      · rename_i x y harg
        have h1 : c.args = #[x, y] := Array.toList_inj.1 harg
        obtain ⟨c', v, k1, k2, k3⟩ := mmVC_rel (P := P) (ev1_rel he x) (ev1_rel he y) h
        refine same (v := v) k1 k2 fun w' _ => ?_
        have k3 := k3 w'
        simp only [Bool.false_eq_true, if_false] at k3
        simp [execOp, hop, resolve, hcal, h1, invoke, builtin, Builtin.min_, k3]
      · exact h.elim
    · exact read h
  · exact read h
theorem regionOK_spec {ops : Array Oper} (h : regionOK ops = true) : Region.noSelect ops = true ∧ ∀ (i j : Nat) (oi oj : Oper), ops[i]? = some oi → ops[j]? = some oj → j ≠ i → depB oj i = false → depB oi j = false → oi.apart ops oj = true := by
  simp only [regionOK, Bool.and_eq_true, List.all_eq_true, List.mem_range] at h
  refine ⟨h.1, fun i j oi oj hi hj hne h1 h2 => ?_⟩
  have := h.2 i (Array.getElem?_eq_some_iff.1 hi).1 j (Array.getElem?_eq_some_iff.1 hj).1
  rw [hi, hj] at this
  simp only [Bool.or_eq_true, h1, h2, Bool.false_eq_true, or_false] at this
  rcases this with this | this
  · exact absurd (Nat.eq_of_beq_eq_true this) hne
  · exact this
theorem depB_false {oj : Oper} {i : Nat} (h : ∀ e ∈ oj.after, Region.binds .any e = true → e.on ≠ i) : depB oj i = false := by
  cases hd : depB oj i
  · rfl
  · obtain ⟨e, he, hb⟩ := Array.any_eq_true'.1 hd
    simp only [Bool.and_eq_true] at hb
    exact absurd (Nat.eq_of_beq_eq_true hb.2) (h e he hb.1)
theorem allVC_mem {l : List Nat} {f : Nat → VC} (h : (allVC l f).holds) : ∀ i ∈ l, (f i).holds := by
  induction l with
  | nil => simp
  | cons i l ih =>
    cases l with
    | nil => intro j hj; simp at hj; subst hj; exact h
    | cons j r =>
      intro k hk
      rcases List.mem_cons.1 hk with rfl | hk
      · exact h.1
      · exact ih h.2 k hk
theorem anyVC_sound (hok : CxOK P cx X) {O : Avoid} {ops : Array Oper} {W : List Nat} (hW : ∀ (j : Nat) (oj : Oper) (d : Nat), ops[j]? = some oj → oj.dst = some d → d ∈ W) (hreg : regionOK ops = true) {K : St → VC}
    (hQp : ∀ c a w, ¬ Q (.panic c) a w) : ∀ (n : Nat) (listed : Array Bool) {st : St} {loc : Nat → Loc} {w : World} {a : Act}, ClosedL ops listed →
    ActR cx (sit O st loc w) st a → Good cx.eT X (sit O st loc w) → OIn O w → (anyVC cx ops (masks ops.toList) n listed st K).holds →
    (∀ st' loc' a' w', (K st').holds → Good cx.eT X (sit O st' loc' w') → Tr (sit O st loc w) (sit O st' loc' w') → ActR cx (sit O st' loc' w') st' a' → Agree W st st' → Q .normal a' w') →
    wpS P ops (loudB cx ops.toList) Q n listed a w := by
  intro n
  induction n with
  | zero =>
    intro listed st loc w a _ hA g _ h hq
    simp only [anyVC] at h
    split at h
    · rename_i hr; exact ⟨hr, hq st loc a w h g (Tr.refl _) hA fun _ _ _ _ h => h⟩
    · exact h.elim
  | succ n ih =>
    intro listed st loc w a hcl hA g hO h hq
    simp only [anyVC] at h
    split at h
    · rename_i hr
      exact ⟨fun _ => hq st loc a w h g (Tr.refl _) hA fun _ _ _ _ h => h, by rw [hr]; simp⟩
    · rename_i r rs hr
      have one : ∀ i ∈ Region.ready .any ops listed, (match ops[i]? with | some o => stepVC cx ops.toList st o fun st' => anyVC cx ops (masks ops.toList) n (listed.setIfInBounds i true) st' K | none => VC.ff).holds →
          wpOp P ops Q i (fun a' w' => (loudB cx ops.toList i = false → Below w.heap.size w w') ∧ wpS P ops (loudB cx ops.toList) Q n (listed.setIfInBounds i true) a' w') a w := by
        intro i hi h
        split at h
        · rename_i o ho
          have hs := stepVC_sound (Q := Q) (P := P) hok hA g hO hW (fun d hd => hW i o d ho hd) h
          have hl : loudB cx ops.toList i = Nat.beq (kindOf cx o) 3 := by
            unfold loudB; rw [Array.getElem?_toList, ho]
          have next : ∀ a' w', StepK cx X O (fun st' => anyVC cx ops (masks ops.toList) n (listed.setIfInBounds i true) st' K) W st (sit O st loc w) a' w' → wpS P ops (loudB cx ops.toList) Q n (listed.setIfInBounds i true) a' w' := by
            rintro a' w' ⟨st', loc', k1, k2, k3, k4, k5⟩
            exact ih _ (closed_set hcl hi) k4 k2 (hO.tr k3.size) k1 fun st2 loc2 a2 w2 m1 m2 m3 m4 m5 => hq st2 loc2 a2 w2 m1 m2 (k3.trans m3) m4 (k5.trans m5)
          unfold wpOp
          simp only [ho]
          split
          · rename_i hw
            rw [if_pos hw] at hs
            exact .inl (Oper.wp_mono (fun a' w' h' => ⟨fun e => h'.1 (by rw [← hl]; exact e), next a' w' h'.2⟩) hs)
          · rename_i hw
            rw [if_neg hw] at hs
            exact ⟨fun _ => Below.refl _ _, next _ _ hs⟩
        · exact h.elim
      split at h
      · rename_i i hf
        have hmem : i ∈ Region.ready .any ops listed := by rw [hr]; exact List.mem_of_find?_eq_some hf
        have hst := List.find?_some hf
        split at h
        · rename_i o ho
          -- taken first
          have hol : ops.toList[i]? = some o := by rw [Array.getElem?_toList]; exact ho
          simp only [steadyB, hol] at hst
          have hkind : kindOf cx o = 0 ∨ (kindOf cx o = 1 ∧ ∀ j, j < ops.size → j ≠ i → listed.getD j true = false → loudB cx ops.toList j = true → Anc ops i j) := by
            split at hst
            · rename_i hk; exact .inl hk
            · rename_i hk
              refine .inr ⟨hk, fun j hj hji hun hl => ?_⟩
              rw [List.all_eq_true] at hst
              have := hst j (by rw [List.mem_range]; simpa using hj)
              simp only [Bool.or_eq_true, hun, hl, Bool.not_true, Bool.false_eq_true, or_false] at this
              rcases this with this | this
              · exact absurd (Nat.eq_of_beq_eq_true this) hji
              · exact masks_anc this
            · cases hst
          obtain ⟨hsel, hap⟩ := regionOK_spec hreg
          let C : World → World → Prop := fun w w' => kindOf cx o = 0 ∨ Below w.heap.size w w'
          have hCr : ∀ w, C w w := fun w => .inr (Below.refl _ _)
          have hCt : ∀ a b c, C a b → C b c → C a c := by
            intro a b c h1 h2
            rcases h1 with h1 | h1
            · exact .inl h1
            · rcases h2 with h2 | h2
              · exact .inl h2
              · exact .inr (h1.trans (h2.mono h1.size))
          have hCC : (∀ w w', C w w') ∨ ((∀ w w', Below w.heap.size w w' → C w w') ∧ ∀ j, listed.getD j true = false → j ≠ i → loudB cx ops.toList j = true → Anc ops i j) := by
            rcases hkind with hk | ⟨hk, hanc⟩
            · exact .inl fun _ _ => .inl hk
            · refine .inr ⟨fun _ _ hb => .inr hb, fun j hun hji hl => hanc j ?_ hji hun hl⟩
              rcases Nat.lt_or_ge j ops.size with hh | hh
              · exact hh
              · unfold loudB at hl
                rw [Array.getElem?_toList, Array.getElem?_eq_none hh] at hl
                cases hl
          have hfree : ∀ j oj, ops[j]? = some oj → j ≠ i → listed.getD j true = false → (∀ e ∈ oj.after, Region.binds .any e = true → e.on ≠ i) → o.apart ops oj = true := by
            intro j oj hj hji hun hno
            refine hap i j o oj ho hj hji (depB_false hno) (depB_false fun e he hb heq => ?_)
            obtain ⟨_, o', ho', hall⟩ := mem_ready.1 hmem
            rw [ho] at ho'
            cases ho'
            have := hall e he hb
            rw [heq] at this
            rcases Nat.lt_or_ge j listed.size with h' | h'
            · simp [h'] at hun this; rw [hun] at this; cases this
            · simp [Array.getElem?_eq_none h'] at this
          unfold stepVC at h
          obtain ⟨st1, hA1, g1, hs1, hag1, hcase⟩ := guardVC_sound hA g hW h
          have fin : ∀ {v : Value}, YieldsC P ops C o v a w → StepK cx X O (fun st' => anyVC cx ops (masks ops.toList) n (listed.setIfInBounds i true) st' K) W st (sit O st loc w) (a.put o.dst v) w → wpS P ops (loudB cx ops.toList) Q (n + 1) listed a w := by
            intro v hy ⟨st', loc', k1, k2, k3, k4, k5⟩
            refine wpS_first hCr hCt ho (fun j o' cs b hj => Region.noSelect_spec hsel j o' cs b hj) (fun c a w h => (hQp _ _ _ h).elim) n listed a w hcl hfree hCC hmem hy ?_
            exact ih _ (closed_set hcl hmem) k4 k2 (hO.tr k3.size) k1 fun st2 loc2 a2 w2 m1 m2 m3 m4 m5 => hq st2 loc2 a2 w2 m1 m2 (k3.trans m3) m4 (k5.trans m5)
          rcases hcase with ⟨hw, h'⟩ | ⟨hw, h'⟩
          · obtain ⟨v, sv, st2, loc2, m1, m2, m3, m4, m5, m6⟩ := op_steady hok g1 hO hA1.env (hkind.imp id (·.1)) h'
            refine fin (v := v) (.inl ⟨hw, fun w' hc => m6 w' hc⟩) ?_
            exact (putVC_sound m1 hA1 m4 m2 m5 m3 (fun d hd => hW i o d ho hd)).mono (by rw [hs1]; exact Tr.refl _) hag1
          · refine fin (v := undef) (.inr ⟨hw, rfl⟩) ?_
            exact (putVC_sound (loc := loc) (w := w) h' hA1 (Tr.refl _) rfl (show SVR cx.eT _ (.tup []) undef from ⟨[], rfl, .nil⟩) g1 (fun d hd => hW i o d ho hd)).mono (by rw [hs1]; exact Tr.refl _) hag1
        · exact h.elim
      · have hall := allVC_mem h
        refine ⟨fun e => (by rw [hr] at e; cases e), fun i hi => one i hi ?_⟩
        exact hall i (by rw [← hr]; exact hi)
end
end Go.Vg
