/- A part of the proof that the law TopTextCard holds of the given program: facts that are used there. -/
import Derived.Test.YtgokjhhcfemnhacDoorPart1
import Derived.Deep.LoopGhost
set_option linter.unusedSimpArgs false
set_option linter.unusedVariables false
namespace Go.Vg
open Go.RowKit
def putVC (cx : Cx) (st : St) (dst : Option Tmp) (sv : SV) (K : St → VC) : VC :=
  match dst with
  | some d => match Nat.blt d cx.N with
    | true => K { st with env := (d, sv) :: st.env }
    | false => .ff
  | none => K st
def eqB : Bool → Bool → Bool
  | true, b => b
  | false, true => false
  | false, false => true
def litSt (st : St) (d : Nat) (b : Bool) : St := { st with env := (d, .s (.one (.lit b))) :: st.env }
def guardVC (opl : List Oper) (st : St) (o : Oper) (exec skip : St → VC) : VC :=
  match o.guard with
  | none => exec st
  | some (j, want) => match opl[j]? with
    | some oj => match oj.dst with
      | some d => match look st.env d with
        | some (.s (.one (.lit b))) => match eqB b want with
          | true => exec st
          | false => skip st
        | some (.s (.one (.d .bool g))) => match want with
          | true => .ite g (exec (litSt st d true)) (skip (litSt st d false))
          | false => .ite g (skip (litSt st d true)) (exec (litSt st d false))
        | some (.tup []) => skip st
        | _ => .ff
      | none => .ff
    | none => .ff
def stepVC (cx : Cx) (opl : List Oper) (st : St) (o : Oper) (K : St → VC) : VC :=
  guardVC opl st o (fun st => opVC cx st o fun sv st' => putVC cx st' o.dst sv K) (fun st => putVC cx st o.dst (.tup []) K)
def opsVC (cx : Cx) (opl : List Oper) : List Oper → St → (St → VC) → VC
  | [], st, K => K st
  | o :: r, st, K => stepVC cx opl st o fun st' => opsVC cx opl r st' K
def loudB (cx : Cx) (opl : List Oper) (j : Nat) : Bool :=
  match opl[j]? with
  | some o => Nat.beq (kindOf cx o) 3
  | none => false
def steadyB (cx : Cx) (opl : List Oper) (ms : List Nat) (listed : Array Bool) (i : Nat) : Bool :=
  match opl[i]? with
  | some o => match kindOf cx o with
    | 0 => true
    | 1 => (List.range opl.length).all fun j => Nat.beq j i || listed.getD j true || !(loudB cx opl j) || (ms.getD j 0).testBit i
    | _ => false
  | none => false
def dataB (cx : Cx) (ops : Array Oper) (st : St) (i : Nat) : Bool :=
  match ops[i]? with
  | some o => match o.op, o.guard with
    | .load _ x, none => match ev1 st.env x with
      | .iref _ _ => true
      | _ => false
    | _, _ => false
  | none => false
def allVC : List Nat → (Nat → VC) → VC
  | [], _ => .leaf True
  | [i], f => f i
  | i :: j :: r, f => .both (f i) (allVC (j :: r) f)
def anyVC (cx : Cx) (ops : Array Oper) (ms : List Nat) : Nat → Array Bool → St → (St → VC) → VC
  | 0, listed, st, K => match Region.ready .any ops listed with
    | [] => K st
    | _ => .ff
  | n + 1, listed, st, K => match Region.ready .any ops listed with
    | [] => K st
    | r :: rs => match (r :: rs).find? (fun i => steadyB cx ops.toList ms listed i || dataB cx ops st i) with
      | some i => match ops[i]? with
        | some o => stepVC cx ops.toList st o fun st' => anyVC cx ops ms n (listed.setIfInBounds i true) st' K
        | none => .ff
      | none => allVC (r :: rs) fun i => match ops[i]? with
        | some o => stepVC cx ops.toList st o fun st' => anyVC cx ops ms n (listed.setIfInBounds i true) st' K
        | none => .ff
def aftM (o : Oper) : Nat := o.after.toList.foldl (fun s e => match Region.binds .any e with
  | true => s ||| (1 <<< e.on)
  | false => s) 0
def okM (am m i : Nat) : Bool := !(m.testBit i) && Nat.beq (am &&& m) am
def readyM : List Nat → Nat → Nat → List Nat
  | [], _, _ => []
  | am :: r, m, i => match okM am m i with
    | true => i :: readyM r m (i + 1)
    | false => readyM r m (i + 1)
def freeM (m i : Nat) : List Bool → List Nat → Nat → Bool
  | l :: ls, a :: ms, j => match l && (!(Nat.beq j i) && (!(m.testBit j) && !(a.testBit i))) with
    | true => false
    | false => freeM m i ls ms (j + 1)
  | _, _, _ => true
def steadyM (ks : List Nat) (ls : List Bool) (ms : List Nat) (m i : Nat) : Bool :=
  match ks.getD i 2 with
  | 0 => true
  | 1 => freeM m i ls ms 0
  | _ => false
def anyM (cx : Cx) (ops : Array Oper) (am ks : List Nat) (ls : List Bool) (ms : List Nat) : Nat → Nat → St → (St → VC) → VC
  | 0, m, st, K => match readyM am m 0 with
    | [] => K st
    | _ => .ff
  | n + 1, m, st, K => match readyM am m 0 with
    | [] => K st
    | r :: rs => match (r :: rs).find? (fun i => steadyM ks ls ms m i || dataB cx ops st i) with
      | some i => match ops[i]? with
        | some o => stepVC cx ops.toList st o fun st' => anyM cx ops am ks ls ms n (m ||| (1 <<< i)) st' K
        | none => .ff
      | none => allVC (r :: rs) fun i => match ops[i]? with
        | some o => stepVC cx ops.toList st o fun st' => anyM cx ops am ks ls ms n (m ||| (1 <<< i)) st' K
        | none => .ff
def anyQ (cx : Cx) (ops : Array Oper) (st : St) (K : St → VC) : VC :=
  anyM cx ops (ops.toList.map aftM) (ops.toList.map (kindOf cx)) (ops.toList.map fun o => Nat.beq (kindOf cx o) 3) (masks ops.toList) ops.size 0 st K
def depB (oj : Oper) (i : Nat) : Bool := oj.after.any fun e => Region.binds .any e && Nat.beq e.on i
def regionOK (ops : Array Oper) : Bool :=
  Region.noSelect ops && (List.range ops.size).all fun i => (List.range ops.size).all fun j => match ops[i]?, ops[j]? with
    | some oi, some oj => Nat.beq j i || depB oj i || depB oi j || oi.apart ops oj
    | _, _ => true
section
variable {X : Ext} {P : Program} {cx : Cx} {Q : Exit → Act → World → Prop}
structure ActR (cx : Cx) (S : Sit) (st : St) (a : Act) : Prop where
  size : a.tmps.size = cx.N
  defers : a.defers = []
  env : EnvR cx.eT S st.env a
def allM : Nat := 4000000
def Agree (W : List Nat) (st st' : St) : Prop := allM ∉ W → ∀ t, t ∉ W → ∀ v, look st'.env t = some v → look st.env t = some v
theorem Agree.refl (W : List Nat) (st : St) : Agree W st st := fun _ _ _ _ h => h
def StepK (cx : Cx) (X : Ext) (O : Avoid) (K : St → VC) (W : List Nat) (st : St) (S : Sit) : Act → World → Prop :=
  fun a' w' => ∃ st' loc', (K st').holds ∧ Good cx.eT X (sit O st' loc' w') ∧ Tr S (sit O st' loc' w') ∧ ActR cx (sit O st' loc' w') st' a' ∧ Agree W st st'
theorem EnvR.tr {S S' : Sit} {env : List (Nat × SV)} {a : Act} (h : EnvR cx.eT S env a) (t : Tr S S') : EnvR cx.eT S' env a := fun i sv hi => (h i sv hi).tr t
theorem ActR.put {S S' : Sit} {st st' : St} {a : Act} {d : Nat} {v : Value} {sv : SV} (h : ActR cx S st a) (t : Tr S S') (he : st'.env = (d, sv) :: st.env) (hd : d < cx.N) (hv : SVR cx.eT S' sv v) : ActR cx S' st' (a.put (some d) v) := by
  refine ⟨by simp [Act.put, h.size], h.defers, fun i sv' hi => ?_⟩
  rw [he, look_cons] at hi
  simp only [Act.put]
  by_cases e : d = i
  · rw [if_pos e] at hi
    cases hi
    subst e
    rw [Array.getD_eq_getD_getElem?, Array.getElem?_setIfInBounds, if_pos rfl, if_pos (by rw [h.size]; exact hd)]
    exact hv
  · rw [if_neg e] at hi
    rw [Array.getD_eq_getD_getElem?, Array.getElem?_setIfInBounds, if_neg e, ← Array.getD_eq_getD_getElem?]
    exact (h.env i sv' hi).tr t
theorem putVC_sound {O : Avoid} {st st0 : St} {S : Sit} {loc : Nat → Loc} {w : World} {a : Act} {dst : Option Tmp} {sv : SV} {v : Value} {K : St → VC} {W : List Nat} (h : (putVC cx st dst sv K).holds)
    (hA : ActR cx S st0 a) (ht : Tr S (sit O st loc w)) (he : st.env = st0.env) (hv : SVR cx.eT (sit O st loc w) sv v) (g : Good cx.eT X (sit O st loc w)) (hW : ∀ d, dst = some d → d ∈ W) :
    StepK cx X O K W st0 S (a.put dst v) w := by
  unfold putVC at h
  split at h
  · rename_i d
    split at h
    · rename_i hd
      refine ⟨{ st with env := (d, sv) :: st.env }, loc, h, g, ht, ?_, fun _ t htW v hv => ?_⟩
      · have := hA.put (st' := { st with env := (d, sv) :: st.env }) ht (by rw [← he]) (blt_lt hd) hv
        exact ⟨this.size, this.defers, this.env⟩
      · have hv : look ((d, sv) :: st.env) t = some v := hv
        rw [look_cons, if_neg (fun (e : d = t) => htW (e ▸ hW d rfl)), he] at hv
        exact hv
    · exact h.elim
  · refine ⟨st, loc, h, g, ht, ⟨hA.size, hA.defers, by rw [he]; exact hA.env.tr ht⟩, fun _ t _ v hv => by rw [he] at hv; exact hv⟩
theorem eqB_iff (a b : Bool) : eqB a b = (a == b) := by cases a <;> cases b <;> rfl
theorem litSt_rel {O : Avoid} {st : St} {loc : Nat → Loc} {w : World} {a : Act} {d : Nat} {b : Bool} (hA : ActR cx (sit O st loc w) st a) (hv : a.tmps.getD d undef = .bool b) :
    ActR cx (sit O (litSt st d b) loc w) (litSt st d b) a := by
  refine ⟨hA.size, hA.defers, fun i sv hi => ?_⟩
  simp only [litSt, look_cons] at hi
  by_cases e : d = i
  · rw [if_pos e] at hi
    cases hi
    subst e
    rw [hv]; rfl
  · rw [if_neg e] at hi
    exact hA.env i sv hi
theorem yielded_bool {ops : Array Oper} {a : Act} {j d : Nat} {oj : Oper} {b : Bool} (hj : ops[j]? = some oj) (hd : oj.dst = some d) (hlt : d < a.tmps.size) (hv : a.tmps.getD d undef = .bool b) : yielded ops a.tmps j = some b := by
  have : a.tmps[d]? = some (.bool b) := by
    rw [Array.getElem?_eq_getElem hlt]
    rw [Array.getD_eq_getD_getElem?, Array.getElem?_eq_getElem hlt] at hv
    simpa using hv
  simp [yielded, hj, hd, this]
theorem guardVC_sound {O : Avoid} {st : St} {loc : Nat → Loc} {w : World} {a : Act} {ops : Array Oper} {o : Oper} {exec skip : St → VC} {W : List Nat} (hA : ActR cx (sit O st loc w) st a) (g : Good cx.eT X (sit O st loc w))
    (hW : ∀ (j : Nat) (oj : Oper) (d : Nat), ops[j]? = some oj → oj.dst = some d → d ∈ W)
    (h : (guardVC ops.toList st o exec skip).holds) :
    ∃ st', ActR cx (sit O st' loc w) st' a ∧ Good cx.eT X (sit O st' loc w) ∧ sit O st' loc w = sit O st loc w ∧ Agree W st st' ∧
      ((Region.wanted o (yielded ops a.tmps) = true ∧ (exec st').holds) ∨ (Region.wanted o (yielded ops a.tmps) = false ∧ (skip st').holds)) := by
  unfold guardVC at h
  split at h
  · rename_i hg
    exact ⟨st, hA, g, rfl, fun _ _ _ _ h => h, .inl ⟨by simp [Region.wanted, hg], h⟩⟩
  · rename_i j want hg
    split at h
    · rename_i oj hj
      have hj' : ops[j]? = some oj := by rw [← Array.getElem?_toList]; exact hj
      split at h
      · rename_i d hd
        have key : ∀ b, a.tmps.getD d undef = .bool b → Region.wanted o (yielded ops a.tmps) = (b == want) := by
          intro b hb
          have hlt : d < a.tmps.size := by
            rcases Nat.lt_or_ge d a.tmps.size with h' | h'
            · exact h'
            · rw [Array.getD_eq_getD_getElem?, Array.getElem?_eq_none h'] at hb; cases hb
          simp [Region.wanted, hg, yielded_bool hj' hd hlt hb]
        have lit : ∀ b, a.tmps.getD d undef = .bool b → ActR cx (sit O (litSt st d b) loc w) (litSt st d b) a ∧ Good cx.eT X (sit O (litSt st d b) loc w) ∧ sit O (litSt st d b) loc w = sit O st loc w ∧ Agree W st (litSt st d b) :=
          fun b hb => ⟨litSt_rel hA hb, g, rfl, fun _ t ht v hv => by simp only [litSt, look_cons] at hv; rwa [if_neg (fun (e : d = t) => ht (e ▸ hW j oj d hj' hd))] at hv⟩
        split at h
        · rename_i b hl
          have hv : a.tmps.getD d undef = .bool b := hA.env d _ hl
          have hk := key b hv
          rw [← eqB_iff] at hk
          split at h
          · rename_i he; exact ⟨st, hA, g, rfl, fun _ _ _ _ h => h, .inl ⟨by rw [hk, he], h⟩⟩
          · rename_i he; exact ⟨st, hA, g, rfl, fun _ _ _ _ h => h, .inr ⟨by rw [hk, he], h⟩⟩
        · rename_i b hl
          have hv : a.tmps.getD d undef = .bool b := (bool_rel (eT := cx.eT) (S := sit O st loc w) (b := b)).1 (hA.env d _ hl)
          have hk := key b hv
          obtain ⟨l1, l2, l3, l4⟩ := lit b hv
          split at h
          · cases b
            · exact ⟨_, l1, l2, l3, l4, .inr ⟨by rw [hk]; rfl, h.2 rfl⟩⟩
            · exact ⟨_, l1, l2, l3, l4, .inl ⟨by rw [hk]; rfl, h.1 rfl⟩⟩
          · cases b
            · exact ⟨_, l1, l2, l3, l4, .inl ⟨by rw [hk]; rfl, h.2 rfl⟩⟩
            · exact ⟨_, l1, l2, l3, l4, .inr ⟨by rw [hk]; rfl, h.1 rfl⟩⟩
        · rename_i hl
          obtain ⟨vs, hv, hvs⟩ := hA.env d _ hl
          cases hvs
          have hy : yielded ops a.tmps j = none := by
            rw [Array.getD_eq_getD_getElem?] at hv
            simp only [yielded, hj', hd, Option.bind_some]
            cases ht : a.tmps[d]? with
            | none => rfl
            | some x => rw [ht] at hv; simp only [Option.getD_some] at hv; subst hv; rfl
          exact ⟨st, hA, g, rfl, fun _ _ _ _ h => h, .inr ⟨by simp [Region.wanted, hg, hy], h⟩⟩
        · exact h.elim
      · exact h.elim
    · exact h.elim
theorem Agree.trans {W : List Nat} {a b c : St} (h : Agree W a b) (h' : Agree W b c) : Agree W a c := fun hm t ht v hv => h hm t ht v (h' hm t ht v hv)
theorem StepK.mono {O : Avoid} {K : St → VC} {W : List Nat} {st st1 : St} {S S1 : Sit} {a : Act} {w : World} (h : StepK cx X O K W st1 S1 a w) (ht : Tr S S1) (ha : Agree W st st1) : StepK cx X O K W st S a w := by
  obtain ⟨st', loc', k1, k2, k3, k4, k5⟩ := h
  exact ⟨st', loc', k1, k2, ht.trans k3, k4, ha.trans k5⟩
theorem stepVC_sound (hok : CxOK P cx X) {O : Avoid} {st : St} {loc : Nat → Loc} {w : World} {a : Act} {ops : Array Oper} {o : Oper} {K : St → VC} {W : List Nat} (hA : ActR cx (sit O st loc w) st a) (g : Good cx.eT X (sit O st loc w)) (hO : OIn O w)
    (hW : ∀ (j : Nat) (oj : Oper) (d : Nat), ops[j]? = some oj → oj.dst = some d → d ∈ W) (hWo : ∀ d, o.dst = some d → d ∈ W) (h : (stepVC cx ops.toList st o K).holds) :
    if Region.wanted o (yielded ops a.tmps) then o.wp P a w (fun a' w' => (Nat.beq (kindOf cx o) 3 = false → Below w.heap.size w w') ∧ StepK cx X O K W st (sit O st loc w) a' w') Q
    else StepK cx X O K W st (sit O st loc w) (a.put o.dst undef) w := by
  obtain ⟨st', hA', g', hs, hag, hcase⟩ := guardVC_sound hA g hW h
  rcases hcase with ⟨hw, h'⟩ | ⟨hw, h'⟩
  · rw [if_pos hw]
    refine Oper.wp_mono ?_ (op_sound hok g' hO hA'.env h')
    rintro a' w' ⟨v, sv, st2, loc2, rfl, k1, k2, k3, k4, k5, k6⟩
    refine ⟨fun hl => k3 hl, ?_⟩
    exact (putVC_sound k1 hA' k5 k2 k6 k4 hWo).mono (by rw [hs]; exact Tr.refl _) hag
  · rw [if_neg (by simp [hw])]
    exact (putVC_sound (loc := loc) (w := w) h' hA' (Tr.refl _) rfl (show SVR cx.eT _ (.tup []) undef from ⟨[], rfl, .nil⟩) g' hWo).mono (by rw [hs]; exact Tr.refl _) hag
theorem opsVC_sound (hok : CxOK P cx X) {O : Avoid} {ops : Array Oper} {W : List Nat} (hW : ∀ (j : Nat) (oj : Oper) (d : Nat), ops[j]? = some oj → oj.dst = some d → d ∈ W) {K : St → VC} : ∀ (l : List Oper) {st : St} {loc : Nat → Loc} {w : World} {a : Act}, (∀ o ∈ l, ∀ d, o.dst = some d → d ∈ W) →
    ActR cx (sit O st loc w) st a → Good cx.eT X (sit O st loc w) → OIn O w → (opsVC cx ops.toList l st K).holds → (∀ st' loc' a' w', (K st').holds → Good cx.eT X (sit O st' loc' w') → Tr (sit O st loc w) (sit O st' loc' w') → ActR cx (sit O st' loc' w') st' a' → Agree W st st' → Q .normal a' w') →
    wpList P ops Q l a w := by
  intro l
  induction l with
  | nil => intro st loc w a _ hA g _ h hq; exact hq st loc a w h g (Tr.refl _) hA fun _ _ _ _ h => h
  | cons o l ih =>
    intro st loc w a hWl hA g hO h hq
    have hs := stepVC_sound (Q := Q) (P := P) hok hA g hO hW (hWl o (by simp)) h
    have next : ∀ a' w', StepK cx X O (fun st' => opsVC cx ops.toList l st' K) W st (sit O st loc w) a' w' → wpList P ops Q l a' w' := by
      rintro a' w' ⟨st', loc', k1, k2, k3, k4, k5⟩
      exact ih (fun o' ho' => hWl o' (by simp [ho'])) k4 k2 (hO.tr k3.size) k1 fun st2 loc2 a2 w2 m1 m2 m3 m4 m5 => hq st2 loc2 a2 w2 m1 m2 (k3.trans m3) m4 (k5.trans m5)
    unfold wpList
    split
    · rename_i hw
      rw [if_pos hw] at hs
      exact .inl (Oper.wp_mono (fun a' w' h' => next a' w' h'.2) hs)
    · rename_i hw
      rw [if_neg hw] at hs
      exact next _ _ hs
theorem op_steady (hok : CxOK P cx X) {O : Avoid} {st : St} {loc : Nat → Loc} {w : World} {a : Act} (g : Good cx.eT X (sit O st loc w)) (hO : OIn O w) (he : EnvR cx.eT (sit O st loc w) st.env a)
    {o : Oper} {K : SV → St → VC} (hk : kindOf cx o = 0 ∨ kindOf cx o = 1) (h : (opVC cx st o K).holds) :
    ∃ v sv st' loc', (K sv st').holds ∧ st'.env = st.env ∧ Good cx.eT X (sit O st' loc' w) ∧ Tr (sit O st loc w) (sit O st' loc' w) ∧ SVR cx.eT (sit O st' loc' w) sv v ∧
      ∀ w', (kindOf cx o = 0 ∨ Below w.heap.size w w') → (execOp a.eval o).run P w' = .ok (.value v) w' := by
  have same : ∀ {sv : SV} {v : Value}, (K sv st).holds → SVR cx.eT (sit O st loc w) sv v → (∀ w', (kindOf cx o = 0 ∨ Below w.heap.size w w') → (execOp a.eval o).run P w' = .ok (.value v) w') →
      ∃ v sv st' loc', (K sv st').holds ∧ st'.env = st.env ∧ Good cx.eT X (sit O st' loc' w) ∧ Tr (sit O st loc w) (sit O st' loc' w) ∧ SVR cx.eT (sit O st' loc' w) sv v ∧
      ∀ w', (kindOf cx o = 0 ∨ Below w.heap.size w w') → (execOp a.eval o).run P w' = .ok (.value v) w' :=
    fun h1 h2 h3 => ⟨_, _, st, loc, h1, rfl, g, Tr.refl _, h2, h3⟩
  have pure : (pureVC cx st o.op fun sv => K sv st).holds → ∃ v sv st' loc', (K sv st').holds ∧ st'.env = st.env ∧ Good cx.eT X (sit O st' loc' w) ∧ Tr (sit O st loc w) (sit O st' loc' w) ∧ SVR cx.eT (sit O st' loc' w) sv v ∧
      ∀ w', (kindOf cx o = 0 ∨ Below w.heap.size w w') → (execOp a.eval o).run P w' = .ok (.value v) w' := by
    intro h
    obtain ⟨sv, v, h1, h2, h3⟩ := pureVC_sound (P := P) hok.toTyOK g he h
    exact same h1 h2 fun w' _ => h3 w'
  have mov : ∀ x ty, (∀ w', (execOp a.eval o).run P w' = .ok (.value (a.eval x)) w') → (movVC cx st x ty K).holds → ∃ v sv st' loc', (K sv st').holds ∧ st'.env = st.env ∧ Good cx.eT X (sit O st' loc' w) ∧ Tr (sit O st loc w) (sit O st' loc' w) ∧ SVR cx.eT (sit O st' loc' w) sv v ∧
      ∀ w', (kindOf cx o = 0 ∨ Below w.heap.size w w') → (execOp a.eval o).run P w' = .ok (.value v) w' := by
    intro x ty hrun h
    obtain ⟨sv, st', loc', h1, h2, h3, h4, h5⟩ := movVC_sound g hO he h
    exact ⟨_, sv, st', loc', h1, h2, h3, h4, h5, fun w' _ => hrun w'⟩
  have read : (readVC cx st o.op fun sv => K sv st).holds → ∃ v sv st' loc', (K sv st').holds ∧ st'.env = st.env ∧ Good cx.eT X (sit O st' loc' w) ∧ Tr (sit O st loc w) (sit O st' loc' w) ∧ SVR cx.eT (sit O st' loc' w) sv v ∧
      ∀ w', (kindOf cx o = 0 ∨ Below w.heap.size w w') → (execOp a.eval o).run P w' = .ok (.value v) w' := by
    intro h
    unfold readVC at h
    simp only at h
    split at h
    · rename_i t x i hop
      split at h
      · rename_i n hn
        obtain ⟨k, hk', _⟩ := asIntC_rel hn (ev1_rel he i)
        obtain ⟨c, u, h1, h2, h3⟩ := idxVC_rel (P := P) hok.toTyOK g (k := k) (ev1_rel he x) h
        exact same h1 h2 fun w' _ => by simp [execOp, hop, hk', h3]
      · exact h.elim
    · rename_i t x f hop
      obtain ⟨c, u, h1, h2, h3⟩ := fieldVC_rel (P := P) hok.toTyOK (ev1_rel he x) h
      exact same h1 h2 fun w' _ => by simp [execOp, hop, h3]
    · rename_i t x hop
      obtain ⟨c, u, h1, h2, h3⟩ := loadVC_rel (P := P) hok.toTyOK g (ev1_rel he x) h
      refine same h1 h2 fun w' hb => ?_
      have hb : Below w.heap.size w w' := by
        rcases hb with hb | hb
        · simp [kindOf, hop] at hb
        · exact hb
      simp [execOp, hop, h3 w' hb]
    · rename_i t x lo hi hop
      obtain ⟨c, u, h1, h2, h3⟩ := sliceVC_rel (P := P) hok.toTyOK g he (ev1_rel he x) h
      exact same h1 h2 fun w' _ => by simp [execOp, hop, h3]
    · exact pure h
  unfold opVC at h
  split at h
  · rename_i hm; rw [mapVC_kind hm] at hk; omega
  unfold opVC0 at h
  split at h
  · rename_i s t x hop
    unfold convOpVC at h
    split at h
    · rename_i hs ht; simp [kindOf, hop, ht] at hk
    · exact read h
    · exact h.elim
  · rename_i x hop
    exact mov x _ (fun w' => by simp [execOp, hop]) h
  · rename_i x hop
    unfold asgVC at h
    split at h
    · obtain ⟨sv, st', loc', h1, h2, h3, h4, h5⟩ := rowNil_sound g hO he h
      exact ⟨_, sv, st', loc', h1, h2, h3, h4, h5, fun w' _ => by simp [execOp, hop]⟩
    · exact mov x _ (fun w' => by simp [execOp, hop]) h
  · rename_i t hop; simp [kindOf, hop] at hk
  · rename_i t x hop; simp [kindOf, hop] at hk
  · rename_i t ps hop
    obtain ⟨sv, v, h1, h2, h3⟩ := buildVC_sound hok.toTyOK g he h
    exact same h1 h2 fun w' _ => by have := h3 w'; simp only [execOp, hop, Sem.run_bind, Sem.run_pure]; rw [this]; rfl
  · rename_i t n ps hop; simp [kindOf, hop] at hk
  · rename_i t l c hop; simp [kindOf, hop] at hk
  · rename_i t x v hop; simp [kindOf, hop] at hk
  · rename_i fn first caps hop
    split at h
    · rename_i f ns hfi hcn
      obtain ⟨k1, k2⟩ := capNames_rel he hcn
      have hfi' : first = #[] := Array.toList_inj.1 hfi
      have hca : caps.map a.eval = (ns.map fun n => (loc n).v).toArray := by
        apply Array.toList_inj.1
        rw [Array.toList_map, k1]
      refine same (v := .func (.func f) #[] (ns.map fun n => (loc n).v).toArray) h ⟨rfl, k2⟩ fun w' _ => ?_
      simp [execOp, hop, Instr.makeFunc, hfi', hca]
    · exact h.elim
  · rename_i c hop
    unfold callOpVC at h
    split at h
    · rename_i f hcal
      exfalso
      have : kindOf cx o = 2 ∨ kindOf cx o = 3 := by
        unfold kindOf
        simp only [hop, hcal]
        split
        · rename_i heq; cases heq
        · rename_i heq; cases heq
        · rename_i heq; cases heq
        · split
          · exact .inl rfl
          · exact .inr rfl
        · split
          · exact .inl rfl
          · exact .inr rfl
        · exact .inr rfl
      omega
    · rename_i hcal; simp [kindOf, hop, hcal] at hk
    · rename_i hcal; simp [kindOf, hop, hcal] at hk
    · rename_i hcal
      split at h
      · rename_i x y harg
        have h1 : c.args = #[x, y] := Array.toList_inj.1 harg
        obtain ⟨c', v, k1, k2, k3⟩ := mmVC_rel (P := P) (ev1_rel he x) (ev1_rel he y) h
        refine same (v := v) k1 k2 fun w' _ => ?_
        have k3 := k3 w'
        simp only [if_true] at k3
        simp [execOp, hop, resolve, hcal, h1, invoke, builtin, Builtin.max_, k3]
      · exact h.elim
    · rename_i hcal
      split at h
      · rename_i x y harg
        have h1 : c.args = #[x, y] := Array.toList_inj.1 harg
        obtain ⟨c', v, k1, k2, k3⟩ := mmVC_rel (P := P) (ev1_rel he x) (ev1_rel he y) h
        refine same (v := v) k1 k2 fun w' _ => ?_
        have k3 := k3 w'
        simp only [Bool.false_eq_true, if_false] at k3
        simp [execOp, hop, resolve, hcal, h1, invoke, builtin, Builtin.min_, k3]
      · exact h.elim
    · exact read h
  · exact read h
theorem dataB_spec {ops : Array Oper} {st : St} {i : Nat} {o : Oper} (ho : ops[i]? = some o) (h : dataB cx ops st i = true) : ∃ t x u y, o.op = .load t x ∧ o.guard = none ∧ ev1 st.env x = .iref u y := by
  unfold dataB at h
  rw [ho] at h
  simp only at h
  split at h
  · rename_i t x hop hg
    split at h
    · rename_i u y hev; exact ⟨t, x, u, y, hop, hg, hev⟩
    · cases h
  · cases h
theorem wpS_frame {ops : Array Oper} {loud : Nat → Bool} {n : Nat} {listed : Array Bool} {a : Act} {w : World} {A A' : Avoid} (h : DataFr w A w A') (hw : wpS P ops loud Q n listed a w A') : wpS P ops loud Q n listed a w A := by
  cases n with
  | zero => exact hw
  | succ n => exact ⟨hw.1, fun i hi => wpOp_mono (fun a' w' h' => ⟨h'.1, let ⟨A2, k1, k2⟩ := h'.2; ⟨A2, h.trans k1, k2⟩⟩) (hw.2 i hi)⟩
theorem op_data (hok : CxOK P cx X) {O : Avoid} {st : St} {loc : Nat → Loc} {w : World} {a : Act} (g : Good cx.eT X (sit O st loc w)) (hO : OIn O w) (he : EnvR cx.eT (sit O st loc w) st.env a)
    {o : Oper} {K : SV → St → VC} {t : TypeId} {x : Operand} {u : Ty} {y : D u} (hop : o.op = .load t x) (hev : ev1 st.env x = .iref u y) (h : (opVC cx st o K).holds) :
    ∃ v sv, (K sv st).holds ∧ SVR cx.eT (sit O st loc w) sv v ∧ ∀ w' A', DataFr w (sit O st loc w).A w' A' → (execOp a.eval o).run P w' = .ok (.value v) w' := by
  have hx := ev1_rel he x
  rw [hev] at hx
  unfold opVC at h
  split at h
  · rename_i hm; have := mapVC_kind hm; simp [kindOf, hop] at this
  unfold opVC0 at h
  rw [hop] at h
  simp only at h
  unfold readVC at h
  simp only at h
  rw [hev] at h
  unfold loadVC at h
  split at h
  · rename_i ty ht
    obtain ⟨m, i, d, hf, hs⟩ := shape_of hok.toTyOK ht
    simp only at h
    split at h
    · rename_i hb
      obtain ⟨b, o', us, hvx, hr, hrow⟩ := hx
      have hr := castD_rel hb y hr
      obtain ⟨v, h1, h2⟩ := run_load_cells hf hs hr.length w (fun j v hj => (hrow j v hj).1)
      refine ⟨v, _, h, VR_of_cells hr h2, fun w' A' hd => ?_⟩
      obtain ⟨v', h3, h4⟩ := run_load_cells (P := P) hf hs hr.length w' (fun j v hj => (hd _ _ _ (hrow j v hj).2 (hrow j v hj).1).1)
      have e : v' = v := by
        split at h2
        · rename_i ho; rw [if_pos ho] at h4; rw [h2] at h4; exact (List.cons.inj h4).1.symm
        · rename_i ho; rw [if_neg ho] at h4; rw [h2, h4]
      have := h3 w' (Below.refl _ _)
      rw [e] at this
      simp [execOp, hop, hvx, this]
    · exact h.elim
  · exact h.elim
theorem regionOK_spec {ops : Array Oper} (h : regionOK ops = true) : Region.noSelect ops = true ∧ ∀ (i j : Nat) (oi oj : Oper), ops[i]? = some oi → ops[j]? = some oj → j ≠ i → depB oj i = false → depB oi j = false → oi.apart ops oj = true := by
  simp only [regionOK, Bool.and_eq_true, List.all_eq_true, List.mem_range] at h
  refine ⟨h.1, fun i j oi oj hi hj hne h1 h2 => ?_⟩
  have := h.2 i (Array.getElem?_eq_some_iff.1 hi).1 j (Array.getElem?_eq_some_iff.1 hj).1
  rw [hi, hj] at this
  simp only [Bool.or_eq_true, h1, h2, Bool.false_eq_true, or_false] at this
  rcases this with this | this
  · exact absurd (Nat.eq_of_beq_eq_true this) hne
  · exact this
theorem depB_false {oj : Oper} {i : Nat} (h : ∀ e ∈ oj.after, Region.binds .any e = true → e.on ≠ i) : depB oj i = false := by
  cases hd : depB oj i
  · rfl
  · obtain ⟨e, he, hb⟩ := Array.any_eq_true'.1 hd
    simp only [Bool.and_eq_true] at hb
    exact absurd (Nat.eq_of_beq_eq_true hb.2) (h e he hb.1)
theorem allVC_mem {l : List Nat} {f : Nat → VC} (h : (allVC l f).holds) : ∀ i ∈ l, (f i).holds := by
  induction l with
  | nil => simp
  | cons i l ih =>
    cases l with
    | nil => intro j hj; simp at hj; subst hj; exact h
    | cons j r =>
      intro k hk
      rcases List.mem_cons.1 hk with rfl | hk
      · exact h.1
      · exact ih h.2 k hk
theorem anyVC_sound (hok : CxOK P cx X) {O : Avoid} {ops : Array Oper} {W : List Nat} (hW : ∀ (j : Nat) (oj : Oper) (d : Nat), ops[j]? = some oj → oj.dst = some d → d ∈ W) (hreg : regionOK ops = true) {K : St → VC}
    (hQp : ∀ c a w, ¬ Q (.panic c) a w) : ∀ (n : Nat) (listed : Array Bool) {st : St} {loc : Nat → Loc} {w : World} {a : Act}, ClosedL ops listed →
    ActR cx (sit O st loc w) st a → Good cx.eT X (sit O st loc w) → OIn O w → (anyVC cx ops (masks ops.toList) n listed st K).holds →
    (∀ st' loc' a' w', (K st').holds → Good cx.eT X (sit O st' loc' w') → Tr (sit O st loc w) (sit O st' loc' w') → ActR cx (sit O st' loc' w') st' a' → Agree W st st' → Q .normal a' w') →
    wpS P ops (loudB cx ops.toList) Q n listed a w (sit O st loc w).A := by
  intro n
  induction n with
  | zero =>
    intro listed st loc w a _ hA g _ h hq
    simp only [anyVC] at h
    split at h
    · rename_i hr; exact ⟨hr, hq st loc a w h g (Tr.refl _) hA fun _ _ _ _ h => h⟩
    · exact h.elim
  | succ n ih =>
    intro listed st loc w a hcl hA g hO h hq
    simp only [anyVC] at h
    split at h
    · rename_i hr
      exact ⟨fun _ => hq st loc a w h g (Tr.refl _) hA fun _ _ _ _ h => h, by rw [hr]; simp⟩
    · rename_i r rs hr
      have one : ∀ i ∈ Region.ready .any ops listed, (match ops[i]? with | some o => stepVC cx ops.toList st o fun st' => anyVC cx ops (masks ops.toList) n (listed.setIfInBounds i true) st' K | none => VC.ff).holds →
          wpOp P ops Q i (fun a' w' => (loudB cx ops.toList i = false → Below w.heap.size w w') ∧ ∃ A', DataFr w (sit O st loc w).A w' A' ∧ wpS P ops (loudB cx ops.toList) Q n (listed.setIfInBounds i true) a' w' A') a w := by
        intro i hi h
        split at h
        · rename_i o ho
          have hs := stepVC_sound (Q := Q) (P := P) hok hA g hO hW (fun d hd => hW i o d ho hd) h
          have hl : loudB cx ops.toList i = Nat.beq (kindOf cx o) 3 := by
            unfold loudB; rw [Array.getElem?_toList, ho]
          have next : ∀ a' w', StepK cx X O (fun st' => anyVC cx ops (masks ops.toList) n (listed.setIfInBounds i true) st' K) W st (sit O st loc w) a' w' → ∃ A', DataFr w (sit O st loc w).A w' A' ∧ wpS P ops (loudB cx ops.toList) Q n (listed.setIfInBounds i true) a' w' A' := by
            rintro a' w' ⟨st', loc', k1, k2, k3, k4, k5⟩
            exact ⟨_, k3.cell, ih _ (closed_set hcl hi) k4 k2 (hO.tr k3.size) k1 fun st2 loc2 a2 w2 m1 m2 m3 m4 m5 => hq st2 loc2 a2 w2 m1 m2 (k3.trans m3) m4 (k5.trans m5)⟩
          unfold wpOp
          simp only [ho]
          split
          · rename_i hw
            rw [if_pos hw] at hs
            exact .inl (Oper.wp_mono (fun a' w' h' => ⟨fun e => h'.1 (by rw [← hl]; exact e), next a' w' h'.2⟩) hs)
          · rename_i hw
            rw [if_neg hw] at hs
            exact ⟨fun _ => Below.refl _ _, next _ _ hs⟩
        · exact h.elim
      split at h
      · rename_i i hf
        have hmem : i ∈ Region.ready .any ops listed := by rw [hr]; exact List.mem_of_find?_eq_some hf
        have hst := List.find?_some hf
        split at h
        · rename_i o ho
          have hol : ops.toList[i]? = some o := by rw [Array.getElem?_toList]; exact ho
          obtain ⟨hsel, hap⟩ := regionOK_spec hreg
          have hfree : ∀ j oj, ops[j]? = some oj → j ≠ i → listed.getD j true = false → (∀ e ∈ oj.after, Region.binds .any e = true → e.on ≠ i) → o.apart ops oj = true := by
            intro j oj hj hji hun hno
            refine hap i j o oj ho hj hji (depB_false hno) (depB_false fun e he hb heq => ?_)
            obtain ⟨_, o', ho', hall⟩ := mem_ready.1 hmem
            rw [ho] at ho'
            cases ho'
            have := hall e he hb
            rw [heq] at this
            rcases Nat.lt_or_ge j listed.size with h' | h'
            · simp [h'] at hun this; rw [hun] at this; cases this
            · simp [Array.getElem?_eq_none h'] at this
          have fin : ∀ {C : Link} (hCr : ∀ w A, C w A w A) (hCt : ∀ a A b B c D, C a A b B → C b B c D → C a A c D)
              (hCC : (∀ w A w' A', DataFr w A w' A' → C w A w' A') ∨ ((∀ w A w' A', Below w.heap.size w w' → C w A w' A') ∧ ∀ j, listed.getD j true = false → j ≠ i → loudB cx ops.toList j = true → Anc ops i j))
              {v : Value}, YieldsC P ops C o v a w (sit O st loc w).A → StepK cx X O (fun st' => anyVC cx ops (masks ops.toList) n (listed.setIfInBounds i true) st' K) W st (sit O st loc w) (a.put o.dst v) w → wpS P ops (loudB cx ops.toList) Q (n + 1) listed a w (sit O st loc w).A := by
            intro C hCr hCt hCC v hy ⟨st', loc', k1, k2, k3, k4, k5⟩
            refine wpS_first hCr hCt ho (fun j o' cs b hj => Region.noSelect_spec hsel j o' cs b hj) (fun c a w h => (hQp _ _ _ h).elim) n listed a w _ hcl hfree hCC hmem hy ?_
            exact wpS_frame k3.cell (ih _ (closed_set hcl hmem) k4 k2 (hO.tr k3.size) k1 fun st2 loc2 a2 w2 m1 m2 m3 m4 m5 => hq st2 loc2 a2 w2 m1 m2 (k3.trans m3) m4 (k5.trans m5))
          cases hd : dataB cx ops st i with
          | true =>
            obtain ⟨t, x, u, y, hop, hg, hev⟩ := dataB_spec ho hd
            have h' : (opVC cx st o fun sv st' => putVC cx st' o.dst sv fun st' => anyVC cx ops (masks ops.toList) n (listed.setIfInBounds i true) st' K).holds := by
              unfold stepVC guardVC at h; rw [hg] at h; exact h
            obtain ⟨v, sv, m1, m2, m3⟩ := op_data hok g hO hA.env hop hev h'
            have hw : Region.wanted o (yielded ops a.tmps) = true := by unfold Region.wanted; rw [hg]
            refine fin (C := DataFr) DataFr.refl (fun _ _ _ _ _ _ => DataFr.trans) (.inl fun _ _ _ _ h => h) (v := v) (.inl ⟨hw, fun w' A' hc => m3 w' A' hc⟩) ?_
            exact (putVC_sound m1 hA (Tr.refl _) rfl m2 g (fun d hd => hW i o d ho hd))
          | false =>
            have hkind : kindOf cx o = 0 ∨ (kindOf cx o = 1 ∧ ∀ j, j < ops.size → j ≠ i → listed.getD j true = false → loudB cx ops.toList j = true → Anc ops i j) := by
              rw [hd, Bool.or_false] at hst
              simp only [steadyB, hol] at hst
              split at hst
              · rename_i hk; exact .inl hk
              · rename_i hk
                refine .inr ⟨hk, fun j hj hji hun hl => ?_⟩
                rw [List.all_eq_true] at hst
                have := hst j (by rw [List.mem_range]; simpa using hj)
                simp only [Bool.or_eq_true, hun, hl, Bool.not_true, Bool.false_eq_true, or_false] at this
                rcases this with this | this
                · exact absurd (Nat.eq_of_beq_eq_true this) hji
                · exact masks_anc this
              · cases hst
            let C : Link := fun w _ w' _ => kindOf cx o = 0 ∨ Below w.heap.size w w'
            have hCr : ∀ w A, C w A w A := fun w A => .inr (Below.refl _ _)
            have hCt : ∀ a A b B c D, C a A b B → C b B c D → C a A c D := by
              intro a A b B c D h1 h2
              rcases h1 with h1 | h1
              · exact .inl h1
              · rcases h2 with h2 | h2
                · exact .inl h2
                · exact .inr (h1.trans (h2.mono h1.size))
            have hCC : (∀ w A w' A', DataFr w A w' A' → C w A w' A') ∨ ((∀ w A w' A', Below w.heap.size w w' → C w A w' A') ∧ ∀ j, listed.getD j true = false → j ≠ i → loudB cx ops.toList j = true → Anc ops i j) := by
              rcases hkind with hk | ⟨hk, hanc⟩
              · exact .inl fun _ _ _ _ _ => .inl hk
              · refine .inr ⟨fun _ _ _ _ hb => .inr hb, fun j hun hji hl => hanc j ?_ hji hun hl⟩
                rcases Nat.lt_or_ge j ops.size with hh | hh
                · exact hh
                · unfold loudB at hl
                  rw [Array.getElem?_toList, Array.getElem?_eq_none hh] at hl
                  cases hl
            unfold stepVC at h
            obtain ⟨st1, hA1, g1, hs1, hag1, hcase⟩ := guardVC_sound hA g hW h
            rcases hcase with ⟨hw, h'⟩ | ⟨hw, h'⟩
            · obtain ⟨v, sv, st2, loc2, m1, m2, m3, m4, m5, m6⟩ := op_steady hok g1 hO hA1.env (hkind.imp id (·.1)) h'
              refine fin hCr hCt hCC (v := v) (.inl ⟨hw, fun w' _ hc => m6 w' hc⟩) ?_
              exact (putVC_sound m1 hA1 m4 m2 m5 m3 (fun d hd => hW i o d ho hd)).mono (by rw [hs1]; exact Tr.refl _) hag1
            · refine fin hCr hCt hCC (v := undef) (.inr ⟨hw, rfl⟩) ?_
              exact (putVC_sound (loc := loc) (w := w) h' hA1 (Tr.refl _) rfl (show SVR cx.eT _ (.tup []) undef from ⟨[], rfl, .nil⟩) g1 (fun d hd => hW i o d ho hd)).mono (by rw [hs1]; exact Tr.refl _) hag1
        · exact h.elim
      · have hall := allVC_mem h
        refine ⟨fun e => (by rw [hr] at e; cases e), fun i hi => one i hi ?_⟩
        exact hall i (by rw [← hr]; exact hi)
end
structure InvM (ops : Array Oper) (m : Nat) (listed : Array Bool) : Prop where
  size : listed.size = ops.size
  bits : ∀ k, m.testBit k = listed.getD k false
theorem InvM.out {ops : Array Oper} {m : Nat} {listed : Array Bool} (h : InvM ops m listed) {i : Nat} (hi : i < ops.size) : listed.getD i true = m.testBit i := by
  rw [h.bits]; simp [h.size, hi]
theorem InvM.set {ops : Array Oper} {m : Nat} {listed : Array Bool} (h : InvM ops m listed) {i : Nat} (hi : i < ops.size) : InvM ops (m ||| (1 <<< i)) (listed.setIfInBounds i true) := by
  refine ⟨by simp [h.size], fun k => ?_⟩
  rw [Nat.testBit_or, h.bits, Nat.one_shiftLeft, Nat.testBit_two_pow]
  by_cases e : i = k
  · subst e; simp [h.size, hi]
  · simp [e, Array.getElem?_setIfInBounds]
theorem land_or (a b m : Nat) : (Nat.beq ((a ||| b) &&& m) (a ||| b)) = (Nat.beq (a &&& m) a && Nat.beq (b &&& m) b) := by
  rw [Bool.eq_iff_iff, Bool.and_eq_true, Nat.beq_eq, Nat.beq_eq, Nat.beq_eq]
  constructor
  · intro h
    have hb : ∀ k, (a.testBit k || b.testBit k) = true → m.testBit k = true := fun k hk => by
      have := congrArg (fun x => x.testBit k) h
      simp only [Nat.testBit_and, Nat.testBit_or] at this
      rw [hk] at this; simpa using this
    constructor <;> apply Nat.eq_of_testBit_eq <;> intro k <;> rw [Nat.testBit_and]
    · cases ha : a.testBit k with
      | false => rfl
      | true => rw [hb k (by rw [ha]; rfl)]; rfl
    · cases ha : b.testBit k with
      | false => rfl
      | true => rw [hb k (by rw [ha]; simp)]; rfl
  · rintro ⟨h1, h2⟩
    rw [Nat.and_or_distrib_right, h1, h2]
theorem one_in (k m : Nat) : Nat.beq ((1 <<< k) &&& m) (1 <<< k) = m.testBit k := by
  rw [Bool.eq_iff_iff, Nat.beq_eq, Nat.one_shiftLeft]
  constructor
  · intro h
    have := congrArg (fun x => x.testBit k) h
    simpa [Nat.testBit_and, Nat.testBit_two_pow] using this
  · intro h
    apply Nat.eq_of_testBit_eq
    intro j
    rw [Nat.testBit_and, Nat.testBit_two_pow]
    by_cases e : k = j
    · subst e; simp [h]
    · simp [e]
theorem aftM_bits (o : Oper) (m : Nat) : Nat.beq (aftM o &&& m) (aftM o) = o.after.toList.all fun e => !Region.binds .any e || m.testBit e.on := by
  have key : ∀ (l : List Edge) (s : Nat),
      Nat.beq (l.foldl (fun s e => match Region.binds .any e with | true => s ||| (1 <<< e.on) | false => s) s &&& m) (l.foldl (fun s e => match Region.binds .any e with | true => s ||| (1 <<< e.on) | false => s) s) =
        (Nat.beq (s &&& m) s && l.all fun e => !Region.binds .any e || m.testBit e.on) := by
    intro l
    induction l with
    | nil => intro s; simp
    | cons e l ih =>
      intro s
      rw [List.foldl_cons, ih, List.all_cons]
      cases Region.binds .any e with
      | true => simp only [land_or, one_in, Bool.not_true, Bool.false_or, Bool.and_assoc]
      | false => simp
  have := key o.after.toList 0
  simpa [aftM] using this
theorem readyM_eq {m : Nat} {p : Nat → Bool} : ∀ (l : List Nat) (i : Nat), (∀ k am, l[k]? = some am → okM am m (i + k) = p (i + k)) → readyM l m i = (List.range' i l.length).filter p
  | [], _, _ => rfl
  | am :: r, i, h => by
    have h0 : okM am m i = p i := by simpa using h 0 am rfl
    have ih := readyM_eq (m := m) (p := p) r (i + 1) fun k am' hk => by
      have := h (k + 1) am' (by simpa using hk)
      rwa [show i + (k + 1) = i + 1 + k by omega] at this
    have e : readyM (am :: r) m i = match okM am m i with | true => i :: readyM r m (i + 1) | false => readyM r m (i + 1) := by rw [readyM]
    rw [List.length_cons, List.range'_succ, List.filter_cons, ← ih, e, h0]
    cases p i <;> rfl
theorem freeM_eq {m i : Nat} {p : Nat → Bool} : ∀ (ls : List Bool) (as : List Nat) (j : Nat), ls.length = as.length →
    (∀ k l a, ls[k]? = some l → as[k]? = some a → (!(l && (!(Nat.beq (j + k) i) && (!(m.testBit (j + k)) && !(a.testBit i))))) = p (j + k)) → freeM m i ls as j = (List.range' j ls.length).all p
  | [], [], _, _, _ => rfl
  | [], _ :: _, _, h, _ => by simp at h
  | _ :: _, [], _, h, _ => by simp at h
  | l :: ls, a :: as, j, hl, h => by
    have h0 := h 0 l a rfl rfl
    rw [Nat.add_zero] at h0
    have ih := freeM_eq (m := m) (i := i) (p := p) ls as (j + 1) (by simpa using hl) fun k l' a' hk ha => by
      have := h (k + 1) l' a' (by simpa using hk) (by simpa using ha)
      rwa [show j + (k + 1) = j + 1 + k by omega] at this
    have e : freeM m i (l :: ls) (a :: as) j = match l && (!(Nat.beq j i) && (!(m.testBit j) && !(a.testBit i))) with | true => false | false => freeM m i ls as (j + 1) := by rw [freeM]
    rw [List.length_cons, List.range'_succ, List.all_cons, ← ih, ← h0, e]
    cases (l && (!(Nat.beq j i) && (!(m.testBit j) && !(a.testBit i)))) <;> rfl
theorem masksGo_len : ∀ (r : List Oper) (ms : List Nat), (masksGo r ms).length = ms.length + r.length
  | [], ms => by simp [masksGo]
  | o :: r, ms => by rw [masksGo, masksGo_len r]; simp; omega
theorem masks_len (l : List Oper) : (masks l).length = l.length := by unfold masks; rw [masksGo_len]; simp
theorem ready_eq {ops : Array Oper} {m : Nat} {listed : Array Bool} (h : InvM ops m listed) : readyM (ops.toList.map aftM) m 0 = Region.ready .any ops listed := by
  unfold Region.ready
  rw [readyM_eq (p := fun i => !listed.getD i true && ((ops[i]?).map (·.after.all fun e => !Region.binds .any e || listed.getD e.on false)).getD false), List.length_map, List.range_eq_range']
  · rfl
  · intro k am hk
    rw [Nat.zero_add]
    rw [List.getElem?_map, Array.getElem?_toList] at hk
    cases ho : ops[k]? with
    | none => rw [ho] at hk; cases hk
    | some o =>
      rw [ho] at hk
      simp only [Option.map_some, Option.some.injEq] at hk
      have hlt : k < ops.size := (Array.getElem?_eq_some_iff.1 ho).1
      unfold okM
      rw [← hk, aftM_bits, h.out hlt]
      simp only [Option.map_some, Option.getD_some]
      congr 1
      rw [← Array.all_toList]
      congr 1
      funext e
      rw [h.bits]
theorem steady_eq {cx : Cx} {ops : Array Oper} {m : Nat} {listed : Array Bool} (h : InvM ops m listed) (i : Nat) :
    steadyM (ops.toList.map (kindOf cx)) (ops.toList.map fun o => Nat.beq (kindOf cx o) 3) (masks ops.toList) m i = steadyB cx ops.toList (masks ops.toList) listed i := by
  unfold steadyM steadyB
  rw [List.getD_eq_getElem?_getD, List.getElem?_map]
  cases ho : ops.toList[i]? with
  | none => rfl
  | some o =>
    simp only [Option.map_some, Option.getD_some]
    have hfree : freeM m i (ops.toList.map fun o => Nat.beq (kindOf cx o) 3) (masks ops.toList) 0 = (List.range ops.toList.length).all fun j => Nat.beq j i || listed.getD j true || !(loudB cx ops.toList j) || ((masks ops.toList).getD j 0).testBit i := by
      rw [freeM_eq (p := fun j => Nat.beq j i || listed.getD j true || !(loudB cx ops.toList j) || ((masks ops.toList).getD j 0).testBit i), List.length_map, List.range_eq_range']
      · rw [List.length_map, masks_len]
      · intro k l a hk ha
        rw [Nat.zero_add]
        rw [List.getElem?_map] at hk
        cases hoo : ops.toList[k]? with
        | none => rw [hoo] at hk; cases hk
        | some o' =>
          rw [hoo] at hk
          simp only [Option.map_some, Option.some.injEq] at hk
          have hlt : k < ops.size := by rw [Array.getElem?_toList] at hoo; exact (Array.getElem?_eq_some_iff.1 hoo).1
          have hm : (masks ops.toList).getD k 0 = a := by rw [List.getD_eq_getElem?_getD, ha]; rfl
          have hl : loudB cx ops.toList k = l := by unfold loudB; rw [hoo]; exact hk
          rw [hm, hl, h.out hlt]
          cases l <;> cases Nat.beq k i <;> cases m.testBit k <;> cases a.testBit i <;> rfl
    split
    · rfl
    · exact hfree
    · rfl
theorem anyM_eq {cx : Cx} {ops : Array Oper} {K : St → VC} : ∀ (n m : Nat) (listed : Array Bool) (st : St), InvM ops m listed →
    anyM cx ops (ops.toList.map aftM) (ops.toList.map (kindOf cx)) (ops.toList.map fun o => Nat.beq (kindOf cx o) 3) (masks ops.toList) n m st K = anyVC cx ops (masks ops.toList) n listed st K := by
  intro n
  induction n with
  | zero => intro m listed st h; unfold anyM anyVC; rw [ready_eq h]
  | succ n ih =>
    intro m listed st h
    unfold anyM anyVC
    rw [ready_eq h]
    have hst : (fun i => steadyM (ops.toList.map (kindOf cx)) (ops.toList.map fun o => Nat.beq (kindOf cx o) 3) (masks ops.toList) m i || dataB cx ops st i) = fun i => steadyB cx ops.toList (masks ops.toList) listed i || dataB cx ops st i := funext fun i => by rw [steady_eq h]
    rw [hst]
    have hone : ∀ i, (match ops[i]? with
        | some o => stepVC cx ops.toList st o fun st' => anyM cx ops (ops.toList.map aftM) (ops.toList.map (kindOf cx)) (ops.toList.map fun o => Nat.beq (kindOf cx o) 3) (masks ops.toList) n (m ||| (1 <<< i)) st' K
        | none => VC.ff) = (match ops[i]? with
        | some o => stepVC cx ops.toList st o fun st' => anyVC cx ops (masks ops.toList) n (listed.setIfInBounds i true) st' K
        | none => VC.ff) := by
      intro i
      cases ho : ops[i]? with
      | none => rfl
      | some o =>
        have hlt : i < ops.size := (Array.getElem?_eq_some_iff.1 ho).1
        simp only
        congr 1
        funext st'
        exact ih _ _ st' (h.set hlt)
    split
    · rfl
    · split
      · rename_i i hf
        exact hone i
      · congr 1
        funext i
        exact hone i
theorem anyQ_eq {cx : Cx} {ops : Array Oper} {st : St} {K : St → VC} : anyQ cx ops st K = anyVC cx ops (masks ops.toList) ops.size (Array.replicate ops.size false) st K :=
  anyM_eq _ _ _ _ ⟨by simp, fun k => by simp [Array.getElem?_replicate]; split <;> rfl⟩
end Go.Vg

namespace Go.Vg
open Go.RowKit
def renC (r : Nat → Nat) : C → C
  | .app t xs n => .app t xs (r n)
  | .mrow n => .mrow (r n)
  | .msub n t lo len => .msub (r n) t lo len
  | .aref n => .aref (r n)
  | .xref n => .xref (r n)
  | .xd n p => .xd (r n) p
  | .ref n o => .ref (r n) o
  | .nref n => .nref (r n)
  | .eref n t i o => .eref (r n) t i o
  | .fn f caps => .fn f (caps.map r)
  | c => c
def renCs (r : Nat → Nat) : List C → List C
  | [] => []
  | c :: cs => renC r c :: renCs r cs
def renSV0 (r : Nat → Nat) : SV0 → SV0
  | .one c => .one (renC r c)
  | .agg cs => .agg (renCs r cs)
def renSV0s (r : Nat → Nat) : List SV0 → List SV0
  | [] => []
  | c :: cs => renSV0 r c :: renSV0s r cs
def renSV (r : Nat → Nat) : SV → SV
  | .s x => .s (renSV0 r x)
  | .tup xs => .tup (renSV0s r xs)
def renOC (r : Nat → Nat) : OC → OC
  | .cells T cs => .cells T (renCs r cs)
  | .iter cs seen cl => .iter (renCs r cs) seen cl
  | oc => oc
def renEnv (r : Nat → Nat) : List (Nat × SV) → List (Nat × SV)
  | [] => []
  | (t, v) :: l => (t, renSV r v) :: renEnv r l
def renObjs (r : Nat → Nat) : List (Nat × OC) → List (Nat × OC)
  | [] => []
  | (n, oc) :: l => (r n, renOC r oc) :: renObjs r l
def renSt (r : Nat → Nat) (st : St) : St := { env := renEnv r st.env, objs := renObjs r st.objs, next := st.next }
structure Turn (base next : Nat) (r q : Nat → Nat) : Prop where
  low : ∀ n, n < base → r n = n
  lt : ∀ n, n < next → r n < next
  back : ∀ n, n < next → q (r n) = n
  qlt : ∀ n, n < next → q n < next
  forth : ∀ n, n < next → r (q n) = n
section
variable {X : Ext} {cx : Cx} {base next : Nat} {r q : Nat → Nat}
theorem Turn.qlow (h : Turn base next r q) (hb : base ≤ next) {n : Nat} (hn : n < base) : q n = n := by
  have := h.back n (by omega); rw [h.low n hn] at this; exact this
theorem look_renEnv (l : List (Nat × SV)) (t : Nat) : look (renEnv r l) t = (look l t).map (renSV r) := by
  induction l with
  | nil => rfl
  | cons p l ih =>
    obtain ⟨m, v⟩ := p
    simp only [renEnv, look_cons]
    split
    · rfl
    · exact ih
theorem look_renObjs (h : Turn base next r q) : ∀ {l : List (Nat × OC)}, (∀ p ∈ l, p.1 < next) → ∀ m, m < next → look (renObjs r l) m = (look l (q m)).map (renOC r) := by
  intro l
  induction l with
  | nil => intro _ m _; rfl
  | cons p l ih =>
    obtain ⟨n, oc⟩ := p
    intro hk m hm
    have hn : n < next := hk (n, oc) (by simp)
    simp only [renObjs, look_cons]
    by_cases e : r n = m
    · rw [if_pos e, if_pos (by rw [← e, h.back n hn])]; rfl
    · rw [if_neg e, if_neg (fun e2 => e (by rw [e2, h.forth m hm]))]
      exact ih (fun p hp => hk p (by simp [hp])) m hm
theorem look_renObjs_big (h : Turn base next r q) : ∀ {l : List (Nat × OC)}, (∀ p ∈ l, p.1 < next) → ∀ m, ¬ m < next → look (renObjs r l) m = none := by
  intro l
  induction l with
  | nil => intro _ m _; rfl
  | cons p l ih =>
    obtain ⟨n, oc⟩ := p
    intro hk m hm
    simp only [renObjs, look_cons]
    rw [if_neg (fun e => hm (by rw [← e]; exact h.lt n (hk (n, oc) (by simp))))]
    exact ih (fun p hp => hk p (by simp [hp])) m hm
theorem look_some_of_mem {α : Type} {l : List (Nat × α)} {p : Nat × α} (hp : p ∈ l) : ∃ x, look l p.1 = some x := by
  induction l with
  | nil => cases hp
  | cons p' l ih =>
    obtain ⟨m, y⟩ := p'
    rw [look_cons]
    by_cases e : m = p.1
    · exact ⟨y, by rw [if_pos e]⟩
    · rw [if_neg e]
      rcases List.mem_cons.1 hp with rfl | hp
      · exact absurd rfl e
      · exact ih hp
theorem renOC_lo (oc : OC) : (renOC r oc).lo = oc.lo := by cases oc <;> rfl
section
variable {O : Avoid} {st : St} {loc : Nat → Loc} {w : World}
theorem ren_ob (h : Turn base st.next r q) (g : Good cx.eT X (sit O st loc w)) {m : Nat} {oc' : OC} : (sit O (renSt r st) (fun m => loc (q m)) w).ob m = some oc' ↔ m < st.next ∧ ∃ oc, look st.objs (q m) = some oc ∧ oc' = renOC r oc := by
  have hk : ∀ p ∈ st.objs, p.1 < st.next := fun p hp => by
    obtain ⟨x, hx⟩ := look_some_of_mem hp
    exact (g.obj p.1 x hx).1
  show look (renObjs r st.objs) m = some oc' ↔ _
  by_cases hm : m < st.next
  · rw [look_renObjs h hk m hm]
    cases look st.objs (q m) with
    | none => simp
    | some oc => simp [hm, eq_comm]
  · rw [look_renObjs_big h hk m hm]; simp [hm]
theorem ren_A (h : Turn base st.next r q) (g : Good cx.eT X (sit O st loc w)) : (sit O (renSt r st) (fun m => loc (q m)) w).A = (sit O st loc w).A := by
  funext b off
  apply propext
  constructor
  · rintro (k | ⟨m, oc', k1, k2, k3⟩)
    · exact .inl k
    · obtain ⟨hm, oc, h1, rfl⟩ := (ren_ob h g).1 k1
      exact .inr ⟨q m, oc, h1, k2, by rwa [renOC_lo] at k3⟩
  · rintro (k | ⟨n, oc, k1, k2, k3⟩)
    · exact .inl k
    · have hn := (g.obj n oc k1).1
      refine .inr ⟨r n, renOC r oc, (ren_ob h g).2 ⟨h.lt n hn, oc, by rw [h.back n hn]; exact k1, rfl⟩, ?_, by rw [renOC_lo]; exact k3⟩
      show b ∈ (loc (q (r n))).bs
      rw [h.back n hn]; exact k2
theorem ren_owns (h : Turn base st.next r q) (g : Good cx.eT X (sit O st loc w)) {b : Nat} (hb : (sit O (renSt r st) (fun m => loc (q m)) w).owns b) : (sit O st loc w).owns b := by
  obtain ⟨m, oc', k1, k2⟩ := hb
  obtain ⟨hm, oc, h1, rfl⟩ := (ren_ob h g).1 k1
  exact ⟨q m, oc, h1, k2⟩
theorem ren_CR (h : Turn base st.next r q) (g : Good cx.eT X (sit O st loc w)) {c : C} {v : Value} (hc : CR cx.eT (sit O st loc w) c v) : CR cx.eT (sit O (renSt r st) (fun m => loc (q m)) w) (renC r c) v := by
  have hA := ren_A (r := r) (q := q) h g
  have obn : ∀ {n : Nat} {oc : OC}, n < st.next → (sit O (renSt r st) (fun m => loc (q m)) w).ob (r n) = some oc → ∃ oc0, look st.objs n = some oc0 ∧ oc = renOC r oc0 := by
    intro n oc hn ho
    obtain ⟨_, oc0, h1, h2⟩ := (ren_ob h g).1 ho
    rw [h.back n hn] at h1
    exact ⟨oc0, h1, h2⟩
  cases c with
  | lit b => exact hc
  | d t x => show VR cx.eT t x _ w v; rw [hA]; exact hc
  | app t xs n =>
    obtain ⟨h1, h2, h3⟩ := hc
    refine ⟨by rw [hA]; exact h1, h.lt n h2, fun ys hy => ?_⟩
    obtain ⟨oc0, k1, k2⟩ := obn h2 hy
    cases oc0 <;> simp [renOC] at k2
    obtain ⟨rfl, rfl⟩ := k2
    obtain ⟨m1, m2⟩ := h3 _ k1
    exact ⟨m1, fun e => by show v = (loc (q (r n))).v; rw [h.back n h2]; exact m2 e⟩
  | nilS => exact hc
  | nilP => exact hc
  | emp => exact hc
  | mrow n =>
    refine ⟨h.lt n hc.1, fun t xs e => ?_⟩
    obtain ⟨oc0, k1, k2⟩ := obn hc.1 e
    cases oc0 <;> simp [renOC] at k2
    obtain ⟨rfl, rfl⟩ := k2
    show v = (loc (q (r n))).v
    rw [h.back n hc.1]; exact hc.2 _ _ k1
  | msub n t lo len =>
    refine ⟨h.lt n hc.1, fun xs e => ?_⟩
    obtain ⟨oc0, k1, k2⟩ := obn hc.1 e
    cases oc0 <;> simp [renOC] at k2
    obtain ⟨rfl, k3⟩ := k2
    rcases hc.2 _ k1 with h5 | ⟨b, c, h5, h6⟩
    · exact .inl h5
    · exact .inr ⟨b, c, by show (loc (q (r n))).bs = [b]; rw [h.back n hc.1]; exact h5, h6⟩
  | aref n =>
    refine ⟨h.lt n hc.1, fun t xs e => ?_⟩
    obtain ⟨oc0, k1, k2⟩ := obn hc.1 e
    cases oc0 <;> simp [renOC] at k2
    obtain ⟨rfl, rfl⟩ := k2
    show v = (loc (q (r n))).v
    rw [h.back n hc.1]; exact hc.2 _ _ k1
  | xref n =>
    refine ⟨h.lt n hc.1, fun oc e hx => ?_⟩
    obtain ⟨oc0, k1, k2⟩ := obn hc.1 e
    have hx' : oc0.isX = true := by subst k2; cases oc0 <;> first | rfl | cases hx
    show v = (loc (q (r n))).v
    rw [h.back n hc.1]; exact hc.2 _ k1 hx'
  | xd n p =>
    refine ⟨h.lt n hc.1, fun t x e => ?_⟩
    obtain ⟨oc0, k1, k2⟩ := obn hc.1 e
    cases oc0 <;> simp [renOC] at k2
    obtain ⟨rfl, rfl, k2⟩ := k2
    show XPR p (loc (q (r n))).v v
    rw [h.back n hc.1]; exact hc.2 _ _ k1
  | ref n off =>
    refine ⟨h.lt n hc.1, fun T cs e => ?_⟩
    obtain ⟨oc0, k1, k2⟩ := obn hc.1 e
    cases oc0 <;> simp [renOC] at k2
    show ∃ b, (loc (q (r n))).v = _ ∧ _
    rw [h.back n hc.1]; exact hc.2 _ _ k1
  | nref n =>
    refine ⟨h.lt n hc.1, ?_⟩
    rcases hc.2 with hn | hn
    · exact .inl hn
    · refine .inr fun T cs e => ?_
      obtain ⟨oc0, k1, k2⟩ := obn hc.1 e
      cases oc0 <;> simp [renOC] at k2
      show v = (loc (q (r n))).v
      rw [h.back n hc.1]; exact hn _ _ k1
  | eref n t i off =>
    refine ⟨h.lt n hc.1, fun ⟨xs, e⟩ => ?_⟩
    show ∃ b, (loc (q (r n))).bs = _ ∧ _
    rw [h.back n hc.1]
    rcases e with e | e
    · obtain ⟨oc0, k1, k2⟩ := obn hc.1 e
      cases oc0 <;> simp [renOC] at k2
      obtain ⟨rfl, rfl⟩ := k2
      exact hc.2 ⟨_, .inl k1⟩
    · obtain ⟨oc0, k1, k2⟩ := obn hc.1 e
      cases oc0 <;> simp [renOC] at k2
      obtain ⟨rfl, rfl⟩ := k2
      exact hc.2 ⟨_, .inr k1⟩
  | iref t x =>
    obtain ⟨b, o, us, rfl, h1, h2⟩ := hc
    exact ⟨b, o, us, rfl, by rw [hA]; exact h1, by rw [hA]; exact h2⟩
  | fn f caps =>
    obtain ⟨rfl, h2⟩ := hc
    refine ⟨?_, fun m hm => ?_⟩
    · congr 2
      rw [List.map_map]
      exact List.map_congr_left fun n hn => by show _ = (loc (q (r n))).v; rw [h.back n (h2 n hn).1]; rfl
    · obtain ⟨n, hn, rfl⟩ := List.mem_map.1 hm
      refine ⟨h.lt n (h2 n hn).1, fun t ys e => ?_⟩
      obtain ⟨oc0, k1, k2⟩ := obn (h2 n hn).1 e
      cases oc0 <;> simp [renOC] at k2
      obtain ⟨rfl, rfl⟩ := k2
      exact (h2 n hn).2 _ _ k1
  | any => trivial
theorem ren_CRs (h : Turn base st.next r q) (g : Good cx.eT X (sit O st loc w)) : ∀ {cs : List C} {vs : List Value}, CRs cx.eT (sit O st loc w) cs vs → CRs cx.eT (sit O (renSt r st) (fun m => loc (q m)) w) (renCs r cs) vs
  | _, _, .nil => .nil
  | _, _, .cons h1 h2 h3 => .cons (ren_CR h g h1) h2 (ren_CRs h g h3)
theorem ren_SV0R (h : Turn base st.next r q) (g : Good cx.eT X (sit O st loc w)) {x : SV0} {v : Value} (hx : SV0R cx.eT (sit O st loc w) x v) : SV0R cx.eT (sit O (renSt r st) (fun m => loc (q m)) w) (renSV0 r x) v := by
  cases x with
  | one c => exact ren_CR h g hx
  | agg cs => obtain ⟨vs, rfl, hv⟩ := hx; exact ⟨vs, rfl, ren_CRs h g hv⟩
theorem ren_SV0Rs (h : Turn base st.next r q) (g : Good cx.eT X (sit O st loc w)) : ∀ {cs : List SV0} {vs : List Value}, SV0Rs cx.eT (sit O st loc w) cs vs → SV0Rs cx.eT (sit O (renSt r st) (fun m => loc (q m)) w) (renSV0s r cs) vs
  | _, _, .nil => .nil
  | _, _, .cons h1 h3 => .cons (ren_SV0R h g h1) (ren_SV0Rs h g h3)
theorem ren_SVR (h : Turn base st.next r q) (g : Good cx.eT X (sit O st loc w)) {x : SV} {v : Value} (hx : SVR cx.eT (sit O st loc w) x v) : SVR cx.eT (sit O (renSt r st) (fun m => loc (q m)) w) (renSV r x) v := by
  cases x with
  | s x => exact ren_SV0R h g hx
  | tup xs => obtain ⟨vs, rfl, hv⟩ := hx; exact ⟨vs, rfl, ren_SV0Rs h g hv⟩
theorem ren_Elems (h : Turn base st.next r q) (g : Good cx.eT X (sit O st loc w)) {t : Ty} {xs : List (D t)} {vs : Array Value} (he : Elems cx.eT (sit O st loc w) t xs vs) : Elems cx.eT (sit O (renSt r st) (fun m => loc (q m)) w) t xs vs := by
  intro i y hy
  obtain ⟨us, h1, h2⟩ := he i y hy
  exact ⟨us, by rw [ren_A h g]; exact h1, h2⟩
theorem ren_OR (h : Turn base st.next r q) (g : Good cx.eT X (sit O st loc w)) {l : Loc} {oc : OC} (ho : OR cx.eT X (sit O st loc w) l oc) : OR cx.eT X (sit O (renSt r st) (fun m => loc (q m)) w) l (renOC r oc) := by
  cases oc with
  | cells T cs => obtain ⟨b, vs, h1, h2, h3, h4⟩ := ho; exact ⟨b, vs, h1, h2, h3, ren_CRs h g h4⟩
  | mrow t xs =>
    rcases ho with ho | ⟨b, vs, T, cap, h1, h2, h3, h4, h5, h6, h7⟩
    · exact .inl ho
    · exact .inr ⟨b, vs, T, cap, h1, h2, h3, h4, h5, h6, ren_Elems h g h7⟩
  | arr t xs => obtain ⟨b, vs, T, h1, h2, h3, h4, h5⟩ := ho; exact ⟨b, vs, T, h1, h2, h3, h4, ren_Elems h g h5⟩
  | tok t xs =>
    rcases ho with ho | ⟨b, vs, T, cap, h1, h2, h3, h4, h5, h6, h7⟩
    · exact .inl ho
    · exact .inr ⟨b, vs, T, cap, h1, h2, h3, h4, h5, h6, ren_Elems h g h7⟩
  | ext k t x => exact ho
  | iter cs seen cl => obtain ⟨b, m, c, sn, h1, h2, h3, h4, h5, h6⟩ := ho; exact ⟨b, m, c, sn, h1, h2, h3, ren_CRs h g h4, h5, h6⟩
theorem ren_Good (h : Turn base st.next r q) (g : Good cx.eT X (sit O st loc w)) : Good cx.eT X (sit O (renSt r st) (fun m => loc (q m)) w) := by
  refine ⟨fun n oc' ho => ?_, fun n m oc oc' b h1 h2 h3 h4 => ?_, fun n oc' b off ho hb => ?_, g.glob.sub rfl fun b hb => ren_owns h g hb⟩
  · obtain ⟨hn, oc, k1, rfl⟩ := (ren_ob h g).1 ho
    exact ⟨hn, ren_OR h g (g.obj _ _ k1).2⟩
  · obtain ⟨hn, oc1, k1, rfl⟩ := (ren_ob h g).1 h1
    obtain ⟨hm, oc2, k2, rfl⟩ := (ren_ob h g).1 h2
    have := g.apart (q n) (q m) oc1 oc2 b k1 k2 h3 h4
    rw [← h.forth n hn, ← h.forth m hm, this]
  · obtain ⟨hn, oc, k1, rfl⟩ := (ren_ob h g).1 ho
    exact g.out (q n) oc b off k1 hb
theorem same_ren {l l' : Loc} {a b : OC} (h : SameKind l l' a b) : SameKind l l' a (renOC r b) := by
  cases a <;> cases b <;> first | exact h | exact h.elim
theorem ren_Tr (h : Turn base st.next r q) (g : Good cx.eT X (sit O st loc w)) {S : Sit} (hS : S.next = base) (hb : base ≤ st.next) (t : Tr S (sit O st loc w)) : Tr S (sit O (renSt r st) (fun m => loc (q m)) w) where
  O := t.O
  next := t.next
  os := t.os
  output := t.output
  size := t.size
  own b hb' := t.own b (ren_owns h g hb')
  cell b o v ha hc := by
    obtain ⟨h1, h2⟩ := t.cell b o v ha hc
    exact ⟨h1, by rw [ren_A h g]; exact h2⟩
  block := t.block
  loc n hn hf := by
    show (loc (q n)).v = _ ∧ (_ → loc (q n) = _)
    rw [h.qlow hb (by omega)]
    exact t.loc n hn hf
  kind n oc' hn ho := by
    obtain ⟨_, oc1, k1, rfl⟩ := (ren_ob h g).1 ho
    rw [h.qlow hb (by omega)] at k1
    obtain ⟨oc, k2, k3⟩ := t.kind n oc1 hn k1
    refine ⟨oc, k2, ?_⟩
    show SameKind (S.loc n) (loc (q n)) oc (renOC r oc1)
    rw [h.qlow hb (by omega)]
    exact same_ren k3
theorem renC_low {S : Sit} (hS : S.next = base) (hl : ∀ n, n < base → r n = n) {c : C} {v : Value} (hc : CR cx.eT S c v) : renC r c = c := by
  subst hS
  cases c with
  | app t xs n => simp only [renC]; rw [hl n hc.2.1]
  | mrow n => simp only [renC]; rw [hl n hc.1]
  | msub n t lo len => simp only [renC]; rw [hl n hc.1]
  | aref n => simp only [renC]; rw [hl n hc.1]
  | xref n => simp only [renC]; rw [hl n hc.1]
  | xd n p => simp only [renC]; rw [hl n hc.1]
  | ref n off => simp only [renC]; rw [hl n hc.1]
  | nref n => simp only [renC]; rw [hl n hc.1]
  | eref n t i off => simp only [renC]; rw [hl n hc.1]
  | fn f caps =>
    simp only [renC]
    congr 1
    have : caps.map r = caps.map id := List.map_congr_left fun n hn => hl n (hc.2 n hn).1
    simpa using this
  | _ => rfl
theorem renCs_low {S : Sit} (hS : S.next = base) (hl : ∀ n, n < base → r n = n) : ∀ {cs : List C} {vs : List Value}, CRs cx.eT S cs vs → renCs r cs = cs
  | _, _, .nil => rfl
  | _, _, .cons h1 _ h3 => by simp only [renCs]; rw [renC_low hS hl h1, renCs_low hS hl h3]
theorem renSV0_low {S : Sit} (hS : S.next = base) (hl : ∀ n, n < base → r n = n) {x : SV0} {v : Value} (hc : SV0R cx.eT S x v) : renSV0 r x = x := by
  cases x with
  | one c => simp only [renSV0]; rw [renC_low hS hl hc]
  | agg cs => obtain ⟨vs, _, hv⟩ := hc; simp only [renSV0]; rw [renCs_low hS hl hv]
theorem renSV0s_low {S : Sit} (hS : S.next = base) (hl : ∀ n, n < base → r n = n) : ∀ {cs : List SV0} {vs : List Value}, SV0Rs cx.eT S cs vs → renSV0s r cs = cs
  | _, _, .nil => rfl
  | _, _, .cons h1 h3 => by simp only [renSV0s]; rw [renSV0_low hS hl h1, renSV0s_low hS hl h3]
theorem renSV_low {S : Sit} (hS : S.next = base) (hl : ∀ n, n < base → r n = n) {x : SV} {v : Value} (hc : SVR cx.eT S x v) : renSV r x = x := by
  cases x with
  | s x => simp only [renSV]; rw [renSV0_low hS hl hc]
  | tup xs => obtain ⟨vs, _, hv⟩ := hc; simp only [renSV]; rw [renSV0s_low hS hl hv]
end
theorem StepK.ren {O : Avoid} {K : St → VC} {W : List Nat} {st : St} {loc : Nat → Loc} {w : World} {a a' : Act} {w' : World} {f : St → St} (hA : ActR cx (sit O st loc w) st a)
    (hf : ∀ st', f st' = st' ∨ ∃ r q, Turn st.next st'.next r q ∧ f st' = renSt r st') (h : StepK cx X O (fun st' => K (f st')) W st (sit O st loc w) a' w') : StepK cx X O K W st (sit O st loc w) a' w' := by
  obtain ⟨st', loc', k1, k2, k3, k4, k5⟩ := h
  rcases hf st' with e | ⟨r, q, ht, e⟩
  · exact ⟨st', loc', by rw [← e]; exact k1, k2, k3, k4, k5⟩
  · refine ⟨renSt r st', fun m => loc' (q m), by rw [← e]; exact k1, ren_Good ht k2, ren_Tr ht k2 rfl k3.next k3, ⟨k4.size, k4.defers, ?_⟩, ?_⟩
    · intro t sv hl
      have hl : look (renEnv r st'.env) t = some sv := hl
      rw [look_renEnv] at hl
      obtain ⟨sv0, h0, rfl⟩ := Option.map_eq_some_iff.1 hl
      exact ren_SVR ht k2 (k4.env t sv0 h0)
    · intro hm t htW sv hl
      have hl : look (renEnv r st'.env) t = some sv := hl
      rw [look_renEnv] at hl
      obtain ⟨sv0, h0, rfl⟩ := Option.map_eq_some_iff.1 hl
      have h1 := k5 hm t htW sv0 h0
      rw [renSV_low (cx := cx) (S := sit O st loc w) rfl ht.low (hA.env t sv0 h1)]
      exact h1
end
def namesC0 : C → List Nat
  | .app _ _ n | .mrow n | .aref n | .xref n | .xd n _ | .ref n _ | .nref n | .eref n _ _ _ | .msub n _ _ _ => [n]
  | .fn _ caps => caps
  | _ => []
def namesCs : List C → List Nat
  | [] => []
  | c :: cs => namesC0 c ++ namesCs cs
def namesC (objs : List (Nat × OC)) : C → List Nat
  | .ref n _ => n :: (match look objs n with
    | some (.cells _ cs) => namesCs cs
    | _ => [])
  | c => namesC0 c
def namesSV (objs : List (Nat × OC)) : SV → List Nat
  | .s (.one c) => namesC objs c
  | .s (.agg cs) => namesCs cs
  | .tup _ => []
def namesOf (st : St) : List Nat → List Nat
  | [] => []
  | d :: ds => (match look st.env d with
    | some sv => namesSV st.objs sv
    | none => []) ++ namesOf st ds
def elemB (n : Nat) : List Nat → Bool
  | [] => false
  | m :: l => match Nat.beq m n with
    | true => true
    | false => elemB n l
def pick1 (base next : Nat) : List Nat → List Nat → List Nat
  | acc, [] => acc
  | acc, n :: l => match Nat.blt n base || !(Nat.blt n next) || elemB n acc with
    | true => pick1 base next acc l
    | false => pick1 base next (acc ++ [n]) l
def upTo (base : Nat) : Nat → List Nat
  | 0 => []
  | k + 1 => upTo base k ++ [base + k]
def idxB (n : Nat) : List Nat → Nat → Nat
  | [], _ => n
  | m :: l, i => match Nat.beq m n with
    | true => i
    | false => idxB n l (i + 1)
def atB : List Nat → Nat → Nat → Nat
  | [], _, d => d
  | m :: _, 0, _ => m
  | _ :: l, i + 1, d => atB l i d
def turnR (base : Nat) (l : List Nat) (n : Nat) : Nat := match Nat.blt n base with
  | true => n
  | false => idxB n l base
def turnQ (base : Nat) (l : List Nat) (n : Nat) : Nat := match Nat.blt n base with
  | true => n
  | false => atB l (n - base) n
def turnB (base : Nat) (l : List Nat) : Nat → Nat → Bool
  | _, 0 => true
  | next, k + 1 => Nat.blt (turnR base l k) next && Nat.beq (turnQ base l (turnR base l k)) k && Nat.blt (turnQ base l k) next && Nat.beq (turnR base l (turnQ base l k)) k && turnB base l next k
def canon (base : Nat) (ds : List Nat) (st : St) : St :=
  match Nat.blt (base + 1) st.next with
  | false => st
  | true =>
    let l := pick1 base st.next (pick1 base st.next [] (namesOf st ds)) (upTo base (st.next - base))
    match turnB base l st.next st.next with
    | true => renSt (turnR base l) st
    | false => st
theorem turnB_out {base : Nat} {l : List Nat} {next : Nat} : ∀ k, turnB base l next k = true → ∀ n, n < k → turnR base l n < next ∧ turnQ base l (turnR base l n) = n ∧ turnQ base l n < next ∧ turnR base l (turnQ base l n) = n := by
  intro k
  induction k with
  | zero => intro _ n hn; omega
  | succ k ih =>
    intro h n hn
    simp only [turnB, Bool.and_eq_true] at h
    obtain ⟨⟨⟨⟨h1, h2⟩, h3⟩, h4⟩, h5⟩ := h
    rcases Nat.lt_or_ge n k with hk | hk
    · exact ih h5 n hk
    · obtain rfl : n = k := by omega
      exact ⟨blt_lt h1, Nat.eq_of_beq_eq_true h2, blt_lt h3, Nat.eq_of_beq_eq_true h4⟩
theorem canon_turn (base : Nat) (ds : List Nat) (st : St) : canon base ds st = st ∨ ∃ r q, Turn base st.next r q ∧ canon base ds st = renSt r st := by
  unfold canon
  split
  · exact .inl rfl
  · simp only
    split
    · rename_i h
      refine .inr ⟨_, turnQ base _, ⟨fun n hn => ?_, fun n hn => (turnB_out _ h n hn).1, fun n hn => (turnB_out _ h n hn).2.1, fun n hn => (turnB_out _ h n hn).2.2.1, fun n hn => (turnB_out _ h n hn).2.2.2⟩, rfl⟩
      unfold turnR
      have : Nat.blt n base = true := Nat.ble_eq_true_of_le hn
      rw [this]
    · exact .inl rfl
end Go.Vg

namespace Go.Vg
open Go.RowKit
theorem VR.weak {eT : TypeId} {t : Ty} {x : D t} {A A' : Avoid} {w : World} {v : Value} (h : VR eT t x A w v) (hA : ∀ b o, ¬ A b o → ¬ A' b o) : VR eT t x A' w v :=
  VR.frame h fun b o _ ha hc => ⟨hc, hA b o ha⟩
inductive Cl where
  | d (t : Ty)
  | obj (k : Nat)
  | nilP
inductive Ob where
  | box (T : TypeId) (cs : List Cl)
  | row (keep : Bool) (t : Ty)
  | tok (t : Ty)
  | ext (k : Nat) (t : Ty)
@[reducible] def CD : List Cl → Type
  | [] => Unit
  | .d t :: r => D t × CD r
  | .obj _ :: r => CD r
  | .nilP :: r => CD r
@[reducible] def OD : Ob → Type
  | .box _ cs => CD cs
  | .row _ t => List (D t)
  | .tok t => List (D t)
  | .ext _ t => D t
@[reducible] def PD : List Ob → Type
  | [] => Unit
  | o :: r => OD o × PD r
def refC : (o : Ob) → OD o → Nat → C
  | .box _ _, _, n => .ref n 0
  | .row _ _, _, n => .mrow n
  | .tok t, x, n => .app t x n
  | .ext 0 _, _, n => .xd n .top
  | .ext (_ + 1) _, _, n => .xref n
def refAt : (obs : List Ob) → PD obs → List Nat → Nat → C
  | o :: _, x, n :: _, 0 => refC o x.1 n
  | _ :: r, x, _ :: ns, k + 1 => refAt r x.2 ns k
  | _, _, _, _ => .any
def clsC (f : Nat → C) : (cs : List Cl) → CD cs → List C
  | [], _ => []
  | .d t :: r, x => .d t x.1 :: clsC f r x.2
  | .obj k :: r, x => f k :: clsC f r x
  | .nilP :: r, x => .nilP :: clsC f r x
def clsV (f : Nat → C) : (cs : List Cl) → CD cs → List SV0
  | [], _ => []
  | .d t :: r, x => .one (.d t x.1) :: clsV f r x.2
  | .obj k :: r, x => .one (f k) :: clsV f r x
  | .nilP :: r, x => .one .nilP :: clsV f r x
def ocOf (f : Nat → C) : (o : Ob) → OD o → OC
  | .box T cs, x => .cells T (clsC f cs x)
  | .row _ t, x => .mrow t x
  | .tok t, x => .tok t x
  | .ext k t, x => .ext k t x
def objsC (f : Nat → C) : (os : List Ob) → PD os → List Nat → List (Nat × OC)
  | o :: r, x, n :: ns => (n, ocOf f o x.1) :: objsC f r x.2 ns
  | _, _, _ => []
def nameC : C → Option Nat
  | .ref n 0 => some n
  | .mrow n => some n
  | .app _ _ n => some n
  | .xref n => some n
  | .xd n .top => some n
  | _ => none
def bindCl (as : List (Nat × Nat)) (cl : Cl) (c : C) : Option (List (Nat × Nat)) :=
  match cl with
  | .obj k => match nameC c with
    | some n => match look as k with
      | some m => match Nat.beq m n with
        | true => some as
        | false => none
      | none => some ((k, n) :: as)
    | none => none
  | _ => some as
def bindCls : List Cl → List C → List (Nat × Nat) → Option (List (Nat × Nat))
  | [], [], as => some as
  | cl :: cls, c :: cs, as => match bindCl as cl c with
    | some as' => bindCls cls cs as'
    | none => none
  | _, _, _ => none
def bindVs : List Cl → List SV0 → List (Nat × Nat) → Option (List (Nat × Nat))
  | [], [], as => some as
  | cl :: cls, v :: vs, as => match bindCl as cl (match v with | .one c => c | .agg _ => .any) with
    | some as' => bindVs cls vs as'
    | none => none
  | _, _, _ => none
def bindObs (objs : List (Nat × OC)) : Nat → List Ob → List (Nat × Nat) → Option (List (Nat × Nat))
  | _, [], as => some as
  | k, .box _ cls :: r, as => match look as k with
    | some n => match look objs n with
      | some (.cells _ cs) => match bindCls cls cs as with
        | some as' => bindObs objs (k + 1) r as'
        | none => none
      | _ => none
    | none => none
  | k, _ :: r, as => bindObs objs (k + 1) r as
def namesFrom (as : List (Nat × Nat)) : Nat → Nat → Option (List Nat)
  | _, 0 => some []
  | k, m + 1 => match look as k, namesFrom as (k + 1) m with
    | some n, some l => some (n :: l)
    | _, _ => none
def nodupB : List Nat → Bool
  | [] => true
  | n :: r => !(memN n r) && nodupB r
def nthN : List Nat → Nat → Option Nat
  | n :: _, 0 => some n
  | _ :: r, k + 1 => nthN r k
  | [], _ => none
def nthO : List Ob → Nat → Option Ob
  | o :: _, 0 => some o
  | _ :: r, k + 1 => nthO r k
  | [], _ => none
def sameRef (cv : Bool) (objs : List (Nat × OC)) (obs : List Ob) (ν : List Nat) (k : Nat) (c : C) : Bool :=
  match nthO obs k, nthN ν k, c with
  | some (.box _ _), some n, .ref m 0 => Nat.beq n m
  | some (.row _ _), some n, .mrow m => Nat.beq n m && (match look objs n with | some (.mrow _ _) => true | _ => false)
  | some (.row _ t), some n, .app t' _ m => cv && (Nat.beq n m && (Ty.beq t' t && (match look objs n with | some (.tok _ _) => true | _ => false)))
  | some (.tok t), some n, .app t' _ m => Nat.beq n m && Ty.beq t' t
  | some (.ext 0 _), some n, .xd m .top => Nat.beq n m
  | some (.ext (_ + 1) _), some n, .xref m => Nat.beq n m
  | _, _, _ => false
def getCls (cv : Bool) (objs : List (Nat × OC)) (obs : List Ob) (ν : List Nat) : (cls : List Cl) → List C → Option (CD cls)
  | [], [] => some ()
  | .d t :: r, c :: cs => match asD t c, getCls cv objs obs ν r cs with
    | some x, some y => some (x, y)
    | _, _ => none
  | .obj k :: r, c :: cs => match sameRef cv objs obs ν k c with
    | true => getCls cv objs obs ν r cs
    | false => none
  | .nilP :: r, c :: cs => match c with
    | .nilP => getCls cv objs obs ν r cs
    | _ => none
  | _, _ => none
def getVs (cv : Bool) (objs : List (Nat × OC)) (obs : List Ob) (ν : List Nat) : (cls : List Cl) → List SV0 → Option (CD cls)
  | [], [] => some ()
  | .d t :: r, v :: vs => match asD0 t v, getVs cv objs obs ν r vs with
    | some x, some y => some (x, y)
    | _, _ => none
  | .obj k :: r, v :: vs => match v with
    | .one c => match sameRef cv objs obs ν k c with
      | true => getVs cv objs obs ν r vs
      | false => none
    | _ => none
  | .nilP :: r, v :: vs => match v with
    | .one .nilP => getVs cv objs obs ν r vs
    | _ => none
  | _, _ => none
def toL (t t' : Ty) (xs : List (D t')) : Option (List (D t)) :=
  match h : Ty.beq (.slice t') (.slice t) with
  | true => some (castD h (a := .slice t') (b := .slice t) xs)
  | false => none
def toX (t t' : Ty) (x : D t') : Option (D t) :=
  match h : Ty.beq t' t with
  | true => some (castD h x)
  | false => none
def getO (cv : Bool) (objs : List (Nat × OC)) (obs : List Ob) (ν : List Nat) : (o : Ob) → OC → Option (OD o)
  | .box T cls, .cells T' cs => match Nat.beq T' T with
    | true => getCls cv objs obs ν cls cs
    | false => none
  | .row _ t, .mrow t' xs => toL t t' xs
  | .row _ t, .tok t' xs => match cv with
    | true => toL t t' xs
    | false => none
  | .tok t, .tok t' xs => toL t t' xs
  | .ext k t, .ext k' t' x => match Nat.beq k' k with
    | true => toX t t' x
    | false => none
  | _, _ => none
def getObs (cv : Bool) (objs : List (Nat × OC)) (obs : List Ob) (ν : List Nat) : (os : List Ob) → List Nat → Option (PD os)
  | [], [] => some ()
  | o :: r, n :: ns => match look objs n with
    | some oc => match getO cv objs obs ν o oc, getObs cv objs obs ν r ns with
      | some x, some y => some (x, y)
      | _, _ => none
    | none => none
  | _, _ => none
def tokP : (os : List Ob) → PD os → Nat → C → List Prop
  | .tok t :: _, x, 0, .app t' xs _ => match h : Ty.beq (.slice t') (.slice t) with
    | true => [castD h (a := .slice t') (b := .slice t) xs = x.1]
    | false => [False]
  | .row _ t :: _, x, 0, .app t' xs _ => match h : Ty.beq (.slice t') (.slice t) with
    | true => [castD h (a := .slice t') (b := .slice t) xs = x.1]
    | false => [False]
  | _ :: r, x, k + 1, c => tokP r x.2 k c
  | _, _, _, _ => []
def condCls (obs : List Ob) (x : PD obs) : List Cl → List C → List Prop
  | .obj k :: r, c :: cs => tokP obs x k c ++ condCls obs x r cs
  | _ :: r, _ :: cs => condCls obs x r cs
  | _, _ => []
def condVs (obs : List Ob) (x : PD obs) : List Cl → List SV0 → List Prop
  | .obj k :: r, v :: vs => (match v with | .one c => tokP obs x k c | .agg _ => []) ++ condVs obs x r vs
  | _ :: r, _ :: vs => condVs obs x r vs
  | _, _ => []
def condObs (obs : List Ob) (x : PD obs) (objs : List (Nat × OC)) : List Ob → List Nat → List Prop
  | .box _ cls :: r, n :: ns => (match look objs n with | some (.cells _ cs) => condCls obs x cls cs | _ => []) ++ condObs obs x objs r ns
  | _ :: r, _ :: ns => condObs obs x objs r ns
  | _, _ => []
def allP : List Prop → Prop
  | [] => True
  | [p] => p
  | p :: q :: r => p ∧ allP (q :: r)
def andP : List Prop → VC → VC
  | [], k => k
  | p :: r, k => .and p (andP r k)
theorem memN_mem {n : Nat} : ∀ {l : List Nat}, memN n l = true → n ∈ l
  | [], h => by simp [memN] at h
  | m :: r, h => by
    simp only [memN] at h
    split at h
    · rename_i e; rw [Nat.eq_of_beq_eq_true e]; simp
    · simp [memN_mem h]
theorem look_append {α : Type} (l r : List (Nat × α)) (n : Nat) : look (l ++ r) n = match look l n with | some x => some x | none => look r n := by
  induction l with
  | nil => rfl
  | cons p l ih =>
    obtain ⟨m, x⟩ := p
    simp only [List.cons_append, look]
    cases Nat.beq m n
    · exact ih
    · rfl
section
variable (eT : TypeId) (X : Ext)
def refV : Value → Value
  | .tuple vs => vs.toList.headD .nilFunc
  | v => v
def refR (ls : List Loc) (k : Nat) (v : Value) : Prop := ∃ l, ls[k]? = some l ∧ v = refV l.v
def clsR (S : Sit) (F : Nat → Value → Prop) : (cls : List Cl) → CD cls → List Value → Prop
  | [], _, vs => vs = []
  | .d t :: r, x, v :: vs => VR eT t x.1 S.A S.w v ∧ clsR S F r x.2 vs
  | .obj k :: r, x, v :: vs => F k v ∧ clsR S F r x vs
  | .nilP :: r, x, v :: vs => v = .pointer none ∧ clsR S F r x vs
  | _, _, _ => False
def obR (S : Sit) (F : Nat → Value → Prop) : (o : Ob) → OD o → Loc → Prop
  | .box T cls, x, l => ∃ b, ∃ vs : List Value, l.v = .pointer (some ⟨b, 0, none⟩) ∧ l.bs = [b] ∧ S.w.heap[b]? = some (.cells vs.toArray T (0, 0)) ∧ clsR eT S F cls x vs ∧ ∀ v ∈ vs, v.oneCell' = true
  | .row _ t, x, l => OR eT X S l (.mrow t x)
  | .tok t, x, l => OR eT X S l (.tok t x)
  | .ext k t, x, l => OR eT X S l (.ext k t x)
def obsR (S : Sit) (F : Nat → Value → Prop) : (os : List Ob) → PD os → List Loc → Prop
  | [], _, ls => ls = []
  | o :: r, x, l :: ls => obR eT X S F o x.1 l ∧ obsR S F r x.2 ls
  | _, _, _ => False
end
section
variable {eT : TypeId} {X : Ext}
theorem allP_app {a b : List Prop} : (∀ p ∈ a ++ b, p) ↔ (∀ p ∈ a, p) ∧ (∀ p ∈ b, p) := by
  simp only [List.mem_append]
  exact ⟨fun h => ⟨fun p hp => h p (.inl hp), fun p hp => h p (.inr hp)⟩, fun h p hp => hp.elim (h.1 p) (h.2 p)⟩
theorem allP_out : ∀ {l : List Prop}, allP l → ∀ p ∈ l, p
  | [], _ => fun p hp => by simp at hp
  | [q], h => fun p hp => by simp at hp; rw [hp]; exact h
  | q :: r :: l, h => fun p hp => by
    rcases List.mem_cons.1 hp with e | hp
    · rw [e]; exact h.1
    · exact allP_out h.2 p hp
theorem andP_out {k : VC} : ∀ {l : List Prop}, (andP l k).holds → (∀ p ∈ l, p) ∧ k.holds
  | [], h => ⟨fun p hp => by simp at hp, h⟩
  | q :: l, h => by
    obtain ⟨h1, h2⟩ := h
    obtain ⟨h3, h4⟩ := andP_out h2
    exact ⟨fun p hp => by
      rcases List.mem_cons.1 hp with e | hp
      · rw [e]; exact h1
      · exact h3 p hp, h4⟩
theorem toL_some {t t' : Ty} {xs : List (D t')} {ys : List (D t)} (h : toL t t' xs = some ys) : ∃ e : t' = t, e ▸ xs = ys := by
  unfold toL at h
  split at h
  · rename_i hb
    have : t' = t := by have := Ty.eq_of_beq hb; cases this; rfl
    subst this
    cases h
    exact ⟨rfl, by rw [castL_self]⟩
  · cases h
theorem toX_some {t t' : Ty} {x : D t'} {y : D t} (h : toX t t' x = some y) : ∃ e : t' = t, e ▸ x = y := by
  unfold toX at h
  split at h
  · rename_i hb
    have := Ty.eq_of_beq hb
    subst this
    cases h
    exact ⟨rfl, by rw [castD_self]⟩
  · cases h
theorem tokP_eq {t t' : Ty} {xs : List (D t')} {ys : List (D t)} (hb : Ty.beq t' t = true) (h : ∀ p ∈ (match h : Ty.beq (.slice t') (.slice t) with
    | true => [castD h (a := .slice t') (b := .slice t) xs = ys]
    | false => [False]), p) : ∃ e : t' = t, e ▸ xs = ys := by
  have := Ty.eq_of_beq hb
  subst this
  refine ⟨rfl, ?_⟩
  split at h
  · rename_i hb'
    have := h (castD hb' (a := .slice t') (b := .slice t') xs = ys) (by simp)
    rw [castL_self] at this
    exact this
  · exact (h False (by simp)).elim
theorem refR_of {cv : Bool} {obs : List Ob} {ν : List Nat} {O : Avoid} {st : St} {loc : Nat → Loc} {w : World} {c : C} {v : Value} (g : Good eT X (sit O st loc w)) (hc : CR eT (sit O st loc w) c v) :
    ∀ {os : List Ob} {ns : List Nat} {x : PD os} {k : Nat}, getObs cv st.objs obs ν os ns = some x → sameRef cv st.objs os ns k c = true → (∀ p ∈ tokP os x k c, p) → refR (ns.map loc) k v := by
  intro os
  induction os with
  | nil => intro ns x k _ h; simp [sameRef, nthO] at h
  | cons o r ih =>
    intro ns x k hg hs hp
    cases ns with
    | nil => simp [getObs] at hg
    | cons n ns =>
      simp only [getObs] at hg
      split at hg
      case h_2 => cases hg
      rename_i oc hob
      split at hg
      case h_2 => cases hg
      rename_i x0 y0 h1 h2
      cases hg
      cases k with
      | succ k =>
        have hs' : sameRef cv st.objs r ns k c = true := by simpa [sameRef, nthO, nthN] using hs
        have hp' : ∀ p ∈ tokP r y0 k c, p := by cases o <;> cases c <;> simpa [tokP] using hp
        obtain ⟨l, h3, h4⟩ := ih h2 hs' hp'
        exact ⟨l, by simpa using h3, h4⟩
      | zero =>
        refine ⟨loc n, by simp, ?_⟩
        cases o with
        | box T cls =>
          cases c <;> simp [sameRef, nthO, nthN] at hs
          rename_i m off
          cases off with
          | succ off => simp at hs
          | zero =>
            have hs : n = m := by simpa using hs
            subst hs
            cases oc <;> simp only [getO, reduceCtorEq] at h1
            obtain ⟨b, k1, k2⟩ := hc.2 _ _ hob
            have k1 : (loc n).v = _ := k1
            rw [k2, k1]; rfl
        | row kp t =>
          cases c <;> simp [sameRef, nthO, nthN] at hs
          · rename_i t' xs m
            obtain ⟨_, hs, hb, hk⟩ := hs
            subst hs
            simp only [tokP] at hp
            obtain ⟨e, he⟩ := tokP_eq hb hp
            subst e
            rw [hob] at hk
            cases oc <;> simp at hk
            rename_i t2 ys
            cases cv <;> simp only [getO, reduceCtorEq] at h1
            obtain ⟨e2, h3⟩ := toL_some h1
            subst e2
            simp only at h3 he
            subst h3
            subst he
            have hv := (hc.2.2 _ hob).2 rfl
            rcases (g.obj n _ hob).2 with ⟨_, ⟨a, ha⟩, _⟩ | ⟨b, vs, T, cap, ha, _⟩ <;> (rw [hv]; show (loc n).v = refV (loc n).v; rw [show (loc n).v = _ from ha]; rfl)
          · rename_i m
            obtain ⟨hs, hk⟩ := hs
            subst hs
            rw [hob] at hk
            cases oc <;> simp at hk
            rw [hc.2 _ _ hob]
            rcases (g.obj n _ hob).2 with ⟨_, ⟨a, ha⟩, _⟩ | ⟨b, vs, T, cap, ha, _⟩ <;> rw [show (sit O st loc w).loc n = loc n from rfl, show (loc n).v = _ from ha] <;> rfl
        | tok t =>
          cases c <;> simp [sameRef, nthO, nthN] at hs
          rename_i t' xs m
          obtain ⟨hs, hb⟩ := hs
          subst hs
          simp only [tokP] at hp
          obtain ⟨e, he⟩ := tokP_eq hb hp
          subst e
          cases oc <;> simp only [getO, reduceCtorEq] at h1
          obtain ⟨e2, h3⟩ := toL_some h1
          subst e2
          simp only at h3 he
          subst h3
          subst he
          have hv := (hc.2.2 _ hob).2 rfl
          rcases (g.obj n _ hob).2 with ⟨_, ⟨a, ha⟩, _⟩ | ⟨b, vs, T, cap, ha, _⟩ <;> (rw [hv]; show (loc n).v = refV (loc n).v; rw [show (loc n).v = _ from ha]; rfl)
        | ext k t =>
          cases k with
          | zero =>
            cases c <;> simp [sameRef, nthO, nthN] at hs
            rename_i m p
            cases p <;> simp at hs
            subst hs
            cases oc <;> simp only [getO, reduceCtorEq] at h1
            split at h1
            case h_2 => cases h1
            rename_i hk
            have hk := Nat.eq_of_beq_eq_true hk
            subst hk
            obtain ⟨hs', hl⟩ := hc.2 _ _ hob
            rw [show (loc n).v = _ from hl]; rfl
          | succ k =>
            cases c <;> simp [sameRef, nthO, nthN] at hs
            subst hs
            cases oc <;> simp only [getO, reduceCtorEq] at h1
            split at h1
            case h_2 => cases h1
            rename_i hk
            have hk := Nat.eq_of_beq_eq_true hk
            have hgx := (g.obj n _ hob).2
            have hv : ∃ u, (loc n).v = u ∧ refV u = u := by
              subst hk
              cases k with
              | zero => obtain ⟨e, _, b, es, clk, hm⟩ := X.map.1 hgx; exact ⟨_, hm.lv, rfl⟩
              | succ k => obtain ⟨a, ha⟩ := X.ptr (by omega) hgx; exact ⟨_, ha, rfl⟩
            obtain ⟨u, hu, hu2⟩ := hv
            rw [hc.2 _ hob rfl, show (sit O st loc w).loc n = loc n from rfl, hu]; exact hu2.symm
theorem getCls_rel {cv : Bool} {obs : List Ob} {ν : List Nat} {x : PD obs} {O : Avoid} {st : St} {loc : Nat → Loc} {w : World} (g : Good eT X (sit O st loc w)) (hx : getObs cv st.objs obs ν obs ν = some x) :
    ∀ {cls : List Cl} {cs : List C} {y : CD cls} {vs : List Value}, getCls cv st.objs obs ν cls cs = some y → CRs eT (sit O st loc w) cs vs → (∀ p ∈ condCls obs x cls cs, p) →
      clsR eT (sit O st loc w) (refR (ν.map loc)) cls y vs := by
  intro cls
  induction cls with
  | nil =>
    intro cs y vs h hc _
    cases cs with
    | nil => cases hc; exact rfl
    | cons c cs => simp [getCls] at h
  | cons cl r ih =>
    intro cs y vs h hc hp
    cases hc with
    | nil => cases cl <;> simp [getCls] at h
    | cons h1 h2 h3 =>
      rename_i c v cs vs
      cases cl with
      | d t =>
        simp only [getCls] at h
        split at h
        · rename_i x0 y0 k1 k2
          cases h
          exact ⟨asD_rel k1 h1, ih k2 h3 (fun p hp' => hp p (by simpa [condCls] using hp'))⟩
        · cases h
      | obj k =>
        simp only [getCls] at h
        split at h
        · rename_i hs
          simp only [condCls] at hp
          obtain ⟨p1, p2⟩ := allP_app.1 hp
          exact ⟨refR_of g h1 hx hs p1, ih h h3 p2⟩
        · cases h
      | nilP =>
        simp only [getCls] at h
        split at h
        · exact ⟨h1, ih h h3 (fun p hp' => hp p (by simpa [condCls] using hp'))⟩
        · cases h
theorem getVs_rel {cv : Bool} {obs : List Ob} {ν : List Nat} {x : PD obs} {O : Avoid} {st : St} {loc : Nat → Loc} {w : World} (g : Good eT X (sit O st loc w)) (hx : getObs cv st.objs obs ν obs ν = some x) :
    ∀ {cls : List Cl} {cs : List SV0} {y : CD cls} {vs : List Value}, getVs cv st.objs obs ν cls cs = some y → SV0Rs eT (sit O st loc w) cs vs → (∀ p ∈ condVs obs x cls cs, p) →
      clsR eT (sit O st loc w) (refR (ν.map loc)) cls y vs := by
  intro cls
  induction cls with
  | nil =>
    intro cs y vs h hc _
    cases cs with
    | nil => cases hc; exact rfl
    | cons c cs => simp [getVs] at h
  | cons cl r ih =>
    intro cs y vs h hc hp
    cases hc with
    | nil => cases cl <;> simp [getVs] at h
    | cons h1 h3 =>
      rename_i c v cs vs
      cases cl with
      | d t =>
        simp only [getVs] at h
        split at h
        · rename_i x0 y0 k1 k2
          cases h
          exact ⟨asD0_rel k1 h1, ih k2 h3 (fun p hp' => hp p (by simpa [condVs] using hp'))⟩
        · cases h
      | obj k =>
        simp only [getVs] at h
        split at h
        · split at h
          · rename_i hs
            simp only [condVs] at hp
            obtain ⟨p1, p2⟩ := allP_app.1 hp
            exact ⟨refR_of g h1 hx hs p1, ih h h3 p2⟩
          · cases h
        · cases h
      | nilP =>
        simp only [getVs] at h
        split at h
        · exact ⟨h1, ih h h3 (fun p hp' => hp p (by simpa [condVs] using hp'))⟩
        · cases h
theorem getObs_rel {cv : Bool} {obs : List Ob} {ν : List Nat} {x : PD obs} {O : Avoid} {st : St} {loc : Nat → Loc} {w : World} (g : Good eT X (sit O st loc w)) (hx : getObs cv st.objs obs ν obs ν = some x) :
    ∀ {os : List Ob} {ns : List Nat} {y : PD os}, getObs cv st.objs obs ν os ns = some y → (∀ p ∈ condObs obs x st.objs os ns, p) →
      obsR eT X (sit O st loc w) (refR (ν.map loc)) os y (ns.map loc) := by
  intro os
  induction os with
  | nil =>
    intro ns y h _
    cases ns with
    | nil => exact rfl
    | cons n ns => simp [getObs] at h
  | cons o r ih =>
    intro ns y h hp
    cases ns with
    | nil => simp [getObs] at h
    | cons n ns =>
      simp only [getObs] at h
      split at h
      case h_2 => cases h
      rename_i oc hob
      split at h
      case h_2 => cases h
      rename_i x0 y0 h1 h2
      cases h
      have hor := (g.obj n oc hob).2
      have hrest : ∀ p ∈ condObs obs x st.objs r ns, p := by
        cases o <;> simp only [condObs] at hp
        · exact (allP_app.1 hp).2
        · exact hp
        · exact hp
        · exact hp
      refine ⟨?_, ih h2 hrest⟩
      show obR eT X _ _ o x0 (loc n)
      cases o with
      | box T cls =>
        cases oc <;> simp only [getO, reduceCtorEq] at h1
        rename_i T' cs
        split at h1
        case h_2 => cases h1
        rename_i hT
        have hT := Nat.eq_of_beq_eq_true hT
        subst hT
        obtain ⟨b, vs, k1, k2, k3, k4⟩ := hor
        simp only [condObs, hob] at hp
        exact ⟨b, vs, k1, k2, k3, getCls_rel g hx h1 k4 (allP_app.1 hp).1, fun v hv => CRs.oneCells k4 v hv⟩
      | row kp t =>
        cases oc <;> simp only [getO, reduceCtorEq] at h1
        · obtain ⟨e, h3⟩ := toL_some h1
          subst e; simp only at h3; subst h3
          exact hor
        · split at h1
          · obtain ⟨e, h3⟩ := toL_some h1
            subst e; simp only at h3; subst h3
            exact hor
          · cases h1
      | tok t =>
        cases oc <;> simp only [getO, reduceCtorEq] at h1
        obtain ⟨e, h3⟩ := toL_some h1
        subst e; simp only at h3; subst h3
        exact hor
      | ext k t =>
        cases oc <;> simp only [getO, reduceCtorEq] at h1
        split at h1
        case h_2 => cases h1
        rename_i hk
        have hk := Nat.eq_of_beq_eq_true hk
        subst hk
        obtain ⟨e, h3⟩ := toX_some h1
        subst e; simp only at h3; subst h3
        exact hor
end
end Go.Vg

namespace Go.Vg
open Go.RowKit
def flatCls : List Cl → Bool
  | [] => true
  | .d t :: r => t.flat && flatCls r
  | _ :: r => flatCls r
def flatObs : List Ob → Bool
  | [] => true
  | .box _ cls :: r => flatCls cls && flatObs r
  | .row _ t :: r => t.flat && flatObs r
  | .tok t :: r => t.flat && flatObs r
  | .ext _ _ :: r => flatObs r
def noTok : List Ob → Bool
  | [] => true
  | .tok _ :: _ => false
  | _ :: r => noTok r
section
variable {eT : TypeId} {X : Ext}
theorem VR.to {t : Ty} {x : D t} {S S' : Sit} {v : Value} (hw : S'.w = S.w) (hA : t.flat = true ∨ ∀ b o, S'.A b o → S.A b o) (h : VR eT t x S.A S.w v) : VR eT t x S'.A S'.w v := by
  rcases hA with hA | hA
  · exact VR.of_flat hA h
  · rw [hw]; exact VR.weak h fun b o k h' => k (hA b o h')
def Laid (eT : TypeId) (S : Sit) : (os : List Ob) → PD os → List Nat → List Loc → Prop
  | [], _, ns, ls => ns = [] ∧ ls = []
  | o :: r, x, n :: ns, l :: ls => (S.loc n = l ∧ n < S.next ∧ (match o, x.1 with
    | .box _ _, _ => ∃ b, l.v = .pointer (some ⟨b, 0, none⟩)
    | .tok t, y => VR eT (.slice t) y S.A S.w l.v ∧ ∀ ys, S.ob n = some (.tok t ys) → ys = y
    | .row _ _, _ => ∃ a k c, l.v = .slice a k c
    | .ext 0 _, _ => ∃ v, ∃ hs : List Value, l.v = .tuple (v :: hs).toArray
    | .ext (_ + 1) _, _ => refV l.v = l.v)) ∧ Laid eT S r x.2 ns ls
  | _, _, _, _ => False
theorem CR_ref {S : Sit} : ∀ {os : List Ob} {x : PD os} {ns : List Nat} {ls : List Loc} {k : Nat} {v : Value}, Laid eT S os x ns ls → refR ls k v → CR eT S (refAt os x ns k) v := by
  intro os
  induction os with
  | nil => intro x ns ls k v h hr; exact trivial
  | cons o r ih =>
    intro x ns ls k v h hr
    match ns, ls, h with
    | n :: ns, l :: ls, ⟨⟨h1, h2, h3⟩, h4⟩ =>
      obtain ⟨l0, hl, hv⟩ := hr
      cases k with
      | succ k => exact ih h4 ⟨l0, by simpa using hl, hv⟩
      | zero =>
        simp at hl
        subst hl
        subst hv
        show CR eT S (refC o x.1 n) _
        cases o with
        | box T cls =>
          obtain ⟨b, hb⟩ := h3
          rw [hb]
          exact ⟨h2, fun T cs _ => ⟨b, by rw [h1]; exact hb, rfl⟩⟩
        | row kp t =>
          obtain ⟨a, k, c, hb⟩ := h3
          rw [hb]
          exact ⟨h2, fun t xs _ => by rw [h1, hb]; rfl⟩
        | tok t =>
          obtain ⟨a, c, hb, _⟩ := len_rel h3.1
          rw [show refV l.v = l.v by rw [hb]; rfl]
          exact ⟨h3.1, h2, fun ys hy => by rw [h3.2 ys hy]; exact ⟨Nat.le_refl _, fun _ => by rw [h1]⟩⟩
        | ext k t =>
          cases k with
          | zero =>
            obtain ⟨v, hs, hb⟩ := h3
            rw [hb]
            exact ⟨h2, fun t x _ => ⟨hs, by rw [h1, hb]; rfl⟩⟩
          | succ k =>
            rw [show refV l.v = l.v from h3]
            exact ⟨h2, fun oc _ _ => by rw [h1]⟩
theorem clsC_rel {S S' : Sit} {F : Nat → Value → Prop} {f : Nat → C} (hw : S'.w = S.w) (hF : ∀ k v, F k v → CR eT S' (f k) v) : ∀ {cls : List Cl} {x : CD cls} {vs : List Value},
    (flatCls cls = true ∨ ∀ b o, S'.A b o → S.A b o) → clsR eT S F cls x vs → (∀ v ∈ vs, v.oneCell' = true) → CRs eT S' (clsC f cls x) vs := by
  intro cls
  induction cls with
  | nil => intro x vs _ h _; rw [show vs = [] from h]; exact .nil
  | cons cl r ih =>
    intro x vs hA h h1
    cases vs with
    | nil => cases cl <;> exact h.elim
    | cons v vs =>
      have hr : flatCls r = true ∨ ∀ b o, S'.A b o → S.A b o := by
        rcases hA with hA | hA
        · left; cases cl <;> simp [flatCls] at hA <;> first | exact hA.2 | exact hA
        · exact .inr hA
      cases cl with
      | d t =>
        refine .cons (VR.to hw ?_ h.1) (h1 v (by simp)) (ih hr h.2 fun u hu => h1 u (by simp [hu]))
        rcases hA with hA | hA
        · left; simp [flatCls] at hA; exact hA.1
        · exact .inr hA
      | obj k => exact .cons (hF k v h.1) (h1 v (by simp)) (ih hr h.2 fun u hu => h1 u (by simp [hu]))
      | nilP => exact .cons h.1 (h1 v (by simp)) (ih hr h.2 fun u hu => h1 u (by simp [hu]))
theorem clsV_rel {S S' : Sit} {F : Nat → Value → Prop} {f : Nat → C} (hw : S'.w = S.w) (hF : ∀ k v, F k v → CR eT S' (f k) v) : ∀ {cls : List Cl} {x : CD cls} {vs : List Value},
    (flatCls cls = true ∨ ∀ b o, S'.A b o → S.A b o) → clsR eT S F cls x vs → SV0Rs eT S' (clsV f cls x) vs := by
  intro cls
  induction cls with
  | nil => intro x vs _ h; rw [show vs = [] from h]; exact .nil
  | cons cl r ih =>
    intro x vs hA h
    cases vs with
    | nil => cases cl <;> exact h.elim
    | cons v vs =>
      have hr : flatCls r = true ∨ ∀ b o, S'.A b o → S.A b o := by
        rcases hA with hA | hA
        · left; cases cl <;> simp [flatCls] at hA <;> first | exact hA.2 | exact hA
        · exact .inr hA
      cases cl with
      | d t =>
        refine .cons (show VR eT t x.1 S'.A S'.w v from VR.to hw ?_ h.1) (ih hr h.2)
        rcases hA with hA | hA
        · left; simp [flatCls] at hA; exact hA.1
        · exact .inr hA
      | obj k => exact .cons (hF k v h.1) (ih hr h.2)
      | nilP => exact .cons h.1 (ih hr h.2)
theorem Elems.to {S S' : Sit} {t : Ty} {xs : List (D t)} {vs : Array Value} (hw : S'.w = S.w) (hA : t.flat = true ∨ ∀ b o, S'.A b o → S.A b o) (h : Elems eT S t xs vs) : Elems eT S' t xs vs := by
  intro i y hy
  obtain ⟨us, h1, h2⟩ := h i y hy
  refine ⟨us, ?_, h2⟩
  rcases hA with hA | hA
  · exact h1.of_flat hA
  · rw [hw]; exact h1.frame fun b o v k h' => ⟨h', fun h'' => k (hA b o h'')⟩
theorem RowR.to {S S' : Sit} {t : Ty} {xs : List (D t)} {l : Loc} (hw : S'.w = S.w) (hA : t.flat = true ∨ ∀ b o, S'.A b o → S.A b o) (h : OR eT X S l (.mrow t xs)) : OR eT X S' l (.mrow t xs) := by
  rcases h with h | ⟨b, vs, T, cap, h1, h2, h3, h4, h5, h6, h7⟩
  · exact .inl h
  · exact .inr ⟨b, vs, T, cap, h1, h2, by rw [hw]; exact h3, h4, h5, h6, h7.to hw hA⟩
def flatOb (o : Ob) : Bool := flatObs [o]
theorem obR_OR {S S' : Sit} {F : Nat → Value → Prop} {f : Nat → C} (hw : S'.w = S.w) (hF : ∀ k v, F k v → CR eT S' (f k) v) {o : Ob} {x : OD o} {l : Loc}
    (hA : flatOb o = true ∨ ∀ b o, S'.A b o → S.A b o) (h : obR eT X S F o x l) : OR eT X S' l (ocOf f o x) := by
  cases o with
  | box T cls =>
    obtain ⟨b, vs, h1, h2, h3, h4, h5⟩ := h
    refine ⟨b, vs, h1, h2, by rw [hw]; exact h3, clsC_rel hw hF ?_ h4 h5⟩
    rcases hA with hA | hA
    · left; simpa [flatOb, flatObs] using hA
    · exact .inr hA
  | row kp t =>
    refine RowR.to hw ?_ h
    rcases hA with hA | hA
    · left; simpa [flatOb, flatObs] using hA
    · exact .inr hA
  | tok t =>
    refine RowR.to (X := X) (l := l) hw ?_ h
    rcases hA with hA | hA
    · left; simpa [flatOb, flatObs] using hA
    · exact .inr hA
  | ext k t => show X.rel _ _ _ _ _; rw [hw]; exact h
theorem tok_data {S : Sit} {t : Ty} {xs : List (D t)} {l : Loc} (h : OR eT X S l (.tok t xs)) (hA : ∀ b ∈ l.bs, ∀ off, off < xs.length * t.size → ¬ S.A b off) : VR eT (.slice t) xs S.A S.w l.v := by
  rcases h with ⟨rfl, ⟨a, ha⟩, _⟩ | ⟨b, vs, T, cap, h1, h2, h3, h4, h5, h6, he⟩
  · exact VR.of_one rfl ⟨_, rfl, by simp, .inl ⟨rfl, a, 0, ha⟩⟩
  · refine VR.of_one rfl ⟨_, rfl, h6, .inr ⟨b, 0, cap, h1, h5, fun i y hy => ?_⟩⟩
    obtain ⟨us, r1, r2⟩ := he i y hy
    refine ⟨us, r1, fun j u hj => ⟨?_, ?_⟩⟩
    · rw [Nat.zero_add, cell_of_row S.w b _ vs T (0, 0) h3]; exact r2 j u hj
    · rw [Nat.zero_add]
      refine hA b (by rw [h2]; simp) _ ?_
      have hi := getElem?_lt hy
      have hjl := getElem?_lt hj
      rw [r1.length] at hjl
      have : (i + 1) * t.size ≤ xs.length * t.size := Nat.mul_le_mul_right _ hi
      rw [Nat.add_mul] at this
      omega
def locOf : List Nat → List Loc → (Nat → Loc) → Nat → Loc
  | n :: ns, l :: ls, d, m => if n = m then l else locOf ns ls d m
  | _, _, d, m => d m
theorem locOf_not : ∀ {ns : List Nat} {ls : List Loc} {d : Nat → Loc} {m : Nat}, m ∉ ns → locOf ns ls d m = d m
  | [], _, _, _, _ => by cases ‹List Loc› <;> rfl
  | n :: ns, [], _, _, _ => rfl
  | n :: ns, l :: ls, d, m, h => by
    simp only [List.mem_cons, not_or] at h
    simp only [locOf]
    rw [if_neg (fun e => h.1 e.symm)]
    exact locOf_not h.2
theorem memN_iff {n : Nat} {l : List Nat} : memN n l = true ↔ n ∈ l := by
  refine ⟨memN_mem, fun h => ?_⟩
  induction l with
  | nil => simp at h
  | cons m r ih =>
    simp only [memN]
    split
    · rfl
    · rename_i hb
      rcases List.mem_cons.1 h with h | h
      · subst h; rw [Nat.beq_refl] at hb; cases hb
      · exact ih h
theorem nodupB_cons {n : Nat} {r : List Nat} (h : nodupB (n :: r) = true) : n ∉ r ∧ nodupB r = true := by
  simp only [nodupB, Bool.and_eq_true, Bool.not_eq_true'] at h
  exact ⟨fun hm => by rw [memN_iff.2 hm] at h; exact absurd h.1 (by decide), h.2⟩
theorem locOf_get : ∀ {ns : List Nat} {ls : List Loc} {d : Nat → Loc} {i n : Nat} {l : Loc}, nodupB ns = true → ns[i]? = some n → ls[i]? = some l → locOf ns ls d n = l
  | [], _, _, _, _, _, _, h, _ => by simp at h
  | n :: ns, [], _, _, _, _, _, _, h => by simp at h
  | n :: ns, l :: ls, d, 0, m, k, _, h1, h2 => by simp at h1 h2; subst h1; subst h2; simp [locOf]
  | n :: ns, l :: ls, d, i + 1, m, k, hn, h1, h2 => by
    obtain ⟨hm, hn⟩ := nodupB_cons hn
    simp at h1 h2
    simp only [locOf]
    rw [if_neg (fun e => hm (by rw [e]; exact List.mem_of_getElem? h1))]
    exact locOf_get hn h1 h2
theorem objsC_find {cv : Bool} {objs : List (Nat × OC)} {obs : List Ob} {ν : List Nat} {f : Nat → C} {S : Sit} {F : Nat → Value → Prop} {loc : Nat → Loc} : ∀ {os : List Ob} {x : PD os} {ns ms : List Nat} {m : Nat} {oc : OC}, getObs cv objs obs ν os ns = some x → obsR eT X S F os x (ns.map loc) → ns.length = ms.length →
    look (objsC f os x ms) m = some oc → ∃ (i n : Nat) (o : Ob) (y : OD o) (oc0 : OC), ns[i]? = some n ∧ ms[i]? = some m ∧ os[i]? = some o ∧ look objs n = some oc0 ∧ getO cv objs obs ν o oc0 = some y ∧ oc = ocOf f o y ∧ obR eT X S F o y (loc n) := by
  intro os
  induction os with
  | nil => intro x ns ms m oc _ _ _ h; simp [objsC, look] at h
  | cons o r ih =>
    intro x ns ms m oc hg hR hl h
    cases ns with
    | nil => simp [getObs] at hg
    | cons n ns =>
      cases ms with
      | nil => simp at hl
      | cons k ms =>
        simp only [getObs] at hg
        split at hg
        case h_2 => cases hg
        rename_i oc0 hob
        split at hg
        case h_2 => cases hg
        rename_i x0 y0 h1 h2
        cases hg
        simp only [objsC, look_cons] at h
        split at h
        · rename_i e
          cases h
          exact ⟨0, n, o, x0, oc0, rfl, by simp [e], rfl, hob, h1, rfl, hR.1⟩
        · obtain ⟨i, n', o', y', oc', k1, k2, k3, k4⟩ := ih h2 hR.2 (by simpa using hl) h
          exact ⟨i + 1, n', o', y', oc', by simpa using k1, by simpa using k2, by simpa using k3, k4⟩
theorem getO_lo {cv : Bool} {objs : List (Nat × OC)} {obs : List Ob} {ν : List Nat} {f : Nat → C} {o : Ob} {y : OD o} {oc : OC} (h : getO cv objs obs ν o oc = some y) : (ocOf f o y).lo = oc.lo ∨ cv = true := by
  cases o <;> cases oc <;> simp only [getO, reduceCtorEq] at h
  · exact .inl rfl
  · exact .inl rfl
  · split at h
    · exact .inr rfl
    · cases h
  · obtain ⟨e, h3⟩ := toL_some h
    subst e; simp only at h3; subst h3; exact .inl rfl
  · exact .inl rfl
theorem getO_kind {cv : Bool} {objs : List (Nat × OC)} {obs : List Ob} {ν : List Nat} {o : Ob} {y : OD o} {oc : OC} (h : getO cv objs obs ν o oc = some y) (f : Nat → C) : (∀ T cls, o = .box T cls → ∃ cs, oc = .cells T cs) ∧
    (∀ k t, o = .ext k t → ∃ x, oc = .ext k t x) ∧ (∀ k t, o = .row k t → cv = false → ∃ xs, oc = .mrow t xs) ∧ ((∀ t, o ≠ .tok t) → cv = false → ∀ t xs, oc ≠ .tok t xs) := by
  refine ⟨fun T cls e => ?_, fun k t e => ?_, fun k t e e2 => ?_, fun h1 h2 t xs e => ?_⟩
  · subst e
    cases oc <;> simp only [getO, reduceCtorEq] at h
    split at h
    · rename_i hT; rw [Nat.eq_of_beq_eq_true hT]; exact ⟨_, rfl⟩
    · cases h
  · subst e
    cases oc <;> simp only [getO, reduceCtorEq] at h
    split at h
    · rename_i hT
      obtain ⟨e, _⟩ := toX_some h
      subst e
      rw [Nat.eq_of_beq_eq_true hT]; exact ⟨_, rfl⟩
    · cases h
  · subst e; subst e2
    cases oc <;> simp only [getO, reduceCtorEq] at h
    · obtain ⟨e, _⟩ := toL_some h
      subst e
      exact ⟨_, rfl⟩
  · subst e; subst h2
    cases o <;> simp only [getO, reduceCtorEq] at h
    exact h1 _ rfl
theorem getObs_len {cv : Bool} {objs : List (Nat × OC)} {obs : List Ob} {ν : List Nat} : ∀ {os : List Ob} {ns : List Nat} {x : PD os}, getObs cv objs obs ν os ns = some x → os.length = ns.length := by
  intro os
  induction os with
  | nil => intro ns x h; cases ns with | nil => rfl | cons => simp [getObs] at h
  | cons o r ih =>
    intro ns x h
    cases ns with
    | nil => simp [getObs] at h
    | cons n ns =>
      simp only [getObs] at h
      split at h
      case h_2 => cases h
      split at h
      case h_2 => cases h
      rename_i h2
      simp [ih h2]
theorem objsC_mem {f : Nat → C} : ∀ {os : List Ob} {x : PD os} {ms : List Nat} {m : Nat}, os.length = ms.length → m ∈ ms → ∃ oc, look (objsC f os x ms) m = some oc := by
  intro os
  induction os with
  | nil => intro x ms m h hm; cases ms with | nil => simp at hm | cons => simp at h
  | cons o r ih =>
    intro x ms m h hm
    cases ms with
    | nil => simp at h
    | cons k ms =>
      simp only [objsC, look_cons]
      by_cases e : k = m
      · exact ⟨_, by rw [if_pos e]⟩
      · rw [if_neg e]
        rcases List.mem_cons.1 hm with hm | hm
        · exact (e hm.symm).elim
        · exact ih (by simpa using h) hm
theorem nodup_idx : ∀ {l : List Nat} {i j n : Nat}, nodupB l = true → l[i]? = some n → l[j]? = some n → i = j
  | [], _, _, _, _, h, _ => by simp at h
  | m :: r, 0, 0, _, _, _, _ => rfl
  | m :: r, 0, j + 1, n, hn, h1, h2 => by
    simp at h1 h2; subst h1
    exact ((nodupB_cons hn).1 (List.mem_of_getElem? h2)).elim
  | m :: r, i + 1, 0, n, hn, h1, h2 => by
    simp at h1 h2; subst h2
    exact ((nodupB_cons hn).1 (List.mem_of_getElem? h1)).elim
  | m :: r, i + 1, j + 1, n, hn, h1, h2 => by
    simp at h1 h2
    rw [nodup_idx (nodupB_cons hn).2 h1 h2]
theorem flatObs_cons {a : Ob} {r : List Ob} (h : flatObs (a :: r) = true) : flatOb a = true ∧ flatObs r = true := by
  cases a <;> simp [flatObs, flatOb] at h ⊢ <;> exact h
theorem flatObs_get : ∀ {l : List Ob} {i : Nat} {o : Ob}, flatObs l = true → l[i]? = some o → flatOb o = true
  | [], _, _, _, h => by simp at h
  | a :: r, 0, o, hfl, h => by simp at h; subst h; exact (flatObs_cons hfl).1
  | a :: r, i + 1, o, hfl, h => flatObs_get (flatObs_cons hfl).2 (by simpa using h)
theorem laid_of {S S2 : Sit} {F : Nat → Value → Prop} {f : Nat → C} {loc : Nat → Loc} (hNA : ∀ m t ys, S2.ob m = some (.tok t ys) → ∀ b ∈ (S2.loc m).bs, ∀ off, off < ys.length * t.size → ¬ S2.A b off) (hw : S2.w = S.w) :
    ∀ {os : List Ob} {x : PD os} {ns ms : List Nat}, (flatObs os = true ∨ ∀ b o, S2.A b o → S.A b o) → obsR eT X S F os x (ns.map loc) → nodupB ms = true → ns.length = ms.length → (∀ n ∈ ms, S2.ob n = look (objsC f os x ms) n) →
      (∀ (i n m : Nat), ns[i]? = some n → ms[i]? = some m → S2.loc m = loc n ∧ m < S2.next) → Laid eT S2 os x ms (ns.map loc) := by
  intro os
  induction os with
  | nil =>
    intro x ns ms _ h _ hl _ _
    have h : ns.map loc = [] := h
    cases ns with
    | nil => cases ms with
      | nil => exact ⟨rfl, rfl⟩
      | cons => simp at hl
    | cons => simp at h
  | cons o r ih =>
    intro x ns ms hA h hnd hl hob hloc
    cases ns with
    | nil => exact h.elim
    | cons n ns =>
      cases ms with
      | nil => simp at hl
      | cons m ms =>
        obtain ⟨hm, hnd'⟩ := nodupB_cons hnd
        obtain ⟨h1, h2⟩ := hloc 0 n m rfl rfl
        have hA' : flatObs r = true ∨ ∀ b o, S2.A b o → S.A b o := by
          rcases hA with hA | hA
          · left; cases o <;> simp [flatObs] at hA <;> first | exact hA.2 | exact hA
          · exact .inr hA
        refine ⟨⟨h1, h2, ?_⟩, ih hA' h.2 hnd' (by simpa using hl) (fun k hk => ?_) (fun i a b ha hb => hloc (i + 1) a b (by simpa using ha) (by simpa using hb))⟩
        · cases o with
          | box T cls => obtain ⟨b, vs, k1, _⟩ := h.1; exact ⟨b, k1⟩
          | row kp t => rcases h.1 with ⟨_, ⟨a, ha⟩, _⟩ | ⟨b, vs, T, cap, ha, _⟩ <;> exact ⟨_, _, _, ha⟩
          | tok t =>
            have hobm : S2.ob m = some (.tok t x.1) := by rw [hob m (by simp)]; simp [objsC, look_cons, ocOf]
            refine ⟨?_, fun ys hy => by rw [hobm] at hy; cases hy; rfl⟩
            refine tok_data (X := X) (RowR.to (X := X) (l := loc n) hw ?_ h.1) fun b hb off ho => hNA m t x.1 hobm b (by rw [h1]; exact hb) off ho
            rcases hA with hA | hA
            · left; simp [flatObs] at hA; exact hA.1
            · exact .inr hA
          | ext k t =>
            cases k with
            | zero =>
              have hd := X.deep.1 h.1
              obtain ⟨e, s, rfl, _⟩ := deep_spot hd
              obtain ⟨_, _, v, hs, hv, _⟩ := hd
              exact ⟨v, hs, hv⟩
            | succ k =>
              show refV (loc n).v = (loc n).v
              cases k with
              | zero => obtain ⟨e, _, b, es, clk, hm⟩ := X.map.1 h.1; rw [hm.lv]; rfl
              | succ k => obtain ⟨a, ha⟩ := X.ptr (by omega) h.1; rw [ha]; rfl
        · rw [hob k (by simp [hk])]
          simp only [objsC, look_cons]
          rw [if_neg (fun e => hm (by rw [e]; exact hk))]
theorem relay {cv : Bool} {obs : List Ob} {ν : List Nat} {x : PD obs} {O : Avoid} {st : St} {loc : Nat → Loc} {w : World} (g : Good eT X (sit O st loc w)) (hx : getObs cv st.objs obs ν obs ν = some x)
    (hp : ∀ p ∈ condObs obs x st.objs obs ν, p) (hnd : nodupB ν = true)
    {O2 : Avoid} {ν2 : List Nat} {rest : List (Nat × OC)} {locR : Nat → Loc} {st2 : St} (hnd2 : nodupB ν2 = true) (hlen : ν.length = ν2.length)
    (hobjs : st2.objs = objsC (refAt obs x ν2) obs x ν2 ++ rest) (hlt : ∀ n ∈ ν2, n < st2.next)
    (hO2 : ∀ n ∈ ν, ∀ b ∈ (loc n).bs, ∀ off, ¬ O2 b off)
    (hD : ∀ n ∈ ν, ∀ b ∈ (loc n).bs, ∀ m oc, look rest m = some oc → m ∉ ν2 → b ∉ (locR m).bs)
    (hR : ∀ m oc, look rest m = some oc → m ∉ ν2 → m < st2.next ∧ OR eT X (sit O2 st2 (locOf ν2 (ν.map loc) locR) w) (locR m) oc)
    (hR2 : ∀ m m' oc oc' b, look rest m = some oc → look rest m' = some oc' → m ∉ ν2 → m' ∉ ν2 → b ∈ (locR m).bs → b ∈ (locR m').bs → m = m')
    (hR3 : ∀ m oc b off, look rest m = some oc → m ∉ ν2 → b ∈ (locR m).bs → ¬ O2 b off)
    (hA : flatObs obs = true ∨ ∀ b o, (sit O2 st2 (locOf ν2 (ν.map loc) locR) w).A b o → (sit O st loc w).A b o)
    (hGl : ∀ b ∈ X.gbs, ¬ (sit O2 st2 (locOf ν2 (ν.map loc) locR) w).owns b) :
    Good eT X (sit O2 st2 (locOf ν2 (ν.map loc) locR) w) ∧ Laid eT (sit O2 st2 (locOf ν2 (ν.map loc) locR) w) obs x ν2 (ν.map loc) := by
  have hobs := getObs_rel (X := X) g hx hx hp
  have hol := getObs_len hx
  generalize hf : refAt obs x ν2 = f at hobjs
  have hob : ∀ m oc, (sit O2 st2 (locOf ν2 (ν.map loc) locR) w).ob m = some oc →
      (∃ (i n : Nat) (o : Ob) (y : OD o) (oc0 : OC), ν[i]? = some n ∧ ν2[i]? = some m ∧ look st.objs n = some oc0 ∧ getO cv st.objs obs ν o oc0 = some y ∧ oc = ocOf f o y ∧ obR eT X (sit O st loc w) (refR (ν.map loc)) o y (loc n) ∧
        locOf ν2 (ν.map loc) locR m = loc n ∧ obs[i]? = some o) ∨
      (look rest m = some oc ∧ m ∉ ν2 ∧ locOf ν2 (ν.map loc) locR m = locR m) := by
    intro m oc h
    simp only [sit, hobjs] at h
    rw [look_append] at h
    split at h
    · rename_i oc' h'
      cases h
      obtain ⟨i, n, o, y, oc0, k1, k2, k3, k4, k5, k6, k7⟩ := objsC_find hx hobs hlen h'
      exact .inl ⟨i, n, o, y, oc0, k1, k2, k4, k5, k6, k7, locOf_get hnd2 k2 (by simp [k1]), k3⟩
    · rename_i h'
      have : m ∉ ν2 := fun hm => by
        obtain ⟨oc1, h1⟩ := objsC_mem (f := f) (x := x) (by omega) hm
        rw [h1] at h'; cases h'
      exact .inr ⟨h, this, locOf_not this⟩
  have hap : ∀ m m' oc oc' b, (sit O2 st2 (locOf ν2 (ν.map loc) locR) w).ob m = some oc → (sit O2 st2 (locOf ν2 (ν.map loc) locR) w).ob m' = some oc' →
      b ∈ (locOf ν2 (ν.map loc) locR m).bs → b ∈ (locOf ν2 (ν.map loc) locR m').bs → m = m' := by
    intro m m' oc oc' b h1 h2 h3 h4
    rcases hob m oc h1 with ⟨i, n, o, y, oc0, k1, k2, k4, _, _, _, k8, _⟩ | ⟨k1, k2, k3⟩ <;> rcases hob m' oc' h2 with ⟨i', n', o', y', oc0', j1, j2, j4, _, _, _, j8, _⟩ | ⟨j1, j2, j3⟩
    · rw [k8] at h3; rw [j8] at h4
      have e := g.apart n n' oc0 oc0' b k4 j4 h3 h4
      subst e
      have := nodup_idx hnd k1 j1
      subst this
      rw [k2] at j2; cases j2; rfl
    · rw [k8] at h3; rw [j3] at h4
      exact (hD n (List.mem_of_getElem? k1) b h3 m' oc' j1 j2 h4).elim
    · rw [k3] at h3; rw [j8] at h4
      exact (hD n' (List.mem_of_getElem? j1) b h4 m oc k1 k2 h3).elim
    · rw [k3] at h3; rw [j3] at h4
      exact hR2 m m' oc oc' b k1 j1 k2 j2 h3 h4
  have hout : ∀ m oc b off, (sit O2 st2 (locOf ν2 (ν.map loc) locR) w).ob m = some oc → b ∈ (locOf ν2 (ν.map loc) locR m).bs → ¬ O2 b off := by
    intro m oc b off h1 h2
    rcases hob m oc h1 with ⟨i, n, o, y, oc0, k1, k2, k4, _, _, _, k8, _⟩ | ⟨k1, k2, k3⟩
    · rw [k8] at h2; exact hO2 n (List.mem_of_getElem? k1) b h2 off
    · rw [k3] at h2; exact hR3 m oc b off k1 k2 h2
  have hNA : ∀ m t ys, (sit O2 st2 (locOf ν2 (ν.map loc) locR) w).ob m = some (.tok t ys) → ∀ b ∈ ((sit O2 st2 (locOf ν2 (ν.map loc) locR) w).loc m).bs, ∀ off, off < ys.length * t.size → ¬ (sit O2 st2 (locOf ν2 (ν.map loc) locR) w).A b off := by
    rintro m t ys h1 b hb off ho (h2 | ⟨m', oc', h2, h3, h4⟩)
    · exact hout m _ b off h1 hb h2
    · have := hap m m' _ oc' b h1 h2 hb h3
      subst this
      rw [h1] at h2; cases h2
      simp only [OC.lo] at h4
      omega
  have hlaid : Laid eT (sit O2 st2 (locOf ν2 (ν.map loc) locR) w) obs x ν2 (ν.map loc) := by
    refine laid_of (X := X) (S := sit O st loc w) (f := f) hNA rfl hA hobs hnd2 hlen (fun n hn => ?_) (fun i n m h1 h2 => ⟨locOf_get hnd2 h2 (by simp [h1]), hlt m (List.mem_of_getElem? h2)⟩)
    show look st2.objs n = _
    rw [hobjs, look_append]
    obtain ⟨oc1, h1⟩ := objsC_mem (f := f) (x := x) (by omega) hn
    rw [h1]
  refine ⟨⟨fun m oc h => ?_, fun m m' oc oc' b h1 h2 h3 h4 => hap m m' oc oc' b h1 h2 h3 h4, fun m oc b off h1 h2 => hout m oc b off h1 h2, g.glob.1, hGl⟩, hlaid⟩
  rcases hob m oc h with ⟨i, n, o, y, oc0, k1, k2, k4, k5, k6, k7, k8, k9⟩ | ⟨k1, k2, k3⟩
  · refine ⟨hlt m (List.mem_of_getElem? k2), ?_⟩
    show OR _ _ _ (locOf ν2 (ν.map loc) locR m) oc
    rw [k8, k6]
    refine obR_OR (S := sit O st loc w) (S' := sit O2 st2 (locOf ν2 (ν.map loc) locR) w) rfl (fun k v hk => by rw [← hf]; exact CR_ref hlaid hk) ?_ k7
    rcases hA with hA | hA
    · left
      exact flatObs_get hA k9
    · exact .inr hA
  · obtain ⟨h1, h2⟩ := hR m oc k1 k2
    refine ⟨h1, ?_⟩
    show OR _ _ _ (locOf ν2 (ν.map loc) locR m) oc
    rw [k3]; exact h2
def upto : Nat → Nat → List Nat
  | _, 0 => []
  | k, m + 1 => k :: upto (k + 1) m
def findN (obs : List Ob) (cls : List Cl) (vs : List SV0) (objs : List (Nat × OC)) (as : List (Nat × Nat)) : Option (List Nat) :=
  match bindVs cls vs as with
  | some as1 => match bindObs objs 0 obs as1 with
    | some as2 => namesFrom as2 0 obs.length
    | none => none
  | none => none
theorem upto_get : ∀ (m k i : Nat), i < m → (upto k m)[i]? = some (k + i)
  | m + 1, k, 0, _ => by simp [upto]
  | m + 1, k, i + 1, h => by
    simp only [upto, List.getElem?_cons_succ]
    rw [upto_get m (k + 1) i (by omega)]
    congr 1; omega
theorem upto_mem : ∀ {m k n : Nat}, n ∈ upto k m → k ≤ n ∧ n < k + m
  | 0, k, n, h => by simp [upto] at h
  | m + 1, k, n, h => by
    simp only [upto, List.mem_cons] at h
    rcases h with h | h
    · omega
    · have := upto_mem h; omega
theorem upto_len : ∀ (m k : Nat), (upto k m).length = m
  | 0, _ => rfl
  | m + 1, k => by simp [upto, upto_len m]
theorem upto_nodup : ∀ (m k : Nat), nodupB (upto k m) = true
  | 0, _ => rfl
  | m + 1, k => by
    simp only [upto, nodupB, upto_nodup m, Bool.and_true, Bool.not_eq_true']
    rw [Bool.eq_false_iff]
    intro h
    have := upto_mem (memN_iff.1 h)
    omega
theorem getObs_look {cv : Bool} {objs : List (Nat × OC)} {obs : List Ob} {ν : List Nat} : ∀ {os : List Ob} {ns : List Nat} {x : PD os} {n : Nat}, getObs cv objs obs ν os ns = some x → n ∈ ns →
    ∃ o oc y, o ∈ os ∧ look objs n = some oc ∧ getO cv objs obs ν o oc = some y := by
  intro os
  induction os with
  | nil => intro ns x n h hn; cases ns with | nil => simp at hn | cons => simp [getObs] at h
  | cons o r ih =>
    intro ns x n h hn
    cases ns with
    | nil => simp at hn
    | cons k ns =>
      simp only [getObs] at h
      split at h
      case h_2 => cases h
      rename_i oc hob
      split at h
      case h_2 => cases h
      rename_i x0 y0 h1 h2
      rcases List.mem_cons.1 hn with e | hn
      · subst e; exact ⟨o, oc, x0, by simp, hob, h1⟩
      · obtain ⟨o', oc', y', k1, k2⟩ := ih h2 hn
        exact ⟨o', oc', y', by simp [k1], k2⟩
end
end Go.Vg

namespace Go.Vg
open Go.RowKit
inductive Ex where
  | normal
  | exit (n : Nat)
  | ret
def dfltC : (cls : List Cl) → CD cls
  | [] => ()
  | .d t :: r => (zeroD t, dfltC r)
  | .obj _ :: r => dfltC r
  | .nilP :: r => dfltC r
def dfltO : (o : Ob) → OD o
  | .box _ cls => dfltC cls
  | .row _ _ => []
  | .tok _ => []
  | .ext _ t => zeroD t
def dfltP : (os : List Ob) → PD os
  | [] => ()
  | o :: r => (dfltO o, dfltP r)
structure Ann : Type 1 where
  X : Type
  inv : X → Prop
  meas : X → Nat
  slots : X → List (Nat × SV)
  objs : X → List (Nat × OC) := fun _ => []
  keep : List Nat
  keepObj : List Nat := []
  mods : List Nat := []
  obs : List Ob := []
  refs : List (Nat × Nat) := []
  pd : X → PD obs := fun _ => dfltP obs
@[reducible] def sI (x : Int) : SV := .s (.one (.d (.int .i64) x))
@[reducible] def sB (x : Bool) : SV := .s (.one (.d .bool x))
@[reducible] def sD (t : Ty) (x : D t) : SV := .s (.one (.d t x))
abbrev Anns := List (Nat × (St → Ann))
def sameC : C → C → Prop
  | .lit b, .d .bool c => b = c
  | .d t x, .d t' y => match h : Ty.beq t t' with
    | true => castD h x = y
    | false => False
  | .app t xs n, .app t' ys m => match h : Ty.beq (.slice t) (.slice t'), Nat.beq n m with
    | true, true => castD h (a := .slice t) (b := .slice t') xs = ys
    | _, _ => False
  | a, b => a = b
def sameSV : SV → SV → Prop
  | .s (.one a), .s (.one b) => sameC a b
  | a, b => a = b
def sameCs : List C → List C → Prop
  | [], [] => True
  | a :: as, b :: bs => sameC a b ∧ sameCs as bs
  | _, _ => False
def sameOC : OC → OC → Prop
  | .cells T cs, .cells T' cs' => match Nat.beq T T' with
    | true => sameCs cs cs'
    | false => False
  | .mrow t xs, .mrow t' ys => match h : Ty.beq (.slice t) (.slice t') with
    | true => castD h (a := .slice t) (b := .slice t') xs = ys
    | false => False
  | .arr t xs, .arr t' ys => match h : Ty.beq (.slice t) (.slice t') with
    | true => castD h (a := .slice t) (b := .slice t') xs = ys
    | false => False
  | .tok t xs, .tok t' ys => match h : Ty.beq (.slice t) (.slice t') with
    | true => castD h (a := .slice t) (b := .slice t') xs = ys
    | false => False
  | .ext k t x, .ext k' t' y => match Nat.beq k k', h : Ty.beq t t' with
    | true, true => castD h x = y
    | _, _ => False
  | .iter cs seen cl, .iter cs' seen' cl' => sameCs cs cs' ∧ seen = seen' ∧ cl = cl'
  | _, _ => False
def subEnv (st : St) : List (Nat × SV) → Prop
  | [] => True
  | (n, v) :: r => match look st.env n with
    | some u => sameSV u v ∧ subEnv st r
    | none => False
def subObj (st : St) : List (Nat × OC) → Prop
  | [] => True
  | (n, v) :: r => match look st.objs n with
    | some u => sameOC u v ∧ subObj st r
    | none => False
def keepEnv (st : St) : List Nat → List (Nat × SV)
  | [] => []
  | t :: r => match look st.env t with
    | some v => (t, v) :: keepEnv st r
    | none => keepEnv st r
def keepObjs (st : St) : List Nat → List (Nat × OC)
  | [] => []
  | t :: r => match look st.objs t with
    | some v => (t, v) :: keepObjs st r
    | none => keepObjs st r
def headSt (an : Ann) (st : St) (x : an.X) : St :=
  { env := an.slots x ++ keepEnv st an.keep, objs := an.objs x ++ keepObjs st an.keepObj, next := st.next }
def writesOps (l : List Oper) : List Nat := l.filterMap (·.dst)
def writes (anns : Anns) : Nat → Code → List Nat
  | _, .region _ ops _ => writesOps ops.toList
  | k, .seq a b => writes anns k a ++ writes anns k b
  | k, .cond _ a b => writes anns k a ++ writes anns k b
  | _, .block id b => writes anns id b
  | k, .loop b => match look anns (k + 200000) with
    | some _ => allM :: writes anns k b
    | none => writes anns k b
  | _, _ => []
def memB (n : Nat) : List Nat → Bool
  | [] => false
  | m :: r => match Nat.beq m n with
    | true => true
    | false => memB n r
def disjB (l : List Nat) (W : List Nat) : Bool := match l with
  | [] => true
  | _ => !(memB allM W) && l.all fun n => !(memB n W)
def capsBelow (k : Nat) : List Nat → Bool
  | [] => true
  | n :: r => Nat.blt n k && capsBelow k r
def cBelow (k : Nat) : C → Bool
  | .app _ _ n | .mrow n | .aref n | .xref n | .xd n _ | .ref n _ | .nref n | .eref n _ _ _ | .msub n _ _ _ => Nat.blt n k
  | .fn _ caps => capsBelow k caps
  | _ => true
def csBelow (k : Nat) : List C → Bool
  | [] => true
  | c :: r => cBelow k c && csBelow k r
def sv0Below (k : Nat) : SV0 → Bool
  | .one c => cBelow k c
  | .agg cs => csBelow k cs
def envBelow (k : Nat) : List (Nat × SV) → Bool
  | [] => true
  | (_, .s v) :: r => sv0Below k v && envBelow k r
  | (_, .tup _) :: _ => false
def ocBelow (k : Nat) : OC → Bool
  | .cells _ cs => csBelow k cs
  | .iter cs _ _ => csBelow k cs
  | _ => true
def objsBelow (k : Nat) : List (Nat × OC) → Bool
  | [] => true
  | (n, oc) :: r => Nat.blt n k && ocBelow k oc && objsBelow k r
def presentB (env : List (Nat × SV)) : List Nat → Bool
  | [] => true
  | t :: r => match look env t with
    | some _ => presentB env r
    | none => false
def keysIn (W : List Nat) : List (Nat × SV) → Bool
  | [] => true
  | (n, _) :: r => memB n W && keysIn W r
def hereE (env : List (Nat × SV)) : List Nat → List Nat
  | [] => []
  | t :: r => match look env t with
    | some (.s _) => t :: hereE env r
    | _ => hereE env r
def dropNames (mods : List Nat) : List (Nat × OC) → List Nat
  | [] => []
  | (n, _) :: r => match memB n mods with
    | true => dropNames mods r
    | false => n :: dropNames mods r
def fillAnn (st : St) (an : Ann) : Ann :=
  { an with keep := hereE st.env an.keep, keepObj := match an.keepObj with
    | [] => dropNames an.mods st.objs
    | l => l }
def tmpD (ty : Ty) (st : St) (t : Nat) : D ty :=
  match look st.env t with
  | some (.s c) => match asD0 ty c with
    | some x => x
    | none => zeroD ty
  | _ => zeroD ty
def objOf (st : St) (t : Nat) : Nat :=
  match look st.env t with
  | some (.s (.one (.mrow n))) => n
  | some (.s (.one (.aref n))) => n
  | some (.s (.one (.xref n))) => n
  | some (.s (.one (.xd n _))) => n
  | some (.s (.one (.ref n _))) => n
  | some (.s (.one (.app _ _ n))) => n
  | _ => 0
def Missing (_ : Nat) (_ : St) : Prop := False
def joinVC (an : Ann) (st st' : St) : VC :=
  match presentB st'.env an.keep with
  | true => .leaf (∃ x', an.inv x' ∧ subEnv st' (an.slots x') ∧ subObj st' (an.objs x' ++ keepObjs st an.keepObj))
  | false => .ff
def refAs (st : St) : List (Nat × Nat) → Option (List (Nat × Nat))
  | [] => some []
  | (t, k) :: r => match look st.env t, refAs st r with
    | some (.s (.one c)), some as => match nameC c with
      | some n => match look as k with
        | some _ => some as
        | none => some ((k, n) :: as)
      | none => none
    | _, _ => none
def thingN (st : St) (an : Ann) : Option (List Nat) :=
  match refAs st an.refs with
  | some as1 => match bindObs st.objs 0 an.obs as1 with
    | some as2 => namesFrom as2 0 an.obs.length
    | none => none
  | none => none
def refsOK (st : St) (an : Ann) (ν : List Nat) : List (Nat × Nat) → Bool
  | [] => true
  | (t, k) :: r => (match look st.env t with
    | some (.s (.one c)) => sameRef false st.objs an.obs ν k c
    | _ => false) && refsOK st an ν r
def refsP (st : St) (an : Ann) (y : PD an.obs) : List (Nat × Nat) → List Prop
  | [] => []
  | (t, k) :: r => (match look st.env t with
    | some (.s (.one c)) => tokP an.obs y k c
    | _ => []) ++ refsP st an y r
def refEnv (an : Ann) (y : PD an.obs) (us : List Nat) : List (Nat × Nat) → List (Nat × SV)
  | [] => []
  | (t, k) :: r => (t, .s (.one (refAt an.obs y us k))) :: refEnv an y us r
def restE (an : Ann) (st : St) (x : an.X) : List (Nat × SV) := an.slots x ++ keepEnv st an.keep
def restO (an : Ann) (st : St) (x : an.X) : List (Nat × OC) := an.objs x ++ keepObjs st an.keepObj
def headSt2 (an : Ann) (st : St) (x : an.X) : St :=
  { env := refEnv an (an.pd x) (upto st.next an.obs.length) an.refs ++ restE an st x,
    objs := objsC (refAt an.obs (an.pd x) (upto st.next an.obs.length)) an.obs (an.pd x) (upto st.next an.obs.length) ++ restO an st x, next := st.next + an.obs.length }
def keysOut (ν : List Nat) : List (Nat × OC) → Bool
  | [] => true
  | (n, _) :: r => !(memN n ν) && keysOut ν r
def noRefs (keep : List Nat) : List (Nat × Nat) → Bool
  | [] => true
  | (t, _) :: r => !(memB t keep) && noRefs keep r
def headOK (an : Ann) (st : St) (W : List Nat) (x : an.X) : Bool := envBelow st.next (restE an st x) && (objsBelow st.next (restO an st x) && (keysIn W (an.slots x) && noRefs an.keep an.refs))
def fillAnn2 (st : St) (an : Ann) : Ann :=
  { an with keep := (hereE st.env an.keep).filter (fun t => noRefs [t] an.refs), keepObj := match an.keepObj with
    | [] => dropNames (an.mods ++ (match thingN st an with | some l => l | none => [])) st.objs
    | l => l }
def fitVC (an : Ann) (st st' : St) (more : an.X → Prop) : VC :=
  match thingN st' an with
  | some ν => match nodupB ν && (refsOK st' an ν an.refs), getObs false st'.objs an.obs ν an.obs ν with
    | true, some y => .leaf (allP (refsP st' an y an.refs ++ condObs an.obs y st'.objs an.obs ν ++ [∃ x', an.inv x' ∧ more x' ∧ subEnv st' (an.slots x') ∧ subObj st' (an.objs x' ++ keepObjs st an.keepObj) ∧ (keysOut ν (restO an st x') = true ∧ y = an.pd x')]))
    | _, _ => .ff
  | none => .ff
def regVC (cx : Cx) (ops : Array Oper) (draw : Bool) (st : St) (K : St → VC) : VC :=
  match draw with
  | false => opsVC cx ops.toList ops.toList st K
  | true => match regionOK ops with
    | true => anyQ cx ops st fun st' => K (canon st.next (writesOps ops.toList) st')
    | false => .ff
def firstReg : Code → Nat → Nat
  | .region id _ _, _ => id
  | .seq a b, d => firstReg a (firstReg b d)
  | .cond _ a b, d => firstReg a (firstReg b d)
  | .block _ b, d => firstReg b d
  | .loop b, d => firstReg b d
  | _, d => d
def vc (cx : Cx) (anns : Anns) : Code → Nat → St → (Ex → St → VC) → VC
  | .skip, _, st, K => K .normal st
  | .region id ops draw, _, st, K => match (look anns (id + 300000)).map (fun f => fillAnn st (f st)) with
    | none => regVC cx ops draw st (K .normal)
    | some an => match disjB an.keep (writesOps ops.toList) with
      | true => .both (regVC cx ops draw st (joinVC an st))
        (.all an.X fun x => .imp (an.inv x) (match envBelow st.next (headSt an st x).env && (objsBelow st.next (headSt an st x).objs && keysIn (writesOps ops.toList) (an.slots x)) with
          | true => K .normal (headSt an st x)
          | false => .ff))
      | false => .ff
  | .seq a b, cur, st, K => vc cx anns a cur st fun e st' => match e with
    | .normal => vc cx anns b cur st' K
    | e => K e st'
  | .cond c a b, cur, st, K => match (look anns (firstReg a (firstReg b 0) + 400000)).map (fun f => fillAnn st (f st)) with
    | none => match ev1 st.env c with
      | .lit true => vc cx anns a cur st K
      | .lit false => vc cx anns b cur st K
      | .d .bool g => .ite g (vc cx anns a cur st K) (vc cx anns b cur st K)
      | _ => .ff
    | some an => match disjB an.keep (writes anns cur (.cond c a b)) with
      | true => .both (match ev1 st.env c with
        | .lit true => vc cx anns a cur st fun e st' => match e with
          | .normal => joinVC an st st'
          | e => K e st'
        | .lit false => vc cx anns b cur st fun e st' => match e with
          | .normal => joinVC an st st'
          | e => K e st'
        | .d .bool g => .ite g (vc cx anns a cur st fun e st' => match e with
          | .normal => joinVC an st st'
          | e => K e st') (vc cx anns b cur st fun e st' => match e with
          | .normal => joinVC an st st'
          | e => K e st')
        | _ => .ff)
        (.all an.X fun x => .imp (an.inv x) (match envBelow st.next (headSt an st x).env && (objsBelow st.next (headSt an st x).objs && keysIn (writes anns cur (.cond c a b)) (an.slots x)) with
          | true => K .normal (headSt an st x)
          | false => .ff))
      | false => .ff
  | .block id b, _, st, K => match (look anns (id + 100000)).map (fun f => fillAnn st (f st)) with
    | none => vc cx anns b id st fun e st' => match e with
      | .exit i => match Nat.beq i id with
        | true => K .normal st'
        | false => K (.exit i) st'
      | e => K e st'
    | some an => match disjB an.keep (writes anns id b) with
      | true => .both (vc cx anns b id st fun e st' => match e with
        | .exit i => match Nat.beq i id with
          | true => joinVC an st st'
          | false => K (.exit i) st'
        | .normal => joinVC an st st'
        | .ret => K .ret st')
        (.all an.X fun x => .imp (an.inv x) (match envBelow st.next (headSt an st x).env && (objsBelow st.next (headSt an st x).objs && keysIn (writes anns id b) (an.slots x)) with
          | true => K .normal (headSt an st x)
          | false => .ff))
      | false => .ff
  | .loop b, cur, st, K => match look anns (cur + 200000) with
    | none => match (look anns cur).map (fun f => fillAnn st (f st)) with
      | some an => match disjB an.keep (writes anns cur b) with
        | true => .and (∃ x, an.inv x ∧ subEnv st (an.slots x) ∧ subObj st (an.objs x))
            (.all an.X fun x => .imp (an.inv x) (match envBelow st.next (headSt an st x).env && (objsBelow st.next (headSt an st x).objs && keysIn (writes anns cur b) (an.slots x)) with
              | true => vc cx anns b cur (headSt an st x) fun e st' => match e with
                | .normal => match presentB st'.env an.keep with
                  | true => .leaf (∃ x', an.inv x' ∧ an.meas x' < an.meas x ∧ subEnv st' (an.slots x') ∧ subObj st' (an.objs x' ++ keepObjs st an.keepObj))
                  | false => .ff
                | e => K e st'
              | false => .ff))
        | false => .ff
      | none => .leaf (Missing cur st)
    | some f => match fillAnn2 st (f st) with
      | an => match disjB an.keep (writes anns cur b) with
        | true => .both (fitVC an st st fun _ => True)
            (.all an.X fun x => .imp (an.inv x) (match headOK an st (writes anns cur b) x with
              | true => vc cx anns b cur (headSt2 an st x) fun e st' => match e with
                | .normal => match presentB st'.env an.keep with
                  | true => fitVC an st st' fun x' => an.meas x' < an.meas x
                  | false => .ff
                | e => K e st'
              | false => .ff))
        | false => .ff
  | .exit id, _, st, K => K (.exit id) st
  | .ret, _, st, K => K .ret st
  | _, _, _, _ => .ff
section
variable {X : Ext} {P : Program} {cx : Cx}
theorem sameC_rel {S : Sit} {a b : C} {v : Value} (h : sameC a b) (hv : CR cx.eT S a v) : CR cx.eT S b v := by
  unfold sameC at h
  split at h
  · subst h; exact bool_rel.2 hv
  · split at h
    · rename_i hb
      subst h
      exact castD_vr hb _ hv
    · exact h.elim
  · split at h
    · rename_i t xs n t' ys m _ hb hn
      have hn := Nat.eq_of_beq_eq_true hn
      subst hn
      have : t = t' := by have := Ty.eq_of_beq hb; cases this; rfl
      subst this
      rw [castL_self] at h
      subst h
      exact hv
    · exact h.elim
  · subst h; exact hv
theorem sameSV_rel {S : Sit} {a b : SV} {v : Value} (h : sameSV a b) (hv : SVR cx.eT S a v) : SVR cx.eT S b v := by
  unfold sameSV at h
  split at h
  · exact sameC_rel h hv
  · subst h; exact hv
theorem sameCs_rel {S : Sit} : ∀ {as bs : List C} {vs : List Value}, sameCs as bs → CRs cx.eT S as vs → CRs cx.eT S bs vs := by
  intro as
  induction as with
  | nil =>
    intro bs vs h hv
    cases bs with
    | nil => exact hv
    | cons => exact h.elim
  | cons a as ih =>
    intro bs vs h hv
    cases bs with
    | nil => exact h.elim
    | cons b bs =>
      cases hv with
      | cons h1 h2 h3 => exact .cons (sameC_rel h.1 h1) h2 (ih h.2 h3)
theorem sameOC_rel {S : Sit} {l : Loc} {a b : OC} (h : sameOC a b) (hv : OR cx.eT X S l a) : OR cx.eT X S l b ∧ SameKind l l a b ∧ a.lo = b.lo := by
  unfold sameOC at h
  split at h
  · split at h
    · rename_i hT
      have := Nat.eq_of_beq_eq_true hT
      subst this
      obtain ⟨b, vs, h1, h2, h3, h4⟩ := hv
      exact ⟨⟨b, vs, h1, h2, h3, sameCs_rel h h4⟩, rfl, rfl⟩
    · exact h.elim
  · split at h
    · rename_i t xs t' ys hb
      have : t = t' := by have := Ty.eq_of_beq hb; cases this; rfl
      subst this; rw [castL_self] at h; subst h
      exact ⟨hv, rfl, rfl⟩
    · exact h.elim
  · split at h
    · rename_i t xs t' ys hb
      have : t = t' := by have := Ty.eq_of_beq hb; cases this; rfl
      subst this; rw [castL_self] at h; subst h
      exact ⟨hv, rfl, rfl⟩
    · exact h.elim
  · split at h
    · rename_i t xs t' ys hb
      have : t = t' := by have := Ty.eq_of_beq hb; cases this; rfl
      subst this; rw [castL_self] at h; subst h
      exact ⟨hv, ⟨rfl, Nat.le_refl _, fun _ => rfl⟩, rfl⟩
    · exact h.elim
  · split at h
    · rename_i k t x k' t' y hk hb
      have := Nat.eq_of_beq_eq_true hk
      subst this
      have := Ty.eq_of_beq hb
      subst this; rw [castD_self] at h; subst h
      exact ⟨hv, ⟨rfl, rfl⟩, rfl⟩
    · exact h.elim
  · obtain ⟨h1, rfl, rfl⟩ := h
    obtain ⟨b, m, c, sn, k1, k2, k3, k4, k5, k6⟩ := hv
    exact ⟨⟨b, m, c, sn, k1, k2, k3, sameCs_rel h1 k4, k5, k6⟩, trivial, rfl⟩
  · exact h.elim
theorem memB_iff {n : Nat} {l : List Nat} : memB n l = true ↔ n ∈ l := by
  induction l with
  | nil => simp [memB]
  | cons m r ih =>
    simp only [memB, List.mem_cons]
    by_cases h : m = n
    · subst h; simp [Nat.beq_refl]
    · rw [beq_ne h]; simp only [ih]
      constructor
      · exact .inr
      · rintro (h' | h')
        · exact absurd h'.symm h
        · exact h'
theorem disjB_iff {l W : List Nat} (h : disjB l W = true) : ∀ n ∈ l, allM ∉ W ∧ n ∉ W := by
  intro n hn
  unfold disjB at h
  split at h
  · simp at hn
  · simp only [Bool.and_eq_true, List.all_eq_true, Bool.not_eq_true'] at h
    exact ⟨fun hW => by rw [memB_iff.2 hW] at h; exact absurd h.1 (by decide), fun hW => by have := h.2 n hn; rw [memB_iff.2 hW] at this; cases this⟩
def QOf (cx : Cx) (X : Ext) (O : Avoid) (K : Ex → St → VC) (W : List Nat) (st : St) (S : Sit) : Exit → Act → World → Prop
  | .normal, a, w => StepK cx X O (K .normal) W st S a w
  | .exit n, a, w => StepK cx X O (K (.exit n)) W st S a w
  | .ret, a, w => StepK cx X O (K .ret) W st S a w
  | _, _, _ => False
theorem QOf.mono {O : Avoid} {K : Ex → St → VC} {W W' : List Nat} {st st1 : St} {S S1 : Sit} {e : Exit} {a : Act} {w : World} (h : QOf cx X O K W st1 S1 e a w) (ht : Tr S S1) (ha : Agree W' st st1) (hW : ∀ n ∈ W, n ∈ W') : QOf cx X O K W' st S e a w := by
  have key : ∀ K : St → VC, StepK cx X O K W st1 S1 a w → StepK cx X O K W' st S a w := by
    rintro K ⟨st', loc', k1, k2, k3, k4, k5⟩
    exact ⟨st', loc', k1, k2, ht.trans k3, k4, ha.trans fun hm t ht => k5 (fun h => hm (hW _ h)) t fun h => ht (hW t h)⟩
  cases e with
  | normal => exact key _ h
  | exit n => exact key _ h
  | ret => exact key _ h
  | goto l => exact h
  | panic c => exact h
  | outgrown => exact h
theorem look_keepEnv {st : St} {l : List Nat} {n : Nat} {v : SV} (h : look (keepEnv st l) n = some v) : n ∈ l ∧ look st.env n = some v := by
  induction l with
  | nil => simp [keepEnv, look] at h
  | cons t r ih =>
    simp only [keepEnv] at h
    split at h
    · rename_i u hu
      rw [look_cons] at h
      by_cases e : t = n
      · rw [if_pos e] at h; cases h; subst e; exact ⟨by simp, hu⟩
      · rw [if_neg e] at h; have := ih h; exact ⟨by simp [this.1], this.2⟩
    · have := ih h; exact ⟨by simp [this.1], this.2⟩
theorem look_keepObjs {st : St} {l : List Nat} {n : Nat} {v : OC} (h : look (keepObjs st l) n = some v) : look st.objs n = some v := by
  induction l with
  | nil => simp [keepObjs, look] at h
  | cons t r ih =>
    simp only [keepObjs] at h
    split at h
    · rename_i u hu
      rw [look_cons] at h
      by_cases e : t = n
      · rw [if_pos e] at h; cases h; subst e; exact hu
      · rw [if_neg e] at h; exact ih h
    · exact ih h
theorem subEnv_look {st : St} {l : List (Nat × SV)} (h : subEnv st l) : ∀ {n v}, look l n = some v → ∃ u, look st.env n = some u ∧ sameSV u v := by
  induction l with
  | nil => intro n v hl; simp [look] at hl
  | cons p r ih =>
    obtain ⟨m, x⟩ := p
    intro n v hl
    simp only [subEnv] at h
    split at h
    · rename_i u hu
      rw [look_cons] at hl
      by_cases e : m = n
      · rw [if_pos e] at hl; cases hl; subst e; exact ⟨u, hu, h.1⟩
      · rw [if_neg e] at hl; exact ih h.2 hl
    · exact h.elim
theorem subObj_look {st : St} {l : List (Nat × OC)} (h : subObj st l) : ∀ {n v}, look l n = some v → ∃ u, look st.objs n = some u ∧ sameOC u v := by
  induction l with
  | nil => intro n v hl; simp [look] at hl
  | cons p r ih =>
    obtain ⟨m, x⟩ := p
    intro n v hl
    simp only [subObj] at h
    split at h
    · rename_i u hu
      rw [look_cons] at hl
      by_cases e : m = n
      · rw [if_pos e] at hl; cases hl; subst e; exact ⟨u, hu, h.1⟩
      · rw [if_neg e] at hl; exact ih h.2 hl
    · exact h.elim
theorem blt_of {a b : Nat} (h : Nat.blt a b = true) : a < b := blt_lt h
theorem cBelow_rel {S S' : Sit} (hO : ∀ b o v, ¬ S.A b o → S.w.cell? ⟨b, o, none⟩ = some v → S'.w.cell? ⟨b, o, none⟩ = some v ∧ ¬ S'.A b o) (hloc : S'.loc = S.loc)
    (hob : ∀ n oc, S'.ob n = some oc → ∃ oc0, S.ob n = some oc0 ∧ SameKind (S.loc n) (S.loc n) oc0 oc) {c : C} {v : Value} (hb : cBelow S'.next c = true) (hv : CR cx.eT S c v) : CR cx.eT S' c v := by
  cases c with
  | lit b => exact hv
  | d t x => exact VR.frame hv hO
  | app t xs n =>
    obtain ⟨h1, h2, h3⟩ := hv
    refine ⟨VR.frame h1 hO, blt_of hb, fun ys hy => ?_⟩
    obtain ⟨oc0, k1, k2⟩ := hob n _ hy
    cases oc0 <;> simp [SameKind] at k2
    obtain ⟨rfl, k3⟩ := k2
    obtain ⟨m1, m2⟩ := h3 _ k1
    rw [hloc]
    exact ⟨by omega, fun e => m2 (by omega)⟩
  | nilS => exact hv
  | nilP => exact hv
  | emp => exact hv
  | mrow n =>
    refine ⟨blt_of hb, fun t xs e => ?_⟩
    obtain ⟨oc0, k1, k2⟩ := hob n _ e
    cases oc0 <;> simp [SameKind] at k2
    rw [hloc]; exact hv.2 _ _ k1
  | msub n t lo len =>
    refine ⟨blt_of hb, fun xs e => ?_⟩
    obtain ⟨oc0, k1, k2⟩ := hob n _ e
    cases oc0 <;> simp [SameKind] at k2
    subst k2
    rw [hloc]; exact hv.2 _ k1
  | aref n =>
    refine ⟨blt_of hb, fun t xs e => ?_⟩
    obtain ⟨oc0, k1, k2⟩ := hob n _ e
    cases oc0 <;> simp [SameKind] at k2
    rw [hloc]; exact hv.2 _ _ k1
  | xref n =>
    refine ⟨blt_of hb, fun oc e hx => ?_⟩
    obtain ⟨oc0, k1, k2⟩ := hob n _ e
    rw [hloc]; exact hv.2 _ k1 (by cases oc0 <;> cases oc <;> first | rfl | exact k2.elim | cases hx)
  | xd n p =>
    refine ⟨blt_of hb, fun t x e => ?_⟩
    obtain ⟨oc0, k1, k2⟩ := hob n _ e
    cases oc0 <;> simp [SameKind] at k2
    obtain ⟨rfl, rfl⟩ := k2
    rw [hloc]; exact hv.2 _ _ k1
  | ref n off =>
    refine ⟨blt_of hb, fun T cs e => ?_⟩
    obtain ⟨oc0, k1, k2⟩ := hob n _ e
    cases oc0 <;> simp [SameKind] at k2
    rw [hloc]; exact hv.2 _ _ k1
  | nref n =>
    refine ⟨blt_of hb, ?_⟩
    rcases hv.2 with hn | hn
    · exact .inl hn
    · refine .inr fun T cs e => ?_
      obtain ⟨oc0, k1, k2⟩ := hob n _ e
      cases oc0 <;> simp [SameKind] at k2
      rw [hloc]; exact hn _ _ k1
  | eref n t i off =>
    refine ⟨blt_of hb, fun ⟨xs, e⟩ => ?_⟩
    rw [hloc]
    rcases e with e | e
    · obtain ⟨oc0, k1, k2⟩ := hob n _ e
      cases oc0 <;> simp [SameKind] at k2
      subst k2; exact hv.2 ⟨_, .inl k1⟩
    · obtain ⟨oc0, k1, k2⟩ := hob n _ e
      cases oc0 <;> simp [SameKind] at k2
      subst k2; exact hv.2 ⟨_, .inr k1⟩
  | iref t x =>
    obtain ⟨b, o, us, rfl, h1, h2⟩ := hv
    exact ⟨b, o, us, rfl, h1.frame hO, h2.frame hO⟩
  | fn f caps =>
    obtain ⟨rfl, h2⟩ := hv
    refine ⟨by rw [hloc], fun n hn => ⟨?_, fun t ys e => ?_⟩⟩
    · have : ∀ l : List Nat, capsBelow S'.next l = true → n ∈ l → n < S'.next := by
        intro l
        induction l with
        | nil => intro _ h; simp at h
        | cons m r ih =>
          intro h hm
          simp only [capsBelow, Bool.and_eq_true] at h
          rcases List.mem_cons.1 hm with rfl | hm
          · exact blt_of h.1
          · exact ih h.2 hm
      exact this caps hb hn
    · obtain ⟨oc0, k1, k2⟩ := hob n _ e
      cases oc0 <;> simp [SameKind] at k2
      exact (h2 n hn).2 _ _ k1
  | any => trivial
theorem capsBelow_mem0 {k : Nat} : ∀ {l : List Nat} {n : Nat}, capsBelow k l = true → n ∈ l → n < k
  | [], _, _, h => by simp at h
  | m :: r, n, h, hn => by
    simp only [capsBelow, Bool.and_eq_true] at h
    rcases List.mem_cons.1 hn with e | hn
    · rw [e]; exact blt_of h.1
    · exact capsBelow_mem0 h.2 hn
theorem csBelow_rel2 {S S' : Sit} {k : Nat} (hrel : ∀ {c : C} {v : Value}, cBelow k c = true → CR cx.eT S c v → CR cx.eT S' c v) : ∀ {cs : List C} {vs : List Value}, csBelow k cs = true → CRs cx.eT S cs vs → CRs cx.eT S' cs vs := by
  intro cs
  induction cs with
  | nil => intro vs _ h; cases h; exact .nil
  | cons c cs ih =>
    intro vs hb h
    simp only [csBelow, Bool.and_eq_true] at hb
    cases h with
    | cons h1 h2 h3 => exact .cons (hrel hb.1 h1) h2 (ih hb.2 h3)
theorem cBelow_rel2 {S S' : Sit} (hO : ∀ b o v, ¬ S.A b o → S.w.cell? ⟨b, o, none⟩ = some v → S'.w.cell? ⟨b, o, none⟩ = some v ∧ ¬ S'.A b o) {k : Nat} (hk : k ≤ S'.next) (hloc : ∀ n, n < k → S'.loc n = S.loc n)
    (hob : ∀ n oc, n < k → S'.ob n = some oc → ∃ oc0, S.ob n = some oc0 ∧ SameKind (S.loc n) (S.loc n) oc0 oc) {c : C} {v : Value} (hb : cBelow k c = true) (hv : CR cx.eT S c v) : CR cx.eT S' c v := by
  cases c with
  | lit b => exact hv
  | d t x => exact VR.frame hv hO
  | app t xs n =>
    obtain ⟨h1, h2, h3⟩ := hv
    refine ⟨VR.frame h1 hO, Nat.lt_of_lt_of_le (blt_of hb) hk, fun ys hy => ?_⟩
    obtain ⟨oc0, k1, k2⟩ := hob n _ (blt_of hb) hy
    cases oc0 <;> simp [SameKind] at k2
    obtain ⟨rfl, k3⟩ := k2
    obtain ⟨m1, m2⟩ := h3 _ k1
    rw [hloc n (blt_of hb)]
    exact ⟨by omega, fun e => m2 (by omega)⟩
  | nilS => exact hv
  | nilP => exact hv
  | emp => exact hv
  | mrow n =>
    refine ⟨Nat.lt_of_lt_of_le (blt_of hb) hk, fun t xs e => ?_⟩
    obtain ⟨oc0, k1, k2⟩ := hob n _ (blt_of hb) e
    cases oc0 <;> simp [SameKind] at k2
    rw [hloc n (blt_of hb)]; exact hv.2 _ _ k1
  | msub n t lo len =>
    refine ⟨Nat.lt_of_lt_of_le (blt_of hb) hk, fun xs e => ?_⟩
    obtain ⟨oc0, k1, k2⟩ := hob n _ (blt_of hb) e
    cases oc0 <;> simp [SameKind] at k2
    subst k2
    rw [hloc n (blt_of hb)]; exact hv.2 _ k1
  | aref n =>
    refine ⟨Nat.lt_of_lt_of_le (blt_of hb) hk, fun t xs e => ?_⟩
    obtain ⟨oc0, k1, k2⟩ := hob n _ (blt_of hb) e
    cases oc0 <;> simp [SameKind] at k2
    rw [hloc n (blt_of hb)]; exact hv.2 _ _ k1
  | xref n =>
    refine ⟨Nat.lt_of_lt_of_le (blt_of hb) hk, fun oc e hx => ?_⟩
    obtain ⟨oc0, k1, k2⟩ := hob n _ (blt_of hb) e
    rw [hloc n (blt_of hb)]; exact hv.2 _ k1 (by cases oc0 <;> cases oc <;> first | rfl | exact k2.elim | cases hx)
  | xd n p =>
    refine ⟨Nat.lt_of_lt_of_le (blt_of hb) hk, fun t x e => ?_⟩
    obtain ⟨oc0, k1, k2⟩ := hob n _ (blt_of hb) e
    cases oc0 <;> simp [SameKind] at k2
    obtain ⟨rfl, rfl⟩ := k2
    rw [hloc n (blt_of hb)]; exact hv.2 _ _ k1
  | ref n off =>
    refine ⟨Nat.lt_of_lt_of_le (blt_of hb) hk, fun T cs e => ?_⟩
    obtain ⟨oc0, k1, k2⟩ := hob n _ (blt_of hb) e
    cases oc0 <;> simp [SameKind] at k2
    rw [hloc n (blt_of hb)]; exact hv.2 _ _ k1
  | nref n =>
    refine ⟨Nat.lt_of_lt_of_le (blt_of hb) hk, ?_⟩
    rcases hv.2 with hn | hn
    · exact .inl hn
    · refine .inr fun T cs e => ?_
      obtain ⟨oc0, k1, k2⟩ := hob n _ (blt_of hb) e
      cases oc0 <;> simp [SameKind] at k2
      rw [hloc n (blt_of hb)]; exact hn _ _ k1
  | eref n t i off =>
    refine ⟨Nat.lt_of_lt_of_le (blt_of hb) hk, fun ⟨xs, e⟩ => ?_⟩
    rw [hloc n (blt_of hb)]
    rcases e with e | e
    · obtain ⟨oc0, k1, k2⟩ := hob n _ (blt_of hb) e
      cases oc0 <;> simp [SameKind] at k2
      subst k2; exact hv.2 ⟨_, .inl k1⟩
    · obtain ⟨oc0, k1, k2⟩ := hob n _ (blt_of hb) e
      cases oc0 <;> simp [SameKind] at k2
      subst k2; exact hv.2 ⟨_, .inr k1⟩
  | iref t x =>
    obtain ⟨b, o, us, rfl, h1, h2⟩ := hv
    exact ⟨b, o, us, rfl, h1.frame hO, h2.frame hO⟩
  | fn f caps =>
    obtain ⟨rfl, h2⟩ := hv
    have hlt : ∀ n ∈ caps, n < k := fun n hn => capsBelow_mem0 hb hn
    refine ⟨by rw [show (caps.map fun n => (S.loc n).v) = (caps.map fun n => (S'.loc n).v) from List.map_congr_left fun n hn => by rw [hloc n (hlt n hn)]], fun n hn => ⟨Nat.lt_of_lt_of_le (hlt n hn) hk, fun t ys e => ?_⟩⟩
    obtain ⟨oc0, k1, k2⟩ := hob n _ (hlt n hn) e
    cases oc0 <;> simp [SameKind] at k2
    exact (h2 n hn).2 _ _ k1
  | any => trivial
theorem SameKind.comp {l1 l2 l3 : Loc} {a b c : OC} (h : SameKind l1 l2 a b) (h' : SameKind l2 l3 b c) : SameKind l1 l3 a c := by
  cases a <;> cases b <;> simp [SameKind] at h <;> cases c <;> simp [SameKind] at h' ⊢
  all_goals (try (simp_all; done))
  obtain ⟨rfl, a1, a2⟩ := h
  obtain ⟨rfl, b1, b2⟩ := h'
  refine ⟨rfl, by omega, fun e => ?_⟩
  rw [b2 (by omega), a2 (by omega)]
theorem csBelow_rel {S S' : Sit} (hrel : ∀ {c : C} {v : Value}, cBelow S'.next c = true → CR cx.eT S c v → CR cx.eT S' c v) : ∀ {cs : List C} {vs : List Value}, csBelow S'.next cs = true → CRs cx.eT S cs vs → CRs cx.eT S' cs vs := by
  intro cs
  induction cs with
  | nil => intro vs _ h; cases h; exact .nil
  | cons c cs ih =>
    intro vs hb h
    simp only [csBelow, Bool.and_eq_true] at hb
    cases h with
    | cons h1 h2 h3 => exact .cons (hrel hb.1 h1) h2 (ih hb.2 h3)
theorem envBelow_look {k : Nat} : ∀ {l : List (Nat × SV)}, envBelow k l = true → ∀ {n v}, look l n = some v → ∃ v0, v = .s v0 ∧ sv0Below k v0 = true := by
  intro l
  induction l with
  | nil => intro _ n v h; simp [look] at h
  | cons p r ih =>
    obtain ⟨m, x⟩ := p
    intro hb n v h
    cases x with
    | tup vs => simp [envBelow] at hb
    | s v0 =>
      simp only [envBelow, Bool.and_eq_true] at hb
      rw [look_cons] at h
      by_cases e : m = n
      · rw [if_pos e] at h; cases h; exact ⟨v0, rfl, hb.1⟩
      · rw [if_neg e] at h; exact ih hb.2 h
theorem objsBelow_look {k : Nat} : ∀ {l : List (Nat × OC)}, objsBelow k l = true → ∀ {n v}, look l n = some v → n < k ∧ ocBelow k v = true := by
  intro l
  induction l with
  | nil => intro _ n v h; simp [look] at h
  | cons p r ih =>
    obtain ⟨m, x⟩ := p
    intro hb n v h
    simp only [objsBelow, Bool.and_eq_true] at hb
    rw [look_cons] at h
    by_cases e : m = n
    · rw [if_pos e] at h; cases h; subst e; exact ⟨blt_of hb.1.1, hb.1.2⟩
    · rw [if_neg e] at h; exact ih hb.2 h
theorem head_rel {an : Ann} {O : Avoid} {st st' : St} {loc loc0 : Nat → Loc} {w w0 : World} {a : Act} (x : an.X) (g : Good cx.eT X (sit O st' loc w)) (hA : ActR cx (sit O st' loc w) st' a) (ht : Tr (sit O st loc0 w0) (sit O st' loc w))
    (he : ∀ n v, look (headSt an st x).env n = some v → ∃ u, look st'.env n = some u ∧ sameSV u v)
    (ho : ∀ n v, look (headSt an st x).objs n = some v → ∃ u, look st'.objs n = some u ∧ sameOC u v)
    (hb1 : envBelow st.next (headSt an st x).env = true) (hb2 : objsBelow st.next (headSt an st x).objs = true) :
    Good cx.eT X (sit O (headSt an st x) loc w) ∧ ActR cx (sit O (headSt an st x) loc w) (headSt an st x) a ∧ Tr (sit O st loc0 w0) (sit O (headSt an st x) loc w) := by
  have hob : ∀ n oc, look (headSt an st x).objs n = some oc → ∃ oc0, look st'.objs n = some oc0 ∧ SameKind (loc n) (loc n) oc0 oc ∧ oc0.lo = oc.lo ∧ OR cx.eT X (sit O st' loc w) (loc n) oc := by
    intro n oc h
    obtain ⟨u, hu, hs⟩ := ho n oc h
    obtain ⟨h1, h2, h3⟩ := sameOC_rel hs (g.obj n u hu).2
    exact ⟨u, hu, h2, h3, h1⟩
  have hAsub : ∀ b o, (sit O (headSt an st x) loc w).A b o → (sit O st' loc w).A b o := by
    rintro b o (h | ⟨n, oc, h1, h2, h3⟩)
    · exact .inl h
    · obtain ⟨oc0, k1, _, k3, _⟩ := hob n oc h1
      exact .inr ⟨n, oc0, k1, h2, by rw [k3]; exact h3⟩
  have hcell : ∀ b o v, ¬ (sit O st' loc w).A b o → w.cell? ⟨b, o, none⟩ = some v → w.cell? ⟨b, o, none⟩ = some v ∧ ¬ (sit O (headSt an st x) loc w).A b o := fun b o v h1 h2 => ⟨h2, fun h => h1 (hAsub b o h)⟩
  have hrel : ∀ {c : C} {v : Value}, cBelow st.next c = true → CR cx.eT (sit O st' loc w) c v → CR cx.eT (sit O (headSt an st x) loc w) c v := fun hb hv =>
    cBelow_rel (S := sit O st' loc w) (S' := sit O (headSt an st x) loc w) hcell rfl (fun n oc h => let ⟨oc0, k1, k2, _⟩ := hob n oc h; ⟨oc0, k1, k2⟩) hb hv
  have hor : ∀ n oc, look (headSt an st x).objs n = some oc → OR cx.eT X (sit O (headSt an st x) loc w) (loc n) oc := by
    intro n oc h
    obtain ⟨_, _, _, _, k4⟩ := hob n oc h
    have hb := (objsBelow_look hb2 h).2
    cases oc with
    | cells T cs =>
      obtain ⟨b, vs, h1, h2, h3, h4⟩ := k4
      exact ⟨b, vs, h1, h2, h3, csBelow_rel hrel hb h4⟩
    | mrow t xs =>
      rcases k4 with k4 | ⟨b, vs, T, cap, h1, h2, h3, h4, h5, h6, h7⟩
      · exact .inl k4
      · exact .inr ⟨b, vs, T, cap, h1, h2, h3, h4, h5, h6, fun i y hy => let ⟨us, r1, r2⟩ := h7 i y hy; ⟨us, r1.frame hcell, r2⟩⟩
    | arr t xs =>
      obtain ⟨b, vs, T, h1, h2, h3, h4, h5⟩ := k4
      exact ⟨b, vs, T, h1, h2, h3, h4, fun i y hy => let ⟨us, r1, r2⟩ := h5 i y hy; ⟨us, r1.frame hcell, r2⟩⟩
    | tok t xs =>
      rcases k4 with k4 | ⟨b, vs, T, cap, h1, h2, h3, h4, h5, h6, h7⟩
      · exact .inl k4
      · exact .inr ⟨b, vs, T, cap, h1, h2, h3, h4, h5, h6, fun i y hy => let ⟨us, r1, r2⟩ := h7 i y hy; ⟨us, r1.frame hcell, r2⟩⟩
    | ext k t x => exact k4
    | iter cs seen cl => obtain ⟨b, m, c, sn, k1, k2, k3, k4, k5⟩ := k4; exact ⟨b, m, c, sn, k1, k2, k3, csBelow_rel hrel hb k4, k5⟩
  refine ⟨⟨fun n oc h => ⟨(objsBelow_look hb2 h).1, hor n oc h⟩, fun n m oc oc' b h1 h2 h3 h4 => ?_, fun n oc b off h1 h2 => ?_, g.glob.sub rfl fun b ⟨n, oc, h1, h2⟩ => by obtain ⟨oc0, k1, _⟩ := hob n oc h1; exact ⟨n, oc0, k1, h2⟩⟩, ⟨hA.size, hA.defers, fun n v h => ?_⟩, ?_⟩
  · obtain ⟨oc0, k1, _⟩ := hob n oc h1
    obtain ⟨oc0', k1', _⟩ := hob m oc' h2
    exact g.apart n m oc0 oc0' b k1 k1' h3 h4
  · obtain ⟨oc0, k1, _⟩ := hob n oc h1
    exact g.out n oc0 b off k1 h2
  · obtain ⟨u, hu, hs⟩ := he n v h
    have hv := sameSV_rel hs (hA.env n u hu)
    obtain ⟨v0, rfl, hb⟩ := envBelow_look hb1 h
    cases v0 with
    | one c => exact hrel hb hv
    | agg cs => obtain ⟨vs, h1, h2⟩ := hv; exact ⟨vs, h1, csBelow_rel hrel hb h2⟩
  · refine { O := ht.O, next := Nat.le_refl _, os := ht.os, output := ht.output, size := ht.size, own := fun b hb => ?_, cell := fun b o v h1 h2 => ?_, block := ht.block, loc := ht.loc, kind := fun n oc hn h => ?_ }
    · obtain ⟨n, oc, h1, h2⟩ := hb
      obtain ⟨oc0, k1, _⟩ := hob n oc h1
      exact ht.own b ⟨n, oc0, k1, h2⟩
    · obtain ⟨k1, k2⟩ := ht.cell b o v h1 h2
      exact ⟨k1, fun h => k2 (hAsub b o h)⟩
    · obtain ⟨oc0, k1, k2, _⟩ := hob n oc h
      obtain ⟨oc1, m1, m2⟩ := ht.kind n oc0 hn k1
      exact ⟨oc1, m1, m2.comp k2⟩
theorem Ty.beq_refl : ∀ t : Ty, Ty.beq t t = true := by
  intro t
  induction t with
  | prod a b iha ihb => simp [Ty.beq, iha, ihb]
  | slice e ih => simp [Ty.beq, ih]
  | int k => simp [Ty.beq]
  | _ => rfl
theorem sameC_refl (c : C) : sameC c c := by
  cases c with
  | d t x =>
    simp only [sameC]
    split
    · rfl
    · rename_i h; rw [Ty.beq_refl] at h; cases h
  | app t xs n =>
    simp only [sameC]
    split
    · rfl
    · rename_i h; exact (h (Ty.beq_refl _) (Nat.beq_refl _)).elim
  | _ => rfl
theorem sameSV_refl (v : SV) : sameSV v v := by
  cases v with
  | s v =>
    cases v with
    | one c => exact sameC_refl c
    | agg cs => rfl
  | tup vs => rfl
theorem sameCs_refl : ∀ cs : List C, sameCs cs cs
  | [] => trivial
  | c :: cs => ⟨sameC_refl c, sameCs_refl cs⟩
theorem sameOC_refl (v : OC) : sameOC v v := by
  cases v with
  | cells T cs =>
    simp only [sameOC, Nat.beq_refl]
    exact sameCs_refl cs
  | mrow t xs =>
    simp only [sameOC]
    split
    · rfl
    · rename_i h; rw [Ty.beq_refl] at h; cases h
  | arr t xs =>
    simp only [sameOC]
    split
    · rfl
    · rename_i h; rw [Ty.beq_refl] at h; cases h
  | tok t xs =>
    simp only [sameOC]
    split
    · rfl
    · rename_i h; rw [Ty.beq_refl] at h; cases h
  | ext k t x =>
    simp only [sameOC]
    split
    · rfl
    · rename_i h; exact (h (Nat.beq_refl _) (Ty.beq_refl _)).elim
  | iter cs seen cl => exact ⟨sameCs_refl cs, rfl, rfl⟩
theorem keysIn_look {W : List Nat} : ∀ {l : List (Nat × SV)}, keysIn W l = true → ∀ {n v}, look l n = some v → n ∈ W := by
  intro l
  induction l with
  | nil => intro _ n v h; simp [look] at h
  | cons p r ih =>
    obtain ⟨m, x⟩ := p
    intro hb n v h
    simp only [keysIn, Bool.and_eq_true] at hb
    rw [look_cons] at h
    by_cases e : m = n
    · subst e; exact memB_iff.1 hb.1
    · rw [if_neg e] at h; exact ih hb.2 h
theorem presentB_look {env : List (Nat × SV)} : ∀ {l : List Nat}, presentB env l = true → ∀ {n}, n ∈ l → ∃ v, look env n = some v := by
  intro l
  induction l with
  | nil => intro _ n h; simp at h
  | cons t r ih =>
    intro hb n h
    simp only [presentB] at hb
    split at hb
    · rename_i u hu
      rcases List.mem_cons.1 h with rfl | h
      · exact ⟨u, hu⟩
      · exact ih hb h
    · cases hb
theorem Ex_then {O : Avoid} {K : Ex → St → VC} {W : List Nat} {st : St} {S : Sit} {next : Act → World → Prop} {Q : Exit → Act → World → Prop} {K' : Ex → St → VC}
    (hn : ∀ a w, StepK cx X O (K' .normal) W st S a w → next a w) (hK : ∀ e, e ≠ .normal → K' e = K e) (hQ : ∀ e a w, QOf cx X O K W st S e a w → e ≠ .normal → Q e a w) {e : Exit} {a : Act} {w : World}
    (h : QOf cx X O K' W st S e a w) : Exit.then next Q e a w := by
  cases e with
  | normal => exact hn a w h
  | exit n => exact hQ _ _ _ (by simpa [QOf, hK (.exit n) (by simp)] using h) (by simp)
  | ret => exact hQ _ _ _ (by simpa [QOf, hK .ret (by simp)] using h) (by simp)
  | goto l => exact h.elim
  | panic c => exact h.elim
  | outgrown => exact h.elim
structure FitA (an : Ann) (st st' : St) (x : an.X) (ν : List Nat) : Prop where
  nodup : nodupB ν = true
  refs : refsOK st' an ν an.refs = true
  get : getObs false st'.objs an.obs ν an.obs ν = some (an.pd x)
  toks : ∀ p ∈ refsP st' an (an.pd x) an.refs, p
  conds : ∀ p ∈ condObs an.obs (an.pd x) st'.objs an.obs ν, p
  env : subEnv st' (an.slots x)
  objs : subObj st' (restO an st x)
  out : keysOut ν (restO an st x) = true
theorem fitVC_out {an : Ann} {st st' : St} {more : an.X → Prop} (h : (fitVC an st st' more).holds) : ∃ x, an.inv x ∧ more x ∧ ∃ ν, FitA an st st' x ν := by
  unfold fitVC at h
  split at h
  · rename_i ν _
    split at h
    · rename_i y hc hy
      simp only [Bool.and_eq_true] at hc
      have hall := allP_out h
      obtain ⟨x, h1, h2, h3, h4, h5, h6⟩ := hall (∃ x', an.inv x' ∧ more x' ∧ subEnv st' (an.slots x') ∧ subObj st' (an.objs x' ++ keepObjs st an.keepObj) ∧ (keysOut ν (restO an st x') = true ∧ y = an.pd x')) (List.mem_append_right _ (List.mem_singleton.2 rfl))
      subst h6
      obtain ⟨k1, _⟩ := allP_app.1 hall
      obtain ⟨k1, k2⟩ := allP_app.1 k1
      exact ⟨x, h1, h2, ν, hc.1, hc.2, hy, k1, k2, h3, h4, h5⟩
    · exact h.elim
  · exact h.elim
theorem keysOut_look {ν : List Nat} : ∀ {l : List (Nat × OC)}, keysOut ν l = true → ∀ {n v}, look l n = some v → n ∉ ν
  | [], _, n, v, h => by simp [look] at h
  | (m, u) :: r, hk, n, v, h => by
    simp only [keysOut, Bool.and_eq_true, Bool.not_eq_true'] at hk
    rw [look_cons] at h
    split at h
    · rename_i e; subst e
      intro hm; rw [memN_iff.2 hm] at hk; exact absurd hk.1 (by decide)
    · exact keysOut_look hk.2 h
theorem refEnv_look {an : Ann} {y : PD an.obs} {us : List Nat} : ∀ {l : List (Nat × Nat)} {t : Nat} {v : SV}, look (refEnv an y us l) t = some v → ∃ k, (t, k) ∈ l ∧ v = .s (.one (refAt an.obs y us k))
  | [], t, v, h => by simp [refEnv, look] at h
  | (m, k) :: r, t, v, h => by
    simp only [refEnv, look_cons] at h
    split at h
    · rename_i e; subst e; cases h; exact ⟨k, by simp, rfl⟩
    · obtain ⟨k', h1, h2⟩ := refEnv_look h; exact ⟨k', by simp [h1], h2⟩
theorem refsOK_mem {st : St} {an : Ann} {ν : List Nat} : ∀ {l : List (Nat × Nat)} {t k : Nat}, refsOK st an ν l = true → (t, k) ∈ l → ∃ c, look st.env t = some (.s (.one c)) ∧ sameRef false st.objs an.obs ν k c = true
  | [], _, _, _, h => by simp at h
  | (m, i) :: r, t, k, h, hm => by
    simp only [refsOK, Bool.and_eq_true] at h
    rcases List.mem_cons.1 hm with e | hm
    · cases e
      obtain ⟨h1, _⟩ := h
      split at h1
      · rename_i c hc; exact ⟨c, hc, h1⟩
      · cases h1
    · exact refsOK_mem h.2 hm
theorem refsP_mem {st : St} {an : Ann} {y : PD an.obs} : ∀ {l : List (Nat × Nat)} {t k : Nat} {c : C}, (∀ p ∈ refsP st an y l, p) → (t, k) ∈ l → look st.env t = some (.s (.one c)) → ∀ p ∈ tokP an.obs y k c, p
  | [], _, _, _, _, h, _ => by simp at h
  | (m, i) :: r, t, k, c, h, hm, hl => by
    simp only [refsP] at h
    obtain ⟨h1, h2⟩ := allP_app.1 h
    rcases List.mem_cons.1 hm with e | hm
    · cases e
      rw [hl] at h1
      exact h1
    · exact refsP_mem h2 hm hl
theorem noRefs_mem {keep : List Nat} : ∀ {l : List (Nat × Nat)} {t k : Nat}, noRefs keep l = true → (t, k) ∈ l → t ∉ keep
  | [], _, _, _, h => by simp at h
  | (m, i) :: r, t, k, h, hm => by
    simp only [noRefs, Bool.and_eq_true, Bool.not_eq_true'] at h
    rcases List.mem_cons.1 hm with e | hm
    · cases e
      intro hk; rw [memB_iff.2 hk] at h; exact absurd h.1 (by decide)
    · exact noRefs_mem h.2 hm
theorem head2_rel {an : Ann} {O : Avoid} {st st' : St} {loc loc0 : Nat → Loc} {w w0 : World} {a : Act} {W : List Nat} (x : an.X) (g : Good cx.eT X (sit O st' loc w)) (hA : ActR cx (sit O st' loc w) st' a) (ht : Tr (sit O st loc0 w0) (sit O st' loc w))
    (hok : headOK an st W x = true) (hkeep : ∀ n ∈ an.keep, ∀ v, look st.env n = some v → ∃ u, look st'.env n = some u ∧ sameSV u v) (hf : ∃ ν, FitA an st st' x ν) :
    ∃ loc', Good cx.eT X (sit O (headSt2 an st x) loc' w) ∧ ActR cx (sit O (headSt2 an st x) loc' w) (headSt2 an st x) a ∧ Tr (sit O st loc0 w0) (sit O (headSt2 an st x) loc' w) := by
  obtain ⟨ν, hf⟩ := hf
  simp only [headOK, Bool.and_eq_true] at hok
  obtain ⟨hb1, hb2, hkeys, hnr⟩ := hok
  generalize husd : upto st.next an.obs.length = us
  have husl : us.length = an.obs.length := by rw [← husd]; exact upto_len _ _
  have hus : nodupB us = true := by rw [← husd]; exact upto_nodup _ _
  have husm : ∀ n ∈ us, st.next ≤ n ∧ n < st.next + an.obs.length := fun n hn => by rw [← husd] at hn; exact upto_mem hn
  have hlen : ν.length = us.length := by rw [husl]; exact (getObs_len hf.get).symm
  let loc' := locOf us (ν.map loc) loc
  have hlow : ∀ n, n < st.next → loc' n = loc n := fun n hn => locOf_not fun hm => by have := (husm n hm).1; omega
  have hnu : ∀ n, n < st.next → n ∉ us := fun n hn hm => by have := (husm n hm).1; omega
  have hrest : ∀ m oc, look (restO an st x) m = some oc → m < st.next ∧ m ∉ ν ∧ ∃ u, look st'.objs m = some u ∧ SameKind (loc m) (loc m) u oc ∧ u.lo = oc.lo ∧ OR cx.eT X (sit O st' loc w) (loc m) oc := by
    intro m oc hm
    obtain ⟨u, hu, hs⟩ := subObj_look hf.objs hm
    obtain ⟨h1, h2, h3⟩ := sameOC_rel hs (g.obj m u hu).2
    exact ⟨(objsBelow_look hb2 hm).1, keysOut_look hf.out hm, u, hu, h2, h3, h1⟩
  have hob : ∀ m oc, look (headSt2 an st x).objs m = some oc → (∃ (i n : Nat) (o : Ob) (y : OD o) (oc0 : OC), ν[i]? = some n ∧ us[i]? = some m ∧ look st'.objs n = some oc0 ∧ getO false st'.objs an.obs ν o oc0 = some y ∧
      oc = ocOf (refAt an.obs (an.pd x) us) o y ∧ loc' m = loc n) ∨ (m ∉ us ∧ look (restO an st x) m = some oc ∧ loc' m = loc m) := by
    intro m oc hm
    simp only [headSt2, husd, look_append] at hm
    split at hm
    · rename_i oc' hm'
      cases hm
      obtain ⟨i, n, o, y, oc0, k1, k2, k3, k4, k5, k6, _⟩ := objsC_find hf.get (getObs_rel (X := X) g hf.get hf.get hf.conds) hlen hm'
      exact .inl ⟨i, n, o, y, oc0, k1, k2, k4, k5, k6, locOf_get hus k2 (by simp [k1])⟩
    · rename_i hm'
      have hnin : m ∉ us := fun hmem => by
        obtain ⟨oc1, h2⟩ := objsC_mem (f := refAt an.obs (an.pd x) us) (x := an.pd x) husl.symm hmem
        rw [h2] at hm'; cases hm'
      exact .inr ⟨hnin, hm, locOf_not hnin⟩
  have hAsub : ∀ b o, (sit O (headSt2 an st x) loc' w).A b o → (sit O st' loc w).A b o := by
    rintro b off (h | ⟨m, oc, h1, h2, h3⟩)
    · exact .inl h
    · rcases hob m oc h1 with ⟨i, n, o, y, oc0, k1, k2, k4, k5, k6, k7⟩ | ⟨k1, k2, k3⟩
      · refine .inr ⟨n, oc0, k4, by simp only [sit] at h2; rw [k7] at h2; exact h2, ?_⟩
        rcases getO_lo (f := refAt an.obs (an.pd x) us) k5 with e | e
        · rw [← e, ← k6]; exact h3
        · cases e
      · obtain ⟨_, _, u, hu, _, hlo, _⟩ := hrest m oc k2
        exact .inr ⟨m, u, hu, by simp only [sit] at h2; rw [k3] at h2; exact h2, by rw [hlo]; exact h3⟩
  have hcell : ∀ b o v, ¬ (sit O st' loc w).A b o → w.cell? ⟨b, o, none⟩ = some v → w.cell? ⟨b, o, none⟩ = some v ∧ ¬ (sit O (headSt2 an st x) loc' w).A b o := fun b o v h1 h2 => ⟨h2, fun h => h1 (hAsub b o h)⟩
  have hrel : ∀ {c : C} {v : Value}, cBelow st.next c = true → CR cx.eT (sit O st' loc w) c v → CR cx.eT (sit O (headSt2 an st x) loc' w) c v := fun hb hv =>
    cBelow_rel2 (S := sit O st' loc w) (S' := sit O (headSt2 an st x) loc' w) (k := st.next) hcell (by simp [sit, headSt2]) (fun n hn => hlow n hn) (fun n oc hn h => by
      rcases hob n oc h with ⟨i, n', o, y, oc0, k1, k2, _⟩ | ⟨k1, k2, k3⟩
      · exact absurd (List.mem_of_getElem? k2) (hnu n hn)
      · obtain ⟨_, _, u, hu, hk, _, _⟩ := hrest n oc k2
        exact ⟨u, hu, hk⟩) hb hv
  obtain ⟨gN, laid⟩ := relay (X := X) g hf.get hf.conds hf.nodup (O2 := O) (ν2 := us) (rest := restO an st x) (locR := loc) (st2 := headSt2 an st x) hus hlen (by simp only [headSt2, husd])
    (fun n hn => by have := (husm n hn).2; simp only [headSt2]; exact this)
    (fun n hn b hb off h => by
      obtain ⟨_, oc, _, _, k, _⟩ := getObs_look hf.get hn
      exact g.out n oc b off k hb h)
    (fun n hn b hb m oc h1 h2 h3 => by
      obtain ⟨_, oc0, _, _, k, _⟩ := getObs_look hf.get hn
      obtain ⟨_, hmν, u, hu, _⟩ := hrest m oc h1
      have := g.apart n m oc0 u b k hu hb h3
      exact hmν (by rw [← this]; exact hn))
    (fun m oc h1 h2 => by
      obtain ⟨hm, _, u, hu, hk, hlo, hor⟩ := hrest m oc h1
      refine ⟨by simp only [headSt2]; omega, ?_⟩
      have hb := (objsBelow_look hb2 h1).2
      cases oc with
      | cells T cs =>
        obtain ⟨b, vs, h1, h2, h3, h4⟩ := hor
        exact ⟨b, vs, h1, h2, h3, csBelow_rel2 (k := st.next) hrel hb h4⟩
      | mrow t xs => exact RowR.to (S := sit O st' loc w) (S' := sit O (headSt2 an st x) loc' w) rfl (.inr hAsub) hor
      | tok t xs => exact RowR.to (X := X) (S := sit O st' loc w) (S' := sit O (headSt2 an st x) loc' w) (l := loc m) rfl (.inr hAsub) hor
      | arr t xs =>
        obtain ⟨b, vs, T, h1, h2, h3, h4, h5⟩ := hor
        exact ⟨b, vs, T, h1, h2, h3, h4, fun i y hy => let ⟨us, r1, r2⟩ := h5 i y hy; ⟨us, r1.frame hcell, r2⟩⟩
      | ext k t x => exact hor
      | iter cs seen cl => obtain ⟨b, m, c, sn, k1, k2, k3, k4, k5⟩ := hor; exact ⟨b, m, c, sn, k1, k2, k3, csBelow_rel2 (k := st.next) hrel hb k4, k5⟩)
    (fun m m' oc oc' b h1 h2 _ _ h3 h4 => by
      obtain ⟨_, _, u, hu, _⟩ := hrest m oc h1
      obtain ⟨_, _, u', hu', _⟩ := hrest m' oc' h2
      exact g.apart m m' u u' b hu hu' h3 h4)
    (fun m oc b off h1 _ h2 => by
      obtain ⟨_, _, u, hu, _⟩ := hrest m oc h1
      exact g.out m u b off hu h2)
    (.inr hAsub)
    (fun b hb ⟨m, oc, h1, h2⟩ => by
      rcases hob m oc h1 with ⟨i, n, o, y, oc0, k1, k2, k4, k5, k6, k7⟩ | ⟨k1, k2, k3⟩
      · refine g.glob.2 b hb ⟨n, oc0, k4, ?_⟩
        have e : locOf us (ν.map loc) loc m = loc n := k7
        simp only [sit] at h2; rw [e] at h2; exact h2
      · obtain ⟨_, _, u, hu, _⟩ := hrest m oc k2
        have e : locOf us (ν.map loc) loc m = loc m := k3
        refine g.glob.2 b hb ⟨m, u, hu, ?_⟩
        simp only [sit] at h2; rw [e] at h2; exact h2)
  refine ⟨loc', gN, ⟨hA.size, hA.defers, fun t sv hl => ?_⟩, ?_⟩
  · simp only [headSt2, husd, look_append] at hl
    split at hl
    · rename_i v hv
      cases hl
      obtain ⟨k, hk, rfl⟩ := refEnv_look hv
      obtain ⟨c, hc, hs⟩ := refsOK_mem hf.refs hk
      have hcv : CR cx.eT (sit O st' loc w) c (a.tmps.getD t undef) := hA.env t _ hc
      exact CR_ref laid (refR_of g hcv hf.get hs (refsP_mem hf.toks hk hc))
    · have hl2 : look (restE an st x) t = some sv := hl
      have hst : ∃ u, look st'.env t = some u ∧ sameSV u sv := by
        simp only [restE, look_append] at hl2
        split at hl2
        · rename_i v hv; cases hl2; exact subEnv_look hf.env hv
        · obtain ⟨h1, h2⟩ := look_keepEnv hl2; exact hkeep t h1 sv h2
      obtain ⟨u, hu, hs⟩ := hst
      have hv := sameSV_rel hs (hA.env t u hu)
      obtain ⟨v0, rfl, hb⟩ := envBelow_look hb1 hl2
      cases v0 with
      | one c => exact hrel hb hv
      | agg cs => obtain ⟨vs, h1, h2⟩ := hv; exact ⟨vs, h1, csBelow_rel2 (k := st.next) hrel hb h2⟩
  · refine { O := ht.O, next := by simp [sit, headSt2], os := ht.os, output := ht.output, size := ht.size, own := fun b hb => ?_, cell := fun b o v h1 h2 => ?_, block := ht.block, loc := fun n hn hfx => ?_, kind := fun n oc hn h => ?_ }
    · obtain ⟨m, oc, h1, h2⟩ := hb
      rcases hob m oc h1 with ⟨i, n, o, y, oc0, k1, k2, k4, k5, k6, k7⟩ | ⟨k1, k2, k3⟩
      · exact ht.own b ⟨n, oc0, k4, by simp only [sit] at h2; rw [k7] at h2; exact h2⟩
      · obtain ⟨_, _, u, hu, _⟩ := hrest m oc k2
        exact ht.own b ⟨m, u, hu, by simp only [sit] at h2; rw [k3] at h2; exact h2⟩
    · obtain ⟨k1, k2⟩ := ht.cell b o v h1 h2
      exact ⟨k1, fun h => k2 (hAsub b o h)⟩
    · show (loc' n).v = _ ∧ (_ → loc' n = _)
      rw [hlow n hn]; exact ht.loc n hn hfx
    · rcases hob n oc h with ⟨i, n', o, y, oc0, k1, k2, _⟩ | ⟨k1, k2, k3⟩
      · exact absurd (List.mem_of_getElem? k2) (hnu n hn)
      · obtain ⟨_, _, u, hu, hk, _, _⟩ := hrest n oc k2
        obtain ⟨oc1, m1, m2⟩ := ht.kind n u hn hu
        refine ⟨oc1, m1, ?_⟩
        show SameKind _ (loc' n) _ _
        rw [hlow n hn]
        exact m2.comp hk
theorem head2_kept {an : Ann} {st : St} {W : List Nat} {x : an.X} (hok : headOK an st W x = true) {n : Nat} (hn : n ∈ an.keep) {v : SV} (h : look (headSt2 an st x).env n = some v) (hW : n ∉ W) : look st.env n = some v := by
  simp only [headOK, Bool.and_eq_true] at hok
  obtain ⟨_, _, hkeys, hnr⟩ := hok
  simp only [headSt2, restE, look_append] at h
  split at h
  · rename_i u hu
    obtain ⟨k, hk, _⟩ := refEnv_look hu
    exact absurd hn (noRefs_mem hnr hk)
  · split at h
    · rename_i u hu; exact absurd (keysIn_look hkeys hu) hW
    · exact (look_keepEnv h).2
theorem join_step {O : Avoid} {st : St} {loc : Nat → Loc} {w : World} {an : Ann} {W : List Nat} {K : St → VC} (hdis : disjB an.keep W = true)
    (hk : (VC.all an.X fun x => .imp (an.inv x) (match envBelow st.next (headSt an st x).env && (objsBelow st.next (headSt an st x).objs && keysIn W (an.slots x)) with
          | true => K (headSt an st x)
          | false => .ff)).holds) {a' : Act} {w' : World} : StepK cx X O (joinVC an st) W st (sit O st loc w) a' w' → StepK cx X O K W st (sit O st loc w) a' w' := by
  have hkeepW := disjB_iff hdis
  rintro ⟨st2, loc2, k1, k2, k3, k4, k5⟩
  simp only [joinVC] at k1
  split at k1
  case h_2 => exact k1.elim
  rename_i hpres
  obtain ⟨x', hx', hs', ho'⟩ := k1
  have hvx := hk x' hx'
  split at hvx
  case h_2 => exact hvx.elim
  rename_i hbb
  simp only [Bool.and_eq_true] at hbb
  have hhead : ∀ t, t ∉ W → ∀ v, look (headSt an st x').env t = some v → look st.env t = some v := by
    intro t ht v hv
    simp only [headSt, look_append] at hv
    split at hv
    · rename_i u hu; exact absurd (keysIn_look hbb.2.2 hu) ht
    · exact (look_keepEnv hv).2
  obtain ⟨m1, m2, m3⟩ := head_rel (an := an) (st := st) x' k2 k4 k3 (by
      intro n v hv
      simp only [headSt, look_append] at hv
      split at hv
      · rename_i u hu; cases hv; exact subEnv_look hs' hu
      · obtain ⟨hmem, hl⟩ := look_keepEnv hv
        refine ⟨v, ?_, sameSV_refl v⟩
        obtain ⟨v', hv'⟩ := presentB_look hpres hmem
        have := k5 (hkeepW n hmem).1 n (hkeepW n hmem).2 v' hv'
        rw [hl] at this
        cases this
        exact hv')
    (by
      intro n v hv
      simp only [headSt] at hv
      exact subObj_look ho' hv) hbb.1 hbb.2.1
  exact ⟨headSt an st x', loc2, hvx, m1, m3, m2, fun _ t ht v hv => hhead t ht v hv⟩
theorem reg_sound (hok : CxOK P cx X) {O : Avoid} {id : Nat} {ops : Array Oper} {draw : Bool} {st : St} {loc : Nat → Loc} {w : World} {a : Act} {K : Ex → St → VC} (hA : ActR cx (sit O st loc w) st a) (g : Good cx.eT X (sit O st loc w)) (hO : OIn O w)
    (h : (regVC cx ops draw st (K .normal)).holds) : (Code.region id ops draw).wp P (QOf cx X O K (writesOps ops.toList) st (sit O st loc w)) a w := by
  have hW : ∀ (j : Nat) (oj : Oper) (d : Nat), ops[j]? = some oj → oj.dst = some d → d ∈ writesOps ops.toList := by
    intro j oj d hj hd
    exact List.mem_filterMap.2 ⟨oj, by rw [← Array.getElem?_toList] at hj; exact List.mem_of_getElem? hj, hd⟩
  have hq : ∀ st' loc' a' w', (K .normal st').holds → Good cx.eT X (sit O st' loc' w') → Tr (sit O st loc w) (sit O st' loc' w') → ActR cx (sit O st' loc' w') st' a' → Agree (writesOps ops.toList) st st' →
      QOf cx X O K (writesOps ops.toList) st (sit O st loc w) .normal a' w' := fun st' loc' a' w' h1 h2 h3 h4 h5 => ⟨st', loc', h1, h2, h3, h4, h5⟩
  unfold regVC at h
  cases draw with
  | false =>
    refine wp_region_list ?_
    exact opsVC_sound hok hW ops.toList (fun o ho d hd => List.mem_filterMap.2 ⟨o, ho, hd⟩) hA g hO h hq
  | true =>
    split at h
    · rename_i e; cases e
    · rename_i e
      split at h
      · rename_i hreg
        rw [anyQ_eq] at h
        refine wp_region_any hok.mixed (wpS_any (loud := loudB cx ops.toList) _ _ _ _ (sit O st loc { w with drawn := w.drawn + 1 }).A ?_)
        have hdrew : Below w.heap.size w { w with drawn := w.drawn + 1 } := ⟨rfl, rfl, Nat.le_refl _, fun _ _ => rfl⟩
        obtain ⟨tr, g'⟩ := step_world (S := sit O st loc w) (S' := sit O st loc { w with drawn := w.drawn + 1 }) g rfl rfl rfl rfl hdrew
        refine anyVC_sound hok hW hreg (fun c a w h => h) ops.size _ ?_ ⟨hA.size, hA.defers, hA.env.tr tr⟩ g' (hO.tr (Nat.le_refl _)) h ?_
        · intro j o ho hj
          rw [Array.getD_eq_getD_getElem?, Array.getElem?_replicate] at hj
          split at hj <;> simp at hj
        · intro st' loc' a' w' h1 h2 h3 h4 h5
          obtain ⟨st2, loc2, k1, k2, k3, k4, k5⟩ := StepK.ren (K := K .normal) (f := canon st.next (writesOps ops.toList)) (W := writesOps ops.toList) hA (fun st' => by
            rcases canon_turn st.next (writesOps ops.toList) st' with e | ⟨r, q, k1, k2⟩
            · exact .inl e
            · exact .inr ⟨r, q, k1, k2⟩) (⟨st', loc', h1, h2, tr.trans h3, h4, h5⟩ : StepK cx X O (fun st' => K .normal (canon st.next (writesOps ops.toList) st')) (writesOps ops.toList) st (sit O st loc w) a' w')
          exact hq st2 loc2 a' w' k1 k2 k3 k4 k5
      · exact h.elim
theorem vc_sound (hok : CxOK P cx X) (anns : Anns) {O : Avoid} : ∀ (c : Code) (cur : Nat) {st : St} {loc : Nat → Loc} {w : World} {a : Act} {K : Ex → St → VC},
    ActR cx (sit O st loc w) st a → Good cx.eT X (sit O st loc w) → OIn O w → (vc cx anns c cur st K).holds → c.wp P (QOf cx X O K (writes anns cur c) st (sit O st loc w)) a w := by
  intro c
  induction c with
  | skip => intro cur st loc w a K hA g hO h; exact wp_skip ⟨st, loc, h, g, Tr.refl _, hA, fun _ _ _ _ h => h⟩
  | region id ops draw =>
    intro cur st loc w a K hA g hO h
    simp only [vc] at h
    split at h
    · exact reg_sound hok hA g hO h
    · rename_i an _
      split at h
      case h_2 => exact h.elim
      rename_i hdis
      obtain ⟨hb, hk⟩ := h
      refine wp_mono (reg_sound (K := fun e => match e with | .normal => joinVC an st | e => K e) hok hA g hO hb) ?_
      intro e a' w' hq
      cases e with
      | normal => exact join_step hdis hk hq
      | exit i => exact hq
      | ret => exact hq
      | goto l => exact hq.elim
      | panic c => exact hq.elim
      | outgrown => exact hq.elim
  | seq c1 c2 ih1 ih2 =>
    intro cur st loc w a K hA g hO h
    refine wp_seq ?_
    refine wp_mono (ih1 cur hA g hO h) ?_
    intro e a' w' hq
    refine Ex_then (K := K) (W := writes anns cur c1) ?_ (fun e he => by cases e <;> simp_all) ?_ hq
    · rintro a1 w1 ⟨st', loc', k1, k2, k3, k4, k5⟩
      refine wp_mono (ih2 cur k4 k2 (hO.tr k3.size) k1) ?_
      intro e a2 w2 hq2
      exact hq2.mono k3 (W' := writes anns cur (.seq c1 c2)) (fun hm t ht => k5 (fun h => hm (List.mem_append.2 (.inl h))) t fun hm => ht (List.mem_append.2 (.inl hm))) (fun n hn => List.mem_append.2 (.inr hn))
    · intro e a1 w1 hq1 _
      exact hq1.mono (Tr.refl _) (fun _ _ _ _ h => h) (fun n hn => List.mem_append.2 (.inl hn))
  | cond x c1 c2 ih1 ih2 =>
    intro cur st loc w a K hA g hO h
    have hx := ev1_rel hA.env x
    have h1 : ∀ {K}, (vc cx anns c1 cur st K).holds → c1.wp P (QOf cx X O K (writes anns cur (.cond x c1 c2)) st (sit O st loc w)) a w := fun h =>
      wp_mono (ih1 cur hA g hO h) fun e a' w' hq => hq.mono (Tr.refl _) (fun _ _ _ _ h => h) (fun n hn => List.mem_append.2 (.inl hn))
    have h2 : ∀ {K}, (vc cx anns c2 cur st K).holds → c2.wp P (QOf cx X O K (writes anns cur (.cond x c1 c2)) st (sit O st loc w)) a w := fun h =>
      wp_mono (ih2 cur hA g hO h) fun e a' w' hq => hq.mono (Tr.refl _) (fun _ _ _ _ h => h) (fun n hn => List.mem_append.2 (.inr hn))
    have base : ∀ {K : Ex → St → VC}, (match ev1 st.env x with
        | .lit true => vc cx anns c1 cur st K
        | .lit false => vc cx anns c2 cur st K
        | .d .bool g => .ite g (vc cx anns c1 cur st K) (vc cx anns c2 cur st K)
        | _ => .ff).holds → (Code.cond x c1 c2).wp P (QOf cx X O K (writes anns cur (.cond x c1 c2)) st (sit O st loc w)) a w := by
      intro K h
      split at h
      · rename_i hl; rw [hl] at hx; exact wp_cond_true hx (h1 h)
      · rename_i hl; rw [hl] at hx; exact wp_cond_false hx (h2 h)
      · rename_i b hl
        rw [hl] at hx
        have hx := (bool_rel (eT := cx.eT) (S := sit O st loc w) (b := b)).1 hx
        cases b
        · exact wp_cond_false hx (h2 (h.2 rfl))
        · exact wp_cond_true hx (h1 (h.1 rfl))
      · exact h.elim
    simp only [vc] at h
    split at h
    · exact base h
    · rename_i an _
      split at h
      case h_2 => exact h.elim
      rename_i hdis
      obtain ⟨hb, hk⟩ := h
      refine wp_mono (base (K := fun e st' => match e with | .normal => joinVC an st st' | e => K e st') hb) ?_
      intro e a' w' hq
      cases e with
      | normal => exact join_step hdis hk hq
      | exit i => exact hq
      | ret => exact hq
      | goto l => exact hq.elim
      | panic c => exact hq.elim
      | outgrown => exact hq.elim
  | block id b ih =>
    intro cur st loc w a K hA g hO h
    refine wp_block ?_
    simp only [vc] at h
    split at h
    case h_2 =>
      rename_i an _
      split at h
      case h_2 => exact h.elim
      rename_i hdis
      have hkeepW := disjB_iff hdis
      obtain ⟨hb, hk⟩ := h
      refine wp_mono (ih id hA g hO hb) ?_
      intro e a' w' hq
      have join : StepK cx X O (joinVC an st) (writes anns id b) st (sit O st loc w) a' w' → QOf cx X O K (writes anns cur (.block id b)) st (sit O st loc w) .normal a' w' := by
        rintro ⟨st2, loc2, k1, k2, k3, k4, k5⟩
        simp only [joinVC] at k1
        split at k1
        case h_2 => exact k1.elim
        rename_i hpres
        obtain ⟨x', hx', hs', ho'⟩ := k1
        have hvx := hk x' hx'
        split at hvx
        case h_2 => exact hvx.elim
        rename_i hbb
        simp only [Bool.and_eq_true] at hbb
        have hhead : ∀ t, t ∉ writes anns id b → ∀ v, look (headSt an st x').env t = some v → look st.env t = some v := by
          intro t ht v hv
          simp only [headSt, look_append] at hv
          split at hv
          · rename_i u hu; exact absurd (keysIn_look hbb.2.2 hu) ht
          · exact (look_keepEnv hv).2
        obtain ⟨m1, m2, m3⟩ := head_rel (an := an) (st := st) x' k2 k4 k3 (by
            intro n v hv
            simp only [headSt, look_append] at hv
            split at hv
            · rename_i u hu; cases hv; exact subEnv_look hs' hu
            · obtain ⟨hmem, hl⟩ := look_keepEnv hv
              refine ⟨v, ?_, sameSV_refl v⟩
              obtain ⟨v', hv'⟩ := presentB_look hpres hmem
              have := k5 (hkeepW n hmem).1 n (hkeepW n hmem).2 v' hv'
              rw [hl] at this
              cases this
              exact hv')
          (by
            intro n v hv
            simp only [headSt] at hv
            exact subObj_look ho' hv) hbb.1 hbb.2.1
        exact ⟨headSt an st x', loc2, hvx, m1, m3, m2, fun _ t ht v hv => hhead t ht v hv⟩
      cases e with
      | normal => exact join hq
      | exit i =>
        show if i = id then _ else _
        by_cases hi : i = id
        · rw [if_pos hi]
          subst hi
          obtain ⟨st', loc', k1, k2⟩ := hq
          simp only [Nat.beq_refl] at k1
          exact join ⟨st', loc', k1, k2⟩
        · rw [if_neg hi]
          obtain ⟨st', loc', k1, k2⟩ := hq
          simp only [beq_ne hi] at k1
          exact ⟨st', loc', k1, k2⟩
      | ret => exact hq
      | goto l => exact hq.elim
      | panic c => exact hq.elim
      | outgrown => exact hq.elim
    refine wp_mono (ih id hA g hO h) ?_
    intro e a' w' hq
    cases e with
    | normal => exact hq
    | exit i =>
      obtain ⟨st', loc', k1, k2, k3, k4, k5⟩ := hq
      simp only at k1
      show if i = id then _ else _
      split at k1
      · rename_i hi
        rw [if_pos (Nat.eq_of_beq_eq_true hi)]
        exact ⟨st', loc', k1, k2, k3, k4, k5⟩
      · rename_i hi
        rw [if_neg (fun e => by rw [e, Nat.beq_refl] at hi; cases hi)]
        exact ⟨st', loc', k1, k2, k3, k4, k5⟩
    | ret => exact hq
    | goto l => exact hq.elim
    | panic c => exact hq.elim
    | outgrown => exact hq.elim
  | loop b ih =>
    intro cur st loc w a K hA g hO h
    simp only [vc] at h
    split at h
    · rename_i hnone
      have hwl : writes anns cur (.loop b) = writes anns cur b := by simp only [writes, hnone]
      split at h
      case h_2 => exact h.elim
      rename_i an _
      split at h
      · rename_i hdis
        have hkeepW := disjB_iff hdis
        obtain ⟨⟨x0, hx0, hs0, ho0⟩, h⟩ := h
        have hobk : ∀ x n v, look (headSt an st x).objs n = some v → look (an.objs x) n = some v ∨ look st.objs n = some v := by
          intro x n v hv
          simp only [headSt, look_append] at hv
          split at hv
          · rename_i u hu; cases hv; exact .inl hu
          · exact .inr (look_keepObjs hv)
        have hhead : ∀ x, keysIn (writes anns cur b) (an.slots x) = true → ∀ t, t ∉ writes anns cur b → ∀ v, look (headSt an st x).env t = some v → look st.env t = some v := by
          intro x hk t ht v hv
          simp only [headSt, look_append] at hv
          split at hv
          · rename_i u hu; exact absurd (keysIn_look hk hu) ht
          · exact (look_keepEnv hv).2
        refine wp_loop_ghost (fun n a' w' => ∃ x loc', an.inv x ∧ an.meas x = n ∧ envBelow st.next (headSt an st x).env = true ∧ (objsBelow st.next (headSt an st x).objs = true ∧ keysIn (writes anns cur b) (an.slots x) = true) ∧
          (vc cx anns b cur (headSt an st x) fun e st' => match e with
              | .normal => match presentB st'.env an.keep with
                | true => .leaf (∃ x', an.inv x' ∧ an.meas x' < an.meas x ∧ subEnv st' (an.slots x') ∧ subObj st' (an.objs x' ++ keepObjs st an.keepObj))
                | false => .ff
              | e => K e st').holds ∧
          Good cx.eT X (sit O (headSt an st x) loc' w') ∧ ActR cx (sit O (headSt an st x) loc' w') (headSt an st x) a' ∧ Tr (sit O st loc w) (sit O (headSt an st x) loc' w')) (an.meas x0) ?_ ?_
        · have hx := h x0 hx0
          split at hx
          · rename_i hb
            simp only [Bool.and_eq_true] at hb
            obtain ⟨m1, m2, m3⟩ := head_rel (an := an) (st := st) x0 g hA (Tr.refl _) (by
                intro n v hv
                simp only [headSt, look_append] at hv
                split at hv
                · rename_i u hu; cases hv; exact subEnv_look hs0 hu
                · obtain ⟨_, hl⟩ := look_keepEnv hv
                  exact ⟨v, hl, sameSV_refl v⟩)
              (by
                intro n v hv
                rcases hobk x0 n v hv with hv | hv
                · exact subObj_look ho0 hv
                · exact ⟨v, hv, sameOC_refl v⟩) hb.1 hb.2.1
            exact ⟨x0, loc, hx0, rfl, hb.1, hb.2, hx, m1, m2, m3⟩
          · exact hx.elim
        · rintro n a1 w1 ⟨x, loc1, hx, hn, hb1, hb2, hvc, g1, hA1, tr1⟩
          refine wp_mono (ih cur hA1 g1 (hO.tr tr1.size) hvc) ?_
          intro e a2 w2 hq
          have up : ∀ Kx : St → VC, StepK cx X O Kx (writes anns cur b) (headSt an st x) (sit O (headSt an st x) loc1 w1) a2 w2 → StepK cx X O Kx (writes anns cur (.loop b)) st (sit O st loc w) a2 w2 := by
            rintro Kx ⟨st2, loc2, k1, k2, k3, k4, k5⟩
            exact ⟨st2, loc2, k1, k2, tr1.trans k3, k4, fun hm t ht v hv => by rw [hwl] at hm ht; exact hhead x hb2.2 t ht v (k5 hm t ht v hv)⟩
          cases e with
          | normal =>
            obtain ⟨st2, loc2, k1, k2, k3, k4, k5⟩ := hq
            simp only at k1
            split at k1
            case h_2 => exact k1.elim
            rename_i hpres
            obtain ⟨x', hx', hlt, hs', ho'⟩ := k1
            have hvx := h x' hx'
            refine ⟨an.meas x', by rw [← hn]; exact hlt, ?_⟩
            split at hvx
            · rename_i hb
              simp only [Bool.and_eq_true] at hb
              obtain ⟨m1, m2, m3⟩ := head_rel (an := an) (st := st) x' k2 k4 (tr1.trans k3) (by
                  intro n v hv
                  simp only [headSt, look_append] at hv
                  split at hv
                  · rename_i u hu; cases hv; exact subEnv_look hs' hu
                  · obtain ⟨hmem, hl⟩ := look_keepEnv hv
                    refine ⟨v, ?_, sameSV_refl v⟩
                    obtain ⟨v', hv'⟩ := presentB_look hpres hmem
                    have := hhead x hb2.2 n (hkeepW n hmem).2 v' (k5 (hkeepW n hmem).1 n (hkeepW n hmem).2 v' hv')
                    rw [hl] at this
                    cases this
                    exact hv')
                (by
                  intro n v hv
                  simp only [headSt] at hv
                  exact subObj_look ho' hv) hb.1 hb.2.1
              exact ⟨x', loc2, hx', rfl, hb.1, hb.2, hvx, m1, m2, m3⟩
            · exact hvx.elim
          | exit i => exact up _ hq
          | ret => exact up _ hq
          | goto l => exact hq.elim
          | panic c => exact hq.elim
          | outgrown => exact hq.elim
      · exact h.elim
    · rename_i f hsome
      have hwl : writes anns cur (.loop b) = allM :: writes anns cur b := by simp only [writes, hsome]
      generalize fillAnn2 st (f st) = an at h
      split at h
      case h_2 => exact h.elim
      rename_i hdis
      have hkeepW := disjB_iff hdis
      obtain ⟨hfit, h⟩ := h
      obtain ⟨x0, hx0, _, hf0⟩ := fitVC_out hfit
      refine wp_loop_ghost (fun n a' w' => ∃ x loc', an.inv x ∧ an.meas x = n ∧ headOK an st (writes anns cur b) x = true ∧
        (vc cx anns b cur (headSt2 an st x) fun e st' => match e with
            | .normal => match presentB st'.env an.keep with
              | true => fitVC an st st' fun x' => an.meas x' < an.meas x
              | false => .ff
            | e => K e st').holds ∧
        Good cx.eT X (sit O (headSt2 an st x) loc' w') ∧ ActR cx (sit O (headSt2 an st x) loc' w') (headSt2 an st x) a' ∧ Tr (sit O st loc w) (sit O (headSt2 an st x) loc' w')) (an.meas x0) ?_ ?_
      · have hx := h x0 hx0
        split at hx
        case h_2 => exact hx.elim
        rename_i hok2
        obtain ⟨loc', m1, m2, m3⟩ := head2_rel (an := an) (st := st) x0 g hA (Tr.refl _) hok2 (fun n hn v hv => ⟨v, hv, sameSV_refl v⟩) hf0
        exact ⟨x0, loc', hx0, rfl, hok2, hx, m1, m2, m3⟩
      · rintro n a1 w1 ⟨x, loc1, hx, hn, hokx, hvc, g1, hA1, tr1⟩
        refine wp_mono (ih cur hA1 g1 (hO.tr tr1.size) hvc) ?_
        intro e a2 w2 hq
        have up : ∀ Kx : St → VC, StepK cx X O Kx (writes anns cur b) (headSt2 an st x) (sit O (headSt2 an st x) loc1 w1) a2 w2 → StepK cx X O Kx (writes anns cur (.loop b)) st (sit O st loc w) a2 w2 := by
          rintro Kx ⟨st2, loc2, k1, k2, k3, k4, k5⟩
          exact ⟨st2, loc2, k1, k2, tr1.trans k3, k4, fun hm => by rw [hwl] at hm; exact absurd (List.mem_cons_self) hm⟩
        cases e with
        | normal =>
          obtain ⟨st2, loc2, k1, k2, k3, k4, k5⟩ := hq
          simp only at k1
          split at k1
          case h_2 => exact k1.elim
          rename_i hpres
          obtain ⟨x', hx', hlt, hf'⟩ := fitVC_out k1
          have hvx := h x' hx'
          split at hvx
          case h_2 => exact hvx.elim
          rename_i hok2
          refine ⟨an.meas x', by rw [← hn]; exact hlt, ?_⟩
          obtain ⟨loc', m1, m2, m3⟩ := head2_rel (an := an) (st := st) x' k2 k4 (tr1.trans k3) hok2 (fun n hn v hv => by
            obtain ⟨v', hv'⟩ := presentB_look hpres hn
            have h1 := k5 (hkeepW n hn).1 n (hkeepW n hn).2 v' hv'
            refine ⟨v', hv', ?_⟩
            have h2 := head2_kept hokx hn h1 (hkeepW n hn).2
            rw [hv] at h2; cases h2
            exact sameSV_refl v) hf'
          exact ⟨x', loc', hx', rfl, hok2, hvx, m1, m2, m3⟩
        | exit i => exact up _ hq
        | ret => exact up _ hq
        | goto l => exact hq.elim
        | panic c => exact hq.elim
        | outgrown => exact hq.elim
  | rangeFunc f ps as b _ _ => intro cur st loc w a K _ _ _ h; exact h.elim
  | exit id => intro cur st loc w a K hA g hO h; exact wp_exit ⟨st, loc, h, g, Tr.refl _, hA, fun _ _ _ _ h => h⟩
  | scope b _ => intro cur st loc w a K _ _ _ h; exact h.elim
  | label l => intro cur st loc w a K _ _ _ h; exact h.elim
  | goto l => intro cur st loc w a K _ _ _ h; exact h.elim
  | ret => intro cur st loc w a K hA g hO h; exact wp_ret ⟨st, loc, h, g, Tr.refl _, hA, fun _ _ _ _ h => h⟩
  | refuse why => intro cur st loc w a K _ _ _ h; exact h.elim
end
end Go.Vg

namespace Go.Vg
open Go.RowKit
@[reducible] def HL : List Ty → Type
  | [] => Unit
  | [t] => D t
  | t :: u :: r => D t × HL (u :: r)
def flatL : List Ty → Bool
  | [] => true
  | t :: r => t.flat && flatL r
def deepD (st : St) (want : Ty) (n : Nat) : Option (D want) :=
  match look st.objs n with
  | some (.ext 0 t xs) => match h : Ty.beq t want with
    | true => some (castD h (a := t) xs)
    | false => none
  | _ => none
def argD (lend : Bool) (st : St) (t : Ty) (a : SV0) : Option (D t) :=
  match lend, t, a with
  | true, .slice e, .one (.mrow n) => srcD st e (.mrow n)
  | true, t, .one (.xd n .top) => deepD st t n
  | _, t, a => asD0 t a
def argsD (lend : Bool) (st : St) : (ts : List Ty) → List SV0 → Option (HL ts)
  | [], [] => some ()
  | [t], [a] => argD lend st t a
  | t :: u :: r, a :: as => match argD lend st t a, argsD lend st (u :: r) as with
    | some x, some xs => some (x, xs)
    | _, _ => none
  | _, _ => none
def resList : (ts : List Ty) → HL ts → List SV0
  | [], _ => []
  | [t], y => [.one (.d t y)]
  | t :: u :: r, ys => .one (.d t ys.1) :: resList (u :: r) ys.2
def retSV : List SV0 → SV
  | [v] => .s v
  | vs => .tup vs
def frzC (st : St) (c : C) : C × St :=
  match c with
  | .mrow n => match look st.objs n with
    | some (.mrow t xs) => (.d (.slice t) xs, dropObj st n)
    | _ => (c, st)
  | .xd n .top => match look st.objs n with
    | some (.ext 0 t xs) => (.d t xs, dropObj st n)
    | _ => (c, st)
  | c => (c, st)
def frzCs : St → List C → List C × St
  | st, [] => ([], st)
  | st, c :: cs => match frzC st c with
    | (c', st1) => match frzCs st1 cs with
      | (cs', st2) => (c' :: cs', st2)
def frz0 (st : St) (v : SV0) : SV0 × St :=
  match v with
  | .one c => match frzC st c with
    | (c', st') => (.one c', st')
  | .agg cs => match frzCs st cs with
    | (cs', st') => (.agg cs', st')
def frzA (lend : Bool) (st : St) (v : SV0) : SV0 × St :=
  match lend, v with
  | true, .one c => (.one c, st)
  | _, v => frz0 st v
def frzL (lend : Bool) : St → List SV0 → List SV0 × St
  | st, [] => ([], st)
  | st, v :: vs => match frzA lend st v with
    | (v', st1) => match frzL lend st1 vs with
      | (vs', st2) => (v' :: vs', st2)
def pureSpec (ts rts : List Ty) (pre : HL ts → Prop) (post : HL ts → HL rts → Prop) : CSpec := fun args st K =>
  match frzL (flatL rts) st args with
  | (args, st) => match argsD (flatL rts) st ts args with
    | some xs => .and (pre xs) (.all (HL rts) fun ys => .imp (post xs ys) (K (retSV (resList rts ys)) st))
    | none => .ff
def funSpec (ts rts : List Ty) (pre : HL ts → Prop) (g : HL ts → HL rts) : CSpec := fun args st K =>
  match frzL (flatL rts) st args with
  | (args, st) => match argsD (flatL rts) st ts args with
    | some xs => .and (pre xs) (K (retSV (resList rts (g xs))) st)
    | none => .ff
inductive Dec (α : Type) where
  | ret (a : α)
  | ite (c : Bool) (a b : Dec α)
def Dec.eval {α : Type} : Dec α → α
  | .ret a => a
  | .ite c a b => match c with
    | true => a.eval
    | false => b.eval
def asF (st : St) (want : Ty) (c : C) : Option (D want) :=
  match c with
  | .mrow n => match look st.objs n with
    | some (.mrow t xs) => match h : Ty.beq (.slice t) want with
      | true => some (castD h (a := .slice t) xs)
      | false => none
    | _ => none
  | .xd n .top => deepD st want n
  | c => asD want c
def packF (st : St) : (t : Ty) → List C → Option (D t × List C)
  | .prod a b, cs => match packF st a cs with
    | some (x, cs1) => match packF st b cs1 with
      | some (y, cs2) => some ((x, y), cs2)
      | none => none
    | none => none
  | .unit, cs => some ((), cs)
  | t, c :: cs => match asF st t c with
    | some x => some (x, cs)
    | none => none
  | _, [] => none
def asF0 (st : St) (want : Ty) : SV0 → Option (D want)
  | .one c => asF st want c
  | .agg cs => match want.one with
    | true => none
    | false => match packF st want cs with
      | some (x, []) => some x
      | _ => none
def resD (st : St) : (ts : List Ty) → List SV0 → Option (HL ts)
  | [], [] => some ()
  | [t], [a] => asF0 st t a
  | t :: u :: r, a :: as => match asF0 st t a, resD st (u :: r) as with
    | some x, some xs => some (x, xs)
    | _, _ => none
  | _, _ => none
def resVC (cx : Cx) (st : St) : List ResultVar → (List SV0 → VC) → VC
  | [], K => K []
  | .tmp t :: r, K => match ev st.env (.tmp t) with
    | .s v => resVC cx st r fun vs => K (v :: vs)
    | _ => .ff
  | .cell a t :: r, K => loadVC cx st t (ev1 st.env (.tmp a)) fun sv => match sv with
    | .s v => resVC cx st r fun vs => K (v :: vs)
    | _ => .ff
def fnVC (cx : Cx) (anns : Anns) (res : List ResultVar) (c : Code) (st : St) (K : List SV0 → St → VC) : VC :=
  vc cx anns c 0 st fun e st' => match e with
    | .exit _ => .ff
    | _ => resVC cx st' res fun vs => K vs st'
def mkCx (B : Cx) (Γ : List (FuncId × (Bool × CSpec))) (N : Nat) : Cx := { B with Γ := Γ, N := N }
def argEnv : Nat → (ts : List Ty) → HL ts → List (Nat × SV)
  | _, [], _ => []
  | k, [t], x => [(k, .s (.one (.d t x)))]
  | k, t :: u :: r, xs => (k, .s (.one (.d t xs.1))) :: argEnv (k + 1) (u :: r) xs.2
def argSt (ts : List Ty) (xs : HL ts) : St := { env := argEnv 0 ts xs, objs := [], next := 0 }
def pureVCs (B : Cx) (Γ : List (FuncId × (Bool × CSpec))) (N : Nat) (anns : Anns) (res : List ResultVar) (c : Code) (ts rts : List Ty) (post : HL ts → HL rts → Prop) (xs : HL ts) : VC :=
  fnVC (mkCx B Γ N) anns res c (argSt ts xs) fun vs st => match resD st rts vs with
    | some ys => .leaf (post xs ys)
    | none => .ff
section
variable {eT : TypeId} {X : Ext} {P : Program} {cx : Cx}
def ArgsR (eT : TypeId) (A : Avoid) (w : World) : (ts : List Ty) → HL ts → List Value → Prop
  | [], _, vs => vs = []
  | [t], x, vs => ∃ v, vs = [v] ∧ VR eT t x A w v
  | t :: u :: r, xs, vs => ∃ v vs', vs = v :: vs' ∧ VR eT t xs.1 A w v ∧ ArgsR eT A w (u :: r) xs.2 vs'
def retV : List Value → Value
  | [v] => v
  | vs => .tuple vs.toArray
structure PureOK (P : Program) (eT : TypeId) (X : Ext) (f : FuncId) (ts rts : List Ty) (pre : HL ts → Prop) (post : HL ts → HL rts → Prop) : Prop where
  fn : ∃ fn, P.funcs[f]? = some fn ∧ fn.body.isNone = false ∧ (fn.name == "runtime.NumGoroutine") = false
  ok : ∀ O w xs vs, X.Glob w → OIn O w → ArgsR eT O w ts xs vs → pre xs →
    Calls P f vs.toArray w fun e w' => ∃ us ys, e = .returned (retV us) ∧ post xs ys ∧ ArgsR eT O w' rts ys us ∧ Below w.heap.size w w'
def resOne (tmps : Array Value) : ResultVar → Sem Value
  | .tmp t => pure (tmps.getD t undef)
  | .cell b t => do loadVar t (← asAddr (tmps.getD b undef))
theorem run_results (hok : TyOK P cx) {O : Avoid} {st : St} {loc : Nat → Loc} {w : World} {a : Act} (g : Good cx.eT X (sit O st loc w)) (he : EnvR cx.eT (sit O st loc w) st.env a) :
    ∀ {rs : List ResultVar} {K : List SV0 → VC}, (resVC cx st rs K).holds →
    ∃ vs us, (K vs).holds ∧ SV0Rs cx.eT (sit O st loc w) vs us ∧ (rs.mapM (resOne a.tmps) : Sem (List Value)).run P w = .ok us w := by
  intro rs
  induction rs with
  | nil => intro K h; exact ⟨[], [], h, .nil, rfl⟩
  | cons r rs ih =>
    intro K h
    cases r with
    | tmp t =>
      simp only [resVC] at h
      split at h
      · rename_i v hv
        obtain ⟨vs, us, h1, h2, h3⟩ := ih h
        have hr := ev_rel he (.tmp t)
        rw [hv] at hr
        refine ⟨v :: vs, a.tmps.getD t undef :: us, h1, .cons hr h2, ?_⟩
        rw [List.mapM_cons]
        simp only [resOne, Sem.run_bind, Sem.run_pure, Result.andThen_ok, h3]
      · exact h.elim
    | cell b t =>
      simp only [resVC] at h
      obtain ⟨sv, u, h1, h2, h3⟩ := loadVC_rel (P := P) hok g (ev1_rel he (.tmp b)) h
      split at h1
      · rename_i v
        obtain ⟨vs, us, k1, k2, k3⟩ := ih h1
        have h3 := h3 w (Below.refl _ _)
        refine ⟨v :: vs, u :: us, k1, .cons h2 k2, ?_⟩
        rw [List.mapM_cons]
        have h4 : (do loadVar t (← asAddr (a.tmps.getD b undef)) : Sem Value).run P w = .ok u w := by
          have h3 : (Instr.loadAt t (a.tmps.getD b undef)).run P w = .ok u w := h3
          generalize a.tmps.getD b undef = p at h3
          cases p with
          | pointer q =>
            cases q with
            | none => simp [Instr.loadAt, Instr.sureAddr] at h3
            | some q => simpa [Instr.loadAt, Instr.sureAddr, asAddr] using h3
          | _ => simp [Instr.loadAt, Instr.sureAddr] at h3
        simp only [resOne, Sem.run_bind] at h4 ⊢
        simp only [h4, Sem.run_pure, Result.andThen_ok, k3]
      · exact h1.elim
theorem SV0Rs.len {S : Sit} {xs : List SV0} {us : List Value} (h : SV0Rs eT S xs us) : xs.length = us.length := by
  induction h with
  | nil => rfl
  | cons _ _ ih => simp [ih]
theorem retSV_rel {S : Sit} {vs : List SV0} {us : List Value} (h : SV0Rs eT S vs us) : SVR eT S (retSV vs) (retV us) := by
  match vs, us, h with
  | [], [], h => exact ⟨[], rfl, h⟩
  | [v], [u], .cons h1 .nil => exact h1
  | _ :: _ :: _, _ :: _ :: _, h => exact ⟨_, rfl, h⟩
theorem calls_of_vc (hok : CxOK P cx X) {f : FuncId} {fn : Func} {c : Code} (hf : P.funcs[f]? = some fn) (hb : fn.body = some c) (hN : cx.N = fn.ntmps) (anns : Anns) {O : Avoid} {st : St} {loc : Nat → Loc} {w : World}
    {args : Array Value} {K : List SV0 → St → VC} (hsz : args.size ≤ fn.ntmps) (g : Good cx.eT X (sit O st loc w)) (hO : OIn O w)
    (henv : ∀ t sv, look st.env t = some sv → ∃ v, args[t]? = some v ∧ SVR cx.eT (sit O st loc w) sv v)
    (h : (fnVC cx anns fn.results.toList c st K).holds) :
    Calls P f args w fun e w' => ∃ vs us st' loc', e = .returned (retV us) ∧ (K vs st').holds ∧ SV0Rs cx.eT (sit O st' loc' w') vs us ∧ Good cx.eT X (sit O st' loc' w') ∧ Tr (sit O st loc w) (sit O st' loc' w') := by
  refine calls_of_wp hf hb ?_
  have hA : ActR cx (sit O st loc w) st { tmps := args ++ Array.replicate (fn.ntmps - args.size) undef, defers := [] } := by
    refine ⟨by simp [hN]; omega, rfl, fun t sv ht => ?_⟩
    obtain ⟨v, hv, hr⟩ := henv t sv ht
    have hlt : t < args.size := by
      rcases Nat.lt_or_ge t args.size with hh | hh
      · exact hh
      · rw [Array.getElem?_eq_none hh] at hv; cases hv
    rw [Array.getD_eq_getD_getElem?, Array.getElem?_append, if_pos hlt, hv]
    exact hr
  refine wp_mono (vc_sound hok anns c 0 hA g hO h) ?_
  have fin : ∀ (a' : Act) (w' : World), StepK cx X O (fun st' => resVC cx st' fn.results.toList fun vs => K vs st') (writes anns 0 c) st (sit O st loc w) a' w' → a'.defers = [] ∧ ∃ v, (results fn a'.tmps).run P w' = .ok v w' ∧
      ∃ vs us st' loc', Ending.returned v = .returned (retV us) ∧ (K vs st').holds ∧ SV0Rs cx.eT (sit O st' loc' w') vs us ∧ Good cx.eT X (sit O st' loc' w') ∧ Tr (sit O st loc w) (sit O st' loc' w') := by
    rintro a' w' ⟨st', loc', k1, k2, k3, k4, _⟩
    obtain ⟨vs, us, m1, m2, m3⟩ := run_results (P := P) hok.toTyOK k2 k4.env k1
    refine ⟨k4.defers, retV us, ?_, vs, us, st', loc', rfl, m1, m2, k2, k3⟩
    have hm : (fn.results.mapM (resOne a'.tmps) : Sem (Array Value)).run P w' = .ok us.toArray w' := by
      rw [← Array.toArray_toList (xs := fn.results), List.mapM_toArray, Sem.run_map, m3]
      rfl
    have he : results fn a'.tmps = (do
        let xs ← fn.results.mapM (resOne a'.tmps)
        return if h : xs.size = 1 then xs[0] else .tuple xs) := by
      unfold results
      congr 1
    rw [he, Sem.run_bind, hm]
    simp only [Result.andThen_ok, Sem.run_pure]
    match us with
    | [] => rfl
    | [u] => rfl
    | _ :: _ :: _ => rfl
  intro e a' w' hq
  cases e with
  | normal => exact fin a' w' hq
  | ret => exact fin a' w' hq
  | exit n => obtain ⟨st', loc', k1, _⟩ := hq; exact k1.elim
  | goto l => exact hq.elim
  | panic c => exact hq.elim
  | outgrown => exact hq.elim
end
end Go.Vg

namespace Go.Vg
open Go.RowKit
section
variable {X : Ext} {P : Program} {cx : Cx}
theorem A_of_O {O : Avoid} {st : St} {loc : Nat → Loc} {w : World} {b o : Nat} (h : ¬ (sit O st loc w).A b o) : ¬ O b o := fun k => h (.inl k)
theorem to_O {O : Avoid} {st : St} {loc : Nat → Loc} {w : World} {t : Ty} {x : D t} {v : Value} {eT : TypeId} (h : VR eT t x (sit O st loc w).A w v) : VR eT t x O w v :=
  VR.frame h fun _ _ _ ha hc => ⟨hc, A_of_O ha⟩
theorem mrow_vr {O : Avoid} {st : St} {loc : Nat → Loc} {w : World} (g : Good cx.eT X (sit O st loc w)) {n : Nat} {t : Ty} {xs : List (D t)} (hob : look st.objs n = some (.mrow t xs))
    {v : Value} (hx : CR cx.eT (sit O st loc w) (.mrow n) v) : VR cx.eT (.slice t) xs O w v := by
  rcases (g.obj _ _ hob).2 with ⟨rfl, ⟨a, ha⟩, _⟩ | ⟨b, vs, T, cap, hl, hbs, hheap, hvs, hcap, hbig, he⟩
  · exact VR.of_one rfl ⟨_, rfl, by simp, .inl ⟨rfl, a, 0, (hx.2 _ _ hob).trans ha⟩⟩
  refine VR.of_one rfl ⟨_, rfl, hbig, .inr ⟨b, 0, cap, (hx.2 _ _ hob).trans hl, hcap, fun i y hy => ?_⟩⟩
  obtain ⟨us, h1, h2⟩ := he i y hy
  refine ⟨us, h1.frame fun _ _ _ ha hc => ⟨hc, A_of_O ha⟩, fun j u hj => ⟨?_, ?_⟩⟩
  · rw [Nat.zero_add, cell_of_row w b _ vs T (0, 0) hheap]; exact h2 j u hj
  · exact g.out n _ b _ hob (by rw [hbs]; simp)
theorem deep_vr {O : Avoid} {st : St} {loc : Nat → Loc} {w : World} (g : Good cx.eT X (sit O st loc w)) {n : Nat} {t : Ty} {xs : D t} (hob : look st.objs n = some (.ext 0 t xs))
    {v : Value} (hx : CR cx.eT (sit O st loc w) (.xd n .top) v) {A : Avoid} (hA : ∀ b ∈ (loc n).bs, ∀ o, ¬ A b o) : VR cx.eT t xs A w v := by
  have hd : DeepR t xs (loc n) w := X.deep.1 (g.obj _ _ hob).2
  obtain ⟨e, s, rfl, hs⟩ := deep_spot hd
  exact hd.data (hx.2 _ _ hob) hA
theorem deepD_rel {O : Avoid} {st : St} {loc : Nat → Loc} {w : World} (g : Good cx.eT X (sit O st loc w)) {n : Nat} {t : Ty} {xs : D t} (h : deepD st t n = some xs)
    {v : Value} (hx : CR cx.eT (sit O st loc w) (.xd n .top) v) : VR cx.eT t xs O w v := by
  unfold deepD at h
  split at h
  · rename_i t' ys hob
    split at h
    · cases h; rename_i hb
      exact castD_vr hb _ (deep_vr g hob hx fun b hb o => g.out n _ b o hob hb)
    · cases h
  · cases h
theorem asF_rel {O : Avoid} {st : St} {loc : Nat → Loc} {w : World} (g : Good cx.eT X (sit O st loc w)) {want : Ty} {c : C} {x : D want} {v : Value} (h : asF st want c = some x)
    (hc : CR cx.eT (sit O st loc w) c v) : VR cx.eT want x O w v := by
  unfold asF at h
  split at h
  · rename_i n
    split at h
    · rename_i t xs hob
      split at h
      · cases h; rename_i hb; exact castD_vr hb _ (mrow_vr g hob hc)
      · cases h
    · cases h
  · exact deepD_rel g h hc
  · exact to_O (asD_rel h hc)
theorem packF_rel {O : Avoid} {st : St} {loc : Nat → Loc} {w : World} (g : Good cx.eT X (sit O st loc w)) : ∀ {t : Ty} {cs cs' : List C} {x : D t} {vs : List Value}, packF st t cs = some (x, cs') → CRs cx.eT (sit O st loc w) cs vs →
    ∃ us vs', vs = us ++ vs' ∧ R cx.eT t x O w us ∧ CRs cx.eT (sit O st loc w) cs' vs' := by
  have one : ∀ {t : Ty} {c : C} {cs cs' : List C} {x : D t} {vs : List Value}, (match asF st t c with | some x => some (x, cs) | none => none) = some (x, cs') → CRs cx.eT (sit O st loc w) (c :: cs) vs →
      ∃ us vs', vs = us ++ vs' ∧ R cx.eT t x O w us ∧ CRs cx.eT (sit O st loc w) cs' vs' := by
    intro t c cs cs' x vs h hc
    cases hc with
    | cons h1 h2 h3 =>
      rename_i v vs0
      split at h
      · rename_i y hy
        cases h
        exact ⟨[v], vs0, rfl, (R_of_one_VR h2 (asF_rel g hy h1)).2, h3⟩
      · cases h
  intro t
  induction t with
  | prod a b iha ihb =>
    intro cs cs' x vs h hc
    simp only [packF] at h
    split at h
    · rename_i y cs1 h1
      split at h
      · rename_i z cs2 h2
        cases h
        obtain ⟨u1, v1, rfl, r1, k1⟩ := iha h1 hc
        obtain ⟨u2, v2, rfl, r2, k2⟩ := ihb h2 k1
        exact ⟨u1 ++ u2, v2, by simp, ⟨u1, u2, rfl, r1, r2⟩, k2⟩
      · cases h
    · cases h
  | unit =>
    intro cs cs' x vs h hc
    simp only [packF] at h
    cases h
    exact ⟨[], vs, rfl, rfl, hc⟩
  | bool => intro cs cs' x vs h hc; cases cs with | nil => simp [packF] at h | cons c cs => exact one (t := .bool) h hc
  | int k => intro cs cs' x vs h hc; cases cs with | nil => simp [packF] at h | cons c cs => exact one (t := .int k) h hc
  | str => intro cs cs' x vs h hc; cases cs with | nil => simp [packF] at h | cons c cs => exact one (t := .str) h hc
  | err => intro cs cs' x vs h hc; cases cs with | nil => simp [packF] at h | cons c cs => exact one (t := .err) h hc
  | opq => intro cs cs' x vs h hc; cases cs with | nil => simp [packF] at h | cons c cs => exact one (t := .opq) h hc
  | slice e _ => intro cs cs' x vs h hc; cases cs with | nil => simp [packF] at h | cons c cs => exact one (t := .slice e) h hc
theorem asF0_rel {O : Avoid} {st : St} {loc : Nat → Loc} {w : World} (g : Good cx.eT X (sit O st loc w)) {want : Ty} {c : SV0} {x : D want} {v : Value} (h : asF0 st want c = some x)
    (hc : SV0R cx.eT (sit O st loc w) c v) : VR cx.eT want x O w v := by
  cases c with
  | one c => exact asF_rel g h hc
  | agg cs =>
    simp only [asF0] at h
    obtain ⟨vs, rfl, hcs⟩ := hc
    split at h
    · cases h
    · rename_i ho
      split at h
      · rename_i y hy
        cases h
        obtain ⟨us, vs', rfl, r, k⟩ := packF_rel g hy hcs
        cases k
        unfold VR
        rw [if_neg (by simp [ho])]
        exact ⟨_, rfl, by simpa using r⟩
      · cases h
theorem resD_rel {O : Avoid} {st : St} {loc : Nat → Loc} {w : World} (g : Good cx.eT X (sit O st loc w)) : ∀ {ts : List Ty} {vs : List SV0} {ys : HL ts} {us : List Value}, resD st ts vs = some ys →
    SV0Rs cx.eT (sit O st loc w) vs us → ArgsR cx.eT O w ts ys us
  | [], [], _, _, _, .nil => rfl
  | [t], [a], ys, _, h, .cons h1 .nil => ⟨_, rfl, asF0_rel g h h1⟩
  | t :: u :: r, a :: as, ys, _, h, .cons h1 h2 => by
    simp only [resD] at h
    split at h
    · rename_i x xs k1 k2
      cases h
      exact ⟨_, _, rfl, asF0_rel g k1 h1, resD_rel g k2 h2⟩
    · cases h
  | [], _ :: _, _, _, h, _ => by simp [resD] at h
  | [_], [], _, _, h, _ => by simp [resD] at h
  | [_], _ :: _ :: _, _, _, h, _ => by simp [resD] at h
  | _ :: _ :: _, [], _, _, h, _ => by simp [resD] at h
theorem argEnv_rel {eT : TypeId} {O : Avoid} {w : World} {S : Sit} (hS : S.w = w) (hA : ∀ b o, ¬ O b o → ¬ S.A b o) : ∀ (ts : List Ty) (k : Nat) (xs : HL ts) (vs : List Value), ArgsR eT O w ts xs vs →
    ∀ t sv, look (argEnv k ts xs) t = some sv → k ≤ t ∧ ∃ v, vs[t - k]? = some v ∧ SVR eT S sv v
  | [], k, xs, vs, _, t, sv, h => by simp [argEnv, look] at h
  | [ty], k, x, _, ⟨v, rfl, hv⟩, t, sv, h => by
    simp only [argEnv, look_cons] at h
    split at h
    · cases h
      rename_i e; subst e
      exact ⟨Nat.le_refl _, v, by simp, VR.frame hv fun b o _ ha hc => ⟨by rw [hS]; exact hc, hA b o ha⟩⟩
    · simp [look] at h
  | ty :: u :: r, k, xs, _, ⟨v, vs', rfl, hv, hr⟩, t, sv, h => by
    simp only [argEnv, look_cons] at h
    split at h
    · cases h
      rename_i e; subst e
      exact ⟨Nat.le_refl _, v, by simp, VR.frame hv fun b o _ ha hc => ⟨by rw [hS]; exact hc, hA b o ha⟩⟩
    · obtain ⟨h1, v', h2, h3⟩ := argEnv_rel hS hA (u :: r) (k + 1) xs.2 vs' hr t sv h
      refine ⟨by omega, v', ?_, h3⟩
      rw [show t - k = (t - (k + 1)) + 1 from by omega, List.getElem?_cons_succ]
      exact h2
theorem ArgsR.length {eT : TypeId} {O : Avoid} {w : World} : ∀ {ts : List Ty} {xs : HL ts} {vs : List Value}, ArgsR eT O w ts xs vs → vs.length = ts.length
  | [], _, _, h => by rw [show _ = [] from h]; rfl
  | [_], _, _, ⟨_, rfl, _⟩ => rfl
  | _ :: u :: r, _, _, ⟨_, _, rfl, _, h⟩ => by simp [ArgsR.length h]
def wf : (t : Ty) → D t → Prop
  | .int k, x => k.min ≤ x ∧ x ≤ k.max
  | .str, x => x.length ≤ big
  | .prod a b, x => wf a x.1 ∧ wf b x.2
  | .slice e, x => x.length ≤ big ∧ ∀ (i : Nat) y, x[i]? = some y → wf e y
  | _, _ => True
def wfL : (ts : List Ty) → HL ts → Prop
  | [], _ => True
  | [t], x => wf t x
  | t :: u :: r, xs => wf t xs.1 ∧ wfL (u :: r) xs.2
theorem R.wf {eT : TypeId} : ∀ {t : Ty} {x : D t} {A : Avoid} {w : World} {vs : List Value}, R eT t x A w vs → Vg.wf t x := by
  intro t
  induction t with
  | int k => intro x A w vs h; exact h.2
  | str => intro x A w vs h; exact h.2
  | prod a b iha ihb => intro x A w vs h; obtain ⟨_, _, _, h1, h2⟩ := h; exact ⟨iha h1, ihb h2⟩
  | slice e ih =>
    intro x A w vs h
    obtain ⟨v, _, hl, h⟩ := h
    refine ⟨hl, fun i y hy => ?_⟩
    rcases h with ⟨rfl, _⟩ | ⟨b, o, cap, _, _, h⟩
    · simp at hy
    · obtain ⟨us, h1, _⟩ := h i y hy; exact ih h1
  | _ => intro x A w vs h; trivial
theorem VR.wf {eT : TypeId} {t : Ty} {x : D t} {A : Avoid} {w : World} {v : Value} (h : VR eT t x A w v) : Vg.wf t x := (VR.cells h).wf
theorem ArgsR.wf {eT : TypeId} {O : Avoid} {w : World} : ∀ {ts : List Ty} {xs : HL ts} {vs : List Value}, ArgsR eT O w ts xs vs → wfL ts xs
  | [], _, _, _ => trivial
  | [_], _, _, ⟨_, _, h⟩ => h.wf
  | _ :: _ :: _, _, _, ⟨_, _, _, h, h'⟩ => ⟨h.wf, ArgsR.wf h'⟩
theorem pure_of_vc {B : Cx} {X : Ext} {Γ : List (FuncId × (Bool × CSpec))} {N : Nat} {f : FuncId} {fn : Func} {c : Code} (hok : CxOK P (mkCx B Γ N) X) (hf : P.funcs[f]? = some fn) (hb : fn.body = some c) (hn : (fn.name == "runtime.NumGoroutine") = false)
    (hN : fn.ntmps = N) {ts rts : List Ty} (anns : HL ts → Anns) (hts : ts.length ≤ N) {pre : HL ts → Prop} {post : HL ts → HL rts → Prop}
    (h : ∀ xs, wfL ts xs → pre xs → (pureVCs B Γ N (anns xs) fn.results.toList c ts rts post xs).holds) :
    PureOK P B.eT X f ts rts pre post := by
  refine ⟨⟨fn, hf, by rw [hb]; rfl, hn⟩, fun O w xs vs hG hO ha hp => ?_⟩
  have g0 : Good (mkCx B Γ N).eT X (sit O (argSt ts xs) (fun _ => default) w) :=
    ⟨fun n oc h => by simp [sit, argSt, look] at h, fun n m oc oc' b h => by simp [sit, argSt, look] at h, fun n oc b off h => by simp [sit, argSt, look] at h, hG, fun b hb ⟨n, oc, h, _⟩ => by simp [sit, argSt, look] at h⟩
  have hA0 : ∀ b o, ¬ O b o → ¬ (sit O (argSt ts xs) (fun _ => default) w).A b o := by
    rintro b o h (k | ⟨n, oc, k, _⟩)
    · exact h k
    · simp [sit, argSt, look] at k
  refine Calls.mono (calls_of_vc hok hf hb hN.symm (anns xs) (by simpa [ha.length, hN] using hts) g0 hO ?_ (h xs ha.wf hp)) ?_
  · intro t sv ht
    obtain ⟨_, v, h1, h2⟩ := argEnv_rel (eT := B.eT) (S := sit O (argSt ts xs) (fun _ => default) w) rfl hA0 ts 0 xs vs ha t sv ht
    exact ⟨v, by simpa using h1, h2⟩
  · rintro e w' ⟨vs', us, st', loc', rfl, h1, h2, h3, h4⟩
    split at h1
    · rename_i ys hys
      refine ⟨us, ys, rfl, h1, resD_rel h3 hys h2, h4.os, h4.output, h4.size, fun k hk => h4.block k hk ?_⟩
      rintro ⟨n, oc, k, _⟩
      simp [sit, argSt, look] at k
    · exact h1.elim
def None' : Avoid := fun _ _ => False
def outer (lend : Bool) (A : Avoid) : Avoid := match lend with
  | true => None'
  | false => A
theorem argD_rel {O : Avoid} {st : St} {loc : Nat → Loc} {w : World} (g : Good cx.eT X (sit O st loc w)) {lend : Bool} {t : Ty} {a : SV0} {x : D t} {v : Value} (h : argD lend st t a = some x)
    (ha : SV0R cx.eT (sit O st loc w) a v) : VR cx.eT t x (outer lend (sit O st loc w).A) w v := by
  have base : asD0 t a = some x → VR cx.eT t x (outer lend (sit O st loc w).A) w v := by
    intro h
    refine VR.weak (asD0_rel h ha) fun b o k => ?_
    cases lend with
    | true => exact id
    | false => exact k
  unfold argD at h
  split at h
  · rename_i e n x' heq
    unfold srcD at h
    simp only [rowD] at h
    split at h
    · rename_i e' ys hob
      split at h
      · cases h; rename_i hb
        exact castD_vr hb _ (VR.weak (mrow_vr g hob ha) fun _ _ _ => id)
      · cases h
    · cases h
  · exact VR.weak (deepD_rel g h ha) fun _ _ _ => id
  · exact base h
theorem argsD_rel {O : Avoid} {st : St} {loc : Nat → Loc} {w : World} (g : Good cx.eT X (sit O st loc w)) {lend : Bool} : ∀ {ts : List Ty} {as : List SV0} {xs : HL ts} {vs : List Value}, argsD lend st ts as = some xs →
    SV0Rs cx.eT (sit O st loc w) as vs → ArgsR cx.eT (outer lend (sit O st loc w).A) w ts xs vs
  | [], [], _, _, _, .nil => rfl
  | [t], [a], xs, _, h, .cons h1 .nil => ⟨_, rfl, argD_rel g h h1⟩
  | t :: u :: r, a :: as, xs, _, h, .cons h1 h2 => by
    simp only [argsD] at h
    split at h
    · rename_i x xs k1 k2
      cases h
      exact ⟨_, _, rfl, argD_rel g k1 h1, argsD_rel g k2 h2⟩
    · cases h
  | [], _ :: _, _, _, h, _ => by simp [argsD] at h
  | [_], [], _, _, h, _ => by simp [argsD] at h
  | [_], _ :: _ :: _, _, _, h, _ => by simp [argsD] at h
  | _ :: _ :: _, [], _, _, h, _ => by simp [argsD] at h
theorem resList_rel {eT : TypeId} {S : Sit} {O : Avoid} {w : World} (hS : S.w = w) : ∀ {ts : List Ty} {ys : HL ts} {us : List Value}, (flatL ts = true ∨ O = S.A) → ArgsR eT O w ts ys us → SV0Rs eT S (resList ts ys) us
  | [], _, _, _, h => by rw [show _ = [] from h]; exact .nil
  | [t], y, _, hl, ⟨v, rfl, hv⟩ => by
    refine .cons ?_ .nil
    subst hS
    rcases hl with hl | hl
    · simp only [flatL, Bool.and_true] at hl
      exact VR.of_flat hl hv
    · subst hl; exact hv
  | t :: u :: r, ys, _, hl, ⟨v, vs', rfl, hv, hr⟩ => by
    refine .cons ?_ (resList_rel hS ?_ hr)
    · subst hS
      rcases hl with hl | hl
      · simp only [flatL, Bool.and_eq_true] at hl
        exact VR.of_flat hl.1 hv
      · subst hl; exact hv
    · rcases hl with hl | hl
      · simp only [flatL, Bool.and_eq_true] at hl ⊢; exact .inl hl.2
      · exact .inr hl
theorem OIn_A {O : Avoid} {st : St} {loc : Nat → Loc} {w : World} {eT : TypeId} (g : Good eT X (sit O st loc w)) (hO : OIn O w) : OIn (sit O st loc w).A w := by
  rintro b off (h | ⟨n, oc, h1, h2, _⟩)
  · exact hO b off h
  · exact (g.obj n oc h1).2.inside b h2
theorem call_pure {eT : TypeId} {f : FuncId} {ts rts : List Ty} {pre : HL ts → Prop} {post : HL ts → HL rts → Prop} (h : PureOK P eT X f ts rts pre post)
    {O : Avoid} {st : St} {loc : Nat → Loc} {w : World} {args : List SV0} {vs : List Value} {xs : HL ts} (hx : argsD (flatL rts) st ts args = some xs) (hp : pre xs)
    {K : SV → St → VC} (hK : ∀ ys, post xs ys → (K (retSV (resList rts ys)) st).holds)
    (g : Good eT X (sit O st loc w)) (hO : OIn O w) (ha : SV0Rs eT (sit O st loc w) args vs) :
    Calls P f vs.toArray w fun e w' => ∃ v sv st' loc', e = .returned v ∧ (K sv st').holds ∧ st'.env = st.env ∧ (true = true → Below w.heap.size w w') ∧ Good eT X (sit O st' loc' w') ∧
      Tr (sit O st loc w) (sit O st' loc' w') ∧ SVR eT (sit O st' loc' w') sv v := by
  have g' : Good (Cx.mk eT [] [] [] 0 [] [] [] false [] []).eT X (sit O st loc w) := g
  have hOut : OIn (outer (flatL rts) (sit O st loc w).A) w := by
    intro b off hb
    cases hf : flatL rts with
    | true => rw [hf] at hb; exact hb.elim
    | false => rw [hf] at hb; exact OIn_A g hO b off hb
  refine Calls.mono (h.ok _ w xs vs g.glob.1 hOut (argsD_rel g' hx ha) hp) ?_
  rintro e w' ⟨us, ys, rfl, h1, h2, h3⟩
  obtain ⟨t, g2⟩ := step_world (S' := sit O st loc w') g rfl rfl rfl rfl h3
  refine ⟨_, _, st, loc, rfl, hK ys h1, rfl, fun _ => h3, g2, t, retSV_rel (resList_rel rfl ?_ h2)⟩
  cases hf : flatL rts with
  | true => exact .inl rfl
  | false => exact .inr (by simp only [outer]; funext b off; simp [Sit.A, sit])
theorem frzC_sound {O : Avoid} {st : St} {loc : Nat → Loc} {w : World} (g : Good cx.eT X (sit O st loc w)) (c : C) :
    Tr (sit O st loc w) (sit O (frzC st c).2 loc w) ∧ Good cx.eT X (sit O (frzC st c).2 loc w) ∧ (frzC st c).2.env = st.env ∧
      ∀ v, CR cx.eT (sit O st loc w) c v → CR cx.eT (sit O (frzC st c).2 loc w) (frzC st c).1 v := by
  unfold frzC
  split
  · rename_i n
    split
    · rename_i t xs hob
      obtain ⟨h1, h2⟩ := drop_step g n
      exact ⟨h1, h2, rfl, fun v hv => freeze_step g hob hv⟩
    · exact ⟨Tr.refl _, g, rfl, fun v hv => hv⟩
  · rename_i n
    split
    · rename_i t xs hob
      obtain ⟨h1, h2⟩ := drop_step g n
      refine ⟨h1, h2, rfl, fun v hv => deep_vr g hob hv fun b hb o => ?_⟩
      rintro (hA' | ⟨m, oc, k1, k2, k3⟩)
      · exact g.out n _ b o hob hb hA'
      · simp only [sit, dropObj] at k1 k2
        rw [look_del] at k1
        split at k1
        · cases k1
        · rename_i h8; exact h8 (g.apart n m _ _ b hob k1 hb k2)
    · exact ⟨Tr.refl _, g, rfl, fun v hv => hv⟩
  · exact ⟨Tr.refl _, g, rfl, fun v hv => hv⟩
theorem frzCs_sound {O : Avoid} {loc : Nat → Loc} {w : World} : ∀ (cs : List C) {st : St}, Good cx.eT X (sit O st loc w) →
    Tr (sit O st loc w) (sit O (frzCs st cs).2 loc w) ∧ Good cx.eT X (sit O (frzCs st cs).2 loc w) ∧ (frzCs st cs).2.env = st.env ∧
      ∀ vs, CRs cx.eT (sit O st loc w) cs vs → CRs cx.eT (sit O (frzCs st cs).2 loc w) (frzCs st cs).1 vs
  | [], st, g => ⟨Tr.refl _, g, rfl, fun vs h => h⟩
  | c :: cs, st, g => by
    obtain ⟨t1, g1, e1, k1⟩ := frzC_sound g c
    obtain ⟨t2, g2, e2, k2⟩ := frzCs_sound cs g1
    refine ⟨t1.trans t2, g2, e2.trans e1, fun vs h => ?_⟩
    cases h with
    | cons h1 h2 h3 => exact .cons ((k1 _ h1).tr t2) h2 (k2 _ (h3.tr t1))
theorem frz0_sound {O : Avoid} {st : St} {loc : Nat → Loc} {w : World} (g : Good cx.eT X (sit O st loc w)) (x : SV0) :
    Tr (sit O st loc w) (sit O (frz0 st x).2 loc w) ∧ Good cx.eT X (sit O (frz0 st x).2 loc w) ∧ (frz0 st x).2.env = st.env ∧
      ∀ v, SV0R cx.eT (sit O st loc w) x v → SV0R cx.eT (sit O (frz0 st x).2 loc w) (frz0 st x).1 v := by
  cases x with
  | one c => exact frzC_sound g c
  | agg cs =>
    obtain ⟨t1, g1, e1, k1⟩ := frzCs_sound cs g
    exact ⟨t1, g1, e1, fun v ⟨vs, h1, h2⟩ => ⟨vs, h1, k1 _ h2⟩⟩
theorem frzA_sound {O : Avoid} {st : St} {loc : Nat → Loc} {w : World} (g : Good cx.eT X (sit O st loc w)) (lend : Bool) (x : SV0) :
    Tr (sit O st loc w) (sit O (frzA lend st x).2 loc w) ∧ Good cx.eT X (sit O (frzA lend st x).2 loc w) ∧ (frzA lend st x).2.env = st.env ∧
      ∀ v, SV0R cx.eT (sit O st loc w) x v → SV0R cx.eT (sit O (frzA lend st x).2 loc w) (frzA lend st x).1 v := by
  cases lend with
  | false => cases x <;> exact frz0_sound g _
  | true =>
    cases x with
    | one c => exact ⟨Tr.refl _, g, rfl, fun v hv => hv⟩
    | agg cs => exact frz0_sound g _
theorem frzL_sound {O : Avoid} {loc : Nat → Loc} {w : World} (lend : Bool) : ∀ (xs : List SV0) {st : St}, Good cx.eT X (sit O st loc w) →
    Tr (sit O st loc w) (sit O (frzL lend st xs).2 loc w) ∧ Good cx.eT X (sit O (frzL lend st xs).2 loc w) ∧ (frzL lend st xs).2.env = st.env ∧
      ∀ vs, SV0Rs cx.eT (sit O st loc w) xs vs → SV0Rs cx.eT (sit O (frzL lend st xs).2 loc w) (frzL lend st xs).1 vs
  | [], st, g => ⟨Tr.refl _, g, rfl, fun vs h => h⟩
  | x :: xs, st, g => by
    obtain ⟨t1, g1, e1, k1⟩ := frzA_sound g lend x
    obtain ⟨t2, g2, e2, k2⟩ := frzL_sound lend xs g1
    refine ⟨t1.trans t2, g2, e2.trans e1, fun vs h => ?_⟩
    cases h with
    | cons h1 h3 => exact .cons ((k1 _ h1).tr t2) (k2 _ (h3.tr t1))
theorem calls_frz {eT : TypeId} {f : FuncId} {q : Bool} {sp : CSpec} {lend : Bool}
    (h : ∀ O st loc w args vs K, (sp args st K).holds → Good eT X (sit O st loc w) → OIn O w → SV0Rs eT (sit O st loc w) args vs →
      Calls P f vs.toArray w fun e w' => ∃ v sv st' loc', e = .returned v ∧ (K sv st').holds ∧ st'.env = st.env ∧ (q = true → Below w.heap.size w w') ∧ Good eT X (sit O st' loc' w') ∧
        Tr (sit O st loc w) (sit O st' loc' w') ∧ SVR eT (sit O st' loc' w') sv v)
    (O : Avoid) (st : St) (loc : Nat → Loc) (w : World) (args : List SV0) (vs : List Value) (K : SV → St → VC) (hs : (sp (frzL lend st args).1 (frzL lend st args).2 K).holds)
    (g : Good eT X (sit O st loc w)) (hO : OIn O w) (ha : SV0Rs eT (sit O st loc w) args vs) :
    Calls P f vs.toArray w fun e w' => ∃ v sv st' loc', e = .returned v ∧ (K sv st').holds ∧ st'.env = st.env ∧ (q = true → Below w.heap.size w w') ∧ Good eT X (sit O st' loc' w') ∧
      Tr (sit O st loc w) (sit O st' loc' w') ∧ SVR eT (sit O st' loc' w') sv v := by
  have g' : Good (Cx.mk eT [] [] [] 0 [] [] [] false [] []).eT X (sit O st loc w) := g
  obtain ⟨t1, g1, e1, k1⟩ := frzL_sound lend args g'
  refine Calls.mono (h O _ loc w _ vs K hs g1 hO (k1 _ ha)) ?_
  rintro e w' ⟨v, sv, st', loc', h1, h2, h3, h4, h5, h6, h7⟩
  exact ⟨v, sv, st', loc', h1, h2, h3.trans e1, h4, h5, t1.trans h6, h7⟩
theorem callOK_of_pure {eT : TypeId} {f : FuncId} {ts rts : List Ty} {pre : HL ts → Prop} {post : HL ts → HL rts → Prop} (h : PureOK P eT X f ts rts pre post) :
    CallOK P eT X f true (pureSpec ts rts pre post) := by
  refine ⟨h.fn, calls_frz (lend := flatL rts) (sp := fun args st K => match argsD (flatL rts) st ts args with
    | some xs => .and (pre xs) (.all (HL rts) fun ys => .imp (post xs ys) (K (retSV (resList rts ys)) st))
    | none => .ff) fun O st loc w args vs K hs g hO ha => ?_⟩
  split at hs
  · rename_i xs hx
    exact call_pure h hx hs.1 (fun ys hy => hs.2 ys hy) g hO ha
  · exact hs.elim
theorem callOK_of_fun {eT : TypeId} {f : FuncId} {ts rts : List Ty} {pre : HL ts → Prop} {g : HL ts → HL rts} (h : PureOK P eT X f ts rts pre (fun xs ys => ys = g xs)) :
    CallOK P eT X f true (funSpec ts rts pre g) := by
  refine ⟨h.fn, calls_frz (lend := flatL rts) (sp := fun args st K => match argsD (flatL rts) st ts args with
    | some xs => .and (pre xs) (K (retSV (resList rts (g xs))) st)
    | none => .ff) fun O st loc w args vs K hs hg hO ha => ?_⟩
  split at hs
  · rename_i xs hx
    exact call_pure h hx hs.1 (fun ys hy => by rw [hy]; exact hs.2) hg hO ha
  · exact hs.elim
theorem ctx_nil {B : Cx} {N : Nat} (h : TyOK P B) : CxOK P (mkCx B [] N) X :=
  { fit := h.fit, errno := h.errno, errnoZero := h.errnoZero, mixed := h.mixed, arr := h.arr, arr0 := h.arr0, eqs := h.eqs, ptrs := h.ptrs, mps := h.mps, slf := h.slf, calls := fun f q sp hl => by simp [mkCx, look] at hl }
theorem ctx_cons {B : Cx} {Γ : List (FuncId × (Bool × CSpec))} {N : Nat} {f : FuncId} {q : Bool} {sp : CSpec} (h : CallOK P B.eT X f q sp) (hΓ : CxOK P (mkCx B Γ N) X) : CxOK P (mkCx B ((f, q, sp) :: Γ) N) X :=
  { fit := hΓ.fit, errno := hΓ.errno, errnoZero := hΓ.errnoZero, mixed := hΓ.mixed, arr := hΓ.arr, arr0 := hΓ.arr0, eqs := hΓ.eqs, ptrs := hΓ.ptrs, mps := hΓ.mps, slf := hΓ.slf, calls := fun f' q' sp' hl => by
      simp only [mkCx, look_cons] at hl
      split at hl
      · rename_i e; subst e; cases hl; exact h
      · exact hΓ.calls f' q' sp' hl }
end
end Go.Vg

