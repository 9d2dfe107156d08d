/- A part of the proof that the law PlaceSays holds of the given program: facts that are used there. -/
import Derived.Test.YtgokjhhcfemnhaaVg7
namespace Go.Vg
open Go.RowKit
section
variable {X : Ext} {P : Program} {cx : Cx}
theorem bindex {l : List UInt8} {i : Nat} {c : UInt8} (h : l[i]? = some c) : (⟨l.toArray⟩ : ByteArray)[i]? = some c := by
  have hi : i < l.length := by
    rcases Nat.lt_or_ge i l.length with h' | h'
    · exact h'
    · rw [List.getElem?_eq_none h'] at h; cases h
  have hi' : i < (⟨l.toArray⟩ : ByteArray).size := hi
  rw [getElem?_pos _ i hi']
  rw [List.getElem?_eq_getElem hi] at h
  cases h
  rfl
/-- A pointer that is known is no nil. -/
theorem ptr_run {O : Avoid} {st : St} {loc : Nat → Loc} {w : World} {c : C} {v : Value} (g : Good cx.eT X (sit O st loc w)) (hp : ptrC st c = true) (hc : CR cx.eT (sit O st loc w) c v) :
    ∃ a, v = .pointer (some a) := by
  unfold ptrC at hp
  split at hp
  · obtain ⟨b, o, us, h, _⟩ := hc; exact ⟨_, h⟩
  · split at hp
    · rename_i n _ T cs h
      obtain ⟨b, _, h2⟩ := hc.2 T cs h
      exact ⟨_, h2⟩
    · cases hp
  · split at hp
    · rename_i t xs h
      obtain ⟨_, b, vs, T, h1, _⟩ := g.obj _ _ h
      exact ⟨_, (hc.2 _ _ h).trans h1⟩
    · cases hp
  · split at hp
    · rename_i k t x h
      obtain ⟨_, h1⟩ := g.obj _ _ h
      obtain ⟨a, h2⟩ := X.ptr h1
      exact ⟨a, (hc.2 _ _ _ h).trans h2⟩
    · cases hp
  · cases hp
theorem asIntC_rel {S : Sit} {c : C} {n : Int} {v : Value} (h : asIntC c = some n) (hc : CR cx.eT S c v) : ∃ k, v = .int k n ∧ k.min ≤ n ∧ n ≤ k.max := by
  unfold asIntC at h
  split at h
  · cases h; exact ⟨_, int_rel.1 hc⟩
  · cases h
theorem indexVC_rel {S : Sit} {x i : C} {K : C → VC} {vx vi : Value} {t : TypeId} (hu : P.underlying t = some .string) (hx : CR cx.eT S x vx) (hi : CR cx.eT S i vi)
    (h : (indexVC x i K).holds) : ∃ c u, (K c).holds ∧ CR cx.eT S c u ∧ ∀ w, (Instr.index t vx vi).run P w = .ok u w := by
  unfold indexVC at h
  split at h
  · rename_i s i' hi'
    obtain ⟨rfl, hl⟩ := str_rel.1 hx
    obtain ⟨k, rfl, _⟩ := asIntC_rel hi' hi
    obtain ⟨⟨h0, h1⟩, h2⟩ := h
    have hlt : i'.toNat < s.length := by omega
    have hs : s[i'.toNat]? = some s[i'.toNat] := List.getElem?_eq_getElem hlt
    rw [nthB_eq hs] at h2
    refine ⟨_, _, h2, int_rel.2 ⟨rfl, ?_⟩, fun w => ?_⟩
    · have := s[i'.toNat].toNat_lt
      simp [IntKind.min, IntKind.max, IntKind.signed, IntKind.bits]
      omega
    · simp [Instr.index, asIntOf, run_underlying hu, h0, bindex hs]
  · exact h.elim
theorem binVC_sound {S : Sit} {op : BinOp} {x y : C} {ny : Bool} {K : C → VC} {t : TypeId} {xo yo : Operand} {v1 v2 : Value}
    (hb : ∀ b, asBoolC x = some b → P.underlying t = some .bool) (he : ∀ e, x = .d .err e → ∃ ms, P.underlying t = some (.interface ms))
    (hx : CR cx.eT S x v1) (hy : CR cx.eT S y v2) (hny : ny = true → Operand.isC yo = true)
    (h : (binVC op x y ny K).holds) : ∃ c v, (K c).holds ∧ CR cx.eT S c v ∧ ∀ w, (do eqGuard op t xo yo v1 v2; binOp op t v1 v2 : Sem Value).run P w = .ok v w :=
  binVC_rel hb he hx hy hny h
/-- What 'pureVC' says of an operation is so, in every world. -/
theorem pureVC_sound (hok : TyOK P cx) {O : Avoid} {st : St} {loc : Nat → Loc} {w : World} {a : Act} (g : Good cx.eT X (sit O st loc w)) (he : EnvR cx.eT (sit O st loc w) st.env a)
    {o : Oper} {K : SV → VC} (h : (pureVC cx st o.op K).holds) :
    ∃ sv v, (K sv).holds ∧ SVR cx.eT (sit O st loc w) sv v ∧ ∀ w', (execOp a.eval o).run P w' = .ok (.value v) w' := by
  have one : ∀ {s : Sem Value} {K : SV → VC}, (∃ c u, (K (.s (.one c))).holds ∧ CR cx.eT (sit O st loc w) c u ∧ ∀ w', s.run P w' = .ok u w') →
      ∃ sv v, (K sv).holds ∧ SVR cx.eT (sit O st loc w) sv v ∧ ∀ w', (do pure (.value (← s)) : Sem Next).run P w' = .ok (.value v) w' := by
    rintro s K ⟨c, u, h1, h2, h3⟩
    exact ⟨_, u, h1, h2, fun w' => by simp [h3]⟩
  unfold pureVC at h
  simp only at h
  split at h
  · rename_i c x y hop
    have hc := ev1_rel he c
    have hgo : ∀ b, a.eval c = .bool b → ∀ w', (execOp a.eval o).run P w' = .ok (.value (if b then a.eval x else a.eval y)) w' := by
      intro b hb w'; simp [execOp, hop, hb, asBool]
    split at h
    · rename_i hl; rw [hl] at hc
      exact ⟨_, _, h, ev_rel he x, fun w' => by rw [hgo true hc]; simp⟩
    · rename_i hl; rw [hl] at hc
      exact ⟨_, _, h, ev_rel he y, fun w' => by rw [hgo false hc]; simp⟩
    · rename_i b hl; rw [hl] at hc
      have hc := bool_rel.1 hc
      cases b
      · exact ⟨_, _, h.2 rfl, ev_rel he y, fun w' => by rw [hgo false hc]; simp⟩
      · exact ⟨_, _, h.1 rfl, ev_rel he x, fun w' => by rw [hgo true hc]; simp⟩
    · exact h.elim
  · rename_i op t x hop
    have := one (unVC_rel (P := P) (ev1_rel he x) h)
    simpa [execOp, hop] using this
  · rename_i s t x hop
    split at h
    · rename_i ts td hs hd
      obtain ⟨m, i, d, hf, _⟩ := shape_of hok hs
      obtain ⟨m', i', d', hf', hs'⟩ := shape_of hok hd
      have := one (convVC_rel (P := P) hf.und hf'.und (fun k e => by subst e; cases d' <;> simp [shapeFit] at hs'; rw [hs']) (ev1_rel he x) h)
      simpa [execOp, hop] using this
    · exact h.elim
  · rename_i t i hop
    have ht := ev_rel he t
    split at h
    · rename_i vs hl
      rw [hl] at ht
      obtain ⟨us, hus, hr⟩ := ht
      split at h
      · rename_i v hv
        obtain ⟨u, hu, hru⟩ := hr.get hv
        exact ⟨_, u, h, hru, fun w' => by simp [execOp, hop, hus, Instr.extract, hu]⟩
      · exact h.elim
    · exact h.elim
  · rename_i x hop
    have hx := ev1_rel he x
    split at h
    · rename_i hp
      obtain ⟨p, hp'⟩ := ptr_run g hp hx
      exact ⟨_, _, h, hx, fun w' => by simp [execOp, hop, hp']⟩
    · exact h.elim
  · rename_i t x hop
    have hx := ev1_rel he x
    split at h
    · rename_i n ht hl
      rw [hl] at hx
      obtain ⟨hv, hrn⟩ := int_rel.1 hx
      have ht := Nat.eq_of_beq_eq_true ht
      refine ⟨_, .iface cx.eT (.int .i64 n), h, (err_rel (S := sit O st loc w) (e := .no n)).2 ⟨rfl, hrn⟩, fun w' => ?_⟩
      simp [execOp, hop, hv, Instr.makeInterface, ht, run_underlying hok.errno]
    · exact h.elim
  · rename_i x xt t hop
    have hx := ev1_rel he x
    split at h
    · rename_i e ht hl
      rw [hl] at hx
      have hx := err_rel.1 hx
      have ht := Nat.eq_of_beq_eq_true ht
      subst ht
      obtain ⟨i, hi, hz⟩ := hok.errnoZero
      have hzv : ∀ w', (zeroValue cx.eT).run P w' = .ok (.int .i64 0) w' := fun w' => by simp [zeroValue, typeInfo, hi, hz]
      have hnum : ∀ n : Int, n = 0 → (IntKind.i64.min ≤ n ∧ n ≤ IntKind.i64.max) := fun n hn => by subst hn; rw [I64_iff]; simp [I64]
      cases e with
      | nil =>
        refine ⟨_, .tuple #[.int .i64 0, .bool false], h, ⟨[.int .i64 0, .bool false], rfl, .cons (int_rel.2 ⟨rfl, hnum 0 rfl⟩) (.cons (bool_rel.2 rfl) .nil)⟩, fun w' => ?_⟩
        simp [execOp, hop, show a.eval x = _ from hx, Instr.typeAssert, run_underlying hok.errno, hzv]
      | no n =>
        obtain ⟨hx, r1, r2⟩ := hx
        refine ⟨_, .tuple #[.int .i64 n, .bool true], h, ⟨[.int .i64 n, .bool true], rfl, .cons (int_rel.2 ⟨rfl, r1, r2⟩) (.cons (bool_rel.2 rfl) .nil)⟩, fun w' => ?_⟩
        simp [execOp, hop, show a.eval x = _ from hx, Instr.typeAssert, run_underlying hok.errno]
      | other =>
        obtain ⟨t', u, hv, hne⟩ := hx
        refine ⟨_, .tuple #[.int .i64 0, .bool false], h, ⟨[.int .i64 0, .bool false], rfl, .cons (int_rel.2 ⟨rfl, hnum 0 rfl⟩) (.cons (bool_rel.2 rfl) .nil)⟩, fun w' => ?_⟩
        simp [execOp, hop, hv, Instr.typeAssert, run_underlying hok.errno, hzv, hne]
    · exact h.elim
  · rename_i t x i hop
    split at h
    · rename_i ht
      have := one (indexVC_rel (P := P) (und_str hok ht) (ev1_rel he x) (ev1_rel he i) h)
      simpa [execOp, hop] using this
    · exact h.elim
  · rename_i op t x y ty' hop
    have hx := ev1_rel he x
    have hy := ev1_rel he y
    have fin : ∀ {c : C} {ny : Bool}, (∀ b, asBoolC c = some b → P.underlying t = some .bool) → (∀ e, c = .d .err e → ∃ ms, P.underlying t = some (.interface ms)) →
        CR cx.eT (sit O st loc w) c (a.eval x) → (ny = true → Operand.isC y = true) → (binVC op c (ev1 st.env y) ny fun c => K (.s (.one c))).holds →
        ∃ sv v, (K sv).holds ∧ SVR cx.eT (sit O st loc w) sv v ∧ ∀ w', (execOp a.eval o).run P w' = .ok (.value v) w' := by
      intro c ny h1 h2 h3 h4 h5
      have := one (binVC_rel (P := P) (xo := x) (yo := y) h1 h2 h3 hy h4 h5)
      simpa [execOp, hop] using this
    split at h
    · rename_i hl; rw [hl] at hx
      exact fin (by simp [asBoolC]) (by simp) hx (by simp) h
    · rename_i hl; rw [hl] at hx
      exact fin (by simp [asBoolC]) (by simp) hx (by simp) h
    · rename_i hl; rw [hl] at hx
      split at h
      · rename_i ht
        exact fin (by simp [asBoolC]) (fun _ _ => und_err hok ht) hx (fun h => h) h
      · exact h.elim
    · rename_i hne
      split at h
      · rename_i ht
        exact fin (fun _ _ => und_bool hok ht) (fun e he' => (hne e he').elim) hx (by simp) h
      · exact h.elim
  · rename_i cl hop
    split at h
    case h_2 => exact h.elim
    rename_i x t hcal harg hty
    have hx := ev1_rel he x
    have hop : o.op = .call { callee := .builtin .len, args := #[x], argTypes := #[t] } := by
      obtain ⟨cal, args, tys⟩ := cl
      simp only at hcal harg hty
      have h1 : args = #[x] := Array.toList_inj.1 harg
      have h2 : tys = #[t] := Array.toList_inj.1 hty
      rw [hop, hcal, h1, h2]
    have fin : ∀ {c : C}, ((P.underlying t = some .string ∧ ∃ s, c = .d .str s) ∨ (∃ te, P.underlying t = some (.slice te)) ∧ ∀ s, c ≠ .d .str s) →
        CR cx.eT (sit O st loc w) c (a.eval x) → (lenVC st c fun c => K (.s (.one c))).holds →
        ∃ sv v, (K sv).holds ∧ SVR cx.eT (sit O st loc w) sv v ∧ ∀ w', (execOp a.eval o).run P w' = .ok (.value v) w' := by
      intro c h1 h2 h3
      obtain ⟨c, u, k1, k2, k3⟩ := lenVC_rel (P := P) g h1 h2 h3
      exact ⟨_, u, k1, k2, fun w' => by simp [execOp, hop, resolve, invoke, builtin, k3]⟩
    split at h
    · rename_i ht
      split at h
      · rename_i s hl; rw [hl] at hx
        exact fin (.inl ⟨und_str hok ht, s, rfl⟩) hx h
      · exact h.elim
    · rename_i e ht
      obtain ⟨te, i, d, hu, _⟩ := und_slice hok ht
      split at h
      · exact h.elim
      · rename_i hne
        exact fin (.inr ⟨⟨te, hu⟩, fun s e => hne s e⟩) hx h
    · exact h.elim
  · exact h.elim
end
end Go.Vg
