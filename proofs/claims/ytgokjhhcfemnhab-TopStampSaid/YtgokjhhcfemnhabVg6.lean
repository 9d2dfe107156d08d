/- A part of the proof that the law TopStamp holds of the given program: facts that are used there. -/
import Derived.Test.YtgokjhhcfemnhabVg5
import Derived.Lib.Strings
namespace Go.Vg
open Go.RowKit
section
variable {eT : TypeId} {X : Ext}
def Operand.isC : Operand → Bool
  | .const _ => true
  | _ => false
theorem asBoolC_rel {S : Sit} {c : C} {b : Bool} {v : Value} (h : asBoolC c = some b) (hc : CR eT S c v) : v = .bool b := by
  unfold asBoolC at h
  split at h
  · cases h; exact hc
  · cases h; exact bool_rel.1 hc
  · cases h
theorem isNilErr_rel {S : Sit} {c : C} {v : Value} (h : isNilErr c = true) (hc : CR eT S c v) : v = .nilIface := by
  unfold isNilErr at h
  split at h
  · exact err_rel.1 hc
  · cases h
theorem errR_nil {e : Err} {v : Value} (h : ErrR eT e v) : (e = .nil ∧ v = .nilIface) ∨ (e.isNil = false ∧ ∃ t u, v = .iface t u) := by
  cases e with
  | nil => exact .inl ⟨rfl, h⟩
  | no n => exact .inr ⟨rfl, _, _, h.1⟩
  | other => obtain ⟨t, u, h, _⟩ := h; exact .inr ⟨rfl, t, u, h⟩
theorem eqGuard_plain {P : Program} {op : BinOp} {t : TypeId} {x y : Operand} {a b : Value} (ha : ∀ cs, a ≠ .agg cs) (hn : a ≠ .nilIface ∨ b ≠ .nilIface ∨ Operand.isC y = true) (w : World) :
    (eqGuard op t x y a b).run P w = .ok () w := by
  have key : ∀ o : BinOp, (o = .eql ∨ o = .neq) → (eqGuard o t x y a b).run P w = .ok () w := by
    intro o ho
    rcases ho with rfl | rfl
    all_goals
      unfold eqGuard
      simp only [Bool.not_true, Bool.false_eq_true, if_false]
      split
      · rcases hn with hn | hn | hn
        · exact (hn rfl).elim
        · exact (hn rfl).elim
        · cases y <;> simp [Operand.isC] at hn
          simp
      · rename_i cs _; exact (ha cs rfl).elim
      · simp
  cases op
  case eql => exact key _ (.inl rfl)
  case neq => exact key _ (.inr rfl)
  all_goals simp [eqGuard]
theorem equalIn_bool {P : Program} {t : TypeId} (d : Nat) (hu : P.underlying t = some .bool) (a b : Bool) (w : World) : (Op.equalIn (d + 1) t (.bool a) (.bool b)).run P w = .ok (a == b) w := by
  simp [Op.equalIn, run_underlying hu]
theorem equalIn_nilIface {P : Program} {t : TypeId} {ms : Array (String × TypeId)} (d : Nat) (hu : P.underlying t = some (.interface ms)) (w : World) : (Op.equalIn (d + 1) t .nilIface .nilIface).run P w = .ok true w := by
  simp [Op.equalIn, run_underlying hu]
theorem equalIn_iface_nil {P : Program} {t : TypeId} {ms : Array (String × TypeId)} (d : Nat) (hu : P.underlying t = some (.interface ms)) (t' : TypeId) (u : Value) (w : World) : (Op.equalIn (d + 1) t (.iface t' u) .nilIface).run P w = .ok false w := by
  simp [Op.equalIn, run_underlying hu]
theorem equal_bool {P : Program} {t : TypeId} (hu : P.underlying t = some .bool) (a b : Bool) (w : World) : (Op.equal t (.bool a) (.bool b)).run P w = .ok (a == b) w :=
  equalIn_bool 9999 hu a b w
theorem equal_nilIface {P : Program} {t : TypeId} {ms : Array (String × TypeId)} (hu : P.underlying t = some (.interface ms)) (w : World) : (Op.equal t .nilIface .nilIface).run P w = .ok true w :=
  equalIn_nilIface 9999 hu w
theorem equal_iface_nil {P : Program} {t : TypeId} {ms : Array (String × TypeId)} (hu : P.underlying t = some (.interface ms)) (t' : TypeId) (u : Value) (w : World) : (Op.equal t (.iface t' u) .nilIface).run P w = .ok false w :=
  equalIn_iface_nil 9999 hu t' u w
theorem binVC_rel {S : Sit} {op : BinOp} {x y : C} {ny : Bool} {K : C → VC} {P : Program} {t : TypeId} {xo yo : Operand} {v1 v2 : Value}
    (hb : ∀ b, asBoolC x = some b → P.underlying t = some .bool) (he : ∀ e, x = .d .err e → ∃ ms, P.underlying t = some (.interface ms))
    (hx : CR eT S x v1) (hy : CR eT S y v2) (hny : ny = true → Operand.isC yo = true)
    (h : (binVC op x y ny K).holds) : ∃ c v, (K c).holds ∧ CR eT S c v ∧ ∀ w, (do eqGuard op t xo yo v1 v2; binOp op t v1 v2 : Sem Value).run P w = .ok v w := by
  unfold binVC at h
  split at h
  · rename_i k a k' b
    obtain ⟨rfl, ha⟩ := int_rel.1 hx
    obtain ⟨rfl, hb'⟩ := int_rel.1 hy
    obtain ⟨c, v, h1, h2, h3⟩ := binI_rel (P := P) t ha hb' h
    refine ⟨c, v, h1, h2, fun w => ?_⟩
    rw [Sem.run_bind, eqGuard_plain (by simp) (.inl (by simp))]
    exact h3 w
  · rename_i a b
    obtain ⟨rfl, ha⟩ := str_rel.1 hx
    obtain ⟨rfl, hb'⟩ := str_rel.1 hy
    have hg : ∀ w, (eqGuard op t xo yo (.string ⟨a.toArray⟩) (.string ⟨b.toArray⟩)).run P w = .ok () w := fun w => eqGuard_plain (by simp) (.inl (by simp)) w
    have cmp : ∀ r, cmpS op a b = some r → (K (.d .bool r)).holds →
        ∃ c v, (K c).holds ∧ CR eT S c v ∧ ∀ w, (do eqGuard op t xo yo (.string ⟨a.toArray⟩) (.string ⟨b.toArray⟩); binOp op t (.string ⟨a.toArray⟩) (.string ⟨b.toArray⟩) : Sem Value).run P w = .ok v w := by
      intro r hr h9
      refine ⟨_, _, h9, bool_rel.2 rfl, fun w => ?_⟩
      rw [Sem.run_bind, hg]
      cases op <;> simp only [cmpS, reduceCtorEq, Option.some.injEq] at hr <;> subst hr <;> simp [binOp, Op.stringOp]
    split at h
    · obtain ⟨h1, h2⟩ := h
      refine ⟨_, _, h2, str_rel.2 ⟨rfl, by rw [List.length_append]; exact h1⟩, fun w => ?_⟩
      rw [Sem.run_bind, hg]
      have hs : ¬ ((((⟨a.toArray⟩ : ByteArray).size + (⟨b.toArray⟩ : ByteArray).size : Nat) : Int) > IntKind.i64.max) := by
        show ¬ (((a.length + b.length : Nat) : Int) > IntKind.i64.max)
        have : IntKind.i64.max = 9223372036854775807 := by simp [IntKind.max, IntKind.signed, IntKind.bits]
        rw [this]
        unfold big at h1
        omega
      simp only [Result.andThen_ok, binOp, Op.stringOp, if_neg hs, Sem.run_pure]
      congr 2
    · split at h
      · rename_i r hr; exact cmp r hr h
      · exact h.elim
  · rename_i e
    obtain ⟨ms, hu⟩ := he e rfl
    split at h
    · exact h.elim
    · rename_i hn
      simp only [Bool.and_eq_true] at hn
      have hv2 := isNilErr_rel hn.2 hy
      subst hv2
      have hyo := hny hn.1
      have hg : ∀ w, (eqGuard op t xo yo v1 .nilIface).run P w = .ok () w := fun w => eqGuard_plain
        (by rcases errR_nil (err_rel.1 hx) with ⟨_, rfl⟩ | ⟨_, _, _, rfl⟩ <;> simp) (.inr (.inr hyo)) w
      have heq : ∀ w, (Op.equal t v1 .nilIface).run P w = .ok e.isNil w := by
        intro w
        rcases errR_nil (err_rel.1 hx) with ⟨rfl, rfl⟩ | ⟨h1, t', u, rfl⟩
        · exact equal_nilIface hu w
        · rw [h1]; exact equal_iface_nil hu t' u w
      have hnb : ∀ o, (o = BinOp.eql ∨ o = BinOp.neq) → ∀ w, (binOp o t v1 .nilIface).run P w = .ok (.bool (if o = .eql then e.isNil else !e.isNil)) w := by
        intro o ho w
        have hform : v1 = .nilIface ∨ ∃ t' u, v1 = .iface t' u := by
          rcases errR_nil (err_rel.1 hx) with ⟨_, h⟩ | ⟨_, t', u, h⟩
          · exact .inl h
          · exact .inr ⟨t', u, h⟩
        rcases ho with rfl | rfl <;> rcases hform with rfl | ⟨t', u, rfl⟩ <;> simp [binOp, heq]
      split at h
      · refine ⟨_, _, h, bool_rel.2 rfl, fun w => ?_⟩
        rw [Sem.run_bind, hg]
        simpa using hnb .eql (.inl rfl) w
      · refine ⟨_, _, h, bool_rel.2 rfl, fun w => ?_⟩
        rw [Sem.run_bind, hg]
        simpa using hnb .neq (.inr rfl) w
      · exact h.elim
  · split at h
    · rename_i a b ha hb'
      have hu := hb a ha
      have h1 := asBoolC_rel ha hx
      have h2 := asBoolC_rel hb' hy
      subst h1; subst h2
      have hg : ∀ w, (eqGuard op t xo yo (.bool a) (.bool b)).run P w = .ok () w := fun w => eqGuard_plain (by simp) (.inl (by simp)) w
      have heq : ∀ w, (Op.equal t (.bool a) (.bool b)).run P w = .ok (a == b) w := by
        intro w; exact equal_bool hu a b w
      split at h
      · refine ⟨_, _, h, bool_rel.2 rfl, fun w => ?_⟩
        rw [Sem.run_bind, hg]
        simp [binOp, heq]
      · refine ⟨_, _, h, bool_rel.2 rfl, fun w => ?_⟩
        rw [Sem.run_bind, hg]
        simp [binOp, heq]
      · exact h.elim
    · exact h.elim
theorem unVC_rel {S : Sit} {op : UnOp} {x : C} {K : C → VC} {P : Program} {v1 : Value} (hx : CR eT S x v1) (h : (unVC op x K).holds) :
    ∃ c v, (K c).holds ∧ CR eT S c v ∧ ∀ w, (Op.unary op v1).run P w = .ok v w := by
  unfold unVC at h
  split at h
  · rw [show v1 = _ from hx]
    split at h
    · exact ⟨_, _, h, rfl, fun w => by simp [Op.unary]⟩
    · exact ⟨_, _, h, rfl, fun w => by simp [Op.unary]⟩
  · rw [bool_rel.1 hx]
    exact ⟨_, _, h, bool_rel.2 rfl, fun w => by simp [Op.unary]⟩
  · rename_i k a
    obtain ⟨rfl, ha⟩ := int_rel.1 hx
    have h0 : k.min ≤ 0 ∧ 0 ≤ k.max := by cases k <;> simp [IntKind.min, IntKind.max, IntKind.signed, IntKind.bits]
    obtain ⟨c, h3, h4⟩ := arith_rel (S := S) (eT := eT) h0 ha h
    exact ⟨c, _, h3, h4, fun w => by simp [Op.unary, Op.intArith]⟩
  · exact h.elim
theorem convVC_rel {S : Sit} {dst : Ty} {x : C} {K : C → VC} {P : Program} {v1 : Value} {sT dT : TypeId} {ds dd : TypeDesc}
    (hs : P.underlying sT = some ds) (hd : P.underlying dT = some dd) (hdd : ∀ k, dst = .int k → dd = .int k)
    (hx : CR eT S x v1) (h : (convVC dst x K).holds) :
    ∃ c v, (K c).holds ∧ CR eT S c v ∧ ∀ w, (convert sT dT v1).run P w = .ok v w := by
  unfold convVC at h
  split at h
  · rename_i k' k a
    have := hdd k' rfl
    subst this
    obtain ⟨rfl, ha⟩ := int_rel.1 hx
    have hrun : ∀ w, (convert sT dT (.int k a)).run P w = .ok (.int k' (k'.wrap a)) w := by
      intro w
      cases ds <;> simp [convert, run_underlying hs, run_underlying hd, Conv.intToInt]
    split at h
    · rename_i hk
      simp [subK] at hk
      have : k'.min ≤ a ∧ a ≤ k'.max := ⟨Int.le_trans hk.1 ha.1, Int.le_trans ha.2 hk.2⟩
      exact ⟨_, _, h, int_rel.2 ⟨rfl, this⟩, fun w => by rw [hrun, wrap_id this]⟩
    · exact ⟨_, _, h, int_rel.2 ⟨rfl, wrap_range k' a⟩, fun w => hrun w⟩
  · exact h.elim
end
end Go.Vg
