/- A part of the proof that the law TopStamp holds of the given program: facts that are used there. -/
import Derived.Test.YtgokjhhcfemnhabVg7
namespace Go.Vg
open Go.RowKit
section
variable {X : Ext} {P : Program} {cx : Cx}
theorem bindex {l : List UInt8} {i : Nat} {c : UInt8} (h : l[i]? = some c) : (⟨l.toArray⟩ : ByteArray)[i]? = some c := by
  have hi : i < l.length := by
    rcases Nat.lt_or_ge i l.length with h' | h'
    · exact h'
    · rw [List.getElem?_eq_none h'] at h; cases h
  have hi' : i < (⟨l.toArray⟩ : ByteArray).size := hi
  rw [getElem?_pos _ i hi']
  rw [List.getElem?_eq_getElem hi] at h
  cases h
  rfl
/-- A pointer that is known is no nil. -/
theorem ptr_run {O : Avoid} {st : St} {loc : Nat → Loc} {w : World} {c : C} {v : Value} (g : Good cx.eT X (sit O st loc w)) (hp : ptrC st c = true) (hc : CR cx.eT (sit O st loc w) c v) :
    ∃ a, v = .pointer (some a) := by
  unfold ptrC at hp
  split at hp
  · obtain ⟨b, o, us, h, _⟩ := hc; exact ⟨_, h⟩
  · split at hp
    · rename_i n _ T cs h
      obtain ⟨b, _, h2⟩ := hc.2 T cs h
      exact ⟨_, h2⟩
    · cases hp
  · split at hp
    · rename_i t xs h
      obtain ⟨_, b, vs, T, h1, _⟩ := g.obj _ _ h
      exact ⟨_, (hc.2 _ _ h).trans h1⟩
    · cases hp
  · split at hp
    · rename_i k t x h
      obtain ⟨_, h1⟩ := g.obj _ _ h
      obtain ⟨a, h2⟩ := X.ptr (by simp) h1
      exact ⟨a, (hc.2 _ h rfl).trans h2⟩
    · cases hp
  · cases hp
theorem asIntC_rel {S : Sit} {c : C} {n : Int} {v : Value} (h : asIntC c = some n) (hc : CR cx.eT S c v) : ∃ k, v = .int k n ∧ k.min ≤ n ∧ n ≤ k.max := by
  unfold asIntC at h
  split at h
  · cases h; exact ⟨_, int_rel.1 hc⟩
  · cases h
theorem indexVC_rel {S : Sit} {x i : C} {K : C → VC} {vx vi : Value} {t : TypeId} (hu : P.underlying t = some .string) (hx : CR cx.eT S x vx) (hi : CR cx.eT S i vi)
    (h : (indexVC x i K).holds) : ∃ c u, (K c).holds ∧ CR cx.eT S c u ∧ ∀ w, (Instr.index t vx vi).run P w = .ok u w := by
  unfold indexVC at h
  split at h
  · rename_i s i' hi'
    obtain ⟨rfl, hl⟩ := str_rel.1 hx
    obtain ⟨k, rfl, _⟩ := asIntC_rel hi' hi
    obtain ⟨⟨h0, h1⟩, h2⟩ := h
    have hlt : i'.toNat < s.length := by omega
    have hs : s[i'.toNat]? = some s[i'.toNat] := List.getElem?_eq_getElem hlt
    rw [nthB_eq hs] at h2
    refine ⟨_, _, h2, int_rel.2 ⟨rfl, ?_⟩, fun w => ?_⟩
    · have := s[i'.toNat].toNat_lt
      simp [IntKind.min, IntKind.max, IntKind.signed, IntKind.bits]
      omega
    · simp [Instr.index, asIntOf, run_underlying hu, h0, bindex hs]
  · exact h.elim
theorem binVC_sound {S : Sit} {op : BinOp} {x y : C} {ny : Bool} {K : C → VC} {t : TypeId} {xo yo : Operand} {v1 v2 : Value}
    (hb : ∀ b, asBoolC x = some b → P.underlying t = some .bool) (he : ∀ e, x = .d .err e → ∃ ms, P.underlying t = some (.interface ms))
    (hx : CR cx.eT S x v1) (hy : CR cx.eT S y v2) (hny : ny = true → Operand.isC yo = true)
    (h : (binVC op x y ny K).holds) : ∃ c v, (K c).holds ∧ CR cx.eT S c v ∧ ∀ w, (do eqGuard op t xo yo v1 v2; binOp op t v1 v2 : Sem Value).run P w = .ok v w :=
  binVC_rel hb he hx hy hny h
theorem run_part_one {t : TypeId} {ty : Ty} {i : TypeInfo} {d : TypeDesc} {f : TypeId → Ty → Bool} (h : Fit P t ty i d) (hs : shapeFit f ty d = true) (ho : ty.one = true) {cs : Array Value} {off : Nat} {v : Value} (hv : cs[off]? = some v) (w : World) :
    (part t cs off).run P w = .ok v w := by
  have hagg : (isAgg t).run P w = .ok false w := by
    have : (match d with | .struct _ => true | .array _ _ => true | _ => false) = !ty.one := by
      cases ty <;> cases d <;> first | rfl | exact absurd hs (by simp [shapeFit])
    cases d <;> simp_all [isAgg, run_underlying h.und]
  simp [part, hagg, hv]
theorem run_eqOne {A : Avoid} {w0 : World} {t : TypeId} {ty : Ty} {i : TypeInfo} {d : TypeDesc} {f : TypeId → Ty → Bool} (h : Fit P t ty i d) (hs : shapeFit f ty d = true) {x y : D ty} {r : Bool} (he : eqD ty x y = some r) (ho : ty.one = true)
    {u v : Value} (hx : R cx.eT ty x A w0 [u]) (hy : R cx.eT ty y A w0 [v]) (k : Nat) (w : World) : (Op.equalIn (k + 1) t u v).run P w = .ok r w := by
  cases ty <;> simp only [eqD, Option.some.injEq, reduceCtorEq, Ty.one, Bool.false_eq_true] at he ho
  case bool =>
    cases hx; cases hy; subst he
    have hu : P.underlying t = some .bool := by rw [h.und]; cases d <;> simp [shapeFit] at hs <;> rfl
    exact run_equalIn_bool' w k t x y hu
  case int kk =>
    obtain ⟨hx, _⟩ := hx; obtain ⟨hy, _⟩ := hy; cases hx; cases hy; subst he
    have hu : P.underlying t = some (.int kk) := by rw [h.und]; cases d <;> simp [shapeFit] at hs; subst hs; rfl
    rw [run_equalIn_int w k t kk kk x y hu]
    congr 1
  case str =>
    obtain ⟨hx, _⟩ := hx; obtain ⟨hy, _⟩ := hy; cases hx; cases hy; subst he
    have hu : P.underlying t = some .string := by rw [h.und]; cases d <;> simp [shapeFit] at hs <;> rfl
    rw [run_equalIn_string w k t _ _ hu, toList_mk, toList_mk]
theorem run_eqFields {A : Avoid} {w0 : World} {n k : Nat} {xs ys : Array Value} : ∀ {fs : List Field} {off : Nat} {ty : Ty} {x y : D ty} {r : Bool} {us vs : List Value}, fieldsFit (fits P n) fs off ty = true → (∀ f ∈ fs, (f.name != "_") = true) →
    eqD ty x y = some r → R cx.eT ty x A w0 us → R cx.eT ty y A w0 vs → (∀ (j : Nat) u, us[j]? = some u → xs[off + j]? = some u) → (∀ (j : Nat) u, vs[j]? = some u → ys[off + j]? = some u) →
    ∀ w, (Op.eqFields (k + 1) xs ys fs).run P w = .ok r w := by
  intro fs
  induction fs with
  | nil =>
    intro off ty x y r us vs hf hn he hx hy h1 h2 w
    cases ty <;> simp [fieldsFit] at hf
    simp [eqD] at he
    subst he
    simp [Op.eqFields]
  | cons f fs ih =>
    intro off ty x y r us vs hf hn he hx hy h1 h2 w
    cases ty <;> simp only [fieldsFit, Bool.false_eq_true] at hf
    rename_i a b
    simp only [Bool.and_eq_true] at hf
    obtain ⟨⟨⟨ho, hfa⟩, _⟩, hr⟩ := hf
    have ho := Nat.eq_of_beq_eq_true ho
    obtain ⟨m, i, d, _, hfit, hs⟩ := fits_out hfa
    obtain ⟨u1, u2, rfl, x1, x2⟩ := hx
    obtain ⟨v1, v2, rfl, y1, y2⟩ := hy
    simp only [eqD] at he
    split at he
    · rename_i p q hone hp hq
      cases he
      have hne : (f.name ≠ "_") := by simpa using hn f (by simp)
      have l1 : u1.length = 1 := by rw [x1.length, Ty.size_one hone]
      have l2 : v1.length = 1 := by rw [y1.length, Ty.size_one hone]
      obtain ⟨u, rfl⟩ := List.length_eq_one_iff.1 l1
      obtain ⟨v, rfl⟩ := List.length_eq_one_iff.1 l2
      have hu : xs[f.offset]? = some u := by rw [ho]; exact h1 0 u rfl
      have hv : ys[f.offset]? = some v := by rw [ho]; exact h2 0 v rfl
      simp only [Op.eqFields, if_pos hne, Sem.run_bind, run_part_one hfit hs hone hu, run_part_one hfit hs hone hv, Result.andThen_ok, run_eqOne hfit hs hp hone x1 y1]
      cases p
      · simp
      · simp only [Bool.not_true, Bool.false_eq_true, if_false, Bool.true_and]
        have hsz := Ty.size_one hone
        exact ih hr (fun g hg => hn g (by simp [hg])) hq x2 y2 (fun j u hj => by rw [hsz, Nat.add_assoc]; exact h1 (1 + j) u (by rw [Nat.add_comm]; simpa using hj))
          (fun j u hj => by rw [hsz, Nat.add_assoc]; exact h2 (1 + j) u (by rw [Nat.add_comm]; simpa using hj)) w
    · cases he
theorem structVC_rel (hok : TyOK P cx) {S : Sit} {op : BinOp} {t : TypeId} {a b : Ty} {x y : D (.prod a b)} {K : C → VC} {u v : Value} (ht : look cx.τ t = some (.prod a b)) (hq : memN t cx.eqs = true)
    (hx : VR cx.eT (.prod a b) x S.A S.w u) (hy : VR cx.eT (.prod a b) y S.A S.w v) (h : (structVC op (eqD (.prod a b) x y) K).holds) (xo yo : Operand) :
    ∃ c r, (K c).holds ∧ CR cx.eT S c r ∧ ∀ w, (do eqGuard op t xo yo u v; binOp op t u v : Sem Value).run P w = .ok r w := by
  unfold structVC at h
  split at h
  · rename_i r hr
    unfold VR at hx hy
    simp only [Ty.one, Bool.false_eq_true, if_false] at hx hy
    obtain ⟨xs, rfl, hx⟩ := hx
    obtain ⟨ys, rfl, hy⟩ := hy
    have hb := hok.eqs t hq
    unfold eqOKB at hb
    simp only [Bool.and_eq_true, Bool.not_eq_true'] at hb
    obtain ⟨⟨b1, b2⟩, b3⟩ := hb
    obtain ⟨m, i, d, hfit, hs⟩ := shape_of hok ht
    have hd : ∃ fs, d = .struct fs ∧ fieldsFit (fits P m) fs.toList 0 (.prod a b) = true := by
      cases d <;> simp [shapeFit] at hs
      exact ⟨_, rfl, hs⟩
    obtain ⟨fs, rfl, hff⟩ := hd
    rw [hfit.und] at b3
    have hfo : P.fieldsOf t = fs := by simp [Program.fieldsOf, hfit.und]
    have heq : ∀ w, (Op.equalIn 10000 t (.agg xs) (.agg ys)).run P w = .ok r w := fun w => by
      rw [run_equalIn_agg w 9999 t xs ys (by rw [hfo]; exact hfit.und) b1, hfo]
      exact run_eqFields hff (fun f hf => by simpa using (List.all_eq_true.1 b3) f hf) hr hx hy (fun j u hj => by rw [Nat.zero_add]; simpa using hj) (fun j u hj => by rw [Nat.zero_add]; simpa using hj) w
    split at h
    · exact ⟨_, _, h, bool_rel.2 rfl, fun w => by simp only [Sem.run_bind, run_eqGuard_agg w _ t xo yo xs ys b2, Result.andThen_ok, run_eql_struct, heq]⟩
    · exact ⟨_, _, h, bool_rel.2 rfl, fun w => by simp only [Sem.run_bind, run_eqGuard_agg w _ t xo yo xs ys b2, Result.andThen_ok, run_neq_struct, heq]⟩
    · exact h.elim
  · exact h.elim
theorem run_eql_ptr (w : World) (t : TypeId) (a b : Option Addr) : (binOp .eql t (.pointer a) (.pointer b)).run P w = ((Op.equalIn 10000 t (.pointer a) (.pointer b)).run P w).andThen fun b w' => .ok (.bool b) w' := by
  simp only [binOp]
  simp [Op.equal, Op.maxDepth]
theorem run_neq_ptr (w : World) (t : TypeId) (a b : Option Addr) : (binOp .neq t (.pointer a) (.pointer b)).run P w = ((Op.equalIn 10000 t (.pointer a) (.pointer b)).run P w).andThen fun b w' => .ok (.bool (!b)) w' := by
  simp only [binOp]
  simp [Op.equal, Op.maxDepth]
theorem run_equal_nil {t e : TypeId} (hu : P.underlying t = some (.pointer e)) (d : Nat) (a : Option Addr) (w : World) : (Op.equalIn (d + 1) t (.pointer a) (.pointer none)).run P w = .ok a.isNone w := by
  cases a <;> simp [Op.equalIn, run_underlying hu]
theorem run_guard_ptr (w : World) (op : BinOp) (t : TypeId) (x y : Operand) (a b : Option Addr) : (eqGuard op t x y (.pointer a) (.pointer b)).run P w = .ok () w := by
  cases op <;> simp [eqGuard]
theorem nilVC_rel (hok : TyOK P cx) {O : Avoid} {st : St} {loc : Nat → Loc} {w0 : World} (g : Good cx.eT X (sit O st loc w0)) {op : BinOp} {t : TypeId} {x y : C} {K : C → VC} {u v : Value} (hq : memN t cx.ptrs = true)
    (hx : CR cx.eT (sit O st loc w0) x u) (hy : CR cx.eT (sit O st loc w0) y v) (h : (nilVC st op x y K).holds) (xo yo : Operand) :
    ∃ c r, (K c).holds ∧ CR cx.eT (sit O st loc w0) c r ∧ ∀ w, (do eqGuard op t xo yo u v; binOp op t u v : Sem Value).run P w = .ok r w := by
  have hb := hok.ptrs t hq
  unfold ptrOKB at hb
  have hu : ∃ e, P.underlying t = some (.pointer e) := by
    split at hb
    · exact ⟨_, by assumption⟩
    · cases hb
  obtain ⟨e, hu⟩ := hu
  unfold nilVC at h
  split at h
  · have hv : v = .pointer none := hy
    subst hv
    split at h
    · have hu' : u = .pointer none := hx
      subst hu'
      split at h
      · exact ⟨_, .bool true, h, rfl, fun w => by simp only [Sem.run_bind, run_guard_ptr, Result.andThen_ok, run_eql_ptr, run_neq_ptr, run_equal_nil hu 9999]; rfl⟩
      · exact ⟨_, .bool false, h, rfl, fun w => by simp only [Sem.run_bind, run_guard_ptr, Result.andThen_ok, run_eql_ptr, run_neq_ptr, run_equal_nil hu 9999]; rfl⟩
      · exact h.elim
    · split at h
      · rename_i hp
        obtain ⟨a, rfl⟩ := ptr_run g hp hx
        split at h
        · exact ⟨_, .bool false, h, rfl, fun w => by simp only [Sem.run_bind, run_guard_ptr, Result.andThen_ok, run_eql_ptr, run_neq_ptr, run_equal_nil hu 9999]; rfl⟩
        · exact ⟨_, .bool true, h, rfl, fun w => by simp only [Sem.run_bind, run_guard_ptr, Result.andThen_ok, run_eql_ptr, run_neq_ptr, run_equal_nil hu 9999]; rfl⟩
        · exact h.elim
      · exact h.elim
  · exact h.elim
theorem sliceLen_rel {O : Avoid} {st : St} {loc : Nat → Loc} {w0 : World} (g : Good cx.eT X (sit O st loc w0)) {x : C} {n : Nat} {u : Value} (h : sliceLen st x = some n) (hx : CR cx.eT (sit O st loc w0) x u) :
    ∃ a c, u = .slice a n c ∧ (0 < n → a.isNone = false) := by
  have dat : ∀ {t : Ty} {xs : List (D t)}, VR cx.eT (.slice t) xs (sit O st loc w0).A (sit O st loc w0).w u → ∃ a c, u = .slice a xs.length c ∧ (0 < xs.length → a.isNone = false) := by
    intro t xs hv
    obtain ⟨v, hv', hl, hr⟩ := VR.one rfl hv
    simp at hv'; subst hv'
    rcases hr with ⟨rfl, a, c, rfl⟩ | ⟨b, o, cap, rfl, _⟩
    · exact ⟨a, c, rfl, fun h => by simp at h⟩
    · exact ⟨_, _, rfl, fun _ => rfl⟩
  unfold sliceLen at h
  split at h
  · cases h; exact dat hx
  · cases h; exact dat hx.1
  · split at h
    · rename_i t xs hob
      cases h
      rcases (g.obj _ _ hob).2 with ⟨rfl, ⟨a, ha⟩, _⟩ | ⟨b, vs, T, cap, h1, _⟩
      · exact ⟨a, 0, (hx.2 _ _ hob).trans ha, fun h => by simp at h⟩
      · exact ⟨_, _, (hx.2 _ _ hob).trans h1, fun _ => rfl⟩
    · cases h
  · cases h
    obtain ⟨a, rfl⟩ := hx
    exact ⟨a, 0, rfl, fun h => by omega⟩
  · cases h
theorem run_eql_sl (w : World) (t : TypeId) (a b : Option Addr) (l c l' c' : Nat) : (binOp .eql t (.slice a l c) (.slice b l' c')).run P w = ((Op.equalIn 10000 t (.slice a l c) (.slice b l' c')).run P w).andThen fun b w' => .ok (.bool b) w' := by
  simp only [binOp]
  simp [Op.equal, Op.maxDepth]
theorem run_neq_sl (w : World) (t : TypeId) (a b : Option Addr) (l c l' c' : Nat) : (binOp .neq t (.slice a l c) (.slice b l' c')).run P w = ((Op.equalIn 10000 t (.slice a l c) (.slice b l' c')).run P w).andThen fun b w' => .ok (.bool (!b)) w' := by
  simp only [binOp]
  simp [Op.equal, Op.maxDepth]
theorem run_equal_nilsl {t e : TypeId} (hu : P.underlying t = some (.slice e)) (d : Nat) (a : Option Addr) (l c : Nat) (w : World) : (Op.equalIn (d + 1) t (.slice a l c) (.slice none 0 0)).run P w = .ok a.isNone w := by
  cases a <;> simp [Op.equalIn, run_underlying hu]
theorem run_guard_sl (w : World) (op : BinOp) (t : TypeId) (x y : Operand) (a b : Option Addr) (l c l' c' : Nat) : (eqGuard op t x y (.slice a l c) (.slice b l' c')).run P w = .ok () w := by
  cases op <;> simp [eqGuard]
theorem nilSlVC_rel {O : Avoid} {st : St} {loc : Nat → Loc} {w0 : World} (g : Good cx.eT X (sit O st loc w0)) {op : BinOp} {t te : TypeId} {x y : C} {K : C → VC} {u v : Value} (hu : P.underlying t = some (.slice te))
    (hx : CR cx.eT (sit O st loc w0) x u) (hy : CR cx.eT (sit O st loc w0) y v) (h : (nilSlVC st op x y K).holds) (xo yo : Operand) :
    ∃ c r, (K c).holds ∧ CR cx.eT (sit O st loc w0) c r ∧ ∀ w, (do eqGuard op t xo yo u v; binOp op t u v : Sem Value).run P w = .ok r w := by
  unfold nilSlVC at h
  split at h
  · have hv : v = .slice none 0 0 := hy
    subst hv
    split at h
    · have hu' : u = .slice none 0 0 := hx
      subst hu'
      split at h
      · exact ⟨_, .bool true, h, rfl, fun w => by simp only [Sem.run_bind, run_guard_sl, Result.andThen_ok, run_eql_sl, run_equal_nilsl hu 9999]; rfl⟩
      · exact ⟨_, .bool false, h, rfl, fun w => by simp only [Sem.run_bind, run_guard_sl, Result.andThen_ok, run_neq_sl, run_equal_nilsl hu 9999]; rfl⟩
      · exact h.elim
    · split at h
      · rename_i n hn
        obtain ⟨a, c, rfl, hz⟩ := sliceLen_rel g hn hx
        split at h
        · exact ⟨_, .bool a.isNone, h a.isNone hz, bool_rel.2 rfl, fun w => by simp only [Sem.run_bind, run_guard_sl, Result.andThen_ok, run_eql_sl, run_equal_nilsl hu 9999]⟩
        · exact ⟨_, .bool (!a.isNone), h a.isNone hz, bool_rel.2 rfl, fun w => by simp only [Sem.run_bind, run_guard_sl, Result.andThen_ok, run_neq_sl, run_equal_nilsl hu 9999]⟩
        · exact h.elim
      · exact h.elim
  · exact h.elim
/-- What 'pureVC' says of an operation is so, in every world. -/
theorem pureVC_sound (hok : TyOK P cx) {O : Avoid} {st : St} {loc : Nat → Loc} {w : World} {a : Act} (g : Good cx.eT X (sit O st loc w)) (he : EnvR cx.eT (sit O st loc w) st.env a)
    {o : Oper} {K : SV → VC} (h : (pureVC cx st o.op K).holds) :
    ∃ sv v, (K sv).holds ∧ SVR cx.eT (sit O st loc w) sv v ∧ ∀ w', (execOp a.eval o).run P w' = .ok (.value v) w' := by
  have one : ∀ {s : Sem Value} {K : SV → VC}, (∃ c u, (K (.s (.one c))).holds ∧ CR cx.eT (sit O st loc w) c u ∧ ∀ w', s.run P w' = .ok u w') →
      ∃ sv v, (K sv).holds ∧ SVR cx.eT (sit O st loc w) sv v ∧ ∀ w', (do pure (.value (← s)) : Sem Next).run P w' = .ok (.value v) w' := by
    rintro s K ⟨c, u, h1, h2, h3⟩
    exact ⟨_, u, h1, h2, fun w' => by simp [h3]⟩
  unfold pureVC at h
  simp only at h
  split at h
  · rename_i c x y hop
    have hc := ev1_rel he c
    have hgo : ∀ b, a.eval c = .bool b → ∀ w', (execOp a.eval o).run P w' = .ok (.value (if b then a.eval x else a.eval y)) w' := by
      intro b hb w'; simp [execOp, hop, hb, asBool]
    split at h
    · rename_i hl; rw [hl] at hc
      exact ⟨_, _, h, ev_rel he x, fun w' => by rw [hgo true hc]; simp⟩
    · rename_i hl; rw [hl] at hc
      exact ⟨_, _, h, ev_rel he y, fun w' => by rw [hgo false hc]; simp⟩
    · rename_i b hl; rw [hl] at hc
      have hc := bool_rel.1 hc
      cases b
      · exact ⟨_, _, h.2 rfl, ev_rel he y, fun w' => by rw [hgo false hc]; simp⟩
      · exact ⟨_, _, h.1 rfl, ev_rel he x, fun w' => by rw [hgo true hc]; simp⟩
    · exact h.elim
  · rename_i op t x hop
    have := one (unVC_rel (P := P) (ev1_rel he x) h)
    simpa [execOp, hop] using this
  · rename_i s t x hop
    split at h
    · rename_i ts td hs hd
      obtain ⟨m, i, d, hf, _⟩ := shape_of hok hs
      obtain ⟨m', i', d', hf', hs'⟩ := shape_of hok hd
      have := one (convVC_rel (P := P) hf.und hf'.und (fun k e => by subst e; cases d' <;> simp [shapeFit] at hs'; rw [hs']) (ev1_rel he x) h)
      simpa [execOp, hop] using this
    · exact h.elim
  · rename_i t i hop
    have ht := ev_rel he t
    split at h
    · rename_i vs hl
      rw [hl] at ht
      obtain ⟨us, hus, hr⟩ := ht
      split at h
      · rename_i v hv
        obtain ⟨u, hu, hru⟩ := hr.get hv
        exact ⟨_, u, h, hru, fun w' => by simp [execOp, hop, hus, Instr.extract, hu]⟩
      · exact h.elim
    · exact h.elim
  · rename_i x hop
    have hx := ev1_rel he x
    split at h
    · rename_i hp
      obtain ⟨p, hp'⟩ := ptr_run g hp hx
      exact ⟨_, _, h, hx, fun w' => by simp [execOp, hop, hp']⟩
    · exact h.elim
  · rename_i t x hop
    have hx := ev1_rel he x
    split at h
    · rename_i n ht hl
      rw [hl] at hx
      obtain ⟨hv, hrn⟩ := int_rel.1 hx
      have ht := Nat.eq_of_beq_eq_true ht
      refine ⟨_, .iface cx.eT (.int .i64 n), h, (err_rel (S := sit O st loc w) (e := .no n)).2 ⟨rfl, hrn⟩, fun w' => ?_⟩
      simp [execOp, hop, hv, Instr.makeInterface, ht, run_underlying hok.errno]
    · exact h.elim
  · rename_i x xt t hop
    have hx := ev1_rel he x
    split at h
    · rename_i e ht hl
      rw [hl] at hx
      have hx := err_rel.1 hx
      have ht := Nat.eq_of_beq_eq_true ht
      subst ht
      obtain ⟨i, hi, hz⟩ := hok.errnoZero
      have hzv : ∀ w', (zeroValue cx.eT).run P w' = .ok (.int .i64 0) w' := fun w' => by simp [zeroValue, typeInfo, hi, hz]
      have hnum : ∀ n : Int, n = 0 → (IntKind.i64.min ≤ n ∧ n ≤ IntKind.i64.max) := fun n hn => by subst hn; rw [I64_iff]; simp [I64]
      cases e with
      | nil =>
        refine ⟨_, .tuple #[.int .i64 0, .bool false], h, ⟨[.int .i64 0, .bool false], rfl, .cons (int_rel.2 ⟨rfl, hnum 0 rfl⟩) (.cons (bool_rel.2 rfl) .nil)⟩, fun w' => ?_⟩
        simp [execOp, hop, show a.eval x = _ from hx, Instr.typeAssert, run_underlying hok.errno, hzv]
      | no n =>
        obtain ⟨hx, r1, r2⟩ := hx
        refine ⟨_, .tuple #[.int .i64 n, .bool true], h, ⟨[.int .i64 n, .bool true], rfl, .cons (int_rel.2 ⟨rfl, r1, r2⟩) (.cons (bool_rel.2 rfl) .nil)⟩, fun w' => ?_⟩
        simp [execOp, hop, show a.eval x = _ from hx, Instr.typeAssert, run_underlying hok.errno]
      | other =>
        obtain ⟨t', u, hv, hne⟩ := hx
        refine ⟨_, .tuple #[.int .i64 0, .bool false], h, ⟨[.int .i64 0, .bool false], rfl, .cons (int_rel.2 ⟨rfl, hnum 0 rfl⟩) (.cons (bool_rel.2 rfl) .nil)⟩, fun w' => ?_⟩
        simp [execOp, hop, hv, Instr.typeAssert, run_underlying hok.errno, hzv, hne]
    · exact h.elim
  · rename_i t x i hop
    split at h
    · rename_i ht
      have := one (indexVC_rel (P := P) (und_str hok ht) (ev1_rel he x) (ev1_rel he i) h)
      simpa [execOp, hop] using this
    · exact h.elim
  · rename_i op t x y ty' hop
    have hx := ev1_rel he x
    have hy := ev1_rel he y
    have fin : ∀ {c : C} {ny : Bool}, (∀ b, asBoolC c = some b → P.underlying t = some .bool) → (∀ e, c = .d .err e → ∃ ms, P.underlying t = some (.interface ms)) →
        CR cx.eT (sit O st loc w) c (a.eval x) → (ny = true → Operand.isC y = true) → (binVC op c (ev1 st.env y) ny fun c => K (.s (.one c))).holds →
        ∃ sv v, (K sv).holds ∧ SVR cx.eT (sit O st loc w) sv v ∧ ∀ w', (execOp a.eval o).run P w' = .ok (.value v) w' := by
      intro c ny h1 h2 h3 h4 h5
      have := one (binVC_rel (P := P) (xo := x) (yo := y) h1 h2 h3 hy h4 h5)
      simpa [execOp, hop] using this
    split at h
    · rename_i k a0 hl; rw [hl] at hx
      split at h
      · rename_i b hb
        unfold addW at hb
        split at hb
        · rename_i k' b' _ hy'
          split at hb
          · rename_i hkk
            cases hb
            have hkk : k = k' := by simpa using hkk
            subst hkk
            rw [hy'] at hy
            obtain ⟨e1, _⟩ := int_rel.1 hx
            obtain ⟨e2, _⟩ := int_rel.1 hy
            have hI : CR cx.eT (sit O st loc w) (.d (.int k) (k.wrap (a0 + b))) (.int k (k.wrap (a0 + b))) := int_rel.2 ⟨rfl, wrap_range k _⟩
            refine ⟨.s (.one (.d (.int k) (k.wrap (a0 + b)))), .int k (k.wrap (a0 + b)), nameI_holds h, hI, fun w' => ?_⟩
            simp [execOp, hop, e1, e2, eqGuard, binOp, Op.intArith]
          · cases hb
        · cases hb
      · exact fin (by simp [asBoolC]) (by simp) hx (by simp) h
    · rename_i hl; rw [hl] at hx
      exact fin (by simp [asBoolC]) (by simp) hx (by simp) h
    · rename_i hl; rw [hl] at hx
      split at h
      · rename_i ht
        exact fin (by simp [asBoolC]) (fun _ _ => und_err hok ht) hx (fun h => h) h
      · exact h.elim
    · rename_i hne
      split at h
      · rename_i ht
        exact fin (fun _ _ => und_bool hok ht) (fun e he' => (hne e he').elim) hx (by simp) h
      · rename_i u v ht
        split at h
        · rename_i p q hm hp hq
          have := one (structVC_rel (P := P) hok ht hm (asD0_rel hp (ev0_rel he x)) (asD0_rel hq (ev0_rel he y)) h x y)
          simpa [execOp, hop] using this
        · exact h.elim
      · rename_i e ht
        obtain ⟨te, _, _, hu, _⟩ := und_slice hok ht
        have := one (nilSlVC_rel (P := P) g hu hx hy h x y)
        simpa [execOp, hop] using this
      · split at h
        · rename_i hm
          have := one (nilVC_rel (P := P) hok g hm hx hy h x y)
          simpa [execOp, hop] using this
        · exact h.elim
  · rename_i cl hop
    split at h
    case h_2 => exact h.elim
    rename_i x t hcal harg hty
    have hx := ev1_rel he x
    have hop : o.op = .call { callee := .builtin .len, args := #[x], argTypes := #[t] } := by
      obtain ⟨cal, args, tys⟩ := cl
      simp only at hcal harg hty
      have h1 : args = #[x] := Array.toList_inj.1 harg
      have h2 : tys = #[t] := Array.toList_inj.1 hty
      rw [hop, hcal, h1, h2]
    have fin : ∀ {c : C}, ((P.underlying t = some .string ∧ ∃ s, c = .d .str s) ∨ (∃ te, P.underlying t = some (.slice te)) ∧ ∀ s, c ≠ .d .str s) →
        CR cx.eT (sit O st loc w) c (a.eval x) → (lenVC st c fun c => K (.s (.one c))).holds →
        ∃ sv v, (K sv).holds ∧ SVR cx.eT (sit O st loc w) sv v ∧ ∀ w', (execOp a.eval o).run P w' = .ok (.value v) w' := by
      intro c h1 h2 h3
      obtain ⟨c, u, k1, k2, k3⟩ := lenVC_rel (P := P) g h1 h2 h3
      exact ⟨_, u, k1, k2, fun w' => by simp [execOp, hop, resolve, invoke, builtin, k3]⟩
    split at h
    · rename_i ht
      split at h
      · rename_i s hl; rw [hl] at hx
        exact fin (.inl ⟨und_str hok ht, s, rfl⟩) hx h
      · exact h.elim
    · rename_i e ht
      obtain ⟨te, i, d, hu, _⟩ := und_slice hok ht
      split at h
      · exact h.elim
      · rename_i hne
        exact fin (.inr ⟨⟨te, hu⟩, fun s e => hne s e⟩) hx h
    · exact h.elim
  · exact h.elim
end
end Go.Vg
