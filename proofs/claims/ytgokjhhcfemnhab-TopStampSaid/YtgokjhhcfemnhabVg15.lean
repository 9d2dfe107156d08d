/- A part of the proof that the law TopStamp holds of the given program: facts that are used there. -/
import Derived.Test.YtgokjhhcfemnhabVgN
import Derived.Laws.BytesString
namespace Go.Vg
open Go.RowKit
def minI (a b : Int) : Int := if b < a then b else a
def maxI (a b : Int) : Int := if b > a then b else a
def mmVC (mx : Bool) (x y : C) (K : C → VC) : VC :=
  match x, y with
  | .d (.int k) a, .d (.int k') b => match decide (k = k'), mx with
    | true, true => K (.d (.int k) (maxI a b))
    | true, false => K (.d (.int k) (minI a b))
    | _, _ => .ff
  | _, _ => .ff
def capNames (st : St) (env : List (Nat × SV)) : List Operand → Option (List Nat)
  | [] => some []
  | x :: xs => match ev1 env x, capNames st env xs with
    | .ref n 0, some ns => match look st.objs n with
      | some (.cells _ _) => some (n :: ns)
      | _ => none
    | _, _ => none
def callVC (cx : Cx) (st : St) (f : C) (args : List SV0) (K : SV → St → VC) : VC :=
  match f with
  | .fn k caps => match look cx.Γ k with
    | some (_, sp) => sp (args ++ caps.map fun n => .one (.ref n 0)) st K
    | none => .ff
  | _ => .ff
def hinted (cx : Cx) (d : Option Tmp) : Bool :=
  match d with
  | some d => memN d cx.hint
  | none => false
def callOpVC (cx : Cx) (st : St) (o : Oper) (c : Call) (K : SV → St → VC) : VC :=
  match c.callee with
  | .value f => callVC cx st (ev1 st.env f) (c.args.toList.map fun x => ev0 st.env x) K
  | .builtin .append => match c.args.toList, c.argTypes.toList with
    | [s, x], [t, t'] => match Nat.beq t t' with
      | true => match ev1 st.env s, ev1 st.env x with
        | .xd n .top, .xd m .top => deepApp cx st t n m K
        | .mrow n, x => match hinted cx o.dst with
          | true => rowAppVC cx st t n x K
          | false => appendVC cx false st t (.mrow n) x K
        | s, x => appendVC cx (hinted cx o.dst) st t s x K
      | false => .ff
    | _, _ => .ff
  | .builtin .copy => match c.args.toList, c.argTypes.toList with
    | [d, s], [t, _] => copyVC cx st t (ev1 st.env d) (ev1 st.env s) K
    | _, _ => .ff
  | .builtin .max => match c.args.toList with
    | [x, y] => mmVC true (ev1 st.env x) (ev1 st.env y) fun c => K (.s (.one c)) st
    | _ => .ff
  | .builtin .min => match c.args.toList with
    | [x, y] => mmVC false (ev1 st.env x) (ev1 st.env y) fun c => K (.s (.one c)) st
    | _ => .ff
  | _ => readVC cx st o.op fun sv => K sv st
def bytesOf (ys : List Int) : List UInt8 := ys.map fun n => UInt8.ofNat n.toNat
/-- Bytes as a string. -/
def bytesStrVC (st : St) (x : C) (K : C → VC) : VC :=
  match srcD st (.int .u8) x with
  | some ys => .and (ys.length ≤ big) (K (.d .str (bytesOf ys)))
  | none => .ff
def convOpVC (cx : Cx) (st : St) (o : Oper) (s t : TypeId) (x : Operand) (K : SV → St → VC) : VC :=
  match look cx.τ s, look cx.τ t with
  | some (.slice (.int .u8)), some .str => bytesStrVC st (ev1 st.env x) fun c => K (.s (.one c)) st
  | _, some (.int _) => readVC cx st o.op fun sv => K sv st
  | _, _ => .ff
def isRow : C → Bool
  | .mrow _ => true
  | _ => false
/-- The one part of a list, if it has a row of its own. -/
def ownPart (st : St) (n : Nat) (ps : List (Nat × Operand)) : Option SV0 :=
  match n, ps with
  | 1, [(0, x)] => match ev0 st.env x with
    | .one (.mrow m) => some (.one (.mrow m))
    | .agg cs => match cs.any isRow with
      | true => some (.agg cs)
      | false => none
    | _ => none
  | _, _ => none
def asgVC (cx : Cx) (st : St) (o : Oper) (x : Operand) (K : SV → St → VC) : VC :=
  match hinted cx o.dst, ev st.env x with
  | true, .s (.one .nilS) => rowNilVC cx st x o.type K
  | _, _ => movVC cx st x o.type K
def buildSlVC (cx : Cx) (st : St) (t : TypeId) (n : Nat) (ps : List (Nat × Operand)) (K : SV → St → VC) : VC :=
  match ownPart st n ps with
  | some v => deepBuild cx st t v K
  | none => buildSliceVC cx st t n ps fun c => K (.s (.one c)) st
def stVC (cx : Cx) (st : St) (t : TypeId) (x : C) (v : SV0) (K : SV → St → VC) : VC :=
  match x with
  | .xd n (.cell i j) => match look cx.τ t with
    | some ty => deepStore st n i j ty v K
    | none => .ff
  | x => storeVC cx st t x v K
def opVC0 (cx : Cx) (st : St) (o : Oper) (K : SV → St → VC) : VC :=
  match o.op with
  | .convert s t x => convOpVC cx st o s t x K
  | .move x => movVC cx st x o.type K
  | .assign x => asgVC cx st o x K
  | .alloc t => allocVC cx st t K
  | .box t x => boxVC cx st t (ev0 st.env x) K
  | .build t ps => buildVC cx st t ps.toList fun sv => K sv st
  | .buildSlice t n ps => buildSlVC cx st t n ps.toList K
  | .makeSlice t l c => makeSliceVC cx st t (ev1 st.env l) (ev1 st.env c) K
  | .store t x v => stVC cx st t (ev1 st.env x) (ev0 st.env v) K
  | .makeFunc fn first caps => match fn, first.toList, capNames st st.env caps.toList with
    | .func f, [], some ns => K (.s (.one (.fn f ns))) st
    | _, _, _ => .ff
  | .call c => callOpVC cx st o c K
  | op => readVC cx st op fun sv => K sv st
def opVC (cx : Cx) (st : St) (o : Oper) (K : SV → St → VC) : VC :=
  match mapVC cx st o K with
  | some vc => vc
  | none => opVC0 cx st o K
/-- 0: it hangs on its operands alone; 1: it reads; 2: it makes memory; 3: it may write. -/
def kindOf (cx : Cx) (o : Oper) : Nat :=
  match o.op with
  | .move _ | .assign _ => 0
  | .convert _ t _ => match look cx.τ t with
    | some (.int _) => 0
    | _ => 3
  | .pick _ _ _ | .unOp _ _ _ | .extract _ _ | .binOp _ _ _ _ _ | .makeInterface _ _ | .typeAssert _ _ _ _ | .index _ _ _ | .build _ _ | .nilCheck _ | .indexAddr _ _ _ | .fieldAddr _ _ _ | .slice _ _ _ _ _ | .makeFunc _ _ _ => 0
  | .load _ _ => 1
  | .alloc _ | .box _ _ | .buildSlice _ _ _ | .makeSlice _ _ _ => 2
  | .call c => match c.callee with
    | .builtin .len => match c.argTypes.toList with
      | [t] => match look cx.mps t with
        | some _ => 3
        | none => 0
      | _ => 0
    | .builtin .max => 0
    | .builtin .min => 0
    | .value (.func f) => match look cx.Γ f with
      | some (true, _) => 2
      | _ => 3
    | _ => 3
  | _ => 3
section
variable {X : Ext} {P : Program} {cx : Cx}
def After (cx : Cx) (X : Ext) (O : Avoid) (K : SV → St → VC) (st : St) (S : Sit) (loud : Bool) (a : Act) (dst : Option Tmp) : Act → World → Prop :=
  fun a' w' => ∃ v sv st' loc', a' = a.put dst v ∧ (K sv st').holds ∧ st'.env = st.env ∧ (loud = false → Below S.w.heap.size S.w w') ∧ Good cx.eT X (sit O st' loc' w') ∧ Tr S (sit O st' loc' w') ∧ SVR cx.eT (sit O st' loc' w') sv v
/-- What a contract says of a call. -/
structure CallOK (P : Program) (eT : TypeId) (X : Ext) (f : FuncId) (quiet : Bool) (sp : CSpec) : Prop where
  fn : ∃ fn, P.funcs[f]? = some fn ∧ fn.body.isNone = false ∧ (fn.name == "runtime.NumGoroutine") = false
  ok : ∀ O st loc w args vs K, (sp args st K).holds → Good eT X (sit O st loc w) → OIn O w → SV0Rs eT (sit O st loc w) args vs →
    Calls P f vs.toArray w fun e w' => ∃ v sv st' loc', e = .returned v ∧ (K sv st').holds ∧ st'.env = st.env ∧ (quiet = true → Below w.heap.size w w') ∧ Good eT X (sit O st' loc' w') ∧
      Tr (sit O st loc w) (sit O st' loc' w') ∧ SVR eT (sit O st' loc' w') sv v
structure CxOK (P : Program) (cx : Cx) (X : Ext) : Prop extends TyOK P cx where
  calls : ∀ f q sp, look cx.Γ f = some (q, sp) → CallOK P cx.eT X f q sp
variable {Q : Exit → Act → World → Prop}
theorem wp_value {o : Oper} {a : Act} {w w' : World} {v : Value} {Kw : Act → World → Prop} (h : (execOp a.eval o).run P w = .ok (.value v) w') (hk : Kw (a.put o.dst v) w') : o.wp P a w Kw Q := by
  unfold Oper.wp; rw [h]; exact hk
theorem run_callFunc {f : FuncId} {fn : Func} (hfn : P.funcs[f]? = some fn) (hbody : fn.body.isNone = false) (hname : (fn.name == "runtime.NumGoroutine") = false) (args : Array Value) (w : World) :
    (callFunc f args).run P w = .ok (.enter f args) w := by
  unfold callFunc
  simp only [Sem.run_bind, run_program, Result.andThen_ok, hfn, hname, hbody, Bool.false_eq_true, if_false, Sem.run_pure]
theorem capNames_rel {O : Avoid} {st : St} {loc : Nat → Loc} {w : World} {a : Act} (he : EnvR cx.eT (sit O st loc w) st.env a) : ∀ {xs : List Operand} {ns : List Nat}, capNames st st.env xs = some ns →
    xs.map a.eval = ns.map (fun n => (loc n).v) ∧ ∀ n ∈ ns, n < st.next ∧ (sit O st loc w).fixed n := by
  intro xs
  induction xs with
  | nil => intro ns h; simp [capNames] at h; subst h; simp
  | cons x xs ih =>
    intro ns h
    simp only [capNames] at h
    split at h
    · rename_i n ns' hx hxs
      split at h
      · rename_i T cs hob
        cases h
        obtain ⟨k1, k2⟩ := ih hxs
        have hr := ev1_rel he x
        rw [hx] at hr
        obtain ⟨b, h1, h2⟩ := hr.2 _ _ hob
        refine ⟨by simp only [List.map_cons, k1]; congr 1; rw [h2]; exact h1.symm, fun m hm => ?_⟩
        rcases List.mem_cons.1 hm with rfl | hm
        · exact ⟨hr.1, fun t ys e => by simp only [sit] at e; rw [hob] at e; cases e⟩
        · exact k2 m hm
      · cases h
    · cases h
theorem SV0Rs.append {eT : TypeId} {S : Sit} {xs ys : List SV0} {us vs : List Value} (h : SV0Rs eT S xs us) (h' : SV0Rs eT S ys vs) : SV0Rs eT S (xs ++ ys) (us ++ vs) := by
  induction h with
  | nil => exact h'
  | cons h1 _ ih => exact .cons h1 ih
theorem caps_rel {O : Avoid} {st : St} {loc : Nat → Loc} {w : World} (g : Good cx.eT X (sit O st loc w)) : ∀ {ns : List Nat}, (∀ n ∈ ns, n < st.next) → SV0Rs cx.eT (sit O st loc w) (ns.map fun n => .one (.ref n 0)) (ns.map fun n => (loc n).v) := by
  intro ns
  induction ns with
  | nil => intro _; exact .nil
  | cons n ns ih =>
    intro h
    refine .cons ⟨h n (by simp), fun T cs hob => ?_⟩ (ih fun m hm => h m (by simp [hm]))
    obtain ⟨_, b, vs, hl, _⟩ := g.obj _ _ hob
    exact ⟨b, hl, hl⟩
theorem args_rel {S : Sit} {env : List (Nat × SV)} {a : Act} (he : EnvR cx.eT S env a) : ∀ (xs : List Operand), SV0Rs cx.eT S (xs.map fun x => ev0 env x) (xs.map a.eval)
  | [] => .nil
  | x :: xs => .cons (ev0_rel he x) (args_rel he xs)
theorem mmVC_rel {S : Sit} {mx : Bool} {x y : C} {K : C → VC} {v1 v2 : Value} (hx : CR cx.eT S x v1) (hy : CR cx.eT S y v2) (h : (mmVC mx x y K).holds) :
    ∃ c v, (K c).holds ∧ CR cx.eT S c v ∧ ∀ w, (if mx then Builtin.max2 v1 v2 else Builtin.min2 v1 v2).run P w = .ok v w := by
  unfold mmVC at h
  split at h
  · rename_i k a k' b
    obtain ⟨rfl, ha⟩ := int_rel.1 hx
    obtain ⟨rfl, hb⟩ := int_rel.1 hy
    split at h
    · rename_i hk
      simp at hk
      subst hk
      refine ⟨_, _, h, int_rel.2 ⟨rfl, ?_⟩, fun w => by simp [Builtin.max2, maxI]⟩
      unfold maxI; split <;> assumption
    · rename_i hk
      simp at hk
      subst hk
      refine ⟨_, _, h, int_rel.2 ⟨rfl, ?_⟩, fun w => by simp [Builtin.min2, minI]⟩
      unfold minI; split <;> assumption
    · exact h.elim
  · exact h.elim
/-- Every operation does what 'opVC' says. -/
theorem foldl_push (ns : List Int) : ∀ s : ByteArray, ns.foldl (fun r n => r.push (UInt8.ofNat n.toNat)) s = ⟨s.data ++ (bytesOf ns).toArray⟩ := by
  induction ns with
  | nil => intro s; simp [bytesOf]
  | cons n ns ih =>
    intro s
    rw [List.foldl_cons, ih]
    simp [bytesOf, ByteArray.push]
theorem rows_u8 {eT : TypeId} {A : Avoid} {w : World} {ys : List Int} {cs : List Value} (hl : cs.length = ys.length) (h : RowsL eT (.int .u8) ys A w cs) : cs = ys.map (Value.int .u8) := by
  apply List.ext_getElem?
  intro i
  cases hy : ys[i]? with
  | none =>
    have : ys.length ≤ i := List.getElem?_eq_none_iff.1 hy
    rw [List.getElem?_eq_none (by omega), List.getElem?_eq_none (by simpa using this)]
  | some y =>
    obtain ⟨us, h1, h2⟩ := h i y hy
    obtain ⟨rfl, _⟩ := h1
    have := h2 0 _ rfl
    simp only [Ty.size, Nat.mul_one, Nat.add_zero] at this
    rw [this, List.getElem?_map, hy]
    rfl
theorem bytesStr_sound (hok : TyOK P cx) {O : Avoid} {st : St} {loc : Nat → Loc} {w : World} (g : Good cx.eT X (sit O st loc w)) {s t : TypeId} (hs : look cx.τ s = some (.slice (.int .u8))) (ht : look cx.τ t = some .str)
    {x : C} {v0 : Value} (hx : CR cx.eT (sit O st loc w) x v0) {K : C → VC} (h : (bytesStrVC st x K).holds) :
    ∃ c v, (K c).holds ∧ CR cx.eT (sit O st loc w) c v ∧ (convert s t v0).run P w = .ok v w := by
  obtain ⟨_, i1, d1, hf1, hs1⟩ := shape_of hok hs
  cases d1 <;> simp [shapeFit] at hs1
  rename_i te
  have hu := hf1.und
  obtain ⟨_, _, d3, _, hf3, hs3⟩ := fits_out hs1
  have hte : P.underlying te = some (.int .u8) := by
    cases d3 <;> simp [shapeFit] at hs3
    subst hs3; exact hf3.und
  obtain ⟨_, i2, d2, hf2, hs2⟩ := shape_of hok ht
  have hd2 : d2 = .string := by cases d2 <;> simp [shapeFit] at hs2; rfl
  subst hd2
  unfold bytesStrVC at h
  split at h
  · rename_i ys hys
    obtain ⟨hlen, h⟩ := h
    refine ⟨_, .string ⟨(bytesOf ys).toArray⟩, h, str_rel.2 ⟨rfl, by simpa [bytesOf] using hlen⟩, ?_⟩
    rcases srcD_rel g hys hx with ⟨rfl, a0, c0, rfl⟩ | ⟨b, o, cap, cs, rfl, h1, h2, h3, _⟩
    · rcases a0 with _ | a0
      · rw [run_convert_bytes_string w s t te none 0 c0 hu hte hf2.und]
        rfl
      · rw [run_convert_bytes_string w s t te _ _ _ hu hte hf2.und]
        rw [run_bytesToString w a0 0 c0 [], foldl_push]
        · simp
        · have := run_loadCells_list (P := P) w a0 [] (fun j u hj => by simp at hj)
          simpa using this
    · rw [run_convert_bytes_string w s t te _ _ _ hu hte hf2.und]
      simp only [Ty.size, Nat.mul_one] at h1
      have hcs := rows_u8 h1 h3
      rw [run_bytesToString w ⟨b, o, none⟩ ys.length cap ys, foldl_push]
      · simp
      · rw [← h1, run_loadCells_list w _ cs (fun j u hj => by rw [Addr.add_lit]; exact h2 j u hj), hcs]
  · exact h.elim
theorem op_sound0 (hok : CxOK P cx X) {O : Avoid} {st : St} {loc : Nat → Loc} {w : World} {a : Act} (g : Good cx.eT X (sit O st loc w)) (hO : OIn O w) (he : EnvR cx.eT (sit O st loc w) st.env a)
    {o : Oper} {K : SV → St → VC} (h : (opVC0 cx st o K).holds) : o.wp P a w (After cx X O K st (sit O st loc w) (Nat.beq (kindOf cx o) 3) a o.dst) Q := by
  have read : (readVC cx st o.op fun sv => K sv st).holds → o.wp P a w (After cx X O K st (sit O st loc w) (Nat.beq (kindOf cx o) 3) a o.dst) Q := by
    intro h
    obtain ⟨sv, v, h1, h2, h3⟩ := readVC_sound hok.toTyOK g he h
    exact wp_value h3 ⟨v, sv, st, loc, rfl, h1, rfl, fun _ => Below.refl _ _, g, Tr.refl _, h2⟩
  have mov : ∀ x ty, (execOp a.eval o).run P w = .ok (.value (a.eval x)) w → (movVC cx st x ty K).holds → o.wp P a w (After cx X O K st (sit O st loc w) (Nat.beq (kindOf cx o) 3) a o.dst) Q := by
    intro x ty hrun h
    obtain ⟨sv, st', loc', h1, h2, h3, h4, h5⟩ := movVC_sound g hO he h
    exact wp_value hrun ⟨_, sv, st', loc', rfl, h1, h2, fun _ => Below.refl _ _, h3, h4, h5⟩
  unfold opVC0 at h
  split at h
  · rename_i s t x hop
    unfold convOpVC at h
    split at h
    · rename_i hs ht
      obtain ⟨c, v, h1, h2, h3⟩ := bytesStr_sound hok.toTyOK g hs ht (ev1_rel he x) h
      exact wp_value (w' := w) (by simp only [execOp, hop, Sem.run_bind, Sem.run_pure]; rw [h3]; rfl) ⟨v, _, st, loc, rfl, h1, rfl, fun _ => Below.refl _ _, g, Tr.refl _, h2⟩
    · exact read h
    · exact h.elim
  · rename_i x hop
    exact mov x _ (by simp [execOp, hop]) h
  · rename_i x hop
    unfold asgVC at h
    split at h
    · obtain ⟨sv, st', loc', h1, h2, h3, h4, h5⟩ := rowNil_sound g hO he h
      exact wp_value (w' := w) (v := a.eval x) (by simp [execOp, hop]) ⟨_, sv, st', loc', rfl, h1, h2, fun _ => Below.refl _ _, h3, h4, h5⟩
    · exact mov x _ (by simp [execOp, hop]) h
  · rename_i t hop
    unfold allocVC at h
    split at h
    · rename_i ty ht
      obtain ⟨m, ti, d, hf, hs⟩ := shape_of hok.toTyOK ht
      obtain ⟨z, hz, hzr⟩ := hf.zero
      obtain ⟨sv, st', loc', h1, h2, h3, h4, h5⟩ := newBox (t := t) (ts := cellTys ty) g hO (zero_rel hzr) h
      refine wp_value (w' := w.alloc (.cells z.cells.toList.toArray t)) ?_ ⟨_, sv, st', loc', rfl, h1, h2, fun _ => (Below.refl _ w).alloc (Nat.le_refl _) _, h3, h4, h5⟩
      simp [execOp, hop, Instr.alloc, zeroValue, typeInfo, hf.info, hz, newVar, newRow]
    · split at h
      case h_2 => exact h.elim
      rename_i n te hn
      split at h
      case h_2 => exact h.elim
      rename_i e he
      split at h
      case h_2 => exact h.elim
      rename_i hno
      obtain ⟨i, z, hi, hz, hzr⟩ := hok.arr0 t n te e hn he
      have hb : Below w.heap.size w (w.alloc (.cells z.cells.toList.toArray t)) := (Below.refl _ w).alloc (Nat.le_refl _) _
      obtain ⟨tr1, g1⟩ := fresh_step (oc := .arr e (List.replicate n (zeroD e))) (l := ⟨.pointer (some ⟨w.heap.size, 0, none⟩), [w.heap.size]⟩) g hO hb (by simp)
      obtain ⟨hl, hel⟩ := zeroRows_rel (eT := cx.eT) (A := (sit O (fresh st (.arr e (List.replicate n (zeroD e)))) (updLoc loc st.next ⟨.pointer (some ⟨w.heap.size, 0, none⟩), [w.heap.size]⟩) (w.alloc (.cells z.cells.toList.toArray t))).A) (w := w.alloc (.cells z.cells.toList.toArray t)) hno hzr
      have g1 := g1 ⟨w.heap.size, z.cells.toList.toArray, t, rfl, rfl, heap_alloc_new w _, by simp only [List.size_toArray, List.length_replicate]; exact hl, fun j y hy => by
        obtain ⟨us, k1, k2⟩ := hel j y hy
        exact ⟨us, k1, fun q u hq => by simpa using k2 q u hq⟩⟩
      refine wp_value (w' := w.alloc (.cells z.cells.toList.toArray t)) ?_ ⟨.pointer (some ⟨w.heap.size, 0, none⟩), _, _, _, rfl, h, rfl, fun _ => hb, g1, tr1, ?_⟩
      · simp [execOp, hop, Instr.alloc, zeroValue, typeInfo, hi, hz, newVar, newRow]
      · show st.next < st.next + 1 ∧ _
        refine ⟨by omega, fun t' xs' hx => ?_⟩
        simp [sit, updLoc]
  · rename_i t x hop
    unfold boxVC at h
    split at h
    · rename_i ty ht
      split at h
      · rename_i cs0 hfl
        obtain ⟨us, hus, hcr, _⟩ := flat0_rel g hfl (ev0_rel he x)
        obtain ⟨sv, st', loc', h1, h2, h3, h4, h5⟩ := newBox (t := t) (ts := cellTys ty) g hO hcr h
        refine wp_value (w' := w.alloc (.cells us.toArray t)) ?_ ⟨_, sv, st', loc', rfl, h1, h2, fun _ => (Below.refl _ w).alloc (Nat.le_refl _) _, h3, h4, h5⟩
        subst hus
        simp [execOp, hop, Instr.box, newVar, newRow]
      · exact h.elim
    · exact h.elim
  · rename_i t ps hop
    obtain ⟨sv, v, h1, h2, h3⟩ := buildVC_sound hok.toTyOK g he h
    exact wp_value (by have := h3 w; simp only [execOp, hop, Sem.run_bind, Sem.run_pure]; rw [this]; rfl) ⟨v, sv, st, loc, rfl, h1, rfl, fun _ => Below.refl _ _, g, Tr.refl _, h2⟩
  · rename_i t n ps hop
    unfold buildSlVC at h
    split at h
    · rename_i sv0 hown
      have hp : ∃ x, n = 1 ∧ ps.toList = [(0, x)] ∧ SV0R cx.eT (sit O st loc w) sv0 (a.eval x) := by
        unfold ownPart at hown
        split at hown
        · rename_i x hps
          have hr := ev0_rel he x
          split at hown
          · rename_i m hm; cases hown; exact ⟨x, rfl, hps, by rw [← hm]; exact hr⟩
          · rename_i cs hm
            split at hown
            · cases hown; exact ⟨x, rfl, hps, by rw [← hm]; exact hr⟩
            · cases hown
          · cases hown
        · cases hown
      obtain ⟨x, rfl, hps, hr⟩ := hp
      obtain ⟨sv, v, st', loc', w', h1, h2, h3, h4, h5, h6, h7⟩ := deepBuild_sound hok.toTyOK g hO hr h
      have hps' : ps = #[(0, x)] := Array.toList_inj.1 hps
      exact wp_value (w' := w') (v := v) (by simp only [execOp, hop, Sem.run_bind, Sem.run_pure, hps']; rw [show (#[(0, x)] : Array (Nat × Operand)).map (fun (i, x) => (i, a.eval x)) = #[(0, a.eval x)] from by simp, h7]; rfl) ⟨v, sv, st', loc', rfl, h1, h2, fun _ => h3, h4, h5, h6⟩
    obtain ⟨c, v, w', h1, h2, h3, h4, h5, h6⟩ := buildSliceVC_sound hok.toTyOK g hO he h
    exact wp_value (by simp only [execOp, hop, Sem.run_bind, Sem.run_pure]; rw [h6]; rfl) ⟨v, _, st, loc, rfl, h1, rfl, fun _ => h2, h3, h4, h5⟩
  · rename_i t l c hop
    obtain ⟨sv, v, st', loc', w', h1, h2, h3, h4, h5, h6, h7⟩ := makeSliceVC_sound hok.toTyOK g hO (ev1_rel he l) (ev1_rel he c) h
    exact wp_value (by simp only [execOp, hop, Sem.run_bind, Sem.run_pure]; rw [h7]; rfl) ⟨v, sv, st', loc', rfl, h1, h3, fun _ => h2, h4, h5, h6⟩
  · rename_i t x v hop
    have hst : ∃ st' loc' w', (K (.s (.one .any)) st').holds ∧ st'.env = st.env ∧ Good cx.eT X (sit O st' loc' w') ∧ Tr (sit O st loc w) (sit O st' loc' w') ∧ (Instr.storeAt t (a.eval x) (a.eval v)).run P w = .ok () w' := by
      have hx := ev1_rel he x
      unfold stVC at h
      split at h
      · rename_i n i j hl
        rw [hl] at hx
        split at h
        · rename_i ty ht
          obtain ⟨_, _, _, hf, _⟩ := shape_of hok.toTyOK ht
          exact deepStore_sound g hO hf hx (ev0_rel he v) h
        · exact h.elim
      · exact storeVC_sound hok.toTyOK g hO hx (ev0_rel he v) h
    obtain ⟨st', loc', w', h1, h2, h3, h4, h5⟩ := hst
    have hrun : (execOp a.eval o).run P w = .ok .skip w' := by
      simp only [execOp, hop, Sem.run_bind, Sem.run_pure]; rw [h5]; rfl
    unfold Oper.wp
    rw [hrun]
    have hk : Nat.beq (kindOf cx o) 3 = true := by simp [kindOf, hop]
    exact ⟨undef, _, st', loc', rfl, h1, h2, fun e => (by rw [hk] at e; cases e), h3, h4, trivial⟩
  · rename_i fn first caps hop
    split at h
    · rename_i f ns hfi hcn
      obtain ⟨k1, k2⟩ := capNames_rel he hcn
      have hfi' : first = #[] := Array.toList_inj.1 hfi
      have hca : caps.map a.eval = (ns.map fun n => (loc n).v).toArray := by
        apply Array.toList_inj.1
        rw [Array.toList_map, k1]
      refine wp_value (w' := w) (v := .func (.func f) #[] (ns.map fun n => (loc n).v).toArray) ?_ ⟨_, _, st, loc, rfl, h, rfl, fun _ => Below.refl _ _, g, Tr.refl _, ⟨rfl, k2⟩⟩
      simp [execOp, hop, Instr.makeFunc, hfi', hca]
    · exact h.elim
  · rename_i c hop
    unfold callOpVC at h
    split at h
    · rename_i f hcal
      unfold callVC at h
      split at h
      · rename_i k caps hf
        split at h
        · rename_i q sp hsp
          obtain ⟨⟨fn, hfn, hbody, hname⟩, hcall⟩ := hok.calls k q sp hsp
          have hr := ev1_rel he f
          rw [hf] at hr
          obtain ⟨hfv, hcaps⟩ := hr
          have hargs := (args_rel he c.args.toList).append (caps_rel g (ns := caps) fun n hn => (hcaps n hn).1)
          have := hcall O st loc w _ _ K h g hO hargs
          have hrun : (execOp a.eval o).run P w = .ok (.enter k (c.args.toList.map a.eval ++ caps.map fun n => (loc n).v).toArray) w := by
            have e1 : (c.args.map a.eval) ++ (caps.map fun n => ((sit O st loc w).loc n).v).toArray = (c.args.toList.map a.eval ++ caps.map fun n => (loc n).v).toArray := by
              apply Array.toList_inj.1
              simp [sit]
            have e2 : resolve a.eval c o.type = pure { target := .fn (.func k) (caps.map fun n => ((sit O st loc w).loc n).v).toArray, args := c.args.map a.eval } := by
              simp [resolve, hcal, hfv, Deferred.ofValue]
            simp only [execOp, hop, e2, pure_bind, invoke, e1]
            exact run_callFunc hfn hbody hname _ w
          unfold Oper.wp
          rw [hrun]
          refine Calls.mono this ?_
          rintro e w' ⟨v, sv, st', loc', rfl, k1, k2, k3, k4, k5, k6⟩
          refine ⟨v, sv, st', loc', rfl, k1, k2, fun hl => ?_, k4, k5, k6⟩
          cases q with
          | true => exact k3 rfl
          | false =>
            exfalso
            have : kindOf cx o = 3 := by
              unfold kindOf
              simp only [hop, hcal]
              split
              · rename_i heq; cases heq
              · rename_i heq; cases heq
              · rename_i heq; cases heq
              · rename_i f' heq
                have hfe : f = .func f' := by cases heq; rfl
                subst hfe
                simp only [ev1, ev] at hf
                cases hf
                rw [hsp]
              · rfl
            rw [this] at hl
            cases hl
        · exact h.elim
      · exact h.elim
    · rename_i hcal
      split at h
      · rename_i s x t t' harg hty
        split at h
        · rename_i htt
          have htt := Nat.eq_of_beq_eq_true htt
          subst htt
          have h1 : c.args = #[s, x] := Array.toList_inj.1 harg
          have h2 : c.argTypes = #[t, t] := Array.toList_inj.1 hty
          have happ : ∃ sv v st' loc' w', (K sv st').holds ∧ st'.env = st.env ∧ Good cx.eT X (sit O st' loc' w') ∧ Tr (sit O st loc w) (sit O st' loc' w') ∧ SVR cx.eT (sit O st' loc' w') sv v ∧
              (Builtin.append_ #[t, t] o.type #[a.eval s, a.eval x]).run P w = .ok v w' := by
            have hs := ev1_rel he s
            have hx := ev1_rel he x
            split at h
            · rename_i n m hl1 hl2
              rw [hl1] at hs
              rw [hl2] at hx
              exact deepApp_sound hok.toTyOK g hO hs hx h
            · rename_i n hl1
              rw [hl1] at hs
              split at h
              · exact rowApp_sound hok.toTyOK g hO hs hx h
              · exact appendVC_sound (P := P) (ty := o.type) hok.toTyOK g hO hs hx h
            · exact appendVC_sound (P := P) (ty := o.type) hok.toTyOK g hO hs hx h
          obtain ⟨sv, v, st', loc', w', k1, k2, k3, k4, k5, k6⟩ := happ
          have hk : Nat.beq (kindOf cx o) 3 = true := by simp [kindOf, hop, hcal]
          refine wp_value (w' := w') (v := v) ?_ ⟨v, sv, st', loc', rfl, k1, k2, fun e => (by rw [hk] at e; cases e), k3, k4, k5⟩
          simp [execOp, hop, resolve, hcal, h1, h2, invoke, builtin, k6]
        · exact h.elim
      · exact h.elim
    · rename_i hcal
      split at h
      · rename_i d s t t' harg hty
        have h1 : c.args = #[d, s] := Array.toList_inj.1 harg
        have h2 : c.argTypes = #[t, t'] := Array.toList_inj.1 hty
        obtain ⟨sv, v, st', loc', w', k1, k2, k3, k4, k5, k6⟩ := copyVC_sound (P := P) (t' := t') (ty := o.type) hok.toTyOK g hO (ev1_rel he d) (ev1_rel he s) h
        have hk : Nat.beq (kindOf cx o) 3 = true := by simp [kindOf, hop, hcal]
        refine wp_value (w' := w') (v := v) ?_ ⟨v, sv, st', loc', rfl, k1, k2, fun e => (by rw [hk] at e; cases e), k3, k4, k5⟩
        simp [execOp, hop, resolve, hcal, h1, h2, invoke, builtin, k6]
      · exact h.elim
    · rename_i hcal
      split at h
      · rename_i x y harg
        have h1 : c.args = #[x, y] := Array.toList_inj.1 harg
        obtain ⟨c', v, k1, k2, k3⟩ := mmVC_rel (P := P) (ev1_rel he x) (ev1_rel he y) h
        refine wp_value (w' := w) (v := v) ?_ ⟨v, _, st, loc, rfl, k1, rfl, fun _ => Below.refl _ _, g, Tr.refl _, k2⟩
        have k3 := k3 w
        simp only [if_true] at k3
        simp [execOp, hop, resolve, hcal, h1, invoke, builtin, Builtin.max_, k3]
      · exact h.elim
    · rename_i hcal
      split at h
      · rename_i x y harg
        have h1 : c.args = #[x, y] := Array.toList_inj.1 harg
        obtain ⟨c', v, k1, k2, k3⟩ := mmVC_rel (P := P) (ev1_rel he x) (ev1_rel he y) h
        refine wp_value (w' := w) (v := v) ?_ ⟨v, _, st, loc, rfl, k1, rfl, fun _ => Below.refl _ _, g, Tr.refl _, k2⟩
        have k3 := k3 w
        simp only [Bool.false_eq_true, if_false] at k3
        simp [execOp, hop, resolve, hcal, h1, invoke, builtin, Builtin.min_, k3]
      · exact h.elim
    · exact read h
  · exact read h
theorem mapVC_kind {st : St} {o : Oper} {K : SV → St → VC} {vc : VC} (h : mapVC cx st o K = some vc) : kindOf cx o = 3 := by
  unfold mapVC at h
  split at h
  · rename_i hop; simp [kindOf, hop]
  · rename_i hop; simp [kindOf, hop]
  · rename_i hop; simp [kindOf, hop]
  · rename_i hop; simp [kindOf, hop]
  · rename_i hop; simp [kindOf, hop]
  · rename_i hop; simp [kindOf, hop]
  · rename_i c hop
    split at h
    · rename_i hcal; simp [kindOf, hop, hcal]
    · rename_i hcal
      split at h
      · rename_i x t harg hty
        split at h
        · rename_i p hp; simp [kindOf, hop, hcal, hty, hp]
        · cases h
      · cases h
    · cases h
  · cases h
theorem op_sound (hok : CxOK P cx X) {O : Avoid} {st : St} {loc : Nat → Loc} {w : World} {a : Act} (g : Good cx.eT X (sit O st loc w)) (hO : OIn O w) (he : EnvR cx.eT (sit O st loc w) st.env a)
    {o : Oper} {K : SV → St → VC} (h : (opVC cx st o K).holds) : o.wp P a w (After cx X O K st (sit O st loc w) (Nat.beq (kindOf cx o) 3) a o.dst) Q := by
  unfold opVC at h
  split at h
  · rename_i vc hm
    have hk : Nat.beq (kindOf cx o) 3 = true := by rw [mapVC_kind hm]; rfl
    obtain ⟨sv, v, st', loc', w', h1, h2, h3, h4, h5, h6⟩ := mapVC_sound hok.toTyOK g hO he hm h
    rcases h6 with h6 | ⟨h6, rfl⟩
    · exact wp_value h6 ⟨v, sv, st', loc', rfl, h1, h2, fun e => (by rw [hk] at e; cases e), h3, h4, h5⟩
    · unfold Oper.wp
      rw [h6]
      exact ⟨undef, _, st', loc', rfl, h1, h2, fun e => (by rw [hk] at e; cases e), h3, h4, trivial⟩
  · exact op_sound0 hok g hO he h
end
end Go.Vg
