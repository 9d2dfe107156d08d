/- A part of the proof that the law TopStamp holds of the given program: facts that are used there. -/
import Derived.Test.YtgokjhhcfemnhabVg18
namespace Go.Vg
open Go.RowKit
@[reducible] def HL : List Ty → Type
  | [] => Unit
  | [t] => D t
  | t :: u :: r => D t × HL (u :: r)
def flatL : List Ty → Bool
  | [] => true
  | t :: r => t.flat && flatL r
/-- A list whose elements have rows of their own. -/
def deepD (st : St) (want : Ty) (n : Nat) : Option (D want) :=
  match look st.objs n with
  | some (.ext 0 t xs) => match h : Ty.beq t want with
    | true => some (castD h (a := t) xs)
    | false => none
  | _ => none
/-- An argument as data; lent, where nothing of it can come back. -/
def argD (lend : Bool) (st : St) (t : Ty) (a : SV0) : Option (D t) :=
  match lend, t, a with
  | true, .slice e, .one (.mrow n) => srcD st e (.mrow n)
  | true, t, .one (.xd n .top) => deepD st t n
  | _, t, a => asD0 t a
def argsD (lend : Bool) (st : St) : (ts : List Ty) → List SV0 → Option (HL ts)
  | [], [] => some ()
  | [t], [a] => argD lend st t a
  | t :: u :: r, a :: as => match argD lend st t a, argsD lend st (u :: r) as with
    | some x, some xs => some (x, xs)
    | _, _ => none
  | _, _ => none
def resList : (ts : List Ty) → HL ts → List SV0
  | [], _ => []
  | [t], y => [.one (.d t y)]
  | t :: u :: r, ys => .one (.d t ys.1) :: resList (u :: r) ys.2
def retSV : List SV0 → SV
  | [v] => .s v
  | vs => .tup vs
/-- Rows of one's own become data. -/
def frzC (st : St) (c : C) : C × St :=
  match c with
  | .mrow n => match look st.objs n with
    | some (.mrow t xs) => (.d (.slice t) xs, dropObj st n)
    | _ => (c, st)
  | .xd n .top => match look st.objs n with
    | some (.ext 0 t xs) => (.d t xs, dropObj st n)
    | _ => (c, st)
  | c => (c, st)
def frzCs : St → List C → List C × St
  | st, [] => ([], st)
  | st, c :: cs => match frzC st c with
    | (c', st1) => match frzCs st1 cs with
      | (cs', st2) => (c' :: cs', st2)
def frz0 (st : St) (v : SV0) : SV0 × St :=
  match v with
  | .one c => match frzC st c with
    | (c', st') => (.one c', st')
  | .agg cs => match frzCs st cs with
    | (cs', st') => (.agg cs', st')
/-- Those that may be lent stay. -/
def frzA (lend : Bool) (st : St) (v : SV0) : SV0 × St :=
  match lend, v with
  | true, .one c => (.one c, st)
  | _, v => frz0 st v
def frzL (lend : Bool) : St → List SV0 → List SV0 × St
  | st, [] => ([], st)
  | st, v :: vs => match frzA lend st v with
    | (v', st1) => match frzL lend st1 vs with
      | (vs', st2) => (v' :: vs', st2)
/-- A contract of a function that only computes. -/
def pureSpec (ts rts : List Ty) (pre : HL ts → Prop) (post : HL ts → HL rts → Prop) : CSpec := fun args st K =>
  match frzL (flatL rts) st args with
  | (args, st) => match argsD (flatL rts) st ts args with
    | some xs => .and (pre xs) (.all (HL rts) fun ys => .imp (post xs ys) (K (retSV (resList rts ys)) st))
    | none => .ff
/-- The same, its results named. -/
def funSpec (ts rts : List Ty) (pre : HL ts → Prop) (g : HL ts → HL rts) : CSpec := fun args st K =>
  match frzL (flatL rts) st args with
  | (args, st) => match argsD (flatL rts) st ts args with
    | some xs => .and (pre xs) (K (retSV (resList rts (g xs))) st)
    | none => .ff
/-- A result that hangs on tests. -/
inductive Dec (α : Type) where
  | ret (a : α)
  | ite (c : Bool) (a b : Dec α)
def Dec.eval {α : Type} : Dec α → α
  | .ret a => a
  | .ite c a b => match c with
    | true => a.eval
    | false => b.eval
def decVC {α : Type} : Dec α → (α → VC) → VC
  | .ret a, K => K a
  | .ite c a b, K => .ite c (decVC a K) (decVC b K)
theorem decVC_holds {α : Type} {d : Dec α} {K : α → VC} (h : (decVC d K).holds) : (K d.eval).holds := by
  induction d with
  | ret a => exact h
  | ite c a b iha ihb =>
    cases c
    · exact ihb (h.2 rfl)
    · exact iha (h.1 rfl)
/-- The same, its results by tests. -/
def treeSpec (ts rts : List Ty) (pre : HL ts → Prop) (g : HL ts → Dec (HL rts)) : CSpec := fun args st K =>
  match frzL (flatL rts) st args with
  | (args, st) => match argsD (flatL rts) st ts args with
    | some xs => .and (pre xs) (decVC (g xs) fun ys => K (retSV (resList rts ys)) st)
    | none => .ff
/-- What comes back: rows of its own become data. -/
def asF (st : St) (want : Ty) (c : C) : Option (D want) :=
  match c with
  | .mrow n => match look st.objs n with
    | some (.mrow t xs) => match h : Ty.beq (.slice t) want with
      | true => some (castD h (a := .slice t) xs)
      | false => none
    | _ => none
  | .xd n .top => deepD st want n
  | c => asD want c
def packF (st : St) : (t : Ty) → List C → Option (D t × List C)
  | .prod a b, cs => match packF st a cs with
    | some (x, cs1) => match packF st b cs1 with
      | some (y, cs2) => some ((x, y), cs2)
      | none => none
    | none => none
  | .unit, cs => some ((), cs)
  | t, c :: cs => match asF st t c with
    | some x => some (x, cs)
    | none => none
  | _, [] => none
def asF0 (st : St) (want : Ty) : SV0 → Option (D want)
  | .one c => asF st want c
  | .agg cs => match want.one with
    | true => none
    | false => match packF st want cs with
      | some (x, []) => some x
      | _ => none
def resD (st : St) : (ts : List Ty) → List SV0 → Option (HL ts)
  | [], [] => some ()
  | [t], [a] => asF0 st t a
  | t :: u :: r, a :: as => match asF0 st t a, resD st (u :: r) as with
    | some x, some xs => some (x, xs)
    | _, _ => none
  | _, _ => none
def resVC (cx : Cx) (st : St) : List ResultVar → (List SV0 → VC) → VC
  | [], K => K []
  | .tmp t :: r, K => match ev st.env (.tmp t) with
    | .s v => resVC cx st r fun vs => K (v :: vs)
    | _ => .ff
  | .cell a t :: r, K => loadVC cx st t (ev1 st.env (.tmp a)) fun sv => match sv with
    | .s v => resVC cx st r fun vs => K (v :: vs)
    | _ => .ff
def fnVC (cx : Cx) (anns : Anns) (res : List ResultVar) (c : Code) (st : St) (K : List SV0 → St → VC) : VC :=
  vc cx anns c 0 st fun e st' => match e with
    | .exit _ => .ff
    | _ => resVC cx st' res fun vs => K vs st'
def mkCx (B : Cx) (Γ : List (FuncId × (Bool × CSpec))) (N : Nat) : Cx := { B with Γ := Γ, N := N }
def argEnv : Nat → (ts : List Ty) → HL ts → List (Nat × SV)
  | _, [], _ => []
  | k, [t], x => [(k, .s (.one (.d t x)))]
  | k, t :: u :: r, xs => (k, .s (.one (.d t xs.1))) :: argEnv (k + 1) (u :: r) xs.2
def argSt (ts : List Ty) (xs : HL ts) : St := { env := argEnv 0 ts xs, objs := [], next := 0 }
def pureVCs (B : Cx) (Γ : List (FuncId × (Bool × CSpec))) (N : Nat) (anns : Anns) (res : List ResultVar) (c : Code) (ts rts : List Ty) (post : HL ts → HL rts → Prop) (xs : HL ts) : VC :=
  fnVC (mkCx B Γ N) anns res c (argSt ts xs) fun vs st => match resD st rts vs with
    | some ys => .leaf (post xs ys)
    | none => .ff
section
variable {eT : TypeId} {X : Ext} {P : Program} {cx : Cx}
def ArgsR (eT : TypeId) (A : Avoid) (w : World) : (ts : List Ty) → HL ts → List Value → Prop
  | [], _, vs => vs = []
  | [t], x, vs => ∃ v, vs = [v] ∧ VR eT t x A w v
  | t :: u :: r, xs, vs => ∃ v vs', vs = v :: vs' ∧ VR eT t xs.1 A w v ∧ ArgsR eT A w (u :: r) xs.2 vs'
def retV : List Value → Value
  | [v] => v
  | vs => .tuple vs.toArray
structure PureOK (P : Program) (eT : TypeId) (f : FuncId) (ts rts : List Ty) (pre : HL ts → Prop) (post : HL ts → HL rts → Prop) : Prop where
  fn : ∃ fn, P.funcs[f]? = some fn ∧ fn.body.isNone = false ∧ (fn.name == "runtime.NumGoroutine") = false
  ok : ∀ O w xs vs, OIn O w → ArgsR eT O w ts xs vs → pre xs →
    Calls P f vs.toArray w fun e w' => ∃ us ys, e = .returned (retV us) ∧ post xs ys ∧ ArgsR eT O w' rts ys us ∧ Below w.heap.size w w'
def resOne (tmps : Array Value) : ResultVar → Sem Value
  | .tmp t => pure (tmps.getD t undef)
  | .cell b t => do loadVar t (← asAddr (tmps.getD b undef))
theorem run_results (hok : TyOK P cx) {O : Avoid} {st : St} {loc : Nat → Loc} {w : World} {a : Act} (g : Good cx.eT X (sit O st loc w)) (he : EnvR cx.eT (sit O st loc w) st.env a) :
    ∀ {rs : List ResultVar} {K : List SV0 → VC}, (resVC cx st rs K).holds →
    ∃ vs us, (K vs).holds ∧ SV0Rs cx.eT (sit O st loc w) vs us ∧ (rs.mapM (resOne a.tmps) : Sem (List Value)).run P w = .ok us w := by
  intro rs
  induction rs with
  | nil => intro K h; exact ⟨[], [], h, .nil, rfl⟩
  | cons r rs ih =>
    intro K h
    cases r with
    | tmp t =>
      simp only [resVC] at h
      split at h
      · rename_i v hv
        obtain ⟨vs, us, h1, h2, h3⟩ := ih h
        have hr := ev_rel he (.tmp t)
        rw [hv] at hr
        refine ⟨v :: vs, a.tmps.getD t undef :: us, h1, .cons hr h2, ?_⟩
        rw [List.mapM_cons]
        simp only [resOne, Sem.run_bind, Sem.run_pure, Result.andThen_ok, h3]
      · exact h.elim
    | cell b t =>
      simp only [resVC] at h
      obtain ⟨sv, u, h1, h2, h3⟩ := loadVC_rel (P := P) hok g (ev1_rel he (.tmp b)) h
      split at h1
      · rename_i v
        obtain ⟨vs, us, k1, k2, k3⟩ := ih h1
        have h3 := h3 w (Below.refl _ _)
        refine ⟨v :: vs, u :: us, k1, .cons h2 k2, ?_⟩
        rw [List.mapM_cons]
        have h4 : (do loadVar t (← asAddr (a.tmps.getD b undef)) : Sem Value).run P w = .ok u w := by
          have h3 : (Instr.loadAt t (a.tmps.getD b undef)).run P w = .ok u w := h3
          generalize a.tmps.getD b undef = p at h3
          cases p with
          | pointer q =>
            cases q with
            | none => simp [Instr.loadAt, Instr.sureAddr] at h3
            | some q => simpa [Instr.loadAt, Instr.sureAddr, asAddr] using h3
          | _ => simp [Instr.loadAt, Instr.sureAddr] at h3
        simp only [resOne, Sem.run_bind] at h4 ⊢
        simp only [h4, Sem.run_pure, Result.andThen_ok, k3]
      · exact h1.elim
theorem SV0Rs.len {S : Sit} {xs : List SV0} {us : List Value} (h : SV0Rs eT S xs us) : xs.length = us.length := by
  induction h with
  | nil => rfl
  | cons _ _ ih => simp [ih]
theorem retSV_rel {S : Sit} {vs : List SV0} {us : List Value} (h : SV0Rs eT S vs us) : SVR eT S (retSV vs) (retV us) := by
  match vs, us, h with
  | [], [], h => exact ⟨[], rfl, h⟩
  | [v], [u], .cons h1 .nil => exact h1
  | _ :: _ :: _, _ :: _ :: _, h => exact ⟨_, rfl, h⟩
/-- A call of a function whose code's condition holds. -/
theorem calls_of_vc (hok : CxOK P cx X) {f : FuncId} {fn : Func} {c : Code} (hf : P.funcs[f]? = some fn) (hb : fn.body = some c) (hN : cx.N = fn.ntmps) (anns : Anns) {O : Avoid} {st : St} {loc : Nat → Loc} {w : World}
    {args : Array Value} {K : List SV0 → St → VC} (hsz : args.size ≤ fn.ntmps) (g : Good cx.eT X (sit O st loc w)) (hO : OIn O w)
    (henv : ∀ t sv, look st.env t = some sv → ∃ v, args[t]? = some v ∧ SVR cx.eT (sit O st loc w) sv v)
    (h : (fnVC cx anns fn.results.toList c st K).holds) :
    Calls P f args w fun e w' => ∃ vs us st' loc', e = .returned (retV us) ∧ (K vs st').holds ∧ SV0Rs cx.eT (sit O st' loc' w') vs us ∧ Good cx.eT X (sit O st' loc' w') ∧ Tr (sit O st loc w) (sit O st' loc' w') := by
  refine calls_of_wp hf hb ?_
  have hA : ActR cx (sit O st loc w) st { tmps := args ++ Array.replicate (fn.ntmps - args.size) undef, defers := [] } := by
    refine ⟨by simp [hN]; omega, rfl, fun t sv ht => ?_⟩
    obtain ⟨v, hv, hr⟩ := henv t sv ht
    have hlt : t < args.size := by
      rcases Nat.lt_or_ge t args.size with hh | hh
      · exact hh
      · rw [Array.getElem?_eq_none hh] at hv; cases hv
    rw [Array.getD_eq_getD_getElem?, Array.getElem?_append, if_pos hlt, hv]
    exact hr
  refine wp_mono (vc_sound hok anns c 0 hA g hO h) ?_
  have fin : ∀ (a' : Act) (w' : World), StepK cx X O (fun st' => resVC cx st' fn.results.toList fun vs => K vs st') (writes anns 0 c) st (sit O st loc w) a' w' → a'.defers = [] ∧ ∃ v, (results fn a'.tmps).run P w' = .ok v w' ∧
      ∃ vs us st' loc', Ending.returned v = .returned (retV us) ∧ (K vs st').holds ∧ SV0Rs cx.eT (sit O st' loc' w') vs us ∧ Good cx.eT X (sit O st' loc' w') ∧ Tr (sit O st loc w) (sit O st' loc' w') := by
    rintro a' w' ⟨st', loc', k1, k2, k3, k4, _⟩
    obtain ⟨vs, us, m1, m2, m3⟩ := run_results (P := P) hok.toTyOK k2 k4.env k1
    refine ⟨k4.defers, retV us, ?_, vs, us, st', loc', rfl, m1, m2, k2, k3⟩
    have hm : (fn.results.mapM (resOne a'.tmps) : Sem (Array Value)).run P w' = .ok us.toArray w' := by
      rw [← Array.toArray_toList (xs := fn.results), List.mapM_toArray, Sem.run_map, m3]
      rfl
    have he : results fn a'.tmps = (do
        let xs ← fn.results.mapM (resOne a'.tmps)
        return if h : xs.size = 1 then xs[0] else .tuple xs) := by
      unfold results
      congr 1
    rw [he, Sem.run_bind, hm]
    simp only [Result.andThen_ok, Sem.run_pure]
    match us with
    | [] => rfl
    | [u] => rfl
    | _ :: _ :: _ => rfl
  intro e a' w' hq
  cases e with
  | normal => exact fin a' w' hq
  | ret => exact fin a' w' hq
  | exit n => obtain ⟨st', loc', k1, _⟩ := hq; exact k1.elim
  | goto l => exact hq.elim
  | panic c => exact hq.elim
  | outgrown => exact hq.elim
end
end Go.Vg
