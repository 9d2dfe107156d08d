/- A part of the proof that the law TopStamp holds of the given program: facts that are used there. -/
import Derived.Test.YtgokjhhcfemnhabVg21
import Derived.KernelRfl
namespace Go.Vg
open Go.RowKit
theorem holds_of {v : VC} {p : Prop} (e : v.holds = p) (h : p) : v.holds := by rw [e]; exact h
def noExt : Ext where
  rel k t x l w := match k with
    | 0 => DeepR t x l w
    | 1 => MapR t x l w
    | _ => False
  inside {k t x l w} h := by
    match k, h with
    | 0, h => exact DeepR.inside h
    | 1, h => exact MapR.inside h
  ptr {k t x l w} hk h := by
    match k, hk, h with
    | 0, hk, _ => omega
    | 1, hk, _ => omega
  deep := Iff.rfl
  map := Iff.rfl
  frame {k t x l w w'} h hb := by
    match k, h with
    | 0, h => exact DeepR.frame h hb
    | 1, h => exact MapR.frame h hb
def codeOf (fn : Func) : Code := fn.body.getD .skip
def fnVCs (B : Cx) (Γ : List (FuncId × (Bool × CSpec))) (fn : Func) (anns : Anns) (ts rts : List Ty) (post : HL ts → HL rts → Prop) (xs : HL ts) : VC :=
  pureVCs B Γ fn.ntmps anns fn.results.toList (codeOf fn) ts rts post xs
def goodFn (fn : Func) (n : Nat) : Bool := fn.body.isSome && !(fn.name == "runtime.NumGoroutine") && Nat.ble n fn.ntmps
def CtxOK (P : Program) (B : Cx) (X : Ext) (Γ : List (FuncId × (Bool × CSpec))) : Prop := ∀ N, CxOK P (mkCx B Γ N) X
section
variable {P : Program} {B : Cx} {X : Ext} {Γ : List (FuncId × (Bool × CSpec))}
theorem pure_fn {f : FuncId} {fn : Func} {ts rts : List Ty} {pre : HL ts → Prop} {post : HL ts → HL rts → Prop} (hok : CtxOK P B X Γ) (hf : P.funcs[f]? = some fn) (hc : goodFn fn ts.length = true)
    (anns : HL ts → Anns) (h : ∀ xs, wfL ts xs → pre xs → (fnVCs B Γ fn (anns xs) ts rts post xs).holds) : PureOK P B.eT f ts rts pre post := by
  simp only [goodFn, Bool.and_eq_true, Bool.not_eq_true'] at hc
  obtain ⟨⟨h1, h2⟩, h3⟩ := hc
  refine pure_of_vc (hok fn.ntmps) hf (c := codeOf fn) ?_ h2 rfl anns (Nat.le_of_ble_eq_true h3) h
  unfold codeOf
  cases hb : fn.body with
  | none => rw [hb] at h1; cases h1
  | some c => rfl
theorem ctx0 (h : TyOK P B) : CtxOK P B X [] := fun _ => ctx_nil h
theorem ctx1 {f : FuncId} {q : Bool} {sp : CSpec} (h : CallOK P B.eT X f q sp) (hΓ : CtxOK P B X Γ) : CtxOK P B X ((f, q, sp) :: Γ) := fun N => ctx_cons h (hΓ N)
/-- Which appended lists are to be appended to further. -/
def hintB (B : Cx) (l : List Nat) : Cx := { B with hint := l }
theorem CtxOK.hint {l : List Nat} (h : CtxOK P B X Γ) : CtxOK P (hintB B l) X Γ := fun N =>
  { fit := (h N).fit, errno := (h N).errno, errnoZero := (h N).errnoZero, mixed := (h N).mixed, arr := (h N).arr, arr0 := (h N).arr0, eqs := (h N).eqs, ptrs := (h N).ptrs, mps := (h N).mps, calls := (h N).calls }
/-- Sums of int may go round. -/
def wrapB (B : Cx) : Cx := { B with wr := true }
theorem CtxOK.wrap (h : CtxOK P B X Γ) : CtxOK P (wrapB B) X Γ := fun N =>
  { fit := (h N).fit, errno := (h N).errno, errnoZero := (h N).errnoZero, mixed := (h N).mixed, arr := (h N).arr, arr0 := (h N).arr0, eqs := (h N).eqs, ptrs := (h N).ptrs, mps := (h N).mps, calls := (h N).calls }
theorem look_mem {α : Type} {l : List (Nat × α)} {n : Nat} {x : α} (h : look l n = some x) : (n, x) ∈ l := by
  induction l with
  | nil => cases h
  | cons p r ih =>
    obtain ⟨m, y⟩ := p
    rw [look_cons] at h
    split at h
    · rename_i e; subst e; cases h; simp
    · exact List.mem_cons_of_mem _ (ih h)
/-- The table of types, looked through. -/
def tableB (P : Program) (B : Cx) (n : Nat) : Bool :=
  (B.τ.all fun p => fits P n p.1 p.2) &&
  (match P.underlying B.eT with | some (.int .i64) => true | _ => false) &&
  (match P.info? B.eT with | some i => (match i.zero with | some (.int .i64 0) => true | _ => false) | none => false) &&
  P.follows .mixedOrders &&
  (B.arrs.all fun p => match P.underlying p.1 with | some (.array m e) => Nat.beq m p.2.1 && Nat.beq e p.2.2 | _ => false) &&
  (B.arrs.all fun p => match look B.τ p.2.2 with
    | some e => (match P.info? p.1 with
      | some i => (match i.zero with
        | some z => zeroRows e p.2.1 z.cells.toList
        | none => false)
      | none => false)
    | none => true) &&
  B.eqs.all (eqOKB P) && B.ptrs.all (ptrOKB P) &&
  (B.mps.all fun p => match P.underlying p.1 with
    | some (.map k e) => Nat.beq k p.2.1 && Nat.beq e p.2.2 && (match P.underlying p.2.1 with | some .string => true | _ => false) &&
      (match P.info? p.2.2 with
        | some i => (match i.zero with | some (.agg _) => true | _ => false)
        | none => false)
    | _ => false)
theorem tyOK_of {n : Nat} (h : tableB P B n = true) : TyOK P B := by
  simp only [tableB, Bool.and_eq_true, List.all_eq_true] at h
  obtain ⟨⟨⟨⟨⟨⟨⟨⟨h1, h2⟩, h3⟩, h4⟩, h5⟩, h6⟩, h7⟩, h8⟩, h9⟩ := h
  refine ⟨fun t ty hl => ⟨n, h1 _ (look_mem hl)⟩, ?_, ?_, h4, fun t ht => h7 t (memN_mem ht), fun t ht => h8 t (memN_mem ht), fun t m e hl => ?_, fun t k e hl => ?_, fun t m te e hl he => ?_⟩
  · split at h2
    · assumption
    · cases h2
  · split at h3
    · rename_i i hi
      refine ⟨i, hi, ?_⟩
      split at h3
      · assumption
      · cases h3
    · cases h3
  · have := h5 _ (look_mem hl)
    simp only at this
    split at this
    · rename_i m' e' hu
      simp only [Bool.and_eq_true] at this
      rw [hu, Nat.eq_of_beq_eq_true this.1, Nat.eq_of_beq_eq_true this.2]
    · cases this
  · have := h9 _ (look_mem hl)
    simp only at this
    split at this
    · rename_i k' e' hu
      simp only [Bool.and_eq_true] at this
      obtain ⟨⟨⟨e1, e2⟩, e3⟩, e4⟩ := this
      rw [hu, Nat.eq_of_beq_eq_true e1, Nat.eq_of_beq_eq_true e2]
      refine ⟨rfl, ?_, ?_⟩
      · split at e3
        · assumption
        · cases e3
      · split at e4
        · rename_i i hi
          split at e4
          · rename_i cs hz; exact ⟨i, cs, hi, hz⟩
          · cases e4
        · cases e4
    · cases this
  · have := h6 _ (look_mem hl)
    simp only [he] at this
    split at this
    · rename_i i hi
      split at this
      · rename_i z hz
        exact ⟨i, z, hi, hz, this⟩
      · cases this
    · cases this
end
end Go.Vg
