/- A part of the proof that the law TopStamp holds of the given program: facts that are used there. -/
import Derived.Test.YtgokjhhcfemnhabVg22
namespace Go.Vg
open Go.RowKit
/-! A function that is walked where it is called. -/
def argEnv0 : Nat → List SV0 → List (Nat × SV)
  | _, [] => []
  | k, a :: r => (k, .s a) :: argEnv0 (k + 1) r
def inlineSpec (B : Cx) (Γ : List (FuncId × (Bool × CSpec))) (fn : Func) (anns : Anns) : CSpec := fun args st K =>
  match Nat.ble args.length fn.ntmps with
  | true => fnVC (mkCx B Γ fn.ntmps) anns fn.results.toList (codeOf fn) { env := argEnv0 0 args, objs := st.objs, next := st.next } fun vs st' => K (retSV vs) { st' with env := st.env }
  | false => .ff
theorem argEnv0_rel {eT : TypeId} {S : Sit} : ∀ {args : List SV0} {vs : List Value} (k : Nat), SV0Rs eT S args vs → ∀ t sv, look (argEnv0 k args) t = some sv → k ≤ t ∧ ∃ v, vs[t - k]? = some v ∧ SVR eT S sv v := by
  intro args
  induction args with
  | nil => intro vs k _ t sv h; simp [argEnv0, look] at h
  | cons a r ih =>
    intro vs k hr t sv h
    cases hr with
    | cons h1 h2 =>
      simp only [argEnv0, look_cons] at h
      split at h
      · rename_i e
        cases h
        subst e
        exact ⟨Nat.le_refl _, _, by simp, h1⟩
      · rename_i e
        obtain ⟨k1, v, k2, k3⟩ := ih (k + 1) h2 t sv h
        refine ⟨by omega, v, ?_, k3⟩
        rw [show t - k = (t - (k + 1)) + 1 by omega]
        simpa using k2
theorem callOK_inline {P : Program} {B : Cx} {X : Ext} {Γ : List (FuncId × (Bool × CSpec))} (hok : CtxOK P B X Γ) {f : FuncId} {fn : Func} (hf : P.funcs[f]? = some fn) (hg : goodFn fn 0 = true) (anns : Anns) :
    CallOK P B.eT X f false (inlineSpec B Γ fn anns) := by
  simp only [goodFn, Bool.and_eq_true, Bool.not_eq_true'] at hg
  obtain ⟨⟨h1, h2⟩, _⟩ := hg
  obtain ⟨c, hc⟩ := Option.isSome_iff_exists.1 h1
  refine ⟨⟨fn, hf, by rw [hc]; rfl, h2⟩, fun O st loc w args vs K hK g hO ha => ?_⟩
  unfold inlineSpec at hK
  split at hK
  case h_2 => exact hK.elim
  rename_i hlen
  have hlen := Nat.le_of_ble_eq_true hlen
  have hcode : codeOf fn = c := by unfold codeOf; rw [hc]; rfl
  rw [hcode] at hK
  have := calls_of_vc (X := X) (hok fn.ntmps) hf hc (by rfl) anns (O := O) (loc := loc) (w := w) (args := vs.toArray)
    (st := { env := argEnv0 0 args, objs := st.objs, next := st.next }) (by rw [List.size_toArray, ← ha.len]; exact hlen) g hO
    (fun t sv h => by
      obtain ⟨_, v, k1, k2⟩ := argEnv0_rel 0 ha t sv h
      exact ⟨v, by simpa using k1, k2⟩) hK
  refine this.mono ?_
  rintro e w' ⟨rs, us, st', loc', he, hk, hr, g', tr⟩
  exact ⟨_, _, _, loc', he, hk, rfl, (fun h => by cases h), g', tr, retSV_rel hr⟩
/-- What a closure has caught. -/
def capOf (st : St) (t k : Nat) : Nat :=
  match look st.env t with
  | some (.s (.one (.fn _ caps))) => caps.getD k 0
  | _ => 0
def boxD (ty : Ty) (st : St) (n : Nat) : D ty :=
  match look st.objs n with
  | some (.cells _ cs) => match packD ty cs with
    | some (x, _) => x
    | none => zeroD ty
  | _ => zeroD ty
end Go.Vg
