/- A part of the proof that the law TopTextCard holds of the given program: facts that are used there. -/
import Derived.Test.YtgokjhhcfemnhacDoorPart2
import Derived.ProofKit
import Derived.KernelRfl
import Derived.Deep.Heap
import Derived.Room.AppendFits
import Derived.Lib.UnsafeStr
import Derived.Lib.SplitLaws
import Derived.Lib.ItoaNum
import Derived.Lib.AtoiAll
set_option linter.unusedSimpArgs false
set_option linter.unusedVariables false
namespace Go.Vg
open Go.RowKit
def Ty.plain : Ty → Bool
  | .err | .opq => false
  | .prod a b => a.plain && b.plain
  | .slice e => e.plain
  | _ => true
def Ty.low : Ty → Bool
  | .slice e => Nat.blt 0 e.size && e.low
  | .prod a b => a.low && b.low
  | _ => true
section
variable {H : Type} {enc : TypeId × Value → H} {P : Program} {w : World} {base : Nat} {sp : Nat → Bool} {held : Bool} {eT : TypeId}
theorem Fit.cellsOf {t : TypeId} {ty : Ty} {i : TypeInfo} {d : TypeDesc} (h : Fit P t ty i d) : P.cellsOf t = ty.size := by
  unfold Program.cellsOf; rw [h.info]; exact h.size
theorem open_fields {f : TypeId → Ty → Bool} {cs : List Value} {fuel : Nat}
    (ih : ∀ t ty, f t ty = true → P.cellsOf t = ty.size ∧ ∀ us d ps, ty.plain = true → ty.low = true → DataW.trod enc P w base sp held fuel t us = some (d, ps) → ∃ x, R eT ty x None' w us) :
    ∀ (gs : List Field) (off : Nat) (ty : Ty) (xs : List (DataW H × List MemPlace)), fieldsFit f gs off ty = true → ty.plain = true → ty.low = true →
      gs.mapM (fun f => DataW.trod enc P w base sp held fuel f.type ((cs.drop f.offset).take (P.cellsOf f.type))) = some xs → cs.length = off + ty.size → ∃ x, R eT ty x None' w (cs.drop off) := by
  intro gs
  induction gs with
  | nil =>
    intro off ty xs h hp hs hm hl
    cases ty <;> simp [fieldsFit] at h
    refine ⟨(), ?_⟩
    show cs.drop off = []
    exact List.drop_eq_nil_of_le (by simp [Ty.size] at hl; omega)
  | cons g gs ihg =>
    intro off ty xs h hp hs hm hl
    cases ty <;> simp [fieldsFit] at h
    rename_i a b
    obtain ⟨⟨⟨h1, h2⟩, h3⟩, h4⟩ := h
    simp only [Ty.plain, Bool.and_eq_true] at hp
    simp only [Ty.size] at hl
    rw [List.mapM_cons] at hm
    obtain ⟨k1, k2⟩ := ih _ _ h2
    subst h1
    rw [k1] at hm
    cases hx : DataW.trod enc P w base sp held fuel g.type ((cs.drop g.offset).take a.size) with
    | none => simp [hx] at hm
    | some y =>
      cases hxs : gs.mapM (fun f => DataW.trod enc P w base sp held fuel f.type ((cs.drop f.offset).take (P.cellsOf f.type))) with
      | none => simp [hx, hxs] at hm
      | some ys =>
        simp only [Ty.low, Bool.and_eq_true] at hs
        obtain ⟨x, rx⟩ := k2 _ y.1 y.2 hp.1 hs.1 hx
        obtain ⟨z, rz⟩ := ihg _ _ _ h4 hp.2 hs.2 hxs (by omega)
        refine ⟨(x, z), _, _, ?_, rx, rz⟩
        rw [← List.drop_drop, List.take_append_drop]
theorem open_cells : ∀ (n : Nat) (t : TypeId) (ty : Ty), fits P n t ty = true → P.cellsOf t = ty.size ∧ ∀ fuel us d ps, ty.plain = true → ty.low = true →
    DataW.trod enc P w base sp held fuel t us = some (d, ps) → ∃ x, R eT ty x None' w us := by
  intro n
  induction n with
  | zero => intro t ty h; simp [fits] at h
  | succ n ih =>
    intro t ty h
    obtain ⟨m, i, dsc, hm, fit, hsh⟩ := fits_out h
    cases hm
    refine ⟨fit.cellsOf, fun fuel us d ps hp hs hd => ?_⟩
    cases fuel with
    | zero => simp [DataW.trod] at hd
    | succ fuel =>
      unfold DataW.trod at hd
      rw [fit.und] at hd
      cases ty with
      | bool =>
        cases dsc <;> simp [shapeFit] at hsh
        split at hd
        case h_1 _ _ b _ => exact ⟨b, rfl⟩
        all_goals simp_all
      | int k =>
        cases dsc <;> simp [shapeFit] at hsh
        subst hsh
        split at hd
        case h_2 _ _ k1 k2 x h0 =>
          cases h0
          split at hd
          · rename_i h1
            obtain ⟨rfl, h1⟩ := h1
            simp only [Lit.wf, Bool.and_eq_true, decide_eq_true_eq] at h1
            exact ⟨x, rfl, h1⟩
          · cases hd
        all_goals simp_all
      | str =>
        cases dsc <;> simp [shapeFit] at hsh
        split at hd
        case h_4 _ _ s _ =>
          split at hd
          · rename_i h1
            refine ⟨s.data.toList, ?_, ?_⟩
            · rw [Array.toArray_toList]
            · unfold maxLen at h1
              unfold big
              rw [Array.length_toList]
              exact h1
          · cases hd
        all_goals simp_all
      | err => simp [Ty.plain] at hp
      | opq => simp [Ty.plain] at hp
      | unit =>
        cases dsc <;> simp [shapeFit] at hsh
        rename_i fs
        simp only at hd
        split at hd
        · rename_i hl
          rw [fit.cellsOf] at hl
          refine ⟨(), ?_⟩
          exact List.length_eq_zero_iff.1 hl
        · cases hd
      | prod a b =>
        cases dsc <;> simp [shapeFit] at hsh
        rename_i fs
        simp only at hd
        split at hd
        · rename_i hl
          rw [fit.cellsOf] at hl
          cases hxs : fs.toList.mapM (fun f => DataW.trod enc P w base sp held fuel f.type ((us.drop f.offset).take (P.cellsOf f.type))) with
          | none => rw [hxs] at hd; simp at hd
          | some xs =>
            obtain ⟨x, hx⟩ := open_fields (fun t ty hf => ⟨(ih t ty hf).1, (ih t ty hf).2 fuel⟩) _ _ _ _ hsh hp hs hxs (by omega)
            exact ⟨x, by simpa using hx⟩
        · cases hd
      | slice e =>
        cases dsc <;> simp [shapeFit] at hsh
        rename_i te
        simp only [Ty.low, Bool.and_eq_true] at hs
        have hpos := blt_lt hs.1
        obtain ⟨hce, hel⟩ := ih te e hsh
        split at hd
        case h_7 => exact ⟨[], _, rfl, by simp [big], .inl ⟨rfl, _, _, rfl⟩⟩
        case h_8 _ _ te' b l c h0 =>
          cases h0
          simp only at hd
          split at hd
          case isFalse => cases hd
          rename_i hcond
          obtain ⟨hb, hlc, hcm⟩ := hcond
          obtain ⟨es, hes, _⟩ := Option.bind_eq_some_iff.1 hd
          rw [hce] at hes
          have hlen := mapM_some_length hes
          simp only [List.length_range] at hlen
          by_cases hl0 : l = 0
          · subst hl0
            exact ⟨[], _, rfl, by simp [big], .inl ⟨rfl, _, _, rfl⟩⟩
          have hspot : b.spot = none := by
            have h1 := mapM_some_get hes 0 0 (by rw [List.getElem?_range (by omega)])
            rw [List.getElem?_eq_getElem (by omega)] at h1
            obtain ⟨us, hu, hd1⟩ := Option.bind_eq_some_iff.1 h1
            obtain ⟨_, q1, q2⟩ := World.cells?_some hu
            have q3 := q2 0 hpos
            rw [List.getElem?_eq_getElem (by omega)] at q3
            have e0 : (b.add (0 * e.size)).add 0 = b := by simp [Addr.add]
            rw [e0] at q3
            unfold World.cell? at q3
            split at q3
            · cases hb0 : b.spot with
              | none => rfl
              | some k => rw [hb0] at q3; simp at q3
            · cases q3
          obtain ⟨bb, oo, so⟩ := b
          simp only at hspot
          subst hspot
          have hget : ∀ i, i < l → ∃ x us, R eT e x None' w us ∧ Row None' w bb (oo + i * e.size) us := by
            intro i hi
            have h1 := mapM_some_get hes i i (by simp [hi])
            rw [List.getElem?_eq_getElem (by omega)] at h1
            obtain ⟨us, hu, hd1⟩ := Option.bind_eq_some_iff.1 h1
            obtain ⟨_, q1, q2⟩ := World.cells?_some hu
            obtain ⟨x, hx⟩ := hel fuel us (es[i]'(by omega)).1 (es[i]'(by omega)).2 hp hs.2 hd1
            refine ⟨x, us, hx, fun j u hj => ⟨?_, id⟩⟩
            have hjl : j < us.length := by
              rcases Nat.lt_or_ge j us.length with h | h
              · exact h
              · rw [List.getElem?_eq_none h] at hj; cases hj
            have := q2 j (by omega)
            rw [Addr.add_lit, Addr.add_lit] at this
            rw [this, hj]
          let xs : List (D e) := (List.range l).map fun i => if h : i < l then (hget i h).choose else zeroD e
          have hxl : xs.length = l := by simp [xs]
          have hxi : ∀ i y, xs[i]? = some y → ∃ us, R eT e y None' w us ∧ Row None' w bb (oo + i * e.size) us := by
            intro i y hy
            have hi : i < l := by
              rcases Nat.lt_or_ge i l with h | h
              · exact h
              · rw [List.getElem?_eq_none (by omega)] at hy; cases hy
            have : xs[i]? = some (hget i hi).choose := by simp [xs, hi]
            rw [this] at hy
            cases hy
            exact (hget i hi).choose_spec
          refine ⟨xs, _, rfl, ?_, .inr ⟨bb, oo, c, ?_, ?_, hxi⟩⟩
          · rw [hxl]; unfold maxLen at hcm; unfold big; omega
          · rw [hxl]
          · rw [hxl]; exact hlc
        all_goals simp_all
theorem open_val {n : Nat} {t : TypeId} {ty : Ty} (hf : fits P n t ty = true) (hp : ty.plain = true) (hlow : ty.low = true) {r : Reach} {b : Nat} {v : Value} (hval : Value.okWide P w r b t v) {d : DataW H} {ps : List MemPlace}
    (hd : DataW.Trod enc P w base sp held t v d ps) : ∃ x, VR eT ty x None' w v := by
  obtain ⟨m, i, dsc, hm, fit, hsh⟩ := fits_out hf
  obtain ⟨fuel, hd⟩ := hd
  have key : ∃ x, R eT ty x None' w v.cells.toList := (open_cells (eT := eT) n t ty hf).2 fuel _ _ _ hp hlow hd
  unfold Value.okWide at hval
  rw [fit.und] at hval
  have one : ty.one = true → Cell.okWide P w r b t v → (v.cells.toList = [v]) → ∃ x, VR eT ty x None' w v := by
    intro h1 h2 h3
    rw [h3] at key
    obtain ⟨x, hx⟩ := key
    exact ⟨x, VR.of_one h1 hx⟩
  have agg : ty.one = false → (∃ cs, v = .agg cs ∧ cs.size = P.cellsOf t ∧ Row.okWide P w r b t cs) → ∃ x, VR eT ty x None' w v := by
    rintro h1 ⟨cs, rfl, _, ts, _, _, h2⟩
    obtain ⟨x, hx⟩ := key
    refine ⟨x, ?_⟩
    unfold VR
    rw [if_neg (by simp [h1])]
    exact ⟨cs, rfl, hx⟩
  cases ty with
  | err => simp [Ty.plain] at hp
  | opq => simp [Ty.plain] at hp
  | prod a b => cases dsc <;> simp [shapeFit] at hsh; exact agg rfl hval
  | unit => cases dsc <;> simp [shapeFit] at hsh; exact agg rfl hval
  | bool =>
    cases dsc <;> simp [shapeFit] at hsh
    refine one rfl hval ?_
    cases v <;> simp [Cell.okWide, Cell.ok, fit.und, Value.cells] at hval ⊢
  | int k =>
    cases dsc <;> simp [shapeFit] at hsh
    refine one rfl hval ?_
    cases v <;> simp [Cell.okWide, Cell.ok, fit.und, Value.cells] at hval ⊢
  | str =>
    cases dsc <;> simp [shapeFit] at hsh
    refine one rfl hval ?_
    cases v <;> simp [Cell.okWide, Cell.ok, fit.und, Value.cells] at hval ⊢
  | slice e =>
    cases dsc <;> simp [shapeFit] at hsh
    refine one rfl hval ?_
    cases v <;> simp [Cell.okWide, Cell.ok, fit.und, Value.cells] at hval ⊢
def fitsAll (P : Program) (n : Nat) : List TypeId → List Ty → Bool
  | [], [] => true
  | t :: ts, ty :: tys => fits P n t ty && ty.plain && ty.low && fitsAll P n ts tys
  | _, _ => false
theorem open_args {n : Nat} {r : Reach} {b : Nat} : ∀ (ts : List TypeId) (tys : List Ty) (vs : List Value) (ds : List (DataW H)) (ps : List MemPlace), fitsAll P n ts tys = true →
    (∀ (j : Nat) t v, ts[j]? = some t → vs[j]? = some v → Value.okWide P w r b t v) → DataW.TrodAll enc P w base sp held ts vs ds ps → ∃ xs, ArgsR eT None' w tys xs vs := by
  intro ts
  induction ts with
  | nil =>
    intro tys vs ds ps hf hv h
    cases tys <;> simp [fitsAll] at hf
    cases vs <;> cases ds <;> simp [DataW.TrodAll] at h
    exact ⟨(), rfl⟩
  | cons t ts ih =>
    intro tys vs ds ps hf hv h
    cases tys <;> simp [fitsAll] at hf
    rename_i ty tys
    obtain ⟨⟨⟨h1, h2⟩, h3⟩, h4⟩ := hf
    cases vs <;> cases ds <;> simp [DataW.TrodAll] at h
    rename_i v vs d ds
    obtain ⟨p, hp, q, hq, _⟩ := h
    obtain ⟨x, hx⟩ := open_val (eT := eT) h1 h2 h3 (hv 0 t v rfl rfl) hp
    obtain ⟨xs, hxs⟩ := ih tys vs ds q h4 (fun j t' v' h1 h2 => hv (j + 1) t' v' h1 h2) hq
    cases tys with
    | nil => exact ⟨x, v, by rw [show vs = [] from hxs], hx⟩
    | cons ty' tys => exact ⟨(x, xs), v, vs, rfl, hx, hxs⟩
theorem stays_args (hl : laidOutB P = true) {W W' : World} (hb : Below W.heap.size W W') : ∀ (ts : List TypeId) (vs : List Value) (ds : List (DataW H)) (ps : List MemPlace), (ts.all fun t => P.readableRec t && Nat.blt t P.types.size) = true →
    DataW.TrodAll enc P W 0 (fun _ => true) true ts vs ds ps → (∀ x ∈ ps, x.block < W.heap.size) → DataW.TrodAll enc P W' 0 (fun b => decide (b < W.heap.size)) true ts vs ds ps := by
  intro ts
  induction ts with
  | nil => intro vs ds ps _ h _; cases vs <;> cases ds <;> simp [DataW.TrodAll] at h ⊢; exact h
  | cons t ts ih =>
    intro vs ds ps hr h hlt
    simp only [List.all_cons, Bool.and_eq_true] at hr
    cases vs <;> cases ds <;> simp only [DataW.TrodAll] at h ⊢
    rename_i v vs d ds
    obtain ⟨p, q, hp, hq, rfl⟩ := h
    exact ⟨p, q, WideElems.Trod_stays hl hr.1.1 (blt_lt hr.1.2) hp (fun x hx => hb.same (hlt x (by simp [hx]))) (fun x hx => by simpa using hlt x (by simp [hx])), ih vs ds q hr.2 hq (fun x hx => hlt x (by simp [hx])), rfl⟩
theorem len_trod : ∀ {ts : List TypeId} {vs : List Value} {ds : List (DataW H)} {ps : List MemPlace}, DataW.TrodAll enc P w base sp held ts vs ds ps → vs.length = ts.length ∧ ds.length = ts.length
  | [], [], [], _, _ => ⟨rfl, rfl⟩
  | _ :: _, _ :: _, _ :: _, _, ⟨_, _, _, h, _⟩ => by simp [len_trod h]
theorem law_calls {X : Ext} {C : Checked} {f : FuncId} {fn : Func} {s : ChangeSpec} {tys : List Ty} {pre : HL tys → Prop} (hs : s.vars = []) (hl : laidOutB C.prog = true)
    (hsp : ∀ ds : List (DataW H), ds.length = tys.length → s.fn H ds = { results := [.lit (.bool true)], args := ds })
    {n : Nat} (hf : fitsAll C.prog n fn.params.toList tys = true) (hr : (fn.params.toList.all fun t => C.prog.readableRec t && Nat.blt t C.prog.types.size) = true)
    {tb : TypeId} (hres : fn.resultTypes = #[tb]) (hb : C.prog.underlying tb = some .bool)
    (h : PureOK C.prog eT X f tys [.bool] pre (fun _ y => y = true))
    {W : World} {base : Nat} {args : Array Value} {ds gs : List (DataW H)} {before : List MemPlace}
    (hval : ∀ (j : Nat) t v, fn.params[j]? = some t → args[j]? = some v → Value.okWide C.prog W .any base t v)
    (hW : DataW.Whole enc C.prog fn.params.toList s.vars false W args.toList ds gs before)
    (hG : X.Glob W) (hpre : ∀ xs, ArgsR eT None' W tys xs args.toList → pre xs) :
    Calls C.prog f args W fun e W' => ∃ v, e = .returned v ∧ s.post enc C.prog fn false true false false W args v W' := by
  have hW0 := hW
  obtain ⟨p, q, hA, hV, rfl, _, _⟩ := hW
  rw [hs] at hV
  obtain ⟨rfl, rfl⟩ : gs = [] ∧ q = [] := by cases gs <;> simp [DataW.TrodVars] at hV; exact ⟨rfl, hV⟩
  obtain ⟨xs, hxs⟩ := open_args (eT := eT) _ _ _ _ _ hf (fun j t v h1 h2 => hval j t v (by rw [← Array.getElem?_toList]; exact h1) (by rw [← Array.getElem?_toList]; exact h2)) hA
  have := h.ok None' W xs args.toList hG (fun _ _ h => h.elim) hxs (hpre xs hxs)
  rw [Array.toArray_toList] at this
  refine this.mono ?_
  rintro e W' ⟨us, ys, rfl, rfl, hr', hbel⟩
  obtain ⟨u, rfl, hu⟩ := hr'
  have hu : u = .bool true := by
    have := VR.one rfl hu
    simpa [R] using this
  subst hu
  have hlen : ds.length = tys.length := by
    have h1 := hxs.length
    have h2 := len_trod hA
    omega
  simp only [List.append_nil] at hW0 ⊢
  have hlt : ∀ x ∈ p, x.block < W.heap.size := hW0.lt
  refine ⟨_, rfl, ds, [], p, [], p, [], hW0, ?_, ?_, ?_, hbel.frame _, fun hh => by cases hh⟩
  · rw [List.append_nil, hsp ds hlen, hres]
    exact ⟨[], [], shut_bool hb true, rfl, rfl⟩
  · rw [List.append_nil, hsp ds hlen]
    exact stays_args hl hbel _ _ _ _ hr hA hlt
  · rw [List.append_nil, hsp ds hlen, hs]
    rfl
end
end Go.Vg

namespace Go.Vg
open Go.RowKit
theorem holds_of {v : VC} {p : Prop} (e : v.holds = p) (h : p) : v.holds := by rw [e]; exact h
def noExt : Ext where
  rel k t x l w := match k with
    | 0 => DeepR t x l w
    | 1 => MapR t x l w
    | 2 => BldR t x l w
    | _ => False
  inside {k t x l w} h := by
    match k, h with
    | 0, h => exact DeepR.inside h
    | 1, h => exact MapR.inside h
    | 2, h => exact BldR.inside h
  ptr {k t x l w} hk h := by
    match k, hk, h with
    | 0, hk, _ => omega
    | 1, hk, _ => omega
    | 2, _, h => obtain ⟨rfl, b, p, v, h⟩ := h; exact ⟨_, h.lv⟩
  deep := Iff.rfl
  map := Iff.rfl
  bld := Iff.rfl
  frame {k t x l w w'} h hb := by
    match k, h with
    | 0, h => exact DeepR.frame h hb
    | 1, h => exact MapR.frame h hb
    | 2, h => exact BldR.frame h hb
  Glob _ := True
  gbs := []
  gin _ _ hb := by cases hb
  gframe _ _ := trivial
def codeOf (fn : Func) : Code := fn.body.getD .skip
def fnVCs (B : Cx) (Γ : List (FuncId × (Bool × CSpec))) (fn : Func) (anns : Anns) (ts rts : List Ty) (post : HL ts → HL rts → Prop) (xs : HL ts) : VC :=
  pureVCs B Γ fn.ntmps anns fn.results.toList (codeOf fn) ts rts post xs
def goodFn (fn : Func) (n : Nat) : Bool := fn.body.isSome && !(fn.name == "runtime.NumGoroutine") && Nat.ble n fn.ntmps
def CtxOK (P : Program) (B : Cx) (X : Ext) (Γ : List (FuncId × (Bool × CSpec))) : Prop := ∀ N, CxOK P (mkCx B Γ N) X
section
variable {P : Program} {B : Cx} {X : Ext} {Γ : List (FuncId × (Bool × CSpec))}
theorem pure_fn {f : FuncId} {fn : Func} {ts rts : List Ty} {pre : HL ts → Prop} {post : HL ts → HL rts → Prop} (hok : CtxOK P B X Γ) (hf : P.funcs[f]? = some fn) (hc : goodFn fn ts.length = true)
    (anns : HL ts → Anns) (h : ∀ xs, wfL ts xs → pre xs → (fnVCs B Γ fn (anns xs) ts rts post xs).holds) : PureOK P B.eT X f ts rts pre post := by
  simp only [goodFn, Bool.and_eq_true, Bool.not_eq_true'] at hc
  obtain ⟨⟨h1, h2⟩, h3⟩ := hc
  refine pure_of_vc (hok fn.ntmps) hf (c := codeOf fn) ?_ h2 rfl anns (Nat.le_of_ble_eq_true h3) h
  unfold codeOf
  cases hb : fn.body with
  | none => rw [hb] at h1; cases h1
  | some c => rfl
theorem ctx0 (h : TyOK P B) : CtxOK P B X [] := fun _ => ctx_nil h
theorem ctx1 {f : FuncId} {q : Bool} {sp : CSpec} (h : CallOK P B.eT X f q sp) (hΓ : CtxOK P B X Γ) : CtxOK P B X ((f, q, sp) :: Γ) := fun N => ctx_cons h (hΓ N)
def hintB (B : Cx) (l : List Nat) : Cx := { B with hint := l }
theorem CtxOK.hint {l : List Nat} (h : CtxOK P B X Γ) : CtxOK P (hintB B l) X Γ := fun N =>
  { fit := (h N).fit, errno := (h N).errno, errnoZero := (h N).errnoZero, mixed := (h N).mixed, arr := (h N).arr, arr0 := (h N).arr0, eqs := (h N).eqs, ptrs := (h N).ptrs, mps := (h N).mps, slf := (h N).slf, calls := (h N).calls }
theorem look_mem {α : Type} {l : List (Nat × α)} {n : Nat} {x : α} (h : look l n = some x) : (n, x) ∈ l := by
  induction l with
  | nil => cases h
  | cons p r ih =>
    obtain ⟨m, y⟩ := p
    rw [look_cons] at h
    split at h
    · rename_i e; subst e; cases h; simp
    · exact List.mem_cons_of_mem _ (ih h)
def tableB (P : Program) (B : Cx) (n : Nat) : Bool :=
  (B.τ.all fun p => fits P n p.1 p.2) &&
  (match P.underlying B.eT with | some (.int .i64) => true | _ => false) &&
  (match P.info? B.eT with | some i => (match i.zero with | some (.int .i64 0) => true | _ => false) | none => false) &&
  P.follows .mixedOrders &&
  (B.arrs.all fun p => match P.underlying p.1 with | some (.array m e) => Nat.beq m p.2.1 && Nat.beq e p.2.2 | _ => false) &&
  (B.arrs.all fun p => match look B.τ p.2.2 with
    | some e => (match P.info? p.1 with
      | some i => (match i.zero with
        | some z => zeroRows e p.2.1 z.cells.toList
        | none => false)
      | none => false)
    | none => true) &&
  B.eqs.all (eqOKB P) && B.ptrs.all (ptrOKB P) &&
  (B.mps.all fun p => match P.underlying p.1 with
    | some (.map k e) => Nat.beq k p.2.1 && Nat.beq e p.2.2 && (match P.underlying p.2.1 with | some .string => true | _ => false) &&
      (match P.info? p.2.2 with
        | some i => (match i.zero with | some (.agg _) => true | _ => false)
        | none => false)
    | _ => false) &&
  (B.slf.all fun p => match P.info? p.1 with
    | some i => (match i.zero with
      | some (.agg cs) => (match cs.toList with
        | [.pointer none, .slice none 0 0] => true
        | _ => false)
      | _ => false)
    | none => false)
theorem tyOK_of {n : Nat} (h : tableB P B n = true) : TyOK P B := by
  simp only [tableB, Bool.and_eq_true, List.all_eq_true] at h
  obtain ⟨⟨⟨⟨⟨⟨⟨⟨⟨h1, h2⟩, h3⟩, h4⟩, h5⟩, h6⟩, h7⟩, h8⟩, h9⟩, h10⟩ := h
  refine ⟨fun t ty hl => ⟨n, h1 _ (look_mem hl)⟩, ?_, ?_, h4, fun t ht => h7 t (memN_mem ht), fun t ht => h8 t (memN_mem ht), fun t m e hl => ?_, fun t k e hl => ?_, fun t e hl => ?_, fun t m te e hl he => ?_⟩
  · split at h2
    · assumption
    · cases h2
  · split at h3
    · rename_i i hi
      refine ⟨i, hi, ?_⟩
      split at h3
      · assumption
      · cases h3
    · cases h3
  · have := h5 _ (look_mem hl)
    simp only at this
    split at this
    · rename_i m' e' hu
      simp only [Bool.and_eq_true] at this
      rw [hu, Nat.eq_of_beq_eq_true this.1, Nat.eq_of_beq_eq_true this.2]
    · cases this
  · have := h9 _ (look_mem hl)
    simp only at this
    split at this
    · rename_i k' e' hu
      simp only [Bool.and_eq_true] at this
      obtain ⟨⟨⟨e1, e2⟩, e3⟩, e4⟩ := this
      rw [hu, Nat.eq_of_beq_eq_true e1, Nat.eq_of_beq_eq_true e2]
      refine ⟨rfl, ?_, ?_⟩
      · split at e3
        · assumption
        · cases e3
      · split at e4
        · rename_i i hi
          split at e4
          · rename_i cs hz; exact ⟨i, cs, hi, hz⟩
          · cases e4
        · cases e4
    · cases this
  · have := h10 _ (look_mem hl)
    simp only at this
    split at this
    · rename_i i hi
      split at this
      · rename_i cs hz
        split at this
        · rename_i hr
          exact ⟨i, hi, by rw [hz]; congr 2; exact Array.toList_inj.1 hr⟩
        · cases this
      · cases this
    · cases this
  · have := h6 _ (look_mem hl)
    simp only [he] at this
    split at this
    · rename_i i hi
      split at this
      · rename_i z hz
        exact ⟨i, z, hi, hz, this⟩
      · cases this
    · cases this
end
end Go.Vg

namespace Go.Vg
open Go.RowKit
def argEnv0 : Nat → List SV0 → List (Nat × SV)
  | _, [] => []
  | k, a :: r => (k, .s a) :: argEnv0 (k + 1) r
def inlineSpec (B : Cx) (Γ : List (FuncId × (Bool × CSpec))) (fn : Func) (anns : Anns) : CSpec := fun args st K =>
  match Nat.ble args.length fn.ntmps with
  | true => fnVC (mkCx B Γ fn.ntmps) anns fn.results.toList (codeOf fn) { env := argEnv0 0 args, objs := st.objs, next := st.next } fun vs st' => K (retSV vs) { st' with env := st.env }
  | false => .ff
theorem argEnv0_rel {eT : TypeId} {S : Sit} : ∀ {args : List SV0} {vs : List Value} (k : Nat), SV0Rs eT S args vs → ∀ t sv, look (argEnv0 k args) t = some sv → k ≤ t ∧ ∃ v, vs[t - k]? = some v ∧ SVR eT S sv v := by
  intro args
  induction args with
  | nil => intro vs k _ t sv h; simp [argEnv0, look] at h
  | cons a r ih =>
    intro vs k hr t sv h
    cases hr with
    | cons h1 h2 =>
      simp only [argEnv0, look_cons] at h
      split at h
      · rename_i e
        cases h
        subst e
        exact ⟨Nat.le_refl _, _, by simp, h1⟩
      · rename_i e
        obtain ⟨k1, v, k2, k3⟩ := ih (k + 1) h2 t sv h
        refine ⟨by omega, v, ?_, k3⟩
        rw [show t - k = (t - (k + 1)) + 1 by omega]
        simpa using k2
theorem callOK_inline {P : Program} {B : Cx} {X : Ext} {Γ : List (FuncId × (Bool × CSpec))} (hok : CtxOK P B X Γ) {f : FuncId} {fn : Func} (hf : P.funcs[f]? = some fn) (hg : goodFn fn 0 = true) (anns : Anns) :
    CallOK P B.eT X f false (inlineSpec B Γ fn anns) := by
  simp only [goodFn, Bool.and_eq_true, Bool.not_eq_true'] at hg
  obtain ⟨⟨h1, h2⟩, _⟩ := hg
  obtain ⟨c, hc⟩ := Option.isSome_iff_exists.1 h1
  refine ⟨⟨fn, hf, by rw [hc]; rfl, h2⟩, fun O st loc w args vs K hK g hO ha => ?_⟩
  unfold inlineSpec at hK
  split at hK
  case h_2 => exact hK.elim
  rename_i hlen
  have hlen := Nat.le_of_ble_eq_true hlen
  have hcode : codeOf fn = c := by unfold codeOf; rw [hc]; rfl
  rw [hcode] at hK
  have := calls_of_vc (X := X) (hok fn.ntmps) hf hc (by rfl) anns (O := O) (loc := loc) (w := w) (args := vs.toArray)
    (st := { env := argEnv0 0 args, objs := st.objs, next := st.next }) (by rw [List.size_toArray, ← ha.len]; exact hlen) g hO
    (fun t sv h => by
      obtain ⟨_, v, k1, k2⟩ := argEnv0_rel 0 ha t sv h
      exact ⟨v, by simpa using k1, k2⟩) hK
  refine this.mono ?_
  rintro e w' ⟨rs, us, st', loc', he, hk, hr, g', tr⟩
  exact ⟨_, _, _, loc', he, hk, rfl, (fun h => by cases h), g', tr, retSV_rel hr⟩
def capOf (st : St) (t k : Nat) : Nat :=
  match look st.env t with
  | some (.s (.one (.fn _ caps))) => caps.getD k 0
  | _ => 0
def boxD (ty : Ty) (st : St) (n : Nat) : D ty :=
  match look st.objs n with
  | some (.cells _ cs) => match packD ty cs with
    | some (x, _) => x
    | none => zeroD ty
  | _ => zeroD ty
end Go.Vg

namespace Go.Vg
open Go.RowKit
def frzP : List Cl → St → List SV0 → List SV0 × St
  | .d _ :: r, st, v :: vs => match frz0 st v with
    | (v', st1) => match frzP r st1 vs with
      | (vs', st2) => (v' :: vs', st2)
  | .obj _ :: r, st, v :: vs => match frzP r st vs with
    | (vs', st2) => (v :: vs', st2)
  | .nilP :: r, st, v :: vs => match frzP r st vs with
    | (vs', st2) => (v :: vs', st2)
  | _, st, vs => (vs, st)
def delAll : List (Nat × OC) → List Nat → List (Nat × OC)
  | l, [] => l
  | l, n :: r => delAll (delObj l n) r
def keepO : Ob → Ob → Bool
  | .box T _, .box T' _ => Nat.beq T T'
  | .ext k t, .ext k' t' => Nat.beq k k' && Ty.beq t t'
  | .row true t, .row true t' => Ty.beq t t'
  | _, _ => false
def newN : List Ob → List Ob → List Nat → Nat → List Nat
  | o :: os, o' :: os', n :: ns, b => (match keepO o o' with | true => n | false => b) :: newN os os' ns (b + 1)
  | _, _ :: os', _, b => b :: newN [] os' [] (b + 1)
  | _, [], _, _ => []
def startAs : Nat → List Ob → List Ob → List (Nat × Nat)
  | k, o :: os, o' :: os' => match keepO o o' with
    | true => (k, k) :: startAs (k + 1) os os'
    | false => startAs (k + 1) os os'
  | _, _, _ => []
def keptB : Nat → List Ob → List Ob → List Nat → Bool
  | k, o :: os, o' :: os', n :: ns => (match keepO o o' with | true => Nat.beq n k | false => true) && keptB (k + 1) os os' ns
  | _, _, _, _ => true
structure Alt (obs : List Ob) (args : List Cl) : Type 1 where
  cv : Bool := false
  obs' : List Ob
  res : List Cl
  ok : CD args → PD obs → Prop := fun _ _ => True
  out : CD args → PD obs → PD obs'
  ret : CD args → PD obs → CD res
section
variable {obs : List Ob} {args : List Cl}
def altVC (al : Alt obs args) (a : CD args) (x : PD obs) (ν : List Nat) (st : St) (K : SV → St → VC) : VC :=
  match nodupB (newN obs al.obs' ν st.next) && capsBelow (st.next + al.obs'.length) (newN obs al.obs' ν st.next) with
  | true => .imp (al.ok a x) (K (retSV (clsV (refAt al.obs' (al.out a x) (newN obs al.obs' ν st.next)) al.res (al.ret a x)))
      { env := st.env, objs := objsC (refAt al.obs' (al.out a x) (newN obs al.obs' ν st.next)) al.obs' (al.out a x) (newN obs al.obs' ν st.next) ++ delAll st.objs ν, next := st.next + al.obs'.length })
  | false => .ff
def altsVC (a : CD args) (x : PD obs) (ν : List Nat) (st : St) (K : SV → St → VC) : List (Alt obs args) → VC
  | [] => .leaf True
  | [al] => altVC al a x ν st K
  | al :: al2 :: r => .both (altVC al a x ν st K) (altsVC a x ν st K (al2 :: r))
def objSpec (obs : List Ob) (args : List Cl) (pre : CD args → PD obs → Prop) (alts : List (Alt obs args)) : CSpec := fun as st K =>
  match frzP args st as with
  | (as, st) => match findN obs args as st.objs [] with
    | some ν => match nodupB ν, getVs false st.objs obs ν args as, getObs false st.objs obs ν obs ν with
      | true, some a, some x => andP (condVs obs x args as ++ condObs obs x st.objs obs ν) (.and (pre a x) (altsVC a x ν st K alts))
      | _, _, _ => .ff
    | none => .ff
def startSt (obs : List Ob) (args : List Cl) (a : CD args) (x : PD obs) : St :=
  { env := argEnv0 0 (clsV (refAt obs x (upto 0 obs.length)) args a), objs := objsC (refAt obs x (upto 0 obs.length)) obs x (upto 0 obs.length), next := obs.length }
def endVC (a : CD args) (x : PD obs) (vs : List SV0) (st : St) : List (Alt obs args) → VC
  | [] => .ff
  | al :: r => match frzP al.res st vs with
    | (vs', st') => match findN al.obs' al.res vs' st'.objs (startAs 0 obs al.obs') with
      | some ν => match nodupB ν && (keptB 0 obs al.obs' ν && (!al.cv || (noTok obs && (flatObs al.obs' && flatCls al.res)))), getVs al.cv st'.objs al.obs' ν al.res vs', getObs al.cv st'.objs al.obs' ν al.obs' ν with
        | true, some b, some y => .leaf (allP (condVs al.obs' y al.res vs' ++ condObs al.obs' y st'.objs al.obs' ν ++ [al.ok a x ∧ y = al.out a x ∧ b = al.ret a x]))
        | _, _, _ => endVC a x vs st r
      | none => endVC a x vs st r
def objVCs (B : Cx) (Γ : List (FuncId × (Bool × CSpec))) (fn : Func) (anns : Anns) (obs : List Ob) (args : List Cl) (alts : List (Alt obs args)) (a : CD args) (x : PD obs) : VC :=
  fnVC (mkCx B Γ fn.ntmps) anns fn.results.toList (codeOf fn) (startSt obs args a x) fun vs st' => endVC a x vs st' alts
def wfC : (cls : List Cl) → CD cls → Prop
  | [], _ => True
  | .d t :: r, x => wf t x.1 ∧ wfC r x.2
  | .obj _ :: r, x => wfC r x
  | .nilP :: r, x => wfC r x
end
section
variable {eT : TypeId} {X : Ext}
theorem capsBelow_mem {k : Nat} : ∀ {l : List Nat} {n : Nat}, capsBelow k l = true → n ∈ l → n < k
  | [], _, _, h => by simp at h
  | m :: r, n, h, hn => by
    simp only [capsBelow, Bool.and_eq_true] at h
    rcases List.mem_cons.1 hn with e | hn
    · rw [e]; exact blt_lt h.1
    · exact capsBelow_mem h.2 hn
theorem look_delAll (m : Nat) : ∀ (ns : List Nat) (l : List (Nat × OC)), look (delAll l ns) m = if m ∈ ns then none else look l m
  | [], l => by simp [delAll]
  | n :: r, l => by
    simp only [delAll]
    rw [look_delAll m r, look_del]
    by_cases h1 : m ∈ r
    · simp [h1]
    · by_cases h2 : n = m
      · subst h2; simp
      · have : ¬ m = n := fun e => h2 e.symm
        simp [h1, h2, this]
theorem newN_spec : ∀ {obs obs' : List Ob} {ν : List Nat} {b i n : Nat}, (newN obs obs' ν b)[i]? = some n →
    (∃ o o', obs[i]? = some o ∧ obs'[i]? = some o' ∧ keepO o o' = true ∧ ν[i]? = some n) ∨ b ≤ n
  | obs, [], ν, b, i, n, h => by
    cases obs <;> cases ν <;> simp [newN] at h
  | [], o' :: os', ν, b, i, n, h => by
    simp only [newN] at h
    cases i with
    | zero => simp at h; exact .inr (by omega)
    | succ i =>
      rcases newN_spec (obs := []) (ν := []) (by simpa using h) with ⟨o, _, h1, _⟩ | h1
      · simp at h1
      · exact .inr (by omega)
  | o :: os, o' :: os', [], b, i, n, h => by
    simp only [newN] at h
    cases i with
    | zero => simp at h; exact .inr (by omega)
    | succ i =>
      rcases newN_spec (obs := []) (ν := []) (by simpa using h) with ⟨o, _, h1, _⟩ | h1
      · simp at h1
      · exact .inr (by omega)
  | o :: os, o' :: os', n0 :: ns, b, i, n, h => by
    simp only [newN] at h
    cases i with
    | zero =>
      simp only [List.getElem?_cons_zero, Option.some.injEq] at h
      split at h
      · rename_i hk; exact .inl ⟨o, o', rfl, rfl, hk, by simp [h]⟩
      · exact .inr (by omega)
    | succ i =>
      rcases newN_spec (by simpa using h) with ⟨a, a', h1, h2, h3⟩ | h1
      · exact .inl ⟨a, a', by simpa using h1, by simpa using h2, by simpa using h3⟩
      · exact .inr (by omega)
theorem newN_len : ∀ {obs obs' : List Ob} {ν : List Nat} {b : Nat}, (newN obs obs' ν b).length = obs'.length
  | obs, [], ν, b => by cases obs <;> cases ν <;> rfl
  | [], o' :: os', ν, b => by simp [newN, newN_len]
  | o :: os, o' :: os', [], b => by simp [newN, newN_len]
  | o :: os, o' :: os', n0 :: ns, b => by simp [newN, newN_len]
theorem keptB_spec : ∀ {obs obs' : List Ob} {ν : List Nat} {k i n : Nat} {o o' : Ob}, keptB k obs obs' ν = true → obs[i]? = some o → obs'[i]? = some o' → keepO o o' = true → ν[i]? = some n → n = k + i
  | [], _, _, _, _, _, _, _, _, h, _, _, _ => by simp at h
  | _ :: _, [], _, _, _, _, _, _, _, _, h, _, _ => by simp at h
  | _ :: _, _ :: _, [], _, _, _, _, _, _, _, _, _, h => by simp at h
  | a :: os, a' :: os', m :: ns, k, 0, n, o, o', h, h1, h2, h3, h4 => by
    simp at h1 h2 h4
    subst h1; subst h2; subst h4
    simp only [keptB, h3, Bool.and_eq_true] at h
    have := Nat.eq_of_beq_eq_true h.1
    omega
  | a :: os, a' :: os', m :: ns, k, i + 1, n, o, o', h, h1, h2, h3, h4 => by
    simp only [keptB, Bool.and_eq_true] at h
    have := keptB_spec h.2 (by simpa using h1) (by simpa using h2) h3 (by simpa using h4)
    omega
theorem noTok_mem : ∀ {l : List Ob} {o : Ob} {t : Ty}, noTok l = true → o ∈ l → o ≠ .tok t
  | [], _, _, _, h => by simp at h
  | a :: r, o, t, h, ho => by
    rcases List.mem_cons.1 ho with e | ho
    · subst e; intro e; subst e; simp [noTok] at h
    · exact noTok_mem (by cases a <;> simp_all [noTok]) ho
theorem clsR_wf {S : Sit} {F : Nat → Value → Prop} : ∀ {cls : List Cl} {x : CD cls} {vs : List Value}, clsR eT S F cls x vs → wfC cls x
  | [], _, _, _ => trivial
  | .d t :: r, x, v :: vs, h => ⟨h.1.wf, clsR_wf h.2⟩
  | .obj k :: r, x, v :: vs, h => clsR_wf (cls := r) h.2
  | .nilP :: r, x, v :: vs, h => clsR_wf (cls := r) h.2
theorem clsR_len {S : Sit} {F : Nat → Value → Prop} : ∀ {cls : List Cl} {x : CD cls} {vs : List Value}, clsR eT S F cls x vs → vs.length = cls.length
  | [], _, _, h => by rw [show _ = [] from h]; rfl
  | .d t :: r, x, v :: vs, h => by simp [clsR_len h.2]
  | .obj k :: r, x, v :: vs, h => by simp [clsR_len (cls := r) h.2]
  | .nilP :: r, x, v :: vs, h => by simp [clsR_len (cls := r) h.2]
theorem frzP_sound {O : Avoid} {loc : Nat → Loc} {w : World} : ∀ (cls : List Cl) (xs : List SV0) {st : St}, Good eT X (sit O st loc w) →
    Tr (sit O st loc w) (sit O (frzP cls st xs).2 loc w) ∧ Good eT X (sit O (frzP cls st xs).2 loc w) ∧ (frzP cls st xs).2.env = st.env ∧
      ∀ vs, SV0Rs eT (sit O st loc w) xs vs → SV0Rs eT (sit O (frzP cls st xs).2 loc w) (frzP cls st xs).1 vs := by
  intro cls
  induction cls with
  | nil => intro xs st g; exact ⟨Tr.refl _, g, rfl, fun vs h => h⟩
  | cons cl r ih =>
    intro xs st g
    cases xs with
    | nil => cases cl <;> exact ⟨Tr.refl _, g, rfl, fun vs h => h⟩
    | cons x xs =>
      cases cl with
      | d t =>
        have g' : Good (Cx.mk eT [] [] [] 0 [] [] [] false [] []).eT X (sit O st loc w) := g
        obtain ⟨t1, g1, e1, k1⟩ := frz0_sound g' x
        obtain ⟨t2, g2, e2, k2⟩ := ih xs g1
        refine ⟨t1.trans t2, g2, e2.trans e1, fun vs h => ?_⟩
        cases h with
        | cons h1 h3 => exact .cons ((k1 _ h1).tr t2) (k2 _ (h3.tr t1))
      | obj k =>
        obtain ⟨t2, g2, e2, k2⟩ := ih xs g
        refine ⟨t2, g2, e2, fun vs h => ?_⟩
        cases h with
        | cons h1 h3 => exact .cons (h1.tr t2) (k2 _ h3)
      | nilP =>
        obtain ⟨t2, g2, e2, k2⟩ := ih xs g
        refine ⟨t2, g2, e2, fun vs h => ?_⟩
        cases h with
        | cons h1 h3 => exact .cons (h1.tr t2) (k2 _ h3)
end
end Go.Vg

namespace Go.Vg
open Go.RowKit
section
variable {X : Ext} {P : Program} {obs : List Ob} {args : List Cl}
theorem altsVC_mem {a : CD args} {x : PD obs} {ν : List Nat} {st : St} {K : SV → St → VC} : ∀ {alts : List (Alt obs args)}, (altsVC a x ν st K alts).holds → ∀ al ∈ alts, (altVC al a x ν st K).holds
  | [], _, al, h => by simp at h
  | [al0], h, al, ha => by simp at ha; subst ha; exact h
  | al0 :: al1 :: r, h, al, ha => by
    rcases List.mem_cons.1 ha with e | ha
    · subst e; exact h.1
    · exact altsVC_mem h.2 al ha
theorem endVC_out {a : CD args} {x : PD obs} {vs : List SV0} {st : St} : ∀ {alts : List (Alt obs args)}, (endVC a x vs st alts).holds → ∃ al ∈ alts, ∃ ν,
    nodupB ν = true ∧ keptB 0 obs al.obs' ν = true ∧ (al.cv = false ∨ (noTok obs = true ∧ flatObs al.obs' = true ∧ flatCls al.res = true)) ∧ al.ok a x ∧
    getVs al.cv (frzP al.res st vs).2.objs al.obs' ν al.res (frzP al.res st vs).1 = some (al.ret a x) ∧ getObs al.cv (frzP al.res st vs).2.objs al.obs' ν al.obs' ν = some (al.out a x) ∧
    (∀ p ∈ condVs al.obs' (al.out a x) al.res (frzP al.res st vs).1, p) ∧ (∀ p ∈ condObs al.obs' (al.out a x) (frzP al.res st vs).2.objs al.obs' ν, p)
  | [], h => h.elim
  | al :: r, h => by
    have rest : (endVC a x vs st r).holds → ∃ al' ∈ al :: r, ∃ ν,
        nodupB ν = true ∧ keptB 0 obs al'.obs' ν = true ∧ (al'.cv = false ∨ (noTok obs = true ∧ flatObs al'.obs' = true ∧ flatCls al'.res = true)) ∧ al'.ok a x ∧
        getVs al'.cv (frzP al'.res st vs).2.objs al'.obs' ν al'.res (frzP al'.res st vs).1 = some (al'.ret a x) ∧ getObs al'.cv (frzP al'.res st vs).2.objs al'.obs' ν al'.obs' ν = some (al'.out a x) ∧
        (∀ p ∈ condVs al'.obs' (al'.out a x) al'.res (frzP al'.res st vs).1, p) ∧ (∀ p ∈ condObs al'.obs' (al'.out a x) (frzP al'.res st vs).2.objs al'.obs' ν, p) := fun h => by
      obtain ⟨al', h1, h2⟩ := endVC_out h
      exact ⟨al', by simp [h1], h2⟩
    simp only [endVC] at h
    split at h
    · rename_i ν hν
      split at h
      · rename_i b y hc hb hy
        simp only [Bool.and_eq_true, Bool.or_eq_true, Bool.not_eq_true'] at hc
        obtain ⟨h1, h2, h3⟩ := hc
        have hall := allP_out h
        have k3 : al.ok a x ∧ y = al.out a x ∧ b = al.ret a x := hall _ (List.mem_append_right _ (by simp))
        obtain ⟨k4, k5, k6⟩ := k3
        subst k5; subst k6
        obtain ⟨k1, _⟩ := allP_app.1 hall
        obtain ⟨k1, k2⟩ := allP_app.1 k1
        exact ⟨al, by simp, ν, h1, h2, h3, k4, hb, hy, k1, k2⟩
      · exact rest h
    · exact rest h
theorem obj_call {B : Cx} {Γ : List (FuncId × (Bool × CSpec))} (hok : CtxOK P B X Γ) {f : FuncId} {fn : Func} {c : Code} (hf : P.funcs[f]? = some fn) (hb : fn.body = some c) (hN : args.length ≤ fn.ntmps) {anns : CD args → PD obs → Anns}
    {pre : CD args → PD obs → Prop} {alts : List (Alt obs args)} (h : ∀ a x, wfC args a → pre a x → (objVCs B Γ fn (anns a x) obs args alts a x).holds)
    {O : Avoid} {st : St} {loc : Nat → Loc} {w : World} {as : List SV0} {vs : List Value} {K : SV → St → VC} (g : Good B.eT X (sit O st loc w)) (hO : OIn O w) (ha : SV0Rs B.eT (sit O st loc w) as vs)
    {ν : List Nat} {a : CD args} {x : PD obs} (hnd : nodupB ν = true) (hga : getVs false st.objs obs ν args as = some a) (hx : getObs false st.objs obs ν obs ν = some x)
    (hp1 : ∀ p ∈ condVs obs x args as, p) (hp2 : ∀ p ∈ condObs obs x st.objs obs ν, p) (hpre : pre a x) (hK : (altsVC a x ν st K alts).holds) :
    Calls P f vs.toArray w fun e w' => ∃ v sv st' loc', e = .returned v ∧ (K sv st').holds ∧ st'.env = st.env ∧ Good B.eT X (sit O st' loc' w') ∧
      Tr (sit O st loc w) (sit O st' loc' w') ∧ SVR B.eT (sit O st' loc' w') sv v := by
  have hvals := getVs_rel g hx hga ha hp1
  have hobsl := getObs_len hx
  let us := upto 0 obs.length
  have hul : ν.length = us.length := by rw [upto_len]; exact hobsl.symm
  let O' : Avoid := fun b off => O b off ∨ ∃ n oc, look st.objs n = some oc ∧ n ∉ ν ∧ b ∈ (loc n).bs ∧ oc.lo ≤ off
  let st0 := startSt obs args a x
  have hOin' : OIn O' w := by
    rintro b off (h | ⟨n, oc, h1, _, h2, _⟩)
    · exact hO b off h
    · exact (g.obj n oc h1).2.inside b h2
  have hlo : ∀ n ∈ ν, ∀ oc, look st.objs n = some oc → noTok obs = true → oc.lo = 0 := by
    intro n hn oc h1 h2
    obtain ⟨o, oc', y, k1, k2, k3⟩ := getObs_look hx hn
    rw [h1] at k2; cases k2
    have := (getO_kind k3 (fun _ => .any)).2.2.2 (fun t => noTok_mem h2 k1) rfl
    cases oc <;> first | rfl | exact (this _ _ rfl).elim
  have hν : ∀ n ∈ ν, ∃ oc, look st.objs n = some oc := fun n hn => let ⟨_, oc, _, _, k, _⟩ := getObs_look hx hn; ⟨oc, k⟩
  let loc0 := locOf us (ν.map loc) loc
  have hf0 : ∀ k oc, look st0.objs k = some oc → ∃ (i n : Nat) (o : Ob) (y : OD o) (oc0 : OC), ν[i]? = some n ∧ us[i]? = some k ∧ obs[i]? = some o ∧ look st.objs n = some oc0 ∧ getO false st.objs obs ν o oc0 = some y ∧ oc = ocOf (refAt obs x us) o y ∧ loc0 k = loc n := by
    intro k oc hk
    obtain ⟨i, n, o, y, oc0, k1, k2, k3, k4, k5, k6, _⟩ := objsC_find hx (getObs_rel (X := X) g hx hx hp2) hul hk
    exact ⟨i, n, o, y, oc0, k1, k2, k3, k4, k5, k6, locOf_get (upto_nodup _ _) k2 (by simp [k1])⟩
  have hA0 : ∀ b o, (sit O' st0 loc0 w).A b o → (sit O st loc w).A b o := by
    rintro b off ((h | ⟨n, oc, h1, _, h2, h3⟩) | ⟨k, oc, h1, h2, h3⟩)
    · exact .inl h
    · exact .inr ⟨n, oc, h1, h2, h3⟩
    · obtain ⟨i, n, o, y, oc0, _, _, _, k4, k5, k6, k7⟩ := hf0 k oc h1
      refine .inr ⟨n, oc0, k4, by simp only [sit] at h2; rw [k7] at h2; exact h2, ?_⟩
      rcases getO_lo (f := refAt obs x us) k5 with e | e
      · rw [← e, ← k6]; exact h3
      · cases e
  have hown0 : ∀ b, (sit O' st0 loc0 w).owns b → ∃ n ∈ ν, b ∈ (loc n).bs := by
    rintro b ⟨k, oc, h1, h2⟩
    obtain ⟨i, n, o, y, oc0, k1, _, _, _, _, _, k7⟩ := hf0 k oc h1
    exact ⟨n, List.mem_of_getElem? k1, by simp only [sit] at h2; rw [k7] at h2; exact h2⟩
  obtain ⟨g0, laid0⟩ := relay (X := X) g hx hp2 hnd (O2 := O') (ν2 := us) (rest := []) (locR := loc) (st2 := st0) (upto_nodup _ _) hul
    (by simp [st0, startSt, us]) (fun n hn => by have := upto_mem hn; simp [st0, startSt]; omega)
    (fun n hn b hb off => by
      obtain ⟨oc, k⟩ := hν n hn
      rintro (h | ⟨m, oc', h1, h2, h3, _⟩)
      · exact g.out n oc b off k hb h
      · exact h2 (by rw [← g.apart n m oc oc' b k h1 hb h3]; exact hn))
    (fun n hn b hb m oc h => by simp [look] at h) (fun m oc h => by simp [look] at h) (fun m m' oc oc' b h => by simp [look] at h) (fun m oc b off h => by simp [look] at h) (.inr hA0)
    (fun b hb h => by
      obtain ⟨n, hn, hbn⟩ := hown0 b h
      obtain ⟨oc, k⟩ := hν n hn
      exact g.glob.2 b hb ⟨n, oc, k, hbn⟩)
  have hargs : SV0Rs B.eT (sit O' st0 loc0 w) (clsV (refAt obs x us) args a) vs := clsV_rel (S := sit O st loc w) (S' := sit O' st0 loc0 w) rfl (fun k v hk => CR_ref laid0 hk) (.inr hA0) hvals
  have hcode : codeOf fn = c := by unfold codeOf; rw [hb]; rfl
  have hvc := h a x (clsR_wf hvals) hpre
  unfold objVCs at hvc
  rw [hcode] at hvc
  have hcalls := calls_of_vc (X := X) (hok fn.ntmps) hf hb (by rfl) (anns a x) (O := O') (loc := loc0) (w := w) (args := vs.toArray) (st := st0)
    (by rw [List.size_toArray, clsR_len hvals]; exact hN) g0 hOin'
    (fun t sv ht => by
      obtain ⟨_, v, k1, k2⟩ := argEnv0_rel 0 hargs t sv ht
      exact ⟨v, by simpa using k1, k2⟩) hvc
  refine hcalls.mono ?_
  rintro e w' ⟨rs, us', st', locE, he, hk, hr, gE', trE'⟩
  obtain ⟨al, hal, ν', hnd', hkept, hcv, hokal, hret, hout, hc1, hc2⟩ := endVC_out hk
  obtain ⟨tF, gE, _, kF⟩ := frzP_sound al.res rs gE'
  generalize hst2 : (frzP al.res st' rs).2 = st2 at *
  generalize hrs2 : (frzP al.res st' rs).1 = rs2 at *
  have trE := trE'.trans tF
  have hrE := kF us' hr
  have hKal := altsVC_mem hK al hal
  unfold altVC at hKal
  split at hKal
  case h_2 => exact hKal.elim
  rename_i hn1
  simp only [Bool.and_eq_true] at hn1
  obtain ⟨hnd1, hbel⟩ := hn1
  have hKal := hKal hokal
  generalize hν1 : newN obs al.obs' ν st.next = ν1 at *
  have hl1 : ν'.length = ν1.length := by rw [← hν1, newN_len]; exact (getObs_len hout).symm
  generalize hst1 : ({ env := st.env, objs := objsC (refAt al.obs' (al.out a x) ν1) al.obs' (al.out a x) ν1 ++ delAll st.objs ν, next := st.next + al.obs'.length } : St) = st1 at hKal
  have h1env : st1.env = st.env := by rw [← hst1]
  have h1objs : st1.objs = objsC (refAt al.obs' (al.out a x) ν1) al.obs' (al.out a x) ν1 ++ delAll st.objs ν := by rw [← hst1]
  have h1next : st1.next = st.next + al.obs'.length := by rw [← hst1]
  let loc1 := locOf ν1 (ν'.map locE) loc
  have hf1 : ∀ m oc, look st1.objs m = some oc → (∃ (i n : Nat) (o : Ob) (y : OD o) (oc0 : OC), ν'[i]? = some n ∧ ν1[i]? = some m ∧ al.obs'[i]? = some o ∧ look st2.objs n = some oc0 ∧ getO al.cv st2.objs al.obs' ν' o oc0 = some y ∧
      oc = ocOf (refAt al.obs' (al.out a x) ν1) o y ∧ loc1 m = locE n) ∨ (m ∉ ν1 ∧ m ∉ ν ∧ look st.objs m = some oc ∧ loc1 m = loc m) := by
    intro m oc hm
    rw [h1objs, look_append] at hm
    split at hm
    · rename_i oc' hm'
      cases hm
      obtain ⟨i, n, o, y, oc0, k1, k2, k3, k4, k5, k6, _⟩ := objsC_find hout (getObs_rel (X := X) gE hout hout hc2) hl1 hm'
      exact .inl ⟨i, n, o, y, oc0, k1, k2, k3, k4, k5, k6, locOf_get hnd1 k2 (by simp [k1])⟩
    · rename_i hm'
      have hnin : m ∉ ν1 := fun hmem => by
        obtain ⟨oc1, h2⟩ := objsC_mem (f := refAt al.obs' (al.out a x) ν1) (x := al.out a x) (by rw [← hν1, newN_len]) hmem
        rw [h2] at hm'; cases hm'
      rw [look_delAll] at hm
      split at hm
      · cases hm
      · rename_i hmn
        exact .inr ⟨hnin, hmn, hm, locOf_not hnin⟩
  have hownE : ∀ n ∈ ν', ∀ b ∈ (locE n).bs, (sit O' st2 locE w').owns b := by
    intro n hn b hb
    obtain ⟨_, oc, _, _, k, _⟩ := getObs_look hout hn
    exact ⟨n, oc, k, hb⟩
  have hblk : ∀ m oc, look st.objs m = some oc → m ∉ ν → ∀ b ∈ (loc m).bs, ¬ (sit O' st0 loc0 w).owns b := by
    intro m oc h1 h2 b hb' ho
    obtain ⟨n, hn, hbn⟩ := hown0 b ho
    obtain ⟨oc', k⟩ := hν n hn
    have := g.apart n m oc' oc b k h1 hbn hb'
    exact h2 (by rw [← this]; exact hn)
  have hA1 : al.cv = false → ∀ b o, (sit O st1 loc1 w').A b o → (sit O' st2 locE w').A b o := by
    rintro hcv0 b off (h | ⟨m, oc, h1, h2, h3⟩)
    · exact .inl (.inl h)
    · rcases hf1 m oc h1 with ⟨i, n, o, y, oc0, k1, k2, k3, k4, k5, k6, k7⟩ | ⟨k1, k2, k3, k4⟩
      · refine .inr ⟨n, oc0, k4, by simp only [sit] at h2; rw [k7] at h2; exact h2, ?_⟩
        rcases getO_lo (f := refAt al.obs' (al.out a x) ν1) k5 with e | e
        · rw [← e, ← k6]; exact h3
        · rw [hcv0] at e; cases e
      · exact .inl (.inr ⟨m, oc, k3, k2, by simp only [sit] at h2; rw [k4] at h2; exact h2, h3⟩)
  have hkeep : ∀ (m i : Nat), ν1[i]? = some m → m < st.next → ∃ o o', obs[i]? = some o ∧ al.obs'[i]? = some o' ∧ keepO o o' = true ∧ ν[i]? = some m := by
    intro m i h1 h2
    rw [← hν1] at h1
    rcases newN_spec h1 with h3 | h3
    · exact h3
    · omega
  have hT : Tr (sit O st loc w) (sit O st1 loc1 w') := {
    O := rfl
    next := by simp only [sit]; omega
    os := trE.os
    output := trE.output
    size := trE.size
    own := by
      rintro b ⟨m, oc, h1, h2⟩
      rcases hf1 m oc h1 with ⟨i, n, o, y, oc0, k1, k2, k3, k4, k5, k6, k7⟩ | ⟨k1, k2, k3, k4⟩
      · simp only [sit] at h2; rw [k7] at h2
        rcases trE.own b (hownE n (List.mem_of_getElem? k1) b h2) with h3 | h3
        · obtain ⟨n', hn', hb'⟩ := hown0 b h3
          obtain ⟨oc', k⟩ := hν n' hn'
          exact .inl ⟨n', oc', k, hb'⟩
        · exact .inr h3
      · simp only [sit] at h2; rw [k4] at h2; exact .inl ⟨m, oc, k3, h2⟩
    cell := by
      intro b off v hna hcell
      obtain ⟨h1, h2⟩ := trE.cell b off v (fun h => hna (hA0 b off h)) hcell
      refine ⟨h1, fun h3 => ?_⟩
      rcases hcv with hcv | ⟨hnt, _, _⟩
      · exact h2 (hA1 hcv b off h3)
      · rcases h3 with h3 | ⟨m, oc, h3, h4, h5⟩
        · exact hna (.inl h3)
        · rcases hf1 m oc h3 with ⟨i, n, o, y, oc0, k1, k2, k3, k4, k5, k6, k7⟩ | ⟨k1, k2, k3, k4⟩
          · simp only [sit] at h4; rw [k7] at h4
            rcases trE.own b (hownE n (List.mem_of_getElem? k1) b h4) with h6 | h6
            · obtain ⟨n', hn', hb'⟩ := hown0 b h6
              obtain ⟨oc', k⟩ := hν n' hn'
              exact hna (.inr ⟨n', oc', k, hb', by rw [hlo n' hn' oc' k hnt]; exact Nat.zero_le _⟩)
            · have := World.block_lt_of_cell? _ _ hcell
              simp only [sit] at this h6
              omega
          · simp only [sit] at h4; rw [k4] at h4; exact hna (.inr ⟨m, oc, k3, h4, h5⟩)
    block := fun b hb' ho => trE.block b hb' fun h => ho (by
      obtain ⟨n, hn, hbn⟩ := hown0 b h
      obtain ⟨oc, k⟩ := hν n hn
      exact ⟨n, oc, k, hbn⟩)
    loc := by
      intro m hm hfix
      by_cases hin : m ∈ ν1
      · obtain ⟨i, hi⟩ := List.getElem?_of_mem hin
        obtain ⟨o, o', e1, e2, e3, e4⟩ := hkeep m i hi hm
        have hiE : i < ν'.length := by rw [hl1]; exact getElem?_lt hi
        have hn' : ν'[i]? = some ν'[i] := List.getElem?_eq_getElem hiE
        have hni := keptB_spec hkept e1 e2 e3 hn'
        rw [Nat.zero_add] at hni
        have e5 : loc1 m = locE i := by
          have := locOf_get (d := loc) hnd1 hi (ls := ν'.map locE) (l := locE i) (by simp [hn', hni])
          exact this
        have hui : us[i]? = some i := by have := upto_get obs.length 0 i (getElem?_lt e1); simpa using this
        have e6 : loc0 i = loc m := locOf_get (upto_nodup _ _) hui (by simp [e4])
        have e7 := trE.loc i (show i < st0.next by simp [st0, startSt]; exact getElem?_lt e1) (fun t ys hy => by
          obtain ⟨j, n, o2, y, oc0, k1, k2, k3, k4, k5, k6, k7⟩ := hf0 i _ hy
          have hj : j = i := nodup_idx (upto_nodup _ _) k2 hui
          subst hj
          rw [e1] at k3; cases k3
          cases o <;> simp [ocOf] at k6
          cases o' <;> simp [keepO] at e3)
        show (loc1 m).v = (loc m).v ∧ (_ → loc1 m = loc m)
        rw [e5, ← e6]
        refine ⟨e7.1, fun hr => e7.2 fun t z hy => ?_⟩
        obtain ⟨j, n, o2, y, oc0, k1, k2, k3, k4, k5, k6, k7⟩ := hf0 i _ hy
        have hj : j = i := nodup_idx (upto_nodup _ _) k2 hui
        subst hj
        rw [e4] at k1; cases k1
        cases o2 <;> simp [ocOf] at k6
        obtain ⟨rfl, rfl, _⟩ := k6
        obtain ⟨z', rfl⟩ := (getO_kind k5 (fun _ => .any)).2.1 _ _ rfl
        exact hr _ _ k4
      · exact locEq (locOf_not hin)
    kind := by
      intro m oc' hm hob
      rcases hf1 m oc' hob with ⟨i, n, o, y, oc0, k1, k2, k3, k4, k5, k6, k7⟩ | ⟨k1, k2, k3, k4⟩
      · obtain ⟨o0, o', e1, e2, e3, e4⟩ := hkeep m i k2 hm
        rw [k3] at e2; cases e2
        have hui : us[i]? = some i := by have := upto_get obs.length 0 i (getElem?_lt e1); simpa using this
        obtain ⟨oc2, h2⟩ := objsC_mem (f := refAt obs x us) (x := x) (ms := us) (by rw [upto_len]) (List.mem_of_getElem? hui)
        obtain ⟨j, n2, o2, y2, oc3, j1, j2, j3, j4, j5, j6, j7⟩ := hf0 i oc2 (by simpa [st0, startSt] using h2)
        have hj : j = i := nodup_idx (upto_nodup _ _) j2 hui
        subst hj
        rw [e1] at j3; cases j3
        rw [e4] at j1; cases j1
        refine ⟨oc3, j4, ?_⟩
        cases o0 <;> cases o <;> simp [keepO] at e3
        · subst e3
          obtain ⟨cs, rfl⟩ := (getO_kind j5 (fun _ => .any)).1 _ _ rfl
          rw [k6]
          rfl
        · rename_i kp t kp' t'
          cases kp <;> cases kp' <;> simp at e3
          have e3 := Ty.eq_of_beq e3
          subst e3
          obtain ⟨xs, rfl⟩ := (getO_kind j5 (fun _ => .any)).2.2.1 _ _ rfl rfl
          rw [k6]
          rfl
        · obtain ⟨e3, e4⟩ := e3
          have e4 := Ty.eq_of_beq e4
          subst e3; subst e4
          obtain ⟨z, rfl⟩ := (getO_kind j5 (fun _ => .any)).2.1 _ _ rfl
          rw [k6]
          exact ⟨rfl, rfl⟩
      · refine ⟨oc', k3, ?_⟩
        cases oc' <;> simp [SameKind, sit, k4] }
  obtain ⟨g1, laid1⟩ := relay (X := X) gE hout hc2 hnd' (O2 := O) (ν2 := ν1) (rest := delAll st.objs ν) (locR := loc) (st2 := st1) hnd1 hl1 h1objs
    (fun n hn => by rw [h1next]; exact capsBelow_mem hbel hn)
    (fun n hn b hb' off h => by
      obtain ⟨_, oc, _, _, k, _⟩ := getObs_look hout hn
      exact gE.out n oc b off k hb' (.inl h))
    (fun n hn b hb' m oc h1 h2 h3 => by
      rw [look_delAll] at h1
      split at h1
      · cases h1
      · rename_i hmn
        rcases trE.own b (hownE n hn b hb') with h4 | h4
        · exact hblk m oc h1 hmn b h3 h4
        · have := (g.obj m oc h1).2.inside b h3
          simp only [sit] at this h4
          omega)
    (fun m oc h1 h2 => by
      rw [look_delAll] at h1
      split at h1
      · cases h1
      · rename_i hmn
        obtain ⟨k1, k2⟩ := g.obj m oc h1
        refine ⟨by rw [h1next]; simp only [sit] at k1; omega, k2.tr hT fun b hb' => ?_⟩
        exact trE.block b (k2.inside b hb') (hblk m oc h1 hmn b hb'))
    (fun m m' oc oc' b h1 h2 _ _ h3 h4 => by
      rw [look_delAll] at h1 h2
      split at h1
      · cases h1
      · split at h2
        · cases h2
        · exact g.apart m m' oc oc' b h1 h2 h3 h4)
    (fun m oc b off h1 _ h2 => by
      rw [look_delAll] at h1
      split at h1
      · cases h1
      · exact g.out m oc b off h1 h2)
    (by
      rcases hcv with hcv | ⟨_, hcv, _⟩
      · exact .inr (hA1 hcv)
      · exact .inl hcv)
    (g.glob.tr hT).2
  have hres := getVs_rel gE hout hret hrE hc1
  refine ⟨_, _, st1, loc1, he, hKal, h1env, g1, hT, retSV_rel (clsV_rel (S := sit O' st2 locE w') (S' := sit O st1 loc1 w') rfl (fun k v hk => CR_ref laid1 hk) ?_ hres)⟩
  rcases hcv with hcv | ⟨_, _, hcv⟩
  · exact .inr (hA1 hcv)
  · exact .inl hcv
theorem callOK_of_obj {B : Cx} {Γ : List (FuncId × (Bool × CSpec))} (hok : CtxOK P B X Γ) {f : FuncId} {fn : Func} (hf : P.funcs[f]? = some fn) (hg : goodFn fn args.length = true) (anns : CD args → PD obs → Anns)
    {pre : CD args → PD obs → Prop} {alts : List (Alt obs args)} (h : ∀ a x, wfC args a → pre a x → (objVCs B Γ fn (anns a x) obs args alts a x).holds) :
    CallOK P B.eT X f false (objSpec obs args pre alts) := by
  simp only [goodFn, Bool.and_eq_true, Bool.not_eq_true'] at hg
  obtain ⟨⟨h1, h2⟩, h3⟩ := hg
  obtain ⟨c, hc⟩ := Option.isSome_iff_exists.1 h1
  refine ⟨⟨fn, hf, by rw [hc]; rfl, h2⟩, fun O st loc w as vs K hK g hO ha => ?_⟩
  unfold objSpec at hK
  obtain ⟨t1, g1, e1, k1⟩ := frzP_sound args as g
  simp only at hK
  split at hK
  case h_2 => exact hK.elim
  rename_i ν hν
  split at hK
  case h_2 => exact hK.elim
  rename_i a x hnd hga hx
  obtain ⟨hp, hpre, hK⟩ := andP_out hK
  obtain ⟨hp1, hp2⟩ := allP_app.1 hp
  refine (obj_call hok hf hc (Nat.le_of_ble_eq_true h3) h g1 hO (k1 vs ha) hnd hga hx hp1 hp2 hpre hK).mono ?_
  rintro e w' ⟨v, sv, st', loc', q1, q2, q3, q4, q5, q6⟩
  exact ⟨v, sv, st', loc', q1, q2, q3.trans e1, (fun hq => by cases hq), q4, t1.trans q5, q6⟩
end
end Go.Vg

namespace Go.Vg
@[reducible] def tSymbol : Ty := .prod .str (.prod (.int .i64) (.prod .bool .unit))
@[reducible] def tRange : Ty := .prod (.int .i64) (.prod (.int .i64) .unit)
@[reducible] def tTie : Ty := .prod (.int .i64) (.prod (.int .i64) (.prod (.int .i64) (.prod .str (.prod .bool .unit))))
@[reducible] def tPatch : Ty := .prod (.int .i64) (.prod (.int .i64) (.prod (.int .i64) .unit))
@[reducible] def tStamped : Ty := .prod .str (.prod (.int .i64) (.prod (.int .i64) .unit))
@[reducible] def tObject : Ty := .prod (.slice .str) (.prod (.slice (.int .i64)) (.prod (.slice tSymbol) (.prod (.slice tTie) .unit)))
@[reducible] def tEntry : Ty := .prod .str (.prod (.slice tStamped) (.prod (.slice tPatch) .unit))
@[reducible] def tAct : Ty := .prod .str (.prod .str (.prod .str (.prod (.int .i64) (.prod (.int .u64) (.prod tEntry .unit)))))
@[reducible] def tTurn : Ty := .prod (.int .i64) (.prod .str .unit)
@[reducible] def tFile : Ty := .prod .str (.prod .str (.prod (.int .i64) .unit))
theorem bl :
    (∀ (p : Prop) [Decidable p], (decide p = true) = p) ∧ (∀ (p : Prop) [Decidable p], (decide p = false) = ¬ p) ∧
    (∀ (α : Type) [BEq α] [LawfulBEq α] (a b : α), ((a == b) = true) = (a = b)) ∧ (∀ (α : Type) [BEq α] [LawfulBEq α] (a b : α), ((a == b) = false) = ¬ a = b) ∧
    (∀ (α : Type) [BEq α] [LawfulBEq α] (a b : α), ((a != b) = true) = ¬ a = b) ∧ (∀ (α : Type) [BEq α] [LawfulBEq α] (a b : α), ((a != b) = false) = (a = b)) ∧
    (∀ b : Bool, ((!b) = true) = (b = false)) ∧ (∀ b : Bool, ((!b) = false) = (b = true)) ∧ (∀ b : Bool, (¬ b = true) = (b = false)) ∧ (∀ b : Bool, (¬ b = false) = (b = true)) ∧
    (∀ a b : Bool, ((a && b) = true) = (a = true ∧ b = true)) ∧ (∀ a b : Bool, ((a || b) = true) = (a = true ∨ b = true)) ∧
    (∀ a b : Bool, ((a && b) = false) = (a = false ∨ b = false)) ∧ (∀ a b : Bool, ((a || b) = false) = (a = false ∧ b = false)) ∧
    (∀ a b : Int, (¬ a < b) = (b ≤ a)) ∧ (∀ a b : Int, (¬ a ≤ b) = (b < a)) := by
  refine ⟨?_, ?_, ?_, ?_, ?_, ?_, ?_, ?_, ?_, ?_, ?_, ?_, ?_, ?_, ?_, ?_⟩ <;> intros <;> first | (simp; done) | (rename_i a b; cases a <;> cases b <;> simp)
end Go.Vg

namespace Go.Vg
open Go.RowKit
theorem setc {w : World} {b i : Nat} {c : Array Value} {T : TypeId} {v : Value} (hb : w.heap[b]? = some (.cells c T (0, 0))) : (w.setCell ⟨b, i, none⟩ v).heap[b]? = some (.cells (c.setIfInBounds i v) T (0, 0)) := by
  simp [World.setCell, Array.getElem?_modify, hb]
theorem app_str {P : Program} {w : World} {t u ty e : TypeId} {i : TypeInfo} (ht : P.underlying t = some (.slice e)) (hu : P.underlying u = some .string) (hi : P.info? e = some i) (hz : i.zero = some (.int .u8 0))
    (hsize : i.size = 1) (hby : i.bytes = 1) {v : Value} {xs : List Value} (hown : w.ownsRow 0 e 1 v xs.length xs) (hcap : ∀ a n c, v = .slice (some a) n c → 0 < c) (s : ByteArray) (hlen : xs.length + s.size ≤ 140737488355328) :
    ∃ v' w', (Builtin.append_ #[t, u] ty #[v, .string s]).run P w = .ok v' w' ∧ w'.ownsRow 0 e 1 v' (xs.length + s.size) (xs ++ Lib.strCells s) ∧ w.grownBy w' v.ownBlock ∧ (∀ a n c, v' = .slice (some a) n c → 0 < c) ∧
      (∀ g, v'.ownBlock = some g → v.ownBlock = some g ∨ w.heap.size ≤ g) := by
  rcases hown.2 with ⟨rfl, h0⟩ | ⟨g, cap, cur, rfl, hbg, hg, hnc, hcm, hcs, htake⟩
  · have hown' : w.ownsRow w.heap.size e 1 (.slice none 0 0) xs.length xs := ⟨hown.1, .inl ⟨rfl, h0⟩⟩
    obtain ⟨v', w', h1, h2, h3, h4⟩ := Lib.run_append_own_string (P := P) w w.heap.size t u ty e i ht hu hi hz hsize hby _ _ _ hown' s (by unfold maxLen; omega) hlen (Nat.le_refl _)
    rcases h2.2 with ⟨rfl, h6⟩ | ⟨g, cap, cur, rfl, k1, k2, k3, k4⟩
    · exact ⟨_, w', h1, ⟨h2.1, .inl ⟨rfl, h6⟩⟩, h3, (fun a n c hh => by cases hh), (fun g hh => by cases hh)⟩
    · refine ⟨_, w', h1, ⟨h2.1, .inr ⟨g, cap, cur, rfl, Nat.zero_le _, k2, k3, k4⟩⟩, h3, fun a n c hh => ?_, fun g' hh => by cases hh; exact .inr k1⟩
      cases hh
      by_cases hs : s.size = 0
      · have := h4.2 ⟨rfl, hs⟩; cases this
      · omega
  · have hc0 := hcap _ _ _ rfl
    by_cases hroom : xs.length + s.size ≤ cap
    · obtain ⟨w', h1, h2, h3⟩ := Lib.run_append_fits_string (P := P) w 0 t u ty e i ht hu hi hsize _ _ _ _ hown s hc0 hroom
      exact ⟨_, w', h1, h2, h3, (fun a n c hh => by cases hh; exact hc0), (fun g' hh => .inl hh)⟩
    · have holds : ∀ j u, xs[j]? = some u → w.cell? ((⟨g, 0, none⟩ : Addr).add j) = some u := hown.cells (g := g) rfl
      have hr := Lib.run_append_grow_string (P := P) w t u ty e i (.int .u8 0) ht hu hi hz ⟨g, 0, none⟩ xs.length cap xs (by rw [hsize]; simp) holds s (by omega) (by omega) (by rw [hby]; exact growslice_fits (by omega) (by omega))
      have hge := grownCap_ge w (xs.length + s.size) cap e
      have hcm' : grownCap w (xs.length + s.size) cap e ≤ maxLen := grownCap_le_maxLen w (xs.length + s.size) cap e (by unfold maxLen; omega)
      refine ⟨_, _, hr, ⟨by simp [Lib.strCells_length], .inr ⟨w.heap.size, _, _, rfl, Nat.zero_le _, heap_alloc_new w.drew _, hge, hcm', ?_, ?_⟩⟩, ⟨rfl, rfl, rfl, by simp, fun k hk _ => Go.Deep.blk_alloc_lt w.drew _ k hk⟩, (fun a n c hh => by cases hh; omega), (fun g' hh => by cases hh; exact .inr (Nat.le_refl _))⟩
      · have hz1 : (Value.int IntKind.u8 0).cells.size = 1 := rfl
        simp only [Array.size_append, List.size_toArray, size_zeroCells, hz1, Lib.strCells_length]
        omega
      · simp only [Array.toList_append, List.append_assoc]
        rw [← List.append_assoc]
        have : (xs ++ Lib.strCells s).length = (xs.length + s.size) * 1 := by simp [Lib.strCells_length]
        rw [← this]
        exact List.take_left
theorem wpList_append_run {P : Program} {w w' : World} {ops : Array Oper} {rest : List Oper} {o : Oper} {a : Act} {Q : Exit → Act → World → Prop} (hgd : o.guard = none) (sl x : Operand) (t u : TypeId)
    (ho : o.op = .call { callee := .builtin .append, args := #[sl, x], argTypes := #[t, u] }) {v v' y : Value} (hs : a.eval sl = v) (hx : a.eval x = y)
    (hr : (Builtin.append_ #[t, u] o.type #[v, y]).run P w = .ok v' w') (h : wpList P ops Q rest (a.put o.dst v') w') : wpList P ops Q (o :: rest) a w := by
  refine wpList_plain hgd fun K hK => ?_
  unfold Oper.wp execOp
  simp only [ho, resolve, invoke, builtin, Sem.run_bind, Sem.run_pure, Result.andThen_ok, List.map_toArray, List.map_cons, List.map_nil, hs, hx, hr]
  exact hK _ _ h
structure Kept (b : Nat) (v : Value) (w w' : World) : Prop where
  os : w'.os = w.os
  output : w'.output = w.output
  size : w.heap.size ≤ w'.heap.size
  block : ∀ k, k < w.heap.size → k ≠ b → v.ownBlock ≠ some k → w'.heap[k]? = w.heap[k]?
structure Kept1 (v : Value) (w w' : World) : Prop where
  os : w'.os = w.os
  output : w'.output = w.output
  size : w'.heap.size = w.heap.size
  block : ∀ k, v.ownBlock ≠ some k → w'.heap[k]? = w.heap[k]?
theorem kept_freeze {w : World} {g n c : Nat} {m : Nat} : Kept1 (.slice (some ⟨g, 0, none⟩) n c) w (w.drew.freeze ⟨g, 0, none⟩ m) := by
  unfold World.freeze
  split
  · exact ⟨rfl, rfl, rfl, fun _ _ => rfl⟩
  · refine ⟨rfl, rfl, by simp, fun k hk => ?_⟩
    have : k ≠ g := fun e => hk (by rw [e]; rfl)
    simp only [Array.getElem?_modify]
    rw [if_neg (fun e => this e.symm)]
    rfl
def bldWrite (T e : Nat) : CSpec := fun args st K =>
  match args with
  | [.one (.xref n), .one (.d .str s)] => match look st.objs n with
    | some (.ext 2 t x) => match h : Ty.beq t bldT with
      | true => .and ((castD h x).2.1 = (T : Int) ∧ (castD h x).2.2.1 = (e : Int) ∧ (castD h x).1.length + s.length ≤ 140737488355328)
          (K (.tup [.one (.d (.int .i64) (s.length : Int)), .one (.d .err .nil)]) (setObj st n (.ext 2 bldT ((castD h x).1 ++ bytesIn s, (T : Int), (e : Int), ()))))
      | false => .ff
    | _ => .ff
  | _ => .ff
def bldString (T e : Nat) : CSpec := fun args st K =>
  match args with
  | [.one (.xref n)] => match look st.objs n with
    | some (.ext 2 t x) => match h : Ty.beq t bldT with
      | true => .and ((castD h x).2.1 = (T : Int) ∧ (castD h x).2.2.1 = (e : Int)) (K (.s (.one (.d .str (bytesOf (castD h x).1)))) (dropObj st n))
      | false => .ff
    | _ => .ff
  | _ => .ff
def bldLen (T e : Nat) : CSpec := fun args st K =>
  match args with
  | [.one (.xref n)] => match look st.objs n with
    | some (.ext 2 t x) => match h : Ty.beq t bldT with
      | true => .and ((castD h x).2.1 = (T : Int) ∧ (castD h x).2.2.1 = (e : Int)) (K (.s (.one (.d (.int .i64) ((castD h x).1.length : Int)))) st)
      | false => .ff
    | _ => .ff
  | _ => .ff
section
variable {P : Program} {eT : TypeId} {X : Ext} {f : FuncId}
theorem bld_at {O : Avoid} {st : St} {loc : Nat → Loc} {w : World} (g : Good eT X (sit O st loc w)) {n : Nat} {x : D bldT} (hob : look st.objs n = some (.ext 2 bldT x)) {v : Value} (hv : CR eT (sit O st loc w) (.xref n) v) :
    ∃ b p u, v = .pointer (some ⟨b, 0, none⟩) ∧ BldD x (loc n) w b p u := by
  obtain ⟨h0, b, p, u, hD⟩ := X.bld.1 (g.obj n _ hob).2
  exact ⟨b, p, u, (hv.2 _ hob rfl).trans hD.lv, hD⟩
theorem bytesOf_in (s : List UInt8) : bytesOf (bytesIn s) = s := by
  induction s with
  | nil => rfl
  | cons c r ih =>
    simp only [bytesOf, bytesIn, List.map_cons, List.map_map] at ih ⊢
    rw [ih]
    simp
theorem bytesIn_of {xs : List Int} (h : ∀ y ∈ xs, 0 ≤ (y : Int) ∧ (y : Int) ≤ 255) : bytesIn (bytesOf xs) = xs := by
  induction xs with
  | nil => rfl
  | cons y r ih =>
    have h1 := h y (by simp)
    have h2 := ih fun z hz => h z (by simp [hz])
    simp only [bytesIn, bytesOf, List.map_map, List.map_cons] at h2 ⊢
    rw [h2]
    congr 1
    simp only [UInt8.toNat_ofNat']
    omega
theorem bytesIn_u8 (s : List UInt8) : ∀ y ∈ bytesIn s, 0 ≤ (y : Int) ∧ (y : Int) ≤ 255 := by
  intro y hy
  simp only [bytesIn, List.mem_map] at hy
  obtain ⟨c, _, rfl⟩ := hy
  have := c.toNat_lt
  omega
theorem u8_cells {xs : List Int} (h : ∀ y ∈ xs, 0 ≤ (y : Int) ∧ (y : Int) ≤ 255) : xs.map (Value.int .u8) = (bytesOf xs).map fun c => Value.int .u8 c.toNat := by
  conv => lhs; rw [← bytesIn_of h]
  simp [bytesIn]
theorem callOK_bldWrite {T e : Nat} (hfn : ∃ fn, P.funcs[f]? = some fn ∧ fn.body.isNone = false ∧ (fn.name == "runtime.NumGoroutine") = false)
    (H : ∀ (b : Nat) (p v : Value) (xs : List Value) (s : ByteArray) (w : World), w.heap[b]? = some (.cells #[p, v] T (0, 0)) → (p = .pointer none ∨ p = .pointer (some ⟨b, 0, none⟩)) → w.ownsRow 0 e 1 v xs.length xs → v.ownBlock ≠ some b →
      (∀ a n c, v = .slice (some a) n c → 0 < c) → xs.length + s.size ≤ 140737488355328 →
      Calls P f #[.pointer (some ⟨b, 0, none⟩), .string s] w fun r w' => r = .returned (.tuple #[.int .i64 s.size, .nilIface]) ∧
        ∃ v', w'.heap[b]? = some (.cells #[.pointer (some ⟨b, 0, none⟩), v'] T (0, 0)) ∧ w'.ownsRow 0 e 1 v' (xs.length + s.size) (xs ++ Lib.strCells s) ∧ v'.ownBlock ≠ some b ∧ Kept b v w w' ∧
          (∀ a n c, v' = .slice (some a) n c → 0 < c) ∧ (∀ g, v'.ownBlock = some g → v.ownBlock = some g ∨ w.heap.size ≤ g)) :
    CallOK P eT X f false (bldWrite T e) := by
  refine ⟨hfn, fun O st loc w args vs K hs g hO ha => ?_⟩
  unfold bldWrite at hs
  split at hs
  case h_2 => exact hs.elim
  rename_i n s
  split at hs
  case h_2 => exact hs.elim
  rename_i t x hob
  split at hs
  case h_2 => exact hs.elim
  rename_i ht
  have ht' := Ty.eq_of_beq ht
  subst ht'
  rw [castD_self] at hs
  obtain ⟨⟨hT, he, hlen⟩, hs⟩ := hs
  match vs, ha with
  | [v0, v1], .cons h0 (.cons h1 .nil) =>
  obtain ⟨b, p, u, rfl, hD⟩ := bld_at g hob h0
  obtain ⟨rfl, hsl⟩ := str_rel.1 (show CR eT _ (.d .str s) v1 from h1)
  have hsz : (⟨s.toArray⟩ : ByteArray).size = s.length := by simp [ByteArray.size]
  have hT' : x.2.1.toNat = T := by rw [hT]; rfl
  have he' : x.2.2.1.toNat = e := by rw [he]; rfl
  have hheap := hD.heap
  have hrow := hD.row
  rw [hT'] at hheap
  rw [he'] at hrow
  refine (H b p u (x.1.map (Value.int .u8)) ⟨s.toArray⟩ w hheap hD.ptr (by simpa using hrow) hD.ne hD.cap (by simpa [hsz] using hlen)).mono ?_
  rintro r w' ⟨rfl, v', k1, k2, k3, k4, k5, k6⟩
  have hlt : b < w.heap.size := (Array.getElem?_eq_some_iff.1 hheap).1
  obtain ⟨tr1, g1⟩ := step_set (S := sit O st loc w) (S' := sit O (setObj st n (.ext 2 bldT (x.1 ++ bytesIn s, (T : Int), (e : Int), ()))) (updLoc loc n ⟨.pointer (some ⟨b, 0, none⟩), b :: v'.ownBlock.toList⟩) w') (n := n)
    (oc := .ext 2 bldT x) (oc' := .ext 2 bldT (x.1 ++ bytesIn s, (T : Int), (e : Int), ())) (l' := ⟨.pointer (some ⟨b, 0, none⟩), b :: v'.ownBlock.toList⟩) g rfl hO hob
    (fun m => look_set st n m _) (fun _ => rfl) rfl (fun _ => ⟨hD.lv.symm, fun h => (h _ _ rfl).elim⟩) ⟨rfl, rfl⟩ k4.os k4.output k4.size
    (fun b' h1 h2 => k4.block b' h1 (fun e => h2 (by simp only [sit]; rw [hD.bs, e]; simp)) (fun e => h2 (by simp only [sit]; rw [hD.bs, e]; simp)))
    (fun b' o v _ ho => by simp [OC.lo] at ho)
    (fun b' hb' => by
      rcases List.mem_cons.1 hb' with rfl | hb'
      · exact .inl ⟨by simp only [sit]; rw [hD.bs]; simp, Nat.le_refl _⟩
      · have hb' : v'.ownBlock = some b' := by simpa using hb'
        rcases k6 b' hb' with h | h
        · exact .inl ⟨by simp only [sit]; rw [hD.bs, h]; simp, Nat.le_refl _⟩
        · exact .inr h)
  have g1 := g1 (X.bld.2 ⟨rfl, b, .pointer (some ⟨b, 0, none⟩), v', rfl, .inr rfl, k1, by
    have e1 : x.1.map (Value.int .u8) ++ Lib.strCells ⟨s.toArray⟩ = (x.1 ++ bytesIn s).map (Value.int .u8) := by rw [strCells_in, List.map_append]
    have e2 : (x.1.map (Value.int .u8)).length + (⟨s.toArray⟩ : ByteArray).size = (x.1 ++ bytesIn s).length := by simp [hsz, bytesIn]
    rw [e1, e2] at k2
    exact k2, rfl, k3, (fun y hy => by
      rcases List.mem_append.1 hy with h | h
      · exact hD.u8 y h
      · exact bytesIn_u8 s y h), k5⟩)
  refine ⟨_, _, _, _, rfl, hs, rfl, (fun hh => by cases hh), g1, tr1, ⟨[.int .i64 (⟨s.toArray⟩ : ByteArray).size, .nilIface], rfl, .cons ?_ (.cons ?_ .nil)⟩⟩
  · refine int_rel.2 ⟨by rw [hsz], ?_⟩
    simp only [IntKind.min, IntKind.max, IntKind.signed, IntKind.bits]
    unfold big at hsl
    constructor <;> simp <;> omega
  · exact err_rel.2 rfl
theorem drop_world {O : Avoid} {st : St} {loc : Nat → Loc} {w w' : World} (g : Good eT X (sit O st loc w)) {n : Nat} {oc0 : OC} (hn : look st.objs n = some oc0) (h0 : oc0.lo = 0)
    (hos : w'.os = w.os) (hout : w'.output = w.output) (hsz : w.heap.size ≤ w'.heap.size) (hb : ∀ b, b < w.heap.size → b ∉ (loc n).bs → w'.heap[b]? = w.heap[b]?) :
    Tr (sit O st loc w) (sit O (dropObj st n) loc w') ∧ Good eT X (sit O (dropObj st n) loc w') := by
  have hob : ∀ m oc, look (dropObj st n).objs m = some oc → m ≠ n ∧ look st.objs m = some oc := by
    intro m oc h
    simp only [dropObj] at h
    rw [look_del] at h
    split at h
    · cases h
    · rename_i hne; exact ⟨fun e => hne e.symm, h⟩
  have hA : ∀ b o, (sit O (dropObj st n) loc w').A b o → (sit O st loc w).A b o := by
    rintro b o (h | ⟨m, oc, h1, h2⟩)
    · exact .inl h
    · exact .inr ⟨m, oc, (hob _ _ h1).2, h2⟩
  have ht : Tr (sit O st loc w) (sit O (dropObj st n) loc w') := {
    O := rfl
    next := Nat.le_refl _
    os := hos
    output := hout
    size := hsz
    own := fun b h => by obtain ⟨m, oc, h1, h2⟩ := h; exact .inl ⟨m, oc, (hob _ _ h1).2, h2⟩
    cell := fun b o v h1 h2 => by
      have hlt := World.block_lt_of_cell? w _ h2
      refine ⟨?_, fun h => h1 (hA b o h)⟩
      show w'.cell? _ = _
      rw [World.cell?_of_block (w := w) (w' := w') (a := ⟨b, o, none⟩) (hb b hlt fun hm => h1 (.inr ⟨n, oc0, hn, hm, by rw [h0]; exact Nat.zero_le _⟩))]
      exact h2
    block := fun b h1 h2 => hb b h1 fun hm => h2 ⟨n, oc0, hn, hm⟩
    loc := fun _ _ _ => locEq rfl
    kind := fun m oc _ h => ⟨oc, (hob _ _ h).2, by cases oc <;> simp [SameKind, sit]⟩ }
  refine ⟨ht, ⟨fun m oc h => ?_, fun m1 m2 oc1 oc2 b h1 h2 h3 h4 => ?_, fun m oc b off h1 h2 => ?_, g.glob.tr ht⟩⟩
  · obtain ⟨hne, h⟩ := hob _ _ h
    obtain ⟨h1, h2⟩ := g.obj m oc h
    exact ⟨h1, h2.tr ht fun b hbm => hb b (h2.inside b hbm) fun hbn => hne (g.apart m n oc oc0 b h hn hbm hbn)⟩
  · exact g.apart m1 m2 oc1 oc2 b (hob _ _ h1).2 (hob _ _ h2).2 h3 h4
  · exact g.out m oc b off (hob _ _ h1).2 h2
theorem callOK_bldString {T e : Nat} (hfn : ∃ fn, P.funcs[f]? = some fn ∧ fn.body.isNone = false ∧ (fn.name == "runtime.NumGoroutine") = false)
    (H : ∀ (b : Nat) (p v : Value) (l : List UInt8) (w : World), w.heap[b]? = some (.cells #[p, v] T (0, 0)) → w.ownsRow 0 e 1 v l.length (l.map fun c => Value.int .u8 c.toNat) → (∀ a n c, v = .slice (some a) n c → 0 < c) →
      Calls P f #[.pointer (some ⟨b, 0, none⟩)] w fun r w' => r = .returned (.string ⟨l.toArray⟩) ∧ Kept1 v w w') :
    CallOK P eT X f false (bldString T e) := by
  refine ⟨hfn, fun O st loc w args vs K hs g hO ha => ?_⟩
  unfold bldString at hs
  split at hs
  case h_2 => exact hs.elim
  rename_i n
  split at hs
  case h_2 => exact hs.elim
  rename_i t x hob
  split at hs
  case h_2 => exact hs.elim
  rename_i ht
  have ht' := Ty.eq_of_beq ht
  subst ht'
  rw [castD_self] at hs
  obtain ⟨⟨hT, he⟩, hs⟩ := hs
  match vs, ha with
  | [v0], .cons h0 .nil =>
  obtain ⟨b, p, u, rfl, hD⟩ := bld_at g hob h0
  have hT' : x.2.1.toNat = T := by rw [hT]; rfl
  have he' : x.2.2.1.toNat = e := by rw [he]; rfl
  have hheap := hD.heap
  have hrow := hD.row
  rw [hT'] at hheap
  rw [he', u8_cells hD.u8, show x.1.length = (bytesOf x.1).length by simp [bytesOf]] at hrow
  refine (H b p u (bytesOf x.1) w hheap hrow hD.cap).mono ?_
  rintro r w' ⟨rfl, k⟩
  obtain ⟨tr1, g1⟩ := drop_world (w' := w') g hob rfl k.os k.output (by rw [k.size]; exact Nat.le_refl _) (fun b' _ h2 => k.block b' fun e => h2 (by rw [hD.bs, e]; simp))
  refine ⟨_, _, _, _, rfl, hs, rfl, (fun hh => by cases hh), g1, tr1, ?_⟩
  refine (str_rel (eT := eT) (S := sit O (dropObj st n) loc w')).2 ⟨rfl, ?_⟩
  rcases hrow.2 with ⟨_, h⟩ | ⟨_, cap, _, _, _, _, h1, h2, _⟩
  · rw [h]; exact Nat.zero_le _
  · unfold maxLen at h2; unfold big; omega
theorem callOK_bldLen {T e : Nat} (hfn : ∃ fn, P.funcs[f]? = some fn ∧ fn.body.isNone = false ∧ (fn.name == "runtime.NumGoroutine") = false)
    (H : ∀ (b : Nat) (p q : Value) (a : Option Addr) (n c : Nat) (w : World), w.heap[b]? = some (.cells #[p, .slice a n c] T (0, 0)) →
      Calls P f #[.pointer (some ⟨b, 0, none⟩)] w fun r w' => r = .returned (.int .i64 n) ∧ w' = w) :
    CallOK P eT X f true (bldLen T e) := by
  refine ⟨hfn, fun O st loc w args vs K hs g hO ha => ?_⟩
  unfold bldLen at hs
  split at hs
  case h_2 => exact hs.elim
  rename_i n
  split at hs
  case h_2 => exact hs.elim
  rename_i t x hob
  split at hs
  case h_2 => exact hs.elim
  rename_i ht
  have ht' := Ty.eq_of_beq ht
  subst ht'
  rw [castD_self] at hs
  obtain ⟨⟨hT, he⟩, hs⟩ := hs
  match vs, ha with
  | [v0], .cons h0 .nil =>
  obtain ⟨b, p, u, rfl, hD⟩ := bld_at g hob h0
  have hT' : x.2.1.toNat = T := by rw [hT]; rfl
  have hheap := hD.heap
  rw [hT'] at hheap
  obtain ⟨a, c, rfl, hl⟩ : ∃ a c, u = .slice a x.1.length c ∧ x.1.length ≤ big := by
    rcases hD.row.2 with ⟨rfl, h⟩ | ⟨g', cap, cur, h, _, _, h1, h2, _⟩
    · exact ⟨none, 0, by rw [h], by rw [h]; exact Nat.zero_le _⟩
    · exact ⟨_, _, h, by unfold maxLen at h2; unfold big; omega⟩
  refine (H b p p a x.1.length c w hheap).mono ?_
  rintro r w' ⟨rfl, rfl⟩
  refine ⟨_, _, _, loc, rfl, hs, rfl, fun _ => Below.refl _ _, g, Tr.refl _, ?_⟩
  refine (int_rel (eT := eT) (S := sit O st loc w')).2 ⟨rfl, ?_⟩
  unfold big at hl
  simp only [IntKind.min, IntKind.max, IntKind.signed, IntKind.bits]
  constructor <;> simp <;> omega
end
end Go.Vg

namespace Go.Mrl
open Go.Vg
def small (c : UInt8) : Bool := decide ((97 : Int) ≤ c.toNat) && decide ((c.toNat : Int) ≤ 122)
def other (c : UInt8) : Bool := (decide ((48 : Int) ≤ c.toNat) && decide ((c.toNat : Int) ≤ 57)) || ((c.toNat : Int) == 95)
def badAt (i : Nat) (c : UInt8) : Bool := !small c && ((i : Int) == 0 || !other c)
def anyBad (s : List UInt8) : Bool := (List.range s.length).any fun i => badAt i (nthB s i)
def nameFault (s : List UInt8) : Int := if s.length < 1 ∨ 8 < s.length then 1 else if anyBad s = true then 3 else 0
def errNo (n : Int) : Err := if n = 0 then .nil else .no n
theorem nameFault_nonneg (s : List UInt8) : 0 ≤ nameFault s := by
  unfold nameFault; split
  · decide
  · split <;> decide
theorem anyBad_true {s : List UInt8} {i : Nat} (h : i < s.length) (hb : badAt i (nthB s i) = true) : anyBad s = true := by
  simp only [anyBad, List.any_eq_true, List.mem_range]
  exact ⟨i, h, hb⟩
theorem anyBad_false {s : List UInt8} (h : ∀ i, i < s.length → badAt i (nthB s i) = false) : anyBad s = false := by
  simp only [anyBad, List.any_eq_false, List.mem_range]
  intro i hi; rw [h i hi]; simp
theorem get?_nthB {s : List UInt8} {i : Nat} (h : i < s.length) : s[i]? = some (nthB s i) := by
  rw [nthB_eq (List.getElem?_eq_getElem h), List.getElem?_eq_getElem h]
theorem nameFault_one {s : List UInt8} (h : s.length < 1 ∨ 8 < s.length) : nameFault s = 1 := by unfold nameFault; rw [if_pos h]
theorem nameFault_three {s : List UInt8} {i : Nat} (h : ¬ (s.length < 1 ∨ 8 < s.length)) (hi : i < s.length) (hb : badAt i (nthB s i) = true) : nameFault s = 3 := by
  unfold nameFault
  rw [if_neg h, if_pos (anyBad_true hi hb)]
theorem nameFault_zero {s : List UInt8} (h : ¬ (s.length < 1 ∨ 8 < s.length)) (hb : ∀ i, i < s.length → badAt i (nthB s i) = false) : nameFault s = 0 := by
  unfold nameFault
  rw [if_neg h, if_neg (by rw [anyBad_false hb]; decide)]
theorem badAt_iff {i : Nat} {c : UInt8} : badAt i c = true ↔ ¬ (97 ≤ c.toNat ∧ c.toNat ≤ 122) ∧ (i = 0 ∨ ¬ ((48 ≤ c.toNat ∧ c.toNat ≤ 57) ∨ c.toNat = 95)) := by
  simp only [badAt, small, other, Bool.and_eq_true, Bool.not_eq_true', Bool.and_eq_false_iff, Bool.or_eq_true, Bool.or_eq_false_iff, decide_eq_false_iff_not, beq_iff_eq, beq_eq_false_iff_ne]
  omega
theorem badAt_false {i : Nat} {c : UInt8} : badAt i c = false ↔ ¬ (¬ (97 ≤ c.toNat ∧ c.toNat ≤ 122) ∧ (i = 0 ∨ ¬ ((48 ≤ c.toNat ∧ c.toNat ≤ 57) ∨ c.toNat = 95))) := by
  rw [← badAt_iff]; simp
theorem bad_next {s : List UInt8} {i : Nat} (h : ∀ j, j < i → badAt j (nthB s j) = false) (hb : badAt i (nthB s i) = false) : ∀ j, j < i + 1 → badAt j (nthB s j) = false := by
  intro j hj
  rcases Nat.lt_or_ge j i with hlt | hge
  · exact h j hlt
  · obtain rfl : j = i := by omega
    exact hb
end Go.Mrl

namespace Go.Mrl
open Go.Vg
end Go.Mrl
namespace Go.Mrl
open Go.Vg
end Go.Mrl
namespace Go.Mrl
open Go.Vg
end Go.Mrl

namespace Go.Mrl
open Go.Vg
end Go.Mrl
namespace Go.Mrl
open Go.Vg
end Go.Mrl
namespace Go.Mrl
open Go.Vg
end Go.Mrl
namespace Go.Mrl
open Go.Vg
end Go.Mrl
namespace Go.Mrl
open Go.Vg
end Go.Mrl
namespace Go.Mrl
open Go.Vg
end Go.Mrl

namespace Go.Mrl
open Go.Vg
def apartF (a b : Int × Int × Unit) : Bool := decide (a.2.1 ≤ 0) || (decide (b.2.1 ≤ 0) || (decide (a.1 + a.2.1 ≤ b.1) || decide (b.1 + b.2.1 ≤ a.1)))
theorem apartF_true {a b : Int × Int × Unit} : apartF a b = true ↔ a.2.1 ≤ 0 ∨ b.2.1 ≤ 0 ∨ a.1 + a.2.1 ≤ b.1 ∨ b.1 + b.2.1 ≤ a.1 := by simp [apartF]
theorem apartF_false {a b : Int × Int × Unit} : apartF a b = false ↔ 0 < a.2.1 ∧ 0 < b.2.1 ∧ b.1 < a.1 + a.2.1 ∧ a.1 < b.1 + b.2.1 := by simp [apartF]
def roundF (n : Int) : Int := (n + 15) / 16 * 16
def freeF (r : D tRange) (l : List (D tRange)) : Bool := l.all (apartF r)
theorem getElem?_nth {t : Ty} {xs : List (D t)} {i : Nat} (h : i < xs.length) : xs[i]? = some (nth t xs i) := by
  rw [List.getElem?_eq_getElem h, ← nth_eq (List.getElem?_eq_getElem h)]
theorem nth_mem {t : Ty} {xs : List (D t)} {i : Nat} (h : i < xs.length) : nth t xs i ∈ xs := by
  have := getElem?_nth (t := t) h
  exact List.mem_of_getElem? this
theorem mem_nth {t : Ty} {xs : List (D t)} {x : D t} (h : x ∈ xs) : ∃ i, i < xs.length ∧ nth t xs i = x := by
  obtain ⟨i, hi, e⟩ := List.getElem_of_mem h
  exact ⟨i, hi, by rw [← e]; exact nth_eq (List.getElem?_eq_getElem hi)⟩
theorem freeF_true {r : D tRange} {l : List (D tRange)} (h : ∀ j, j < l.length → apartF r (nth tRange l j) = true) : freeF r l = true := by
  unfold freeF; rw [List.all_eq_true]
  intro x hx
  obtain ⟨i, hi, e⟩ := mem_nth hx
  rw [← e]; exact h i hi
theorem freeF_false {r : D tRange} {l : List (D tRange)} {j : Nat} (h : j < l.length) (hf : apartF r (nth tRange l j) = false) : freeF r l = false := by
  unfold freeF; rw [List.all_eq_false]
  exact ⟨_, nth_mem h, by rw [hf]; decide⟩
def baseAt (l : List (D tRange)) (many : Int) : Nat → Int → Int
  | 0, at_ => at_
  | n + 1, at_ => if freeF (at_, many, ()) l = true then at_ else baseAt l many n (at_ + 16)
def goBases : List (D tRange) → List Int → List Int → Option (List Int)
  | _, [], out => some out
  | l, n :: r, out => if 256 < baseAt l (roundF n) 40 0 + roundF n then none else goBases (l ++ [(baseAt l (roundF n) 40 0, roundF n, ())]) r (out ++ [baseAt l (roundF n) 40 0])
def badSizes (s : List Int) : Bool := s.any fun (n : Int) => decide (n < 1) || decide (40 < n)
def badTaken (l : List (D tRange)) : Bool := l.any fun (r : Int × Int × Unit) => decide (r.1 < 0) || (decide (256 < r.1) || (decide (r.2.1 < 0) || decide (256 < r.2.1)))
def basesF (x : List Int × List (D tRange)) : List Int × Err :=
  if 6 < x.1.length ∨ 20 < x.2.length then ([], .no 2) else if badSizes x.1 = true ∨ badTaken x.2 = true then ([], .no 1) else
    match goBases x.2 x.1 [] with
    | some o => (o, .nil)
    | none => ([], .no 8)
theorem any_nth {t : Ty} {xs : List (D t)} {p : D t → Bool} {i : Nat} (h : i < xs.length) (hp : p (nth t xs i) = true) : xs.any p = true := by
  rw [List.any_eq_true]; exact ⟨_, nth_mem h, hp⟩
theorem any_not {t : Ty} {xs : List (D t)} {p : D t → Bool} (h : ∀ i, i < xs.length → p (nth t xs i) = false) : xs.any p = false := by
  rw [List.any_eq_false]; intro x hx
  obtain ⟨i, hi, e⟩ := mem_nth hx
  rw [← e, h i hi]; decide
theorem goBases_step {l : List (D tRange)} {s out : List Int} {k : Nat} (h : k < s.length) : goBases l (s.drop k) out =
    if 256 < baseAt l (roundF (nth (.int .i64) s k)) 40 0 + roundF (nth (.int .i64) s k) then none
    else goBases (l ++ [(baseAt l (roundF (nth (.int .i64) s k)) 40 0, roundF (nth (.int .i64) s k), ())]) (s.drop (k + 1)) (out ++ [baseAt l (roundF (nth (.int .i64) s k)) 40 0]) := by
  have e : s.drop k = nth (.int .i64) s k :: s.drop (k + 1) := by
    rw [List.drop_eq_getElem_cons h]
    congr 1
    exact (nth_eq (t := .int .i64) (List.getElem?_eq_getElem h)).symm
  rw [e]; rfl
def okR (r : Int × Int × Unit) : Prop := 0 ≤ r.1 ∧ r.1 ≤ 256 ∧ 0 ≤ r.2.1 ∧ r.2.1 ≤ 256
theorem baseAt_stop {l : List (D tRange)} {many at_ : Int} {n : Nat} (h : freeF (at_, many, ()) l = true) : baseAt l many n at_ = at_ := by
  cases n with
  | zero => rfl
  | succ n => rw [baseAt, if_pos h]
theorem baseAt_go {l : List (D tRange)} {many at_ : Int} {n : Nat} (h : freeF (at_, many, ()) l = false) : baseAt l many (n + 1) at_ = baseAt l many n (at_ + 16) := by
  rw [baseAt, if_neg (by rw [h]; decide)]
theorem roundF_range {n : Int} (h1 : 1 ≤ n) (h2 : n ≤ 40) : 16 ≤ roundF n ∧ roundF n ≤ 48 := by unfold roundF; omega
end Go.Mrl
namespace Go.Mrl
open Go.Vg
theorem basesF_many {s : List Int} {l : List (D tRange)} (h : 6 < s.length ∨ 20 < l.length) : basesF (s, l) = ([], .no 2) := by
  unfold basesF; rw [if_pos h]
theorem basesF_size {s : List Int} {l : List (D tRange)} (h : ¬ (6 < s.length ∨ 20 < l.length)) {i : Nat} (hi : i < s.length) (hb : ¬ (1 ≤ (nth (.int .i64) s i : Int) ∧ (nth (.int .i64) s i : Int) ≤ 40)) : basesF (s, l) = ([], .no 1) := by
  unfold basesF; rw [if_neg h, if_pos]
  refine .inl (any_nth (t := .int .i64) hi ?_)
  simp only [Bool.or_eq_true, decide_eq_true_eq]
  generalize nth (.int .i64) s i = x at hb
  have hb : ¬ (1 ≤ (x : Int) ∧ (x : Int) ≤ 40) := hb
  dsimp only [D] at *; omega
theorem basesF_taken {s : List Int} {l : List (D tRange)} (h : ¬ (6 < s.length ∨ 20 < l.length)) {i : Nat} (hi : i < l.length) (hb : ¬ okR (nth tRange l i)) : basesF (s, l) = ([], .no 1) := by
  unfold basesF; rw [if_neg h, if_pos]
  refine .inr (any_nth (t := tRange) hi ?_)
  simp only [Bool.or_eq_true, decide_eq_true_eq]
  unfold okR at hb
  dsimp only [D] at *; omega
theorem basesF_ok {s : List Int} {l : List (D tRange)} (h : ¬ (6 < s.length ∨ 20 < l.length)) (hs : ∀ j, j < s.length → 1 ≤ (nth (.int .i64) s j : Int) ∧ (nth (.int .i64) s j : Int) ≤ 40) (ht : ∀ j, j < l.length → okR (nth tRange l j)) :
    basesF (s, l) = match goBases l s [] with | some o => (o, .nil) | none => ([], .no 8) := by
  unfold basesF; rw [if_neg h, if_neg]
  rintro (e | e)
  · have : badSizes s = false := any_not (t := .int .i64) fun i hi => by
      have := hs i hi
      simp only [Bool.or_eq_false_iff, decide_eq_false_iff_not]
      dsimp only [D] at *; omega
    rw [this] at e; cases e
  · have : badTaken l = false := any_not (t := tRange) fun i hi => by
      have := ht i hi
      unfold okR at this
      simp only [Bool.or_eq_false_iff, decide_eq_false_iff_not]
      dsimp only [D] at *; omega
    rw [this] at e; cases e
end Go.Mrl
namespace Go.Mrl
open Go.Vg
end Go.Mrl
namespace Go.Mrl
open Go.Vg
end Go.Mrl
namespace Go.Mrl
open Go.Vg
end Go.Mrl

namespace Go.Mrl
open Go.Vg
theorem list_eq_nth {t : Ty} {a b : List (D t)} (hl : a.length = b.length) (h : ∀ i, i < a.length → nth t a i = nth t b i) : a = b := by
  apply List.ext_getElem hl
  intro i h1 h2
  have := h i h1
  rwa [show nth t a i = a[i] from nth_eq (List.getElem?_eq_getElem h1), show nth t b i = b[i] from nth_eq (List.getElem?_eq_getElem h2)] at this
def sameI (a b : List Int) : Bool := decide (a = b)
def sameS (a b : List (List UInt8)) : Bool := decide (a = b)
theorem sameI_true {a b : List Int} (hl : (a.length : Int) = b.length) (h : ∀ i, i < a.length → nth (.int .i64) a i = nth (.int .i64) b i) : true = sameI a b := by
  rw [list_eq_nth (t := .int .i64) (by omega) h]; simp [sameI]
theorem sameI_len {a b : List Int} (hl : ¬ (a.length : Int) = b.length) : false = sameI a b := by
  symm; simp only [sameI, decide_eq_false_iff_not]; intro e; exact hl (by rw [e])
theorem sameI_at {a b : List Int} {i : Nat} (h : ¬ nth (.int .i64) a i = nth (.int .i64) b i) : false = sameI a b := by
  symm; simp only [sameI, decide_eq_false_iff_not]; intro e; exact h (by rw [e])
theorem sameS_true {a b : List (List UInt8)} (hl : (a.length : Int) = b.length) (h : ∀ i, i < a.length → nth .str a i = nth .str b i) : true = sameS a b := by
  rw [list_eq_nth (t := .str) (by omega) h]; simp [sameS]
theorem sameS_len {a b : List (List UInt8)} (hl : ¬ (a.length : Int) = b.length) : false = sameS a b := by
  symm; simp only [sameS, decide_eq_false_iff_not]; intro e; exact hl (by rw [e])
theorem sameS_at {a b : List (List UInt8)} {i : Nat} (h : ¬ nth .str a i = nth .str b i) : false = sameS a b := by
  symm; simp only [sameS, decide_eq_false_iff_not]; intro e; exact h (by rw [e])
theorem nth_next {α : Type} {p : Nat → α → Prop} {f : Nat → α} {k : Nat} (h : ∀ j, j < k → p j (f j)) (hk : p k (f k)) : ∀ j, j < k + 1 → p j (f j) := by
  intro j hj
  by_cases e : j = k
  · subst e; exact hk
  · exact h j (by omega)
theorem upto_next {p : Nat → Prop} {k : Nat} (h : ∀ j, j < k → p j) (hk : p k) : ∀ j, j < k + 1 → p j := by
  intro j hj
  by_cases e : j = k
  · subst e; exact hk
  · exact h j (by omega)
end Go.Mrl

namespace Go.Mrl
open Go.Vg
def posHas (p : D tSymbol → Prop) (l : List (D tObject)) (i k : Nat) : Prop :=
  i < l.length ∧ k < (nth tObject l i).2.2.1.length ∧ p (nth tSymbol (nth tObject l i).2.2.1 k)
def isS (s : List UInt8) (x : D tSymbol) : Prop := x.1 = s
def strongS (s : List UInt8) (x : D tSymbol) : Prop := x.1 = s ∧ x.2.2.1 = false
def ahead (i k i' k' : Nat) : Prop := i < i' ∨ (i = i' ∧ k < k')
def Bef (p : D tSymbol → Prop) (l : List (D tObject)) (i k : Nat) : Prop := ∀ i' k', ahead i' k' i k → ¬ posHas p l i' k'
def FirstP (p : D tSymbol → Prop) (l : List (D tObject)) (i k : Nat) : Prop := posHas p l i k ∧ Bef p l i k
theorem first_unique {p : D tSymbol → Prop} {l : List (D tObject)} {i k i' k' : Nat} (h : FirstP p l i k) (h' : FirstP p l i' k') : i = i' ∧ k = k' := by
  have h1 : ¬ ahead i k i' k' := fun a => h'.2 i k a h.1
  have h2 : ¬ ahead i' k' i k := fun a => h.2 i' k' a h'.1
  unfold ahead at h1 h2
  omega
open Classical in
noncomputable def findS (x : List (D tObject) × List UInt8) : Int × Int :=
  if h : ∃ p : Nat × Nat, FirstP (strongS x.2) x.1 p.1 p.2 then (((Classical.choose h).1 : Nat), ((Classical.choose h).2 : Nat))
  else if h : ∃ p : Nat × Nat, FirstP (isS x.2) x.1 p.1 p.2 then (((Classical.choose h).1 : Nat), ((Classical.choose h).2 : Nat))
  else (-1, -1)
theorem findS_weak {l : List (D tObject)} {s : List UInt8} {i k : Nat} (hn : ∀ i k, ¬ posHas (strongS s) l i k) (h : FirstP (isS s) l i k) : findS (l, s) = ((i : Int), (k : Int)) := by
  have hx : ∃ p : Nat × Nat, FirstP (isS s) l p.1 p.2 := ⟨(i, k), h⟩
  unfold findS
  rw [dif_neg (fun ⟨p, h⟩ => hn p.1 p.2 h.1), dif_pos hx]
  have := first_unique h (Classical.choose_spec hx)
  rw [← this.1, ← this.2]
theorem findS_none {l : List (D tObject)} {s : List UInt8} (hn : ∀ i k, ¬ posHas (isS s) l i k) : findS (l, s) = (-1, -1) := by
  unfold findS
  rw [dif_neg (fun ⟨p, h⟩ => hn p.1 p.2 ⟨h.1.1, h.1.2.1, h.1.2.2.1⟩), dif_neg (fun ⟨p, h⟩ => hn p.1 p.2 h.1)]
def FInv (l : List (D tObject)) (s : List UInt8) (i k : Nat) (a b : Int) : Prop :=
  Bef (strongS s) l i k ∧ ((a = -1 ∧ b = -1 ∧ Bef (isS s) l i k) ∨ ∃ i0 k0 : Nat, a = i0 ∧ b = k0 ∧ FirstP (isS s) l i0 k0)
theorem Bef.next {p : D tSymbol → Prop} {l : List (D tObject)} {i k : Nat} (h : Bef p l i k) (hn : ¬ posHas p l i k) : Bef p l i (k + 1) := by
  intro i' k' ha hp
  by_cases e : i' = i ∧ k' = k
  · rw [e.1, e.2] at hp; exact hn hp
  · exact h i' k' (by unfold ahead at *; omega) hp
theorem FInv.skip {l : List (D tObject)} {s : List UInt8} {i k : Nat} {a b : Int} (h : FInv l s i k a b) (hn : ¬ (nth tSymbol (nth tObject l i).2.2.1 k).1 = s) : FInv l s i (k + 1) a b := by
  refine ⟨h.1.next fun hp => hn hp.2.2.1, ?_⟩
  rcases h.2 with ⟨h1, h2, h3⟩ | h3
  · exact .inl ⟨h1, h2, h3.next fun hp => hn hp.2.2⟩
  · exact .inr h3
theorem FInv.more {l : List (D tObject)} {s : List UInt8} {i k : Nat} {a b : Int} (h : FInv l s i k a b)
    (hw : ¬ (nth tSymbol (nth tObject l i).2.2.1 k).2.2.1 = false) (ha : ¬ a < 0) : FInv l s i (k + 1) a b := by
  refine ⟨h.1.next fun hp => hw hp.2.2.2, ?_⟩
  rcases h.2 with ⟨h1, _, _⟩ | h3
  · omega
  · exact .inr h3
theorem Bef.row {p : D tSymbol → Prop} {l : List (D tObject)} {i k : Nat} (h : Bef p l i k) (hk : (nth tObject l i).2.2.1.length ≤ k) : Bef p l (i + 1) 0 := by
  intro i' k' ha hp
  refine h i' k' ?_ hp
  unfold ahead at *
  by_cases e : i' = i
  · subst e; have := hp.2.1; omega
  · omega
theorem FInv.row {l : List (D tObject)} {s : List UInt8} {i k : Nat} {a b : Int} (h : FInv l s i k a b) (hk : (nth tObject l i).2.2.1.length ≤ k) : FInv l s (i + 1) 0 a b := by
  refine ⟨h.1.row hk, ?_⟩
  rcases h.2 with ⟨h1, h2, h3⟩ | h3
  · exact .inl ⟨h1, h2, h3.row hk⟩
  · exact .inr h3
theorem Bef.all {p : D tSymbol → Prop} {l : List (D tObject)} {i k : Nat} (h : Bef p l i k) (hi : l.length ≤ i) : ∀ i k, ¬ posHas p l i k :=
  fun i' k' hp => h i' k' (by have := hp.1; unfold ahead; omega) hp
theorem FInv.done {l : List (D tObject)} {s : List UInt8} {i k : Nat} {a b : Int} (h : FInv l s i k a b) (hi : l.length ≤ i) : findS (l, s) = (a, b) := by
  rcases h.2 with ⟨rfl, rfl, h3⟩ | ⟨i0, k0, rfl, rfl, h3⟩
  · exact findS_none (h3.all hi)
  · exact findS_weak (h.1.all hi) h3
theorem upto1 {p : Nat → Prop} {n : Nat} (h : ∀ j, j < n → p j) (hn : p n) : ∀ j, j < n + 1 → p j := by
  intro j hj
  by_cases e : j = n
  · rw [e]; exact hn
  · exact h j (by omega)
def LightO (o : D tObject) : Prop := o.1.length ≤ 6 ∧ o.2.1.length ≤ 50 ∧ o.2.2.1.length ≤ 10 ∧ o.2.2.2.1.length ≤ 10 ∧
  (∀ i, i < o.1.length → (nth .str o.1 i).length ≤ 20) ∧ (∀ i, i < o.2.2.1.length → (nth tSymbol o.2.2.1 i).1.length ≤ 20) ∧ (∀ i, i < o.2.2.2.1.length → (nth tTie o.2.2.2.1 i).2.2.2.1.length ≤ 20)
end Go.Mrl

namespace Go.Mrl
open Go.Vg
structure Ins (l l' : List (D tObject)) (o : D tObject) (n : Nat) : Prop where
  le : n ≤ l.length
  len : l'.length = l.length + 1
  low : ∀ i, i < n → nth tObject l' i = nth tObject l i
  at_ : nth tObject l' n = o
  high : ∀ i, n ≤ i → i < l.length → nth tObject l' (i + 1) = nth tObject l i
def up (n i : Nat) : Nat := if i < n then i else i + 1
theorem Ins.pos {l l' : List (D tObject)} {o : D tObject} {n : Nat} (h : Ins l l' o n) {p : D tSymbol → Prop} {i k : Nat} (hp : posHas p l i k) : posHas p l' (up n i) k := by
  obtain ⟨h1, h2, h3⟩ := hp
  have hl := h.len
  unfold up
  by_cases c : i < n
  · rw [if_pos c]; unfold posHas; rw [h.low i c]; exact ⟨by omega, h2, h3⟩
  · rw [if_neg c]; unfold posHas; rw [h.high i (by omega) h1]; exact ⟨by omega, h2, h3⟩
theorem Ins.back {l l' : List (D tObject)} {o : D tObject} {n : Nat} (h : Ins l l' o n) {p : D tSymbol → Prop} {i k : Nat} (hp : posHas p l' i k) :
    (i = n ∧ k < o.2.2.1.length ∧ p (nth tSymbol o.2.2.1 k)) ∨ ∃ j, i = up n j ∧ posHas p l j k := by
  obtain ⟨h1, h2, h3⟩ := hp
  have hl := h.len
  have hn := h.le
  by_cases c : i = n
  · subst c; rw [h.at_] at h2 h3; exact .inl ⟨rfl, h2, h3⟩
  · right
    by_cases c2 : i < n
    · rw [h.low i c2] at h2 h3
      exact ⟨i, by unfold up; rw [if_pos c2], by omega, h2, h3⟩
    · obtain ⟨j, rfl⟩ : ∃ j, i = j + 1 := ⟨i - 1, by omega⟩
      rw [h.high j (by omega) (by omega)] at h2 h3
      exact ⟨j, by unfold up; rw [if_neg (by omega)], by omega, h2, h3⟩
def hasO (p : D tSymbol → Prop) (o : D tObject) : Prop := ∃ k, k < o.2.2.1.length ∧ p (nth tSymbol o.2.2.1 k)
theorem Ins.first {l l' : List (D tObject)} {o : D tObject} {n : Nat} (h : Ins l l' o n) {p : D tSymbol → Prop} {i k : Nat} (hf : FirstP p l i k) (hn : ¬ hasO p o ∨ i < n) : FirstP p l' (up n i) k := by
  refine ⟨h.pos hf.1, fun i' k' ha hp => ?_⟩
  rcases h.back hp with ⟨e, h1, h2⟩ | ⟨j, e, h1⟩
  · rcases hn with hn | hn
    · exact hn ⟨k', h1, h2⟩
    · unfold ahead up at ha; rw [if_pos hn] at ha; omega
  · refine hf.2 j k' ?_ h1
    subst e
    unfold ahead up at *
    split at ha <;> split at ha <;> omega
theorem Ins.none {l l' : List (D tObject)} {o : D tObject} {n : Nat} (h : Ins l l' o n) {p : D tSymbol → Prop} (hl : ∀ i k, ¬ posHas p l i k) (ho : ¬ hasO p o) : ∀ i k, ¬ posHas p l' i k := by
  intro i k hp
  rcases h.back hp with ⟨_, h1, h2⟩ | ⟨j, _, h1⟩
  · exact ho ⟨k, h1, h2⟩
  · exact hl j k h1
theorem nth_append {t : Ty} {a b : List (D t)} {i : Nat} : nth t (a ++ b) i = if i < a.length then nth t a i else nth t b (i - a.length) := by
  unfold nth
  simp only [List.getD_eq_getElem?_getD, List.getElem?_append]
  split <;> rfl
theorem nth_take {t : Ty} {a : List (D t)} {n i : Nat} (h : i < n) : nth t (a.take n) i = nth t a i := by
  unfold nth
  simp only [List.getD_eq_getElem?_getD, List.getElem?_take, if_pos h]
end Go.Mrl

namespace Go.Mrl
open Go.Vg
@[reducible] def tRow : Ty := .slice (.int .i64)
abbrev Pt := Int × Int × Int × Unit
abbrev Ws := List (List Int)
def okP (w : Ws) (p : Pt) : Prop := 0 ≤ p.1 ∧ p.1 < w.length ∧ 0 ≤ p.2.1 ∧ p.2.1 < (nth tRow w p.1.toNat).length
def put1 (w : Ws) (p : Pt) : Ws := w.set p.1.toNat ((nth tRow w p.1.toNat).set p.2.1.toNat p.2.2.1)
def putL (w : Ws) (l : List Pt) : Ws := l.foldl put1 w
open Classical in
noncomputable def putF (x : Ws × List Pt) : Ws × Err := if ∀ i, i < x.2.length → okP x.1 (nth tPatch x.2 i) then (putL x.1 x.2, .nil) else ([], .no 1)
theorem nth_set_ne {t : Ty} {l : List (D t)} {i j : Nat} {x : D t} (h : ¬ i = j) : nth t (l.set i x) j = nth t l j := by
  unfold nth; simp only [List.getD_eq_getElem?_getD]; rw [List.getElem?_set_ne h]
theorem nth_set_eq {t : Ty} {l : List (D t)} {i : Nat} {x : D t} (h : i < l.length) : nth t (l.set i x) i = x := by
  unfold nth; simp only [List.getD_eq_getElem?_getD]; rw [List.getElem?_set_self h]; rfl
theorem put1_length (w : Ws) (p : Pt) : (put1 w p).length = w.length := by simp [put1]
theorem put1_nth (w : Ws) (p : Pt) (i : Nat) : nth tRow (put1 w p) i = if i < w.length ∧ p.1.toNat = i then (nth tRow w i).set p.2.1.toNat p.2.2.1 else nth tRow w i := by
  unfold put1
  by_cases c : p.1.toNat = i
  · subst c
    by_cases c2 : p.1.toNat < w.length
    · rw [if_pos ⟨c2, rfl⟩, nth_set_eq (t := tRow) c2]
    · rw [if_neg (fun h => c2 h.1), List.set_eq_of_length_le (by omega)]
  · rw [if_neg (fun h => c h.2), nth_set_ne (t := tRow) c]
theorem putF_ok {w : Ws} {l : List Pt} (h : ∀ i, i < l.length → okP w (nth tPatch l i)) : putF (w, l) = (putL w l, .nil) := by unfold putF; rw [if_pos h]
def rowL (r : List Int) (i : Nat) : List Pt → List Int
  | [] => r
  | p :: l => rowL (if p.1 = (i : Int) then r.set p.2.1.toNat p.2.2.1 else r) i l
theorem putL_row_ {w : Ws} {i : Nat} (hi : i < w.length) : ∀ {l : List Pt} (_ : ∀ p ∈ l, 0 ≤ p.1), nth tRow (putL w l) i = rowL (nth tRow w i) i l := by
  intro l
  induction l generalizing w with
  | nil => intro _; rfl
  | cons p l ih =>
    intro h
    show nth tRow (putL (put1 w p) l) i = _
    rw [ih (by rw [put1_length]; exact hi) (fun q hq => h q (by simp [hq])), put1_nth, rowL]
    have hp := h p (by simp)
    by_cases c : p.1 = (i : Int)
    · rw [if_pos ⟨hi, by omega⟩, if_pos c]
    · rw [if_neg (fun h => by omega), if_neg c]
theorem putF_row {w : Ws} {l : List Pt} {i : Nat} (hi : i < w.length) (h : ∀ j, j < l.length → okP w (nth tPatch l j)) : nth tRow (putF (w, l)).1 i = rowL (nth tRow w i) i l := by
  rw [putF_ok h]
  refine putL_row_ hi fun p hp => ?_
  obtain ⟨j, hj, rfl⟩ := mem_nth (t := tPatch) hp
  exact (h j hj).1
end Go.Mrl

namespace Go.Mrl
open Go.Vg
def InB (b : List Int) : Prop := ∀ i, i < b.length → 0 ≤ (nth (.int .i64) b i : Int) ∧ (nth (.int .i64) b i : Int) ≤ 256
def baseOf (b : List Int) (i : Nat) : Int := nth (.int .i64) b i
noncomputable def targetF (l : List (D tObject)) (b : List Int) (t : D tTie) : Int × Err :=
  if 0 ≤ (findS (l, t.2.2.2.1)).1 then (baseOf b (findS (l, t.2.2.2.1)).1.toNat + (nth tSymbol (nth tObject l (findS (l, t.2.2.2.1)).1.toNat).2.2.1 (findS (l, t.2.2.2.1)).2.toNat).2.1, .nil)
  else if t.2.2.2.2.1 = true then (0, .nil) else (0, .no 6)
def nearF (b : List Int) (i : Int) (t : D tTie) (n : Int) : Int × Err :=
  if t.2.1 = (3 : Int) then
    if n - (baseOf b i.toNat + t.1) < -500 ∨ 500 < n - (baseOf b i.toNat + t.1) then (0, .no 7)
    else (n - (baseOf b i.toNat + t.1), .nil)
  else if n < -2147483648 ∨ 2147483647 < n then (0, .no 7) else (n, .nil)
noncomputable def oneF (l : List (D tObject)) (b : List Int) (i : Int) (t : D tTie) : Int × Err :=
  if t.2.1 = (1 : Int) then nearF b i t (baseOf b i.toNat + t.2.2.1)
  else if (targetF l b t).2.isNil = true then nearF b i t ((targetF l b t).1 + t.2.2.1) else (0, (targetF l b t).2)
noncomputable def goK (l : List (D tObject)) (b : List Int) (i : Nat) : List (D tTie) → List Pt → List Pt × Err
  | [], out => (out, .nil)
  | t :: r, out => if (oneF l b i t).2.isNil = true then goK l b i r (out ++ [((i : Int), t.1, (oneF l b i t).1, ())]) else ([], (oneF l b i t).2)
noncomputable def thenI (f : List Pt → List Pt × Err) (x : List Pt × Err) : List Pt × Err := if x.2.isNil = true then f x.1 else ([], x.2)
noncomputable def goI (l : List (D tObject)) (b : List Int) : List (D tObject) → Nat → List Pt → List Pt × Err
  | [], _, out => (out, .nil)
  | o :: r, i, out => thenI (goI l b r (i + 1)) (goK l b i o.2.2.2.1 out)
open Classical in
noncomputable def allF (x : List (D tObject) × List Int) : List Pt × Err :=
  if ¬ x.2.length = x.1.length then ([], .no 3) else if InB x.2 then goI x.1 x.2 x.1 0 [] else ([], .no 1)
theorem drop_nth {t : Ty} {l : List (D t)} {i : Nat} (h : i < l.length) : l.drop i = nth t l i :: l.drop (i + 1) := by
  rw [List.drop_eq_getElem_cons h]
  congr 1
  have := getElem?_nth h
  rw [List.getElem?_eq_getElem h] at this
  exact Option.some.inj this
def RInv (l : List (D tObject)) (s : List UInt8) (pass i k : Nat) : Prop :=
  (pass = 0 → Bef (strongS s) l i k) ∧ (pass = 1 → (∀ i k, ¬ posHas (strongS s) l i k) ∧ Bef (isS s) l i k) ∧ (2 ≤ pass → ∀ i k, ¬ posHas (isS s) l i k)
theorem RInv.row {l : List (D tObject)} {s : List UInt8} {pass i k : Nat} (h : RInv l s pass i k) (hk : (nth tObject l i).2.2.1.length ≤ k) : RInv l s pass (i + 1) 0 :=
  ⟨fun e => (h.1 e).row hk, fun e => ⟨(h.2.1 e).1, (h.2.1 e).2.row hk⟩, h.2.2⟩
theorem RInv.pass {l : List (D tObject)} {s : List UInt8} {pass i k : Nat} (h : RInv l s pass i k) (hi : l.length ≤ i) : RInv l s (pass + 1) 0 0 := by
  refine ⟨fun e => by omega, fun e => ?_, fun e => ?_⟩
  · obtain rfl : pass = 0 := by omega
    exact ⟨(h.1 rfl).all hi, fun i' k' h => by unfold ahead at h; omega⟩
  · by_cases c : pass = 1
    · exact (h.2.1 c).2.all hi
    · exact h.2.2 (by omega)
theorem RInv.next {l : List (D tObject)} {s : List UInt8} {pass i k : Nat} (h : RInv l s pass i k) (hn : ¬ ((nth tSymbol (nth tObject l i).2.2.1 k).1 = s ∧ ((nth tSymbol (nth tObject l i).2.2.1 k).2.2.1 = true ↔ (pass : Int) = 1))) : RInv l s pass i (k + 1) := by
  refine ⟨fun e => (h.1 e).next fun hp => hn ⟨hp.2.2.1, ?_⟩, fun e => ⟨(h.2.1 e).1, (h.2.1 e).2.next fun hp => hn ⟨hp.2.2, ?_⟩⟩, h.2.2⟩
  · rw [hp.2.2.2]; simp; omega
  · subst e
    have := (h.2.1 rfl).1 i k
    cases c : (nth tSymbol (nth tObject l i).2.2.1 k).2.2.1 with
    | true => simp
    | false => exact absurd ⟨hp.1, hp.2.1, hp.2.2, c⟩ this
theorem RInv.done {l : List (D tObject)} {s : List UInt8} {pass i k : Nat} (h : RInv l s pass i k) (hp : ¬ pass < 2) : findS (l, s) = (-1, -1) := findS_none (h.2.2 (by omega))
end Go.Mrl

namespace Go.Mrl
open Go.Vg
def wordB (n : Int) : Bool := decide (-2147483648 ≤ n) && decide (n ≤ 2147483647)
def needsG : List (List UInt8) → List (List UInt8) → Int
  | _, [] => 0
  | p, s :: r => if nameFault s > 0 then nameFault s else if p.any (· == s) = true then 3 else needsG (p ++ [s]) r
def wordsG : List Int → Int
  | [] => 0
  | n :: r => if wordB n = true then wordsG r else 1
def symsG (n : Nat) : List (D tSymbol) → List (D tSymbol) → Int
  | _, [] => 0
  | p, s :: r => if nameFault s.1 > 0 then nameFault s.1 else if s.2.1 < 0 ∨ s.2.1 ≥ (n : Int) then 1 else if p.any (fun x => x.1 == s.1) = true then 3 else symsG n (p ++ [s]) r
def laterB (a : Int) : Option Int → Bool
  | some b => decide (a ≤ b)
  | none => false
def tieG (n : Nat) (prev : Option Int) (t : D tTie) : Int :=
  if t.1 < 0 ∨ t.1 ≥ (n : Int) ∨ wordB t.2.2.1 = false then 1
  else if t.2.1 < 1 ∨ t.2.1 > 3 ∨ laterB t.1 prev = true then 3
  else if t.2.1 = 1 then (if t.2.2.2.1 ≠ [] ∨ t.2.2.2.2.1 = true then 3 else 0)
  else nameFault t.2.2.2.1
def tiesG (n : Nat) : Option Int → List (D tTie) → Int
  | _, [] => 0
  | prev, t :: r => if tieG n prev t ≠ 0 then tieG n prev t else tiesG n (some t.1) r
def manyO (o : D tObject) : Prop := o.1.length > 4 ∨ o.2.1.length < 1 ∨ o.2.1.length > 40 ∨ o.2.2.1.length > 8 ∨ o.2.2.2.1.length > 6
instance (o : D tObject) : Decidable (manyO o) := by unfold manyO; infer_instance
def faultO (o : D tObject) : Int :=
  if manyO o then 2 else if needsG [] o.1 ≠ 0 then needsG [] o.1 else if wordsG o.2.1 ≠ 0 then wordsG o.2.1
  else if symsG o.2.1.length [] o.2.2.1 ≠ 0 then symsG o.2.1.length [] o.2.2.1 else tiesG o.2.1.length none o.2.2.2.1
theorem take_nth {t : Ty} {l : List (D t)} {i : Nat} (h : i < l.length) : l.take (i + 1) = l.take i ++ [nth t l i] := by
  rw [List.take_add_one]; congr 1; unfold nth; simp [h]
theorem symsG_nonneg (n : Nat) : ∀ (l p : List (D tSymbol)), 0 ≤ symsG n p l
  | [], _ => Int.le_refl _
  | s :: r, p => by
    unfold symsG
    split
    · omega
    · split
      · decide
      · split
        · decide
        · exact symsG_nonneg n r _
structure NeedsI (l : List (List UInt8)) (i : Nat) : Prop where
  le : i ≤ l.length
  eq : needsG (l.take i) (l.drop i) = needsG [] l
theorem NeedsI.zero (l : List (List UInt8)) : NeedsI l 0 := ⟨Nat.zero_le _, rfl⟩
theorem NeedsI.fault {l : List (List UInt8)} {i : Nat} (h : NeedsI l i) (hi : i < l.length) (hf : nameFault (nth .str l i) > 0) : needsG [] l = nameFault (nth .str l i) := by
  rw [← h.eq, drop_nth (t := .str) hi]; unfold needsG; rw [if_pos hf]
theorem NeedsI.dup {l : List (List UInt8)} {i : Nat} (h : NeedsI l i) (hi : i < l.length) (hf : nameFault (nth .str l i) ≤ 0) (ha : (l.take i).any (· == nth .str l i) = true) : needsG [] l = 3 := by
  rw [← h.eq, drop_nth (t := .str) hi]; unfold needsG; rw [if_neg (by omega), if_pos ha]
theorem NeedsI.next {l : List (List UInt8)} {i : Nat} (h : NeedsI l i) (hi : i < l.length) (hf : nameFault (nth .str l i) ≤ 0) (ha : (l.take i).any (· == nth .str l i) = false) : NeedsI l (i + 1) := by
  refine ⟨hi, ?_⟩
  rw [← h.eq, drop_nth (t := .str) hi, take_nth (t := .str) hi]
  conv => rhs; unfold needsG
  rw [if_neg (by omega), if_neg (by rw [ha]; decide)]
theorem NeedsI.done {l : List (List UInt8)} {i : Nat} (h : NeedsI l i) (hi : ¬ i < l.length) : needsG [] l = 0 := by
  rw [← h.eq, List.drop_eq_nil_of_le (by omega)]; rfl
structure WordsI (l : List Int) (i : Nat) : Prop where
  le : i ≤ l.length
  eq : wordsG (l.drop i) = wordsG l
theorem WordsI.zero (l : List Int) : WordsI l 0 := ⟨Nat.zero_le _, rfl⟩
theorem WordsI.fault {l : List Int} {i : Nat} (h : WordsI l i) (hi : i < l.length) (hf : wordB (nth (.int .i64) l i) = false) : wordsG l = 1 := by
  rw [← h.eq, drop_nth (t := .int .i64) hi]; unfold wordsG; rw [if_neg (by rw [hf]; decide)]
theorem WordsI.next {l : List Int} {i : Nat} (h : WordsI l i) (hi : i < l.length) (hf : wordB (nth (.int .i64) l i) = true) : WordsI l (i + 1) := by
  refine ⟨hi, ?_⟩
  rw [← h.eq, drop_nth (t := .int .i64) hi]
  conv => rhs; unfold wordsG
  rw [if_pos hf]
theorem WordsI.done {l : List Int} {i : Nat} (h : WordsI l i) (hi : ¬ i < l.length) : wordsG l = 0 := by
  rw [← h.eq, List.drop_eq_nil_of_le (by omega)]; rfl
structure SymsI (n : Nat) (l : List (D tSymbol)) (i : Nat) : Prop where
  le : i ≤ l.length
  eq : symsG n (l.take i) (l.drop i) = symsG n [] l
theorem SymsI.zero (n : Nat) (l : List (D tSymbol)) : SymsI n l 0 := ⟨Nat.zero_le _, rfl⟩
theorem SymsI.fault {n : Nat} {l : List (D tSymbol)} {i : Nat} (h : SymsI n l i) (hi : i < l.length) (hf : nameFault (nth tSymbol l i).1 > 0) : symsG n [] l = nameFault (nth tSymbol l i).1 := by
  rw [← h.eq, drop_nth (t := tSymbol) hi]; unfold symsG; rw [if_pos hf]
theorem SymsI.out {n : Nat} {l : List (D tSymbol)} {i : Nat} (h : SymsI n l i) (hi : i < l.length) (hf : nameFault (nth tSymbol l i).1 ≤ 0) (ho : (nth tSymbol l i).2.1 < 0 ∨ (nth tSymbol l i).2.1 ≥ (n : Int)) : symsG n [] l = 1 := by
  rw [← h.eq, drop_nth (t := tSymbol) hi]; unfold symsG; rw [if_neg (by omega), if_pos ho]
theorem SymsI.dup {n : Nat} {l : List (D tSymbol)} {i : Nat} (h : SymsI n l i) (hi : i < l.length) (hf : nameFault (nth tSymbol l i).1 ≤ 0) (ho : ¬ ((nth tSymbol l i).2.1 < 0 ∨ (nth tSymbol l i).2.1 ≥ (n : Int)))
    (ha : (l.take i).any (fun x => x.1 == (nth tSymbol l i).1) = true) : symsG n [] l = 3 := by
  rw [← h.eq, drop_nth (t := tSymbol) hi]; unfold symsG; rw [if_neg (by omega), if_neg ho, if_pos ha]
theorem SymsI.next {n : Nat} {l : List (D tSymbol)} {i : Nat} (h : SymsI n l i) (hi : i < l.length) (hf : nameFault (nth tSymbol l i).1 ≤ 0) (ho : ¬ ((nth tSymbol l i).2.1 < 0 ∨ (nth tSymbol l i).2.1 ≥ (n : Int)))
    (ha : (l.take i).any (fun x => x.1 == (nth tSymbol l i).1) = false) : SymsI n l (i + 1) := by
  refine ⟨hi, ?_⟩
  rw [← h.eq, drop_nth (t := tSymbol) hi, take_nth (t := tSymbol) hi]
  conv => rhs; unfold symsG
  rw [if_neg (by omega), if_neg ho, if_neg (by rw [ha]; decide)]
theorem SymsI.done {n : Nat} {l : List (D tSymbol)} {i : Nat} (h : SymsI n l i) (hi : ¬ i < l.length) : symsG n [] l = 0 := by
  rw [← h.eq, List.drop_eq_nil_of_le (by omega)]; rfl
def prevT (l : List (D tTie)) (i : Nat) : Option Int := if i = 0 then none else some (nth tTie l (i - 1)).1
structure TiesI (n : Nat) (l : List (D tTie)) (i : Nat) : Prop where
  le : i ≤ l.length
  eq : tiesG n (prevT l i) (l.drop i) = tiesG n none l
theorem TiesI.zero (n : Nat) (l : List (D tTie)) : TiesI n l 0 := ⟨Nat.zero_le _, rfl⟩
theorem TiesI.fault {n : Nat} {l : List (D tTie)} {i : Nat} (h : TiesI n l i) (hi : i < l.length) {f : Int} (hf : tieG n (prevT l i) (nth tTie l i) = f) (h0 : f ≠ 0) : tiesG n none l = f := by
  rw [← h.eq, drop_nth (t := tTie) hi]; unfold tiesG; rw [if_pos (by rw [hf]; exact h0), hf]
theorem TiesI.next {n : Nat} {l : List (D tTie)} {i : Nat} (h : TiesI n l i) (hi : i < l.length) (hf : tieG n (prevT l i) (nth tTie l i) = 0) : TiesI n l (i + 1) := by
  refine ⟨hi, ?_⟩
  rw [← h.eq, drop_nth (t := tTie) hi]
  conv => rhs; unfold tiesG
  rw [if_neg (by rw [hf]; decide)]
  rfl
theorem TiesI.done {n : Nat} {l : List (D tTie)} {i : Nat} (h : TiesI n l i) (hi : ¬ i < l.length) : tiesG n none l = 0 := by
  rw [← h.eq, List.drop_eq_nil_of_le (by omega)]; rfl
theorem any_take {t : Ty} {l : List (D t)} {i j : Nat} {f : D t → Bool} (hj : j < i) (hi : i ≤ l.length) (h : f (nth t l j) = true) : (l.take i).any f = true := by
  rw [List.any_eq_true]
  refine ⟨nth t l j, ?_, h⟩
  have : (l.take i)[j]? = some (nth t l j) := by
    rw [List.getElem?_take, if_pos hj]
    unfold nth
    rw [List.getD_eq_getElem?_getD, List.getElem?_eq_getElem (by omega)]; rfl
  exact List.mem_of_getElem? this
theorem none_take {t : Ty} {l : List (D t)} {i : Nat} {f : D t → Bool} (h : ∀ j, j < i → f (nth t l j) = false) : (l.take i).any f = false := by
  rw [List.any_eq_false]
  intro x hx
  obtain ⟨j, hj, rfl⟩ := List.getElem_of_mem hx
  rw [List.length_take] at hj
  have := h j (by omega)
  rw [List.getElem_take]
  have e : nth t l j = l[j]'(by omega) := by unfold nth; simp [show j < l.length by omega]
  rw [e] at this
  rw [this]; decide
theorem contains_of {l : List (List UInt8)} {s : List UInt8} {y : Int} (h : (y = -1 ∧ ∀ j, j < l.length → nth .str l j ≠ s) ∨ (0 ≤ y ∧ y.toNat < l.length ∧ nth .str l y.toNat = s)) : decide (y ≥ 0) = l.any (· == s) := by
  rcases h with ⟨rfl, h⟩ | ⟨h1, h2, h3⟩
  · have := none_take (t := .str) (l := l) (i := l.length) (f := (· == s)) fun j hj => by simpa using h j hj
    rw [List.take_length] at this
    rw [this]; rfl
  · have := any_take (t := .str) (l := l) (i := l.length) (f := (· == s)) h2 (Nat.le_refl _) (by simpa using h3)
    rw [List.take_length] at this
    rw [this]; simpa using h1
theorem faultO_many {o : D tObject} (h : manyO o) : faultO o = 2 := by unfold faultO; rw [if_pos h]
theorem faultO_needs {o : D tObject} (h : ¬ manyO o) {f : Int} (hf : needsG [] o.1 = f) (h0 : f ≠ 0) : faultO o = f := by unfold faultO; rw [if_neg h, if_pos (by rw [hf]; exact h0), hf]
theorem faultO_words {o : D tObject} (h : ¬ manyO o) (h1 : needsG [] o.1 = 0) {f : Int} (hf : wordsG o.2.1 = f) (h0 : f ≠ 0) : faultO o = f := by
  unfold faultO; rw [if_neg h, if_neg (by rw [h1]; decide), if_pos (by rw [hf]; exact h0), hf]
theorem faultO_syms {o : D tObject} (h : ¬ manyO o) (h1 : needsG [] o.1 = 0) (h2 : wordsG o.2.1 = 0) {f : Int} (hf : symsG o.2.1.length [] o.2.2.1 = f) (h0 : f ≠ 0) : faultO o = f := by
  unfold faultO; rw [if_neg h, if_neg (by rw [h1]; decide), if_neg (by rw [h2]; decide), if_pos (by rw [hf]; exact h0), hf]
theorem faultO_ties {o : D tObject} (h : ¬ manyO o) (h1 : needsG [] o.1 = 0) (h2 : wordsG o.2.1 = 0) (h3 : symsG o.2.1.length [] o.2.2.1 = 0) {f : Int} (hf : tiesG o.2.1.length none o.2.2.2.1 = f) : faultO o = f := by
  unfold faultO; rw [if_neg h, if_neg (by rw [h1]; decide), if_neg (by rw [h2]; decide), if_neg (by rw [h3]; decide), hf]
end Go.Mrl

namespace Go.Mrl
open Go.Vg
abbrev Str := List UInt8
def ltS (a b : Str) : Prop := Op.bytesLess a b = true
theorem u8_lt_irrefl (a : UInt8) : ¬ a < a := fun h => by have := UInt8.lt_iff_toNat_lt.1 h; omega
theorem ltS_irrefl : ∀ a : Str, ¬ ltS a a
  | [] => fun h => by cases h
  | a :: x => fun h => by
    unfold ltS at h
    simp only [Op.bytesLess, Bool.or_eq_true, decide_eq_true_eq, Bool.and_eq_true] at h
    rcases h with h | ⟨_, h⟩
    · exact u8_lt_irrefl a h
    · exact ltS_irrefl x h
theorem ltS_trans : ∀ {a b c : Str}, ltS a b → ltS b c → ltS a c
  | a, [], _, h, _ => by unfold ltS at h; cases a <;> simp [Op.bytesLess] at h
  | _, _ :: _, [], _, h => by unfold ltS at h; simp [Op.bytesLess] at h
  | [], _ :: _, _ :: _, _, _ => rfl
  | a :: x, b :: y, c :: z, h1, h2 => by
    unfold ltS at h1 h2 ⊢
    simp only [Op.bytesLess, Bool.or_eq_true, decide_eq_true_eq, Bool.and_eq_true, beq_iff_eq] at h1 h2 ⊢
    rcases h1 with h1 | ⟨rfl, h1⟩
    · rcases h2 with h2 | ⟨rfl, h2⟩
      · left; rw [UInt8.lt_iff_toNat_lt] at *; omega
      · exact .inl h1
    · rcases h2 with h2 | ⟨rfl, h2⟩
      · exact .inl h2
      · exact .inr ⟨rfl, ltS_trans h1 h2⟩
theorem ltS_total : ∀ {a b : Str}, ¬ ltS a b → ¬ ltS b a → a = b
  | [], [], _, _ => rfl
  | [], _ :: _, h, _ => (h rfl).elim
  | _ :: _, [], _, h => (h rfl).elim
  | a :: x, b :: y, h1, h2 => by
    unfold ltS at h1 h2
    simp only [Op.bytesLess, Bool.or_eq_true, decide_eq_true_eq, Bool.and_eq_true, beq_iff_eq, not_or, not_and] at h1 h2
    have hab : a = b := by
      apply UInt8.toNat_inj.1
      have h3 := h1.1; have h4 := h2.1
      rw [UInt8.lt_iff_toNat_lt] at h3 h4
      omega
    subst hab
    rw [ltS_total (h1.2 rfl) (h2.2 rfl)]
def leS (a b : Str) : Prop := ¬ ltS b a
theorem leS_refl (a : Str) : leS a a := ltS_irrefl a
theorem leS_of_lt {a b : Str} (h : ltS a b) : leS a b := fun h' => ltS_irrefl a (ltS_trans h h')
theorem leS_trans {a b c : Str} (h1 : leS a b) (h2 : leS b c) : leS a c := by
  intro h
  by_cases hab : ltS a b
  · exact h2 (ltS_trans h hab)
  · have := ltS_total hab h1; subst this; exact h2 h
theorem lt_of_leS_ne {a b : Str} (h1 : leS a b) (h2 : a ≠ b) : ltS a b := Classical.byContradiction fun h => h2 (ltS_total h h1)
def Upto (l : List Str) (i : Nat) : Prop := ∀ a b, a < b → b < i → leS (nth .str l a) (nth .str l b)
def But (l : List Str) (i j : Nat) : Prop := ∀ a b, a < b → b ≤ i → b ≠ j → leS (nth .str l a) (nth .str l b)
theorem But.done {l : List Str} {i j : Nat} (h : But l i j) (hj : j = 0 ∨ ¬ ltS (nth .str l j) (nth .str l (j - 1))) (hi : j ≤ i) : Upto l (i + 1) := by
  intro a b h1 h2
  by_cases c : b = j
  · subst c
    rcases hj with hj | hj
    · omega
    · by_cases ca : a = b - 1
      · rw [ca]; exact hj
      · exact leS_trans (h a (b - 1) (by omega) (by omega) (by omega)) hj
  · exact h a b h1 (by omega) c
end Go.Mrl

namespace Go.Mrl
open Go.Vg
abbrev Dk := (Int × Bool × Unit) × (List (List UInt8) × (List (List UInt8) × (List (Int × List UInt8 × Unit) × Unit)))
def stepOf (d : Dk) : Dk × Int :=
  if d.1.2.1 = true then (d, 9) else if d.1.1 = 0 then (((-1, true, ()), d.2), 9) else (((if 0 < d.1.1 then d.1.1 - 1 else d.1.1, false, ()), d.2), 0)
structure GoodD (d : Dk) (m : Nat) : Prop where
  len : d.2.1.length = d.2.2.1.length
  fuse : -1 ≤ d.1.1
  wait : ∀ i, i < d.2.2.2.1.length → 0 ≤ ((nth tTurn d.2.2.2.1 i).1 : Int) ∧ ((nth tTurn d.2.2.2.1 i).1 : Int) < d.2.2.1.length
  few : d.2.2.2.1.length ≤ m
theorem stepOf_rest (d : Dk) : (stepOf d).1.2 = d.2 := by
  unfold stepOf; split
  · rfl
  · split <;> rfl
theorem GoodD.step {d : Dk} {m : Nat} (h : GoodD d m) : GoodD (stepOf d).1 m := by
  refine ⟨by rw [stepOf_rest]; exact h.len, ?_, by rw [stepOf_rest]; exact h.wait, by rw [stepOf_rest]; exact h.few⟩
  have := h.fuse
  unfold stepOf; split
  · exact this
  · split
    · simp
    · simp only; split <;> omega
end Go.Mrl

namespace Go.Mrl
open Go.Vg
theorem errNo_nil {n : Int} : (errNo n).isNil = true ↔ n = 0 := by
  unfold errNo; split
  · rename_i h; simp [h, Err.isNil]
  · rename_i h; simp [h, Err.isNil]
end Go.Mrl
namespace Go.Mrl
open Go.Vg
end Go.Mrl

namespace Go.Mrl
open Go.Vg
@[reducible] def tFV : Ty := .prod .str (.prod (.int .i64) .unit)
abbrev FE := Str × (Str × Int × Unit) × Int × Unit
abbrev FZ := (Int × Unit) × (List FE × Int × Unit) × Unit
def bornF (y : FE) : Int := y.2.2.1
def keyF (y : FE) : Str := y.1
def readFs (x : FZ) (s : Str) : Str × Int × Int :=
  if hasE tFV x.2.1.1 s = true then ((getE tFV x.2.1.1 s).1, (getE tFV x.2.1.1 s).2.1, 0) else ([], 0, 5)
def writeFs (x : FZ) (s t : Str) : FZ × Int :=
  if ¬ nameFault s = 0 then (x, nameFault s) else if 1200 < t.length then (x, 2)
  else if (hasE tFV x.2.1.1 s = false ∧ x.2.1.1.length = 6) ∨ x.1.1 = 1000000 then (x, 8)
  else (((x.1.1 + 1, ()), (putE tFV x.2.1.1 s (t, x.1.1 + 1, ()) x.2.1.2.1, clkE tFV x.2.1.1 s x.2.1.2.1, ()), ()), 0)
def removeFs (x : FZ) (s : Str) : FZ × Int :=
  if hasE tFV x.2.1.1 s = true then ((x.1, (delE tFV x.2.1.1 s, x.2.1.2.1, ()), ()), 0) else (x, 5)
theorem readFs_no {x : FZ} {s : Str} (h : hasE tFV x.2.1.1 s = false) : readFs x s = ([], 0, 5) := by unfold readFs; rw [if_neg (by rw [h]; simp)]
theorem readFs_yes {x : FZ} {s : Str} (h : hasE tFV x.2.1.1 s = true) : readFs x s = ((getE tFV x.2.1.1 s).1, (getE tFV x.2.1.1 s).2.1, 0) := by unfold readFs; rw [if_pos h]
theorem writeFs_name {x : FZ} {s t : Str} (h : ¬ nameFault s = 0) : writeFs x s t = (x, nameFault s) := by unfold writeFs; rw [if_pos h]
theorem writeFs_many {x : FZ} {s t : Str} (h : nameFault s = 0) (h1 : 1200 < t.length) : writeFs x s t = (x, 2) := by unfold writeFs; rw [if_neg (by simp [h]), if_pos h1]
theorem writeFs_full {x : FZ} {s t : Str} (h : nameFault s = 0) (h1 : ¬ 1200 < t.length) (h2 : (hasE tFV x.2.1.1 s = false ∧ x.2.1.1.length = 6) ∨ x.1.1 = 1000000) : writeFs x s t = (x, 8) := by unfold writeFs; rw [if_neg (by simp [h]), if_neg h1, if_pos h2]
theorem writeFs_ok {x : FZ} {s t : Str} (h : nameFault s = 0) (h1 : ¬ 1200 < t.length) (h2 : ¬ ((hasE tFV x.2.1.1 s = false ∧ x.2.1.1.length = 6) ∨ x.1.1 = 1000000)) :
    writeFs x s t = (((x.1.1 + 1, ()), (putE tFV x.2.1.1 s (t, x.1.1 + 1, ()) x.2.1.2.1, clkE tFV x.2.1.1 s x.2.1.2.1, ()), ()), 0) := by unfold writeFs; rw [if_neg (by simp [h]), if_neg h1, if_neg h2]
theorem removeFs_no {x : FZ} {s : Str} (h : hasE tFV x.2.1.1 s = false) : removeFs x s = (x, 5) := by unfold removeFs; rw [if_neg (by rw [h]; simp)]
theorem removeFs_yes {x : FZ} {s : Str} (h : hasE tFV x.2.1.1 s = true) : removeFs x s = ((x.1, (delE tFV x.2.1.1 s, x.2.1.2.1, ()), ()), 0) := by unfold removeFs; rw [if_pos h]
theorem nodup_len {α : Type} [DecidableEq α] : ∀ {a b : List α}, a.Nodup → (∀ y ∈ a, y ∈ b) → a.length ≤ b.length
  | [], _, _, _ => by simp
  | x :: a, b, hn, hs => by
    have hn' := List.nodup_cons.1 hn
    have h1 : (b.erase x).length = b.length - 1 := List.length_erase_of_mem (hs x (by simp))
    have h2 : 0 < b.length := List.length_pos_of_mem (hs x (by simp))
    have := nodup_len (b := b.erase x) hn'.2 fun y hy => (List.mem_erase_of_ne (fun (e : y = x) => hn'.1 (by rw [← e]; exact hy))).2 (hs y (by simp [hy]))
    simp only [List.length_cons]
    omega
structure SeenF (es : List FE) (x : List FE) : Prop where
  sub : ∀ y ∈ x, y ∈ es
  nodup : (x.map bornF).Nodup
theorem SeenF.more {es x : List FE} {y : FE} (h : SeenF es x) (hy : y ∈ leftE tFV es (x.map bornF)) : SeenF es (x ++ [y]) := by
  unfold leftE at hy
  have hy' := List.mem_filter.1 hy
  have hn : bornF y ∉ x.map bornF := by
    have := hy'.2
    simpa [bornF] using this
  refine ⟨fun z hz => ?_, ?_⟩
  · rcases List.mem_append.1 hz with hz | hz
    · exact h.sub z hz
    · simp at hz; subst hz; exact hy'.1
  · rw [List.map_append, List.nodup_append]
    refine ⟨h.nodup, by simp, fun a ha b hb => ?_⟩
    simp at hb; subst hb
    exact fun e => hn (e ▸ ha)
theorem nodup_of_map {α β : Type} {f : α → β} {l : List α} (h : (l.map f).Nodup) : l.Nodup := by
  unfold List.Nodup at h ⊢
  rw [List.pairwise_map] at h
  exact h.imp fun hne e => hne (by rw [e])
theorem born_inj : ∀ {es : List FE}, (es.map bornF).Nodup → ∀ {a b : FE}, a ∈ es → b ∈ es → bornF a = bornF b → a = b
  | [], _, _, _, h, _, _ => by simp at h
  | y :: r, hn, a, b, ha, hb, e => by
    simp only [List.map_cons, List.nodup_cons] at hn
    rcases List.mem_cons.1 ha with ha' | ha' <;> rcases List.mem_cons.1 hb with hb' | hb'
    · rw [ha', hb']
    · exact (hn.1 (by rw [← ha', e]; exact List.mem_map_of_mem hb')).elim
    · exact (hn.1 (by rw [← hb', ← e]; exact List.mem_map_of_mem ha')).elim
    · exact born_inj hn.2 ha' hb' e
theorem SeenF.all {es x : List FE} (h : SeenF es x) (hn : (es.map bornF).Nodup) (hl : leftE tFV es (x.map bornF) = []) : x.Perm es := by
  refine (List.perm_ext_iff_of_nodup (nodup_of_map h.nodup) (nodup_of_map hn)).2 fun y => ⟨h.sub y, fun hy => ?_⟩
  have hin : bornF y ∈ x.map bornF := by
    apply Classical.byContradiction
    intro hc
    have : y ∈ leftE tFV es (x.map bornF) := List.mem_filter.2 ⟨hy, by simpa [bornF] using hc⟩
    rw [hl] at this; simp at this
  obtain ⟨z, hz, e⟩ := List.mem_map.1 hin
  have := born_inj hn (h.sub z hz) hy e
  rw [← this]; exact hz
end Go.Mrl

namespace Go.Mrl
open Go.Vg
abbrev RF := Str × Str × Int × Unit
abbrev RS := List RF × Int × Unit
def nameR (y : RF) : Str := y.1
def isNot (s : Str) (y : RF) : Bool := !(y.1 == s)
def findR : List RF → Str → Str × Int × Int
  | [], _ => ([], 0, 5)
  | y :: r, s => if y.1 = s then (y.2.1, y.2.2.1, 0) else findR r s
def insF (s : Str) (e : RF) : List RF → List RF
  | [] => [e]
  | y :: r => if (Op.bytesLess s y.1 || s == y.1) = true then e :: (y :: r).filter (isNot s) else y :: insF s e r
def writeR (x : RS) (s t : Str) : RS × Int :=
  if ¬ nameFault s = 0 then (x, nameFault s) else if 1200 < t.length then (x, 2)
  else if (0 < (findR x.1 s).2.2 ∧ x.1.length = 6) ∨ x.2.1 = 1000000 then (x, 8)
  else ((insF s (s, t, x.2.1 + 1, ()) x.1, x.2.1 + 1, ()), 0)
def removeR (x : RS) (s : Str) : RS × Int := if (x.1.filter (isNot s)).length = x.1.length then (x, 5) else ((x.1.filter (isNot s), x.2), 0)
def toF (y : FE) : RF := (y.1, y.2.1.1, y.2.1.2.1, ())
def Rising (L : List RF) : Prop := L.Pairwise fun a b => ltS a.1 b.1
structure FilesInv (x : FZ) (r : RS) : Prop where
  now : r.2.1 = x.1.1
  lo : 0 ≤ x.1.1
  hi : x.1.1 ≤ 1000000
  len : x.2.1.1.length ≤ 6
  born : (x.2.1.1.map bornF).Nodup
  old : ∀ y ∈ x.2.1.1, bornF y < x.2.1.2.1
  rise : Rising r.1
  perm : r.1.Perm (x.2.1.1.map toF)
theorem rising_nodup {L : List RF} (h : Rising L) : (L.map nameR).Nodup := by
  unfold List.Nodup
  rw [List.pairwise_map]
  exact h.imp fun hlt e => by unfold nameR at e; rw [e] at hlt; exact ltS_irrefl _ hlt
theorem FilesInv.names {x : FZ} {r : RS} (h : FilesInv x r) : (x.2.1.1.map keyF).Nodup := by
  have h1 := (h.perm.map nameR).nodup_iff.1 (rising_nodup h.rise)
  rw [List.map_map] at h1
  exact h1
theorem findR_mem : ∀ {L : List RF} {s : Str}, (L.map nameR).Nodup → ∀ y ∈ L, y.1 = s → findR L s = (y.2.1, y.2.2.1, 0)
  | [], _, _, _, h, _ => by simp at h
  | z :: r, s, hn, y, hy, e => by
    simp only [List.map_cons, List.nodup_cons] at hn
    unfold findR
    rcases List.mem_cons.1 hy with rfl | hy
    · rw [if_pos e]
    · have : ¬ z.1 = s := fun e2 => hn.1 (by rw [show nameR z = nameR y from e2.trans e.symm]; exact List.mem_map_of_mem hy)
      rw [if_neg this]
      exact findR_mem hn.2 y hy e
theorem findR_no : ∀ {L : List RF} {s : Str}, (∀ y ∈ L, ¬ y.1 = s) → findR L s = ([], 0, 5)
  | [], _, _ => rfl
  | z :: r, s, h => by
    unfold findR
    rw [if_neg (h z (by simp))]
    exact findR_no fun y hy => h y (by simp [hy])
theorem hasE_iff : ∀ {es : List FE} {s : Str}, hasE tFV es s = true ↔ ∃ y ∈ es, y.1 = s
  | [], _ => by simp [hasE]
  | z :: r, s => by
    unfold hasE
    by_cases c : z.1 = s
    · simp [c]
    · rw [if_neg c, hasE_iff]; simp [c]
theorem getE_mem : ∀ {es : List FE} {s : Str}, (es.map keyF).Nodup → ∀ y ∈ es, y.1 = s → getE tFV es s = y.2.1
  | [], _, _, _, h, _ => by simp at h
  | z :: r, s, hn, y, hy, e => by
    simp only [List.map_cons, List.nodup_cons] at hn
    unfold getE
    rcases List.mem_cons.1 hy with rfl | hy
    · rw [if_pos e]
    · have : ¬ z.1 = s := fun e2 => hn.1 (by rw [show keyF z = keyF y from e2.trans e.symm]; exact List.mem_map_of_mem hy)
      rw [if_neg this]
      exact getE_mem hn.2 y hy e
theorem FilesInv.read {x : FZ} {r : RS} (h : FilesInv x r) (s : Str) : readFs x s = findR r.1 s := by
  by_cases c : hasE tFV x.2.1.1 s = true
  · obtain ⟨y, hy, e⟩ := hasE_iff.1 c
    rw [readFs_yes c, getE_mem h.names y hy e]
    exact (findR_mem (rising_nodup h.rise) (toF y) (h.perm.mem_iff.2 (List.mem_map_of_mem hy)) e).symm
  · rw [readFs_no (by simpa using c)]
    refine (findR_no fun y hy e => c ?_).symm
    obtain ⟨z, hz, rfl⟩ := List.mem_map.1 (h.perm.mem_iff.1 hy)
    exact hasE_iff.2 ⟨z, hz, e⟩
theorem isNot_iff {s : Str} {y : RF} : isNot s y = true ↔ ¬ y.1 = s := by simp [isNot]
theorem insF_mem {s : Str} {e : RF} : ∀ {L : List RF} {y : RF}, y ∈ insF s e L → y = e ∨ y ∈ L
  | [], y, h => by simp [insF] at h; exact .inl h
  | z :: r, y, h => by
    unfold insF at h
    split at h
    · rcases List.mem_cons.1 h with h | h
      · exact .inl h
      · exact .inr (List.mem_filter.1 h).1
    · rcases List.mem_cons.1 h with rfl | h
      · exact .inr (by simp)
      · rcases insF_mem h with h | h
        · exact .inl h
        · exact .inr (by simp [h])
theorem not_le {s a : Str} (h : ¬ (Op.bytesLess s a || s == a) = true) : ltS a s := by
  simp at h
  exact lt_of_leS_ne (a := a) (b := s) (by unfold leS ltS; rw [h.1]; simp) (fun e => h.2 e.symm)
theorem insF_rising {s : Str} {e : RF} (he : e.1 = s) : ∀ {L : List RF}, Rising L → Rising (insF s e L)
  | [], _ => by simp [insF, Rising]
  | z :: r, h => by
    have h' := List.pairwise_cons.1 h
    unfold insF
    split
    · rename_i c
      refine List.pairwise_cons.2 ⟨fun y hy => ?_, h.filter _⟩
      have hy' := List.mem_filter.1 hy
      have hn := isNot_iff.1 hy'.2
      have hz : leS s z.1 := by
        simp at c
        rcases c with c | rfl
        · exact leS_of_lt c
        · exact leS_refl _
      have hzy : leS z.1 y.1 := by
        rcases List.mem_cons.1 hy'.1 with e2 | hy2
        · rw [e2]; exact leS_refl _
        · exact leS_of_lt (h'.1 y hy2)
      rw [he]
      exact lt_of_leS_ne (leS_trans hz hzy) (fun e2 => hn e2.symm)
    · rename_i c
      have hlt := not_le c
      refine List.pairwise_cons.2 ⟨fun y hy => ?_, insF_rising he h'.2⟩
      rcases insF_mem hy with rfl | hy
      · rw [he]; exact hlt
      · exact h'.1 y hy
theorem filter_all {s : Str} : ∀ {L : List RF}, (∀ y ∈ L, ¬ y.1 = s) → L.filter (isNot s) = L := fun h => List.filter_eq_self.2 fun y hy => isNot_iff.2 (h y hy)
theorem insF_perm {s : Str} {e : RF} : ∀ {L : List RF}, Rising L → (insF s e L).Perm (e :: L.filter (isNot s))
  | [], _ => .refl _
  | z :: r, h => by
    have h' := List.pairwise_cons.1 h
    unfold insF
    split
    · exact .refl _
    · rename_i c
      have hlt := not_le c
      have hz : isNot s z = true := isNot_iff.2 fun e => by rw [e] at hlt; exact ltS_irrefl _ hlt
      rw [List.filter_cons, if_pos hz]
      exact ((insF_perm h'.2).cons z).trans (List.Perm.swap e z _)
theorem putE_perm {s : Str} {v : Str × Int × Unit} {c : Int} : ∀ {es : List FE}, (es.map keyF).Nodup → ((putE tFV es s v c).map toF).Perm ((s, v.1, v.2.1, ()) :: (es.map toF).filter (isNot s))
  | [], _ => .refl _
  | z :: r, hn => by
    simp only [List.map_cons, List.nodup_cons] at hn
    unfold putE
    by_cases e : z.1 = s
    · rw [if_pos e]
      have h1 : isNot s (toF z) = false := by
        cases h : isNot s (toF z) with
        | false => rfl
        | true => exact absurd e (isNot_iff.1 h)
      rw [List.map_cons, List.map_cons, List.filter_cons, if_neg (by rw [h1]; simp), filter_all]
      · exact .refl _
      · intro y hy e2
        obtain ⟨z2, hz2, rfl⟩ := List.mem_map.1 hy
        exact hn.1 (by rw [show keyF z = keyF z2 from e.trans (show s = z2.1 from e2.symm)]; exact List.mem_map_of_mem hz2)
    · rw [if_neg e]
      have h1 : isNot s (toF z) = true := isNot_iff.2 e
      rw [List.map_cons, List.map_cons, List.filter_cons, if_pos h1]
      exact ((putE_perm hn.2).cons (toF z)).trans (List.Perm.swap _ _ _)
theorem putE_born {s : Str} {v : Str × Int × Unit} {c : Int} : ∀ {es : List FE}, (putE tFV es s v c).map bornF = if hasE tFV es s = true then es.map bornF else es.map bornF ++ [c]
  | [] => rfl
  | z :: r => by
    unfold putE hasE
    by_cases e : z.1 = s
    · rw [if_pos e, if_pos e]; rfl
    · rw [if_neg e, if_neg e, List.map_cons, putE_born]
      split <;> rfl
theorem delE_map {s : Str} : ∀ {es : List FE}, (es.map keyF).Nodup → (delE tFV es s).map toF = (es.map toF).filter (isNot s)
  | [], _ => rfl
  | z :: r, hn => by
    simp only [List.map_cons, List.nodup_cons] at hn
    unfold delE
    by_cases e : z.1 = s
    · have h1 : ¬ isNot s (toF z) = true := fun h => isNot_iff.1 h e
      rw [if_pos e, List.map_cons, List.filter_cons, if_neg h1, filter_all]
      intro y hy e2
      obtain ⟨z2, hz2, rfl⟩ := List.mem_map.1 hy
      exact hn.1 (by rw [show keyF z = keyF z2 from e.trans (show s = z2.1 from e2.symm)]; exact List.mem_map_of_mem hz2)
    · have h1 : isNot s (toF z) = true := isNot_iff.2 e
      rw [if_neg e, List.map_cons, List.map_cons, List.filter_cons, if_pos h1, delE_map hn.2]
theorem delE_sub {s : Str} : ∀ {es : List FE}, (delE tFV es s).Sublist es
  | [] => .refl _
  | z :: r => by
    unfold delE
    split
    · exact List.sublist_cons_self _ _
    · exact delE_sub.cons_cons _
theorem FilesInv.has {x : FZ} {r : RS} (h : FilesInv x r) (s : Str) : 0 < (findR r.1 s).2.2 ↔ hasE tFV x.2.1.1 s = false := by
  rw [← h.read s]
  cases c : hasE tFV x.2.1.1 s with
  | true => rw [readFs_yes c]; simp
  | false => rw [readFs_no c]; simp
theorem FilesInv.write {x : FZ} {r : RS} (h : FilesInv x r) (s t : Str) : FilesInv (writeFs x s t).1 (writeR r s t).1 ∧ (writeFs x s t).2 = (writeR r s t).2 := by
  have hlen : r.1.length = x.2.1.1.length := by rw [h.perm.length_eq, List.length_map]
  have hc : ((hasE tFV x.2.1.1 s = false ∧ x.2.1.1.length = 6) ∨ x.1.1 = 1000000) ↔ ((0 < (findR r.1 s).2.2 ∧ r.1.length = 6) ∨ r.2.1 = 1000000) := by rw [h.has, hlen, h.now]
  by_cases h1 : nameFault s = 0
  · by_cases h2 : 1200 < t.length
    · rw [writeFs_many h1 h2]
      unfold writeR; rw [if_neg (by simp [h1]), if_pos h2]
      exact ⟨h, rfl⟩
    · by_cases h3 : (hasE tFV x.2.1.1 s = false ∧ x.2.1.1.length = 6) ∨ x.1.1 = 1000000
      · rw [writeFs_full h1 h2 h3]
        unfold writeR; rw [if_neg (by simp [h1]), if_neg h2, if_pos (hc.1 h3)]
        exact ⟨h, rfl⟩
      · rw [writeFs_ok h1 h2 h3]
        unfold writeR; rw [if_neg (by simp [h1]), if_neg h2, if_neg (fun h' => h3 (hc.2 h'))]
        refine ⟨⟨by rw [h.now], by have := h.lo; simp only; omega, by have := h.hi; simp only; omega, ?_, ?_, ?_, insF_rising (s := s) (e := (s, t, r.2.1 + 1, ())) rfl h.rise, ?_⟩, rfl⟩
        · have hp := (putE_perm (s := s) (v := (t, x.1.1 + 1, ())) (c := x.2.1.2.1) h.names).length_eq
          have hb := congrArg List.length (putE_born (s := s) (v := (t, x.1.1 + 1, ())) (c := x.2.1.2.1) (es := x.2.1.1))
          simp only [List.length_map] at hb
          show (putE tFV x.2.1.1 s (t, x.1.1 + 1, ()) x.2.1.2.1).length ≤ 6
          rw [hb]
          have := h.len
          cases c : hasE tFV x.2.1.1 s with
          | true => simpa using this
          | false =>
            have : ¬ x.2.1.1.length = 6 := fun e => h3 (.inl ⟨c, e⟩)
            simp; omega
        · show ((putE tFV x.2.1.1 s (t, x.1.1 + 1, ()) x.2.1.2.1).map bornF).Nodup
          rw [putE_born]
          split
          · exact h.born
          · rw [List.nodup_append]
            refine ⟨h.born, by simp, fun a ha b hb e => ?_⟩
            simp at hb
            obtain ⟨y, hy, rfl⟩ := List.mem_map.1 ha
            have := h.old y hy
            omega
        · intro y hy
          have hy' : bornF y ∈ (putE tFV x.2.1.1 s (t, x.1.1 + 1, ()) x.2.1.2.1).map bornF := List.mem_map_of_mem hy
          rw [putE_born] at hy'
          show bornF y < clkE tFV x.2.1.1 s x.2.1.2.1
          unfold clkE
          split at hy'
          · rename_i c
            rw [if_pos c]
            obtain ⟨z, hz, e⟩ := List.mem_map.1 hy'
            rw [← e]; exact h.old z hz
          · rename_i c
            rw [if_neg c]
            rcases List.mem_append.1 hy' with hy' | hy'
            · obtain ⟨z, hz, e⟩ := List.mem_map.1 hy'
              have := h.old z hz
              omega
            · simp at hy'; omega
        · refine (insF_perm h.rise).trans ?_
          rw [h.now]
          exact ((h.perm.filter _).cons _).trans (putE_perm (v := (t, x.1.1 + 1, ())) (c := x.2.1.2.1) h.names).symm
  · rw [writeFs_name h1]
    unfold writeR; rw [if_pos h1]
    exact ⟨h, rfl⟩
theorem FilesInv.remove {x : FZ} {r : RS} (h : FilesInv x r) (s : Str) : FilesInv (removeFs x s).1 (removeR r s).1 ∧ (removeFs x s).2 = (removeR r s).2 := by
  have hp : (r.1.filter (isNot s)).Perm ((delE tFV x.2.1.1 s).map toF) := by rw [delE_map h.names]; exact h.perm.filter _
  cases c : hasE tFV x.2.1.1 s with
  | false =>
    have hall : r.1.filter (isNot s) = r.1 := filter_all fun y hy e => by
      obtain ⟨z, hz, rfl⟩ := List.mem_map.1 (h.perm.mem_iff.1 hy)
      have := hasE_iff.2 ⟨z, hz, e⟩
      rw [c] at this; cases this
    rw [removeFs_no c]
    unfold removeR; rw [if_pos (by rw [hall])]
    exact ⟨h, rfl⟩
  | true =>
    obtain ⟨y, hy, e⟩ := hasE_iff.1 c
    have hlt : (r.1.filter (isNot s)).length < r.1.length := List.length_filter_lt_length_iff_exists.2 ⟨toF y, h.perm.mem_iff.2 (List.mem_map_of_mem hy), by rw [isNot_iff]; exact fun h => h e⟩
    rw [removeFs_yes c]
    unfold removeR; rw [if_neg (by omega)]
    refine ⟨⟨h.now, h.lo, h.hi, Nat.le_trans delE_sub.length_le h.len, (delE_sub.map bornF).nodup h.born, fun y hy => h.old y (delE_sub.subset hy), List.Pairwise.filter _ h.rise, hp⟩, rfl⟩
theorem drop_nthF {L : List RF} {i : Nat} (h : i < L.length) : L.drop i = nth tFile L i :: L.drop (i + 1) := drop_nth (t := tFile) h
def InsInv (L : List RF) (s : Str) (e : RF) (i : Nat) (laid : Bool) (out : List RF) : Prop :=
  (laid = false → out ++ insF s e (L.drop i) = insF s e L) ∧ (laid = true → out ++ (L.drop i).filter (isNot s) = insF s e L) ∧ out.length ≤ i + 1 ∧ (laid = false → out.length ≤ i)
theorem InsInv.put {L : List RF} {s : Str} {e : RF} {i : Nat} {out : List RF} (h : InsInv L s e i false out) (hi : i < L.length) (hle : (Op.bytesLess s (nth tFile L i).1 || s == (nth tFile L i).1) = true)
    (hne : ¬ (nth tFile L i).1 = s) : InsInv L s e (i + 1) true (out ++ [e] ++ [nth tFile L i]) := by
  refine ⟨fun h => by (cases h), fun _ => ?_, by have := h.2.2.2 rfl; simp; omega, fun h => by cases h⟩
  rw [← h.1 rfl, drop_nthF hi, insF, if_pos hle, List.filter_cons, if_pos (isNot_iff.2 hne)]
  simp
theorem InsInv.putOnly {L : List RF} {s : Str} {e : RF} {i : Nat} {out : List RF} (h : InsInv L s e i false out) (hi : i < L.length) (hle : (Op.bytesLess s (nth tFile L i).1 || s == (nth tFile L i).1) = true)
    (hne : (nth tFile L i).1 = s) : InsInv L s e (i + 1) true (out ++ [e]) := by
  refine ⟨fun h => by (cases h), fun _ => ?_, by have := h.2.2.2 rfl; simp; omega, fun h => by cases h⟩
  rw [← h.1 rfl, drop_nthF hi, insF, if_pos hle, List.filter_cons, if_neg (fun h => isNot_iff.1 h hne)]
  simp
theorem InsInv.low {L : List RF} {s : Str} {e : RF} {i : Nat} {out : List RF} (h : InsInv L s e i false out) (hi : i < L.length) (hle : (Op.bytesLess s (nth tFile L i).1 || s == (nth tFile L i).1) = false) : InsInv L s e (i + 1) false (out ++ [nth tFile L i]) := by
  refine ⟨fun _ => ?_, fun h => by (cases h), by have := h.2.2.2 rfl; simp; omega, fun _ => by have := h.2.2.2 rfl; simp; omega⟩
  rw [← h.1 rfl, drop_nthF hi, insF, if_neg (by rw [hle]; simp)]
  simp
theorem InsInv.high {L : List RF} {s : Str} {e : RF} {i : Nat} {out : List RF} (h : InsInv L s e i true out) (hi : i < L.length) (hne : ¬ (nth tFile L i).1 = s) : InsInv L s e (i + 1) true (out ++ [nth tFile L i]) := by
  refine ⟨fun h => by (cases h), fun _ => ?_, by have := h.2.2.1; simp; omega, fun h => by cases h⟩
  rw [← h.2.1 rfl, drop_nthF hi, List.filter_cons, if_pos (isNot_iff.2 hne)]
  simp
theorem InsInv.skip {L : List RF} {s : Str} {e : RF} {i : Nat} {out : List RF} (h : InsInv L s e i true out) (hi : i < L.length) (hne : (nth tFile L i).1 = s) : InsInv L s e (i + 1) true out := by
  refine ⟨fun h => by (cases h), fun _ => ?_, by have := h.2.2.1; omega, fun h => by cases h⟩
  rw [← h.2.1 rfl, drop_nthF hi, List.filter_cons, if_neg (fun h => isNot_iff.1 h hne)]
theorem InsInv.all {L : List RF} {s : Str} {e : RF} {i : Nat} {out : List RF} (h : InsInv L s e i true out) (hi : L.length ≤ i) : out = insF s e L := by
  rw [← h.2.1 rfl, List.drop_eq_nil_of_le hi]; simp
end Go.Mrl

namespace Go.Mrl
open Go.Vg
def writeS : Str := [119, 114, 105, 116, 101]
theorem FilesInv.pre {x : FZ} {r : RS} (h : FilesInv x r) : x.2.1.1.length ≤ 6 ∧ 0 ≤ x.1.1 ∧ x.1.1 ≤ 1000000 := ⟨h.len, h.lo, h.hi⟩
end Go.Mrl

namespace Go.Mrl
open Go.Vg
def removeS : Str := [114, 101, 109, 111, 118, 101]
def dstep (x : FZ) (a : D tAct) : FZ := if a.1 = writeS then (writeFs x a.2.1 a.2.2.1).1 else if a.1 = removeS then (removeFs x a.2.1).1 else x
def doneF (x : FZ) (l : List (D tAct)) : FZ := l.foldl dstep x
structure StampInv (x : FZ) : Prop where
  good : ∃ r, FilesInv x r
  stamp : ∀ y ∈ x.2.1.1, y.2.1.2.1 ≤ x.1.1
theorem putE_mem {s : Str} {v : Str × Int × Unit} {c : Int} : ∀ {es : List FE} {y : FE}, y ∈ putE tFV es s v c → y.2.1 = v ∨ y ∈ es
  | [], y, h => by simp [putE] at h; subst h; exact .inl rfl
  | z :: r, y, h => by
    unfold putE at h
    split at h
    · rcases List.mem_cons.1 h with rfl | h
      · exact .inl rfl
      · exact .inr (by simp [h])
    · rcases List.mem_cons.1 h with rfl | h
      · exact .inr (by simp)
      · rcases putE_mem h with h | h
        · exact .inl h
        · exact .inr (by simp [h])
theorem writeFs_cases (x : FZ) (s t : Str) : ((writeFs x s t).1 = x ∧ ¬ (writeFs x s t).2 = 0) ∨
    ((writeFs x s t).1 = ((x.1.1 + 1, ()), (putE tFV x.2.1.1 s (t, x.1.1 + 1, ()) x.2.1.2.1, clkE tFV x.2.1.1 s x.2.1.2.1, ()), ()) ∧ (writeFs x s t).2 = 0) := by
  unfold writeFs
  split
  · rename_i h; exact .inl ⟨rfl, h⟩
  · split
    · exact .inl ⟨rfl, by simp⟩
    · split
      · exact .inl ⟨rfl, by simp⟩
      · exact .inr ⟨rfl, rfl⟩
theorem StampInv.write {x : FZ} (h : StampInv x) (s t : Str) : StampInv (writeFs x s t).1 ∧ x.1.1 ≤ (writeFs x s t).1.1.1 := by
  obtain ⟨r, hr⟩ := h.good
  have hg := (hr.write s t).1
  rcases writeFs_cases x s t with ⟨e, _⟩ | ⟨e, _⟩
  · rw [e]; exact ⟨h, Int.le_refl _⟩
  · rw [e] at hg ⊢
    refine ⟨⟨⟨_, hg⟩, fun y hy => ?_⟩, by simp only; omega⟩
    rcases putE_mem hy with hy | hy
    · rw [hy]; exact Int.le_refl _
    · have := h.stamp y hy; simp only; omega
theorem StampInv.remove {x : FZ} (h : StampInv x) (s : Str) : StampInv (removeFs x s).1 ∧ x.1.1 ≤ (removeFs x s).1.1.1 := by
  obtain ⟨r, hr⟩ := h.good
  have hg := (hr.remove s).1
  cases c : hasE tFV x.2.1.1 s with
  | false => rw [removeFs_no c]; exact ⟨h, Int.le_refl _⟩
  | true =>
    rw [removeFs_yes c] at hg ⊢
    exact ⟨⟨⟨_, hg⟩, fun y hy => h.stamp y (delE_sub.subset hy)⟩, Int.le_refl _⟩
theorem StampInv.dstep {x : FZ} (h : StampInv x) (a : D tAct) : StampInv (dstep x a) ∧ x.1.1 ≤ (Mrl.dstep x a).1.1 := by
  unfold Mrl.dstep
  split
  · exact h.write _ _
  · split
    · exact h.remove _
    · exact ⟨h, Int.le_refl _⟩
theorem StampInv.done : ∀ (l : List (D tAct)) {x : FZ}, StampInv x → StampInv (doneF x l)
  | [], _, h => h
  | a :: l, _, h => StampInv.done l (h.dstep a).1
theorem StampInv.pre {x : FZ} (h : StampInv x) : x.2.1.1.length ≤ 6 ∧ 0 ≤ x.1.1 ∧ x.1.1 ≤ 1000000 := let ⟨_, hr⟩ := h.good; hr.pre
end Go.Mrl

namespace Go.Mrl
open Go.Vg
def _root_.Go.Vg.hd0 : List UInt8 → UInt8
  | c :: _ => c
  | [] => 0
def joinB (c : UInt8) : List Str → Str
  | [] => []
  | [x] => x
  | x :: y :: r => x ++ c :: joinB c (y :: r)
def parts (c : UInt8) : Str → List Str
  | [] => [[]]
  | b :: r => if b = c then [] :: parts c r else match parts c r with
    | h :: t => (b :: h) :: t
    | [] => [[b]]
theorem parts_ne (c : UInt8) : ∀ s : Str, parts c s ≠ []
  | [] => by simp [parts]
  | b :: r => by
    unfold parts
    split
    · simp
    · split <;> simp
theorem parts_cons_ne {c b : UInt8} {r : Str} (h : b ≠ c) : ∃ x t, parts c r = x :: t ∧ parts c (b :: r) = (b :: x) :: t := by
  cases hp : parts c r with
  | nil => exact absurd hp (parts_ne c r)
  | cons x t => exact ⟨x, t, rfl, by conv => lhs; unfold parts
                                     rw [if_neg h, hp]⟩
theorem parts_cons_eq {c : UInt8} {r : Str} : parts c (c :: r) = [] :: parts c r := by
  conv => lhs; unfold parts
  rw [if_pos rfl]
theorem parts_one {c : UInt8} : ∀ {x : Str}, c ∉ x → parts c x = [x]
  | [], _ => rfl
  | b :: r, h => by
    obtain ⟨x, t, h1, h2⟩ := parts_cons_ne (c := c) (b := b) (r := r) (fun e => h (by simp [e]))
    rw [parts_one (x := r) (fun e => h (by simp [e]))] at h1
    cases h1
    exact h2
theorem parts_app {c : UInt8} : ∀ {x : Str} {s : Str}, c ∉ x → parts c (x ++ c :: s) = x :: parts c s
  | [], s, _ => parts_cons_eq
  | b :: r, s, h => by
    obtain ⟨x, t, h1, h2⟩ := parts_cons_ne (c := c) (b := b) (r := r ++ c :: s) (fun e => h (by simp [e]))
    rw [parts_app (x := r) (fun e => h (by simp [e]))] at h1
    cases h1
    exact h2
theorem parts_joinB {c : UInt8} : ∀ {L : List Str}, L ≠ [] → (∀ y ∈ L, c ∉ y) → parts c (joinB c L) = L
  | [], h, _ => absurd rfl h
  | [x], _, h => parts_one (h x (by simp))
  | x :: y :: r, _, h => by
    show parts c (x ++ c :: joinB c (y :: r)) = _
    rw [parts_app (h x (by simp)), parts_joinB (by simp) fun z hz => h z (List.mem_cons_of_mem _ hz)]
theorem parts_len (c : UInt8) : ∀ (s : Str), (parts c s).length ≤ s.length + 1
  | [] => by simp [parts]
  | b :: r => by
    by_cases h : b = c
    · subst h; rw [parts_cons_eq]; have := parts_len b r; simp; omega
    · obtain ⟨x, t, h1, h2⟩ := parts_cons_ne (c := c) (b := b) (r := r) h
      have := parts_len c r
      rw [h1] at this
      rw [h2]; simp at this ⊢; omega
theorem parts_le (c : UInt8) : ∀ (s : Str), ∀ y ∈ parts c s, y.length ≤ s.length
  | [], y, h => by simp [parts] at h; simp [h]
  | b :: r, y, h => by
    by_cases hb : b = c
    · subst hb; rw [parts_cons_eq] at h
      rcases List.mem_cons.1 h with rfl | h
      · simp
      · have := parts_le b r y h; simp; omega
    · obtain ⟨x, t, h1, h2⟩ := parts_cons_ne (c := c) (b := b) (r := r) hb
      rw [h2] at h
      rcases List.mem_cons.1 h with rfl | h
      · have := parts_le c r x (by rw [h1]; simp); simp; omega
      · have := parts_le c r y (by rw [h1]; simp [h]); simp; omega
theorem index_one_ne {b c : UInt8} {l : Str} (h : b ≠ c) : Lib.index (b :: l) [c] = if Lib.index l [c] == -1 then -1 else Lib.index l [c] + 1 := by
  rw [Lib.index]; simp [List.isPrefixOf, Ne.symm h]
theorem index_one_eq {c : UInt8} {l : Str} : Lib.index (c :: l) [c] = 0 := by
  rw [Lib.index]; simp [List.isPrefixOf]
theorem splitK_parts (c : UInt8) : ∀ s : Str, Lib.splitK [c] 0 (s.count c) s = parts c s
  | [] => rfl
  | b :: l => by
    by_cases h : b = c
    · subst h
      rw [parts_cons_eq, List.count_cons_self, Lib.splitK, index_one_eq, if_neg (by decide), ← splitK_parts b l]
      simp
    · obtain ⟨x, t, h1, h2⟩ := parts_cons_ne (c := c) (b := b) (r := l) h
      rw [h2, List.count_cons_of_ne h]
      rw [← splitK_parts c l] at h1
      cases hk : l.count c with
      | zero =>
        rw [hk] at h1
        simp only [Lib.splitK] at h1 ⊢
        cases h1
        rfl
      | succ k =>
        rw [hk] at h1
        have hi : Lib.index l [c] ≠ -1 := by
          intro e
          have := Lib.count_miss (s := l) (sub := [c]) e
          rw [Lib.count_one] at this
          omega
        have hge := Lib.index_ge l [c]
        rw [Lib.splitK, if_neg (by simpa using hi)] at h1
        obtain ⟨i, e⟩ : ∃ i : Nat, Lib.index l [c] = i := ⟨(Lib.index l [c]).toNat, by omega⟩
        have e2 : Lib.index (b :: l) [c] = ((i + 1 : Nat) : Int) := by rw [index_one_ne h, if_neg (by simpa using hi), e]; rfl
        rw [Lib.splitK, e2, if_neg (by simp; omega)]
        rw [e] at h1
        simp only [Int.toNat_natCast, Nat.add_zero, List.length_singleton, List.take_succ_cons, List.drop_succ_cons, List.cons.injEq] at h1 ⊢
        exact ⟨⟨trivial, h1.1⟩, h1.2⟩
def endB (c : UInt8) (L : List Str) : Str := L.flatMap (· ++ [c])
theorem endB_cons (c : UInt8) (x : Str) (L : List Str) : endB c (x :: L) = x ++ c :: endB c L := by simp [endB]
theorem endB_join {c : UInt8} : ∀ {L : List Str}, L ≠ [] → endB c L = joinB c L ++ [c]
  | [], h => absurd rfl h
  | [x], _ => by simp [endB, joinB]
  | x :: y :: r, _ => by
    rw [endB_cons, endB_join (L := y :: r) (by simp)]; simp [joinB]
theorem parts_endB {c : UInt8} : ∀ {L : List Str} {x : Str}, (∀ y ∈ L, c ∉ y) → c ∉ x → parts c (endB c L ++ x) = L ++ [x]
  | [], x, _, h => by simp [endB, parts_one h]
  | y :: r, x, h, hx => by
    rw [endB_cons, List.append_assoc, List.cons_append, parts_app (h y (by simp)), parts_endB (fun z hz => h z (List.mem_cons_of_mem _ hz)) hx]; simp
theorem trimSuffix_end (x : Str) (c : UInt8) : Lib.trimSuffix (x ++ [c]) [c] = x := by
  have h : Lib.hasSuffix (x ++ [c]) [c] = true := by unfold Lib.hasSuffix; simp [List.isSuffixOf_iff_suffix]
  unfold Lib.trimSuffix
  rw [if_pos h]; simp
theorem parts_trim {c : UInt8} {L : List Str} (h : L ≠ []) (hf : ∀ y ∈ L, c ∉ y) : parts c (Lib.trimSuffix (endB c L) [c]) = L := by
  rw [endB_join h, trimSuffix_end, parts_joinB h hf]
end Go.Mrl

namespace Go.Mrl
open Go.Vg
def digitB (c : UInt8) : Bool := decide (48 ≤ c.toNat ∧ c.toNat ≤ 57)
theorem dig_toNat {k : Nat} (h : k < 10) : (UInt8.ofNat (48 + k)).toNat = 48 + k := by
  rw [UInt8.toNat_ofNat']; omega
theorem decDigits_digit : ∀ (u : Nat), ∀ c ∈ Lib.decDigits u, 48 ≤ c.toNat ∧ c.toNat ≤ 57 := by
  intro u
  induction u using Nat.strongRecOn with
  | _ u ih =>
    intro c hc
    by_cases h : u < 10
    · rw [Lib.decDigits, dif_pos h] at hc
      simp only [List.mem_singleton] at hc
      rw [hc, dig_toNat h]; omega
    · rw [Lib.decDigits, dif_neg h] at hc
      rcases List.mem_append.1 hc with hc | hc
      · exact ih _ (by omega) c hc
      · simp only [List.mem_singleton] at hc
        rw [hc, dig_toNat (Nat.mod_lt _ (by decide))]; omega
theorem decDigits_ne (u : Nat) : Lib.decDigits u ≠ [] := by
  rw [Lib.decDigits]; split <;> simp
theorem decDigits_len : ∀ (k u : Nat), u < 10 ^ (k + 1) → (Lib.decDigits u).length ≤ k + 1
  | 0, u, h => by rw [Lib.decDigits, dif_pos (by simpa using h)]; simp
  | k + 1, u, h => by
    rw [Lib.decDigits]
    split
    · simp
    · have := decDigits_len k (u / 10) (by rw [Nat.pow_succ] at h; omega)
      simp; exact this
def valD (l : Str) : Nat := l.foldl (fun n c => 10 * n + (c.toNat - 48)) 0
theorem uint_snoc : ∀ (l : Str) (c : UInt8) (a v : Nat), Lib.parseUint10 a l = .ok v → Lib.parseUint10 a (l ++ [c]) = Lib.parseUint10 v [c]
  | [], c, a, v, h => by simp [Lib.parseUint10] at h; rw [h]; rfl
  | b :: l, c, a, v, h => by
    rw [List.cons_append, Lib.parseUint10]
    rw [Lib.parseUint10] at h
    split at h
    · rename_i hb
      rw [if_pos hb]
      split at h
      · cases h
      · rename_i h1
        rw [if_neg h1]
        split at h
        · cases h
        · rename_i h2
          rw [if_neg h2]
          exact uint_snoc l c _ v h
    · cases h
theorem uint_one {v d : Nat} (hd : d < 10) (h : 10 * v + d < 18446744073709551616) : Lib.parseUint10 v [UInt8.ofNat (48 + d)] = .ok (10 * v + d) := by
  unfold Lib.parseUint10
  rw [dig_toNat hd, if_pos (by omega), if_neg (by omega), if_neg (by omega)]
  unfold Lib.parseUint10
  congr 1; omega
theorem uint_dec : ∀ u : Nat, u < 18446744073709551616 → Lib.parseUint10 0 (Lib.decDigits u) = .ok u := by
  intro u
  induction u using Nat.strongRecOn with
  | _ u ih =>
    intro hu
    by_cases h : u < 10
    · rw [Lib.decDigits, dif_pos h]
      have := uint_one (v := 0) (d := u) h (by omega)
      simpa using this
    · rw [Lib.decDigits, dif_neg h, uint_snoc _ _ _ _ (ih _ (by omega) (by omega)), uint_one (Nat.mod_lt _ (by decide)) (by omega)]
      congr 1; omega
theorem mag_dec {u : Nat} (hu : u < 18446744073709551616) : Lib.parseMag (Lib.decDigits u) = .ok u := by
  unfold Lib.parseMag
  rw [if_neg (decDigits_ne u), uint_dec u hu]
theorem atoi_itoa {n : Int} (h0 : -9223372036854775808 ≤ n) (h1 : n ≤ 9223372036854775807) : Lib.atoiAll (Lib.itoa n) = .ok n := by
  by_cases hn : n < 0
  · have hm := mag_dec (u := n.natAbs) (by omega)
    simp only [Lib.itoa, if_pos hn, Lib.atoiAll]
    rw [if_pos (Or.inr (by decide)), hm]
    simp only
    rw [if_neg (by simp), if_neg (by simp; omega)]
    simp; omega
  · have hm := mag_dec (u := n.toNat) (by omega)
    simp only [Lib.itoa, if_neg hn, Lib.atoiAll]
    cases hd : Lib.decDigits n.toNat with
    | nil => exact absurd hd (decDigits_ne _)
    | cons c r =>
      have hc := decDigits_digit n.toNat c (by rw [hd]; simp)
      rw [hd] at hm
      simp only
      rw [if_neg (by omega), hm]
      simp only
      rw [if_neg (by omega), if_neg (by omega), if_neg (by omega)]
      congr 1; omega
def atoiF (s : List UInt8) : Int × Err := match Lib.atoiAll s with
  | .ok n => (n, .nil)
  | .syntax => (0, .other)
  | .range => (Lib.atoiSat s, .other)
def numA (s : Str) : Option Int := match Lib.atoiAll s with
  | .ok n => if Lib.itoa n = s then some n else none
  | _ => none
theorem numA_itoa {n : Int} (h0 : -9223372036854775808 ≤ n) (h1 : n ≤ 9223372036854775807) : numA (Lib.itoa n) = some n := by
  unfold numA; rw [atoi_itoa h0 h1]; simp
theorem numA_none {s : Str} : (numA s).isNone = (!(atoiF s).2.isNil || !decide (Lib.itoa (atoiF s).1 = s)) := by
  unfold numA atoiF
  cases Lib.atoiAll s with
  | ok v => simp only [Err.isNil]; by_cases h : Lib.itoa v = s <;> simp [h]
  | range => rfl
  | _ => rfl
def magB (s : Str) : Str := match s with
  | 45 :: r => r
  | _ => s
def numB (s : Str) : Option Int :=
  if (magB s).length < 1 ∨ (magB s).length > 18 ∨ ((magB s).head? = some 48 ∧ s.length > 1) then none
  else if (magB s).all digitB = true then some (if (magB s).length < s.length then -(valD (magB s) : Int) else (valD (magB s) : Int)) else none
theorem itoa_free {n : Int} {c : UInt8} (h : c.toNat ≤ 44) : c ∉ Lib.itoa n := by
  intro hc
  have h45 : (45 : UInt8).toNat = 45 := rfl
  unfold Lib.itoa at hc
  split at hc
  · rcases List.mem_cons.1 hc with rfl | hc
    · omega
    · have := decDigits_digit _ c hc; omega
  · have := decDigits_digit _ c hc; omega
theorem itoa_one {n : Int} (h : 0 ≤ n) (h' : n < 10) : Lib.itoa n = [UInt8.ofNat (48 + n).toNat] := by
  unfold Lib.itoa; rw [if_neg (by omega), Lib.decDigits, dif_pos (by omega)]; congr 2; omega
end Go.Mrl

namespace Go.Mrl
open Go.Vg
theorem isNil_pos {f : Int} (h0 : 0 ≤ f) (h : (errNo f).isNil = false) : f > 0 := by
  have : ¬ f = 0 := fun e => by rw [errNo_nil.2 e] at h; cases h
  omega
theorem isNil_le {f : Int} (h : (errNo f).isNil = true) : f ≤ 0 := by
  have := errNo_nil.1 h; omega
theorem nth_drop0 {t : Ty} {l : List (D t)} {i j : Nat} (h : j < i) : nth t (List.drop 0 (List.take i l)) j = nth t l j := by
  rw [List.drop_zero, nth_take h]
theorem len_drop0 {α : Type} {l : List α} {i : Nat} (h : i ≤ l.length) : (List.drop 0 (List.take i l)).length = i := by
  rw [List.drop_zero, List.length_take]; omega
def weakT (b : Bool) : List UInt8 := if b = true then [119, 101, 97, 107, 32] else []
def needT (s : Str) : Str := [110, 101, 101, 100, 32] ++ s ++ [10]
def wordT (n : Int) : Str := [119, 111, 114, 100, 32] ++ Lib.itoa n ++ [10]
def symT (y : D tSymbol) : Str := weakT y.2.2.1 ++ [115, 121, 109, 98, 111, 108, 32] ++ y.1 ++ [32] ++ Lib.itoa y.2.1 ++ [10]
def tieT (t : D tTie) : Str :=
  if t.2.1 = 1 then [98, 97, 115, 101, 32] ++ Lib.itoa t.1 ++ [32] ++ Lib.itoa t.2.2.1 ++ [10]
  else if t.2.1 = 2 then weakT t.2.2.2.2.1 ++ [119, 104, 111, 108, 101, 32] ++ Lib.itoa t.1 ++ [32] ++ Lib.itoa t.2.2.1 ++ [32] ++ t.2.2.2.1 ++ [10]
  else weakT t.2.2.2.2.1 ++ [110, 101, 97, 114, 32] ++ Lib.itoa t.1 ++ [32] ++ Lib.itoa t.2.2.1 ++ [32] ++ t.2.2.2.1 ++ [10]
def pre0 (o : D tObject) (i : Nat) : Str := (o.1.take i).flatMap needT
def pre1 (o : D tObject) (i : Nat) : Str := pre0 o o.1.length ++ (o.2.1.take i).flatMap wordT
def pre2 (o : D tObject) (i : Nat) : Str := pre1 o o.2.1.length ++ (o.2.2.1.take i).flatMap symT
def pre3 (o : D tObject) (i : Nat) : Str := pre2 o o.2.2.1.length ++ (o.2.2.2.1.take i).flatMap tieT
def textO (o : D tObject) : Str := pre3 o o.2.2.2.1.length
def textR (o : D tObject) : Str × Err := if faultO o ≠ 0 then ([], errNo (faultO o)) else if (textO o).length > 1200 then ([], .no 2) else (textO o, .nil)
theorem pre0_next {o : D tObject} {i : Nat} (h : i < o.1.length) : pre0 o (i + 1) = pre0 o i ++ needT (nth .str o.1 i) := by
  unfold pre0; rw [take_nth (t := .str) h]; simp
theorem pre1_next {o : D tObject} {i : Nat} (h : i < o.2.1.length) : pre1 o (i + 1) = pre1 o i ++ wordT (nth (.int .i64) o.2.1 i) := by
  unfold pre1; rw [take_nth (t := .int .i64) h]; simp
theorem pre2_next {o : D tObject} {i : Nat} (h : i < o.2.2.1.length) : pre2 o (i + 1) = pre2 o i ++ symT (nth tSymbol o.2.2.1 i) := by
  unfold pre2; rw [take_nth (t := tSymbol) h]; simp
theorem pre3_next {o : D tObject} {i : Nat} (h : i < o.2.2.2.1.length) : pre3 o (i + 1) = pre3 o i ++ tieT (nth tTie o.2.2.2.1 i) := by
  unfold pre3; rw [take_nth (t := tTie) h]; simp
theorem pre1_zero (o : D tObject) : pre1 o 0 = pre0 o o.1.length := by unfold pre1; simp
theorem pre2_zero (o : D tObject) : pre2 o 0 = pre1 o o.2.1.length := by unfold pre2; simp
theorem pre3_zero (o : D tObject) : pre3 o 0 = pre2 o o.2.2.1.length := by unfold pre3; simp
def Nm (s : Str) : Prop := s ≠ [] ∧ s.length ≤ 8 ∧ ∀ c ∈ s, c ≠ 10 ∧ c ≠ 32
def InR (a b x : Int) : Prop := a ≤ x ∧ x ≤ b
structure TieOk (t : D tTie) : Prop where
  a : InR 0 39 t.1
  w : InR (-2147483648) 2147483647 t.2.2.1
  k : t.2.1 = 1 ∨ t.2.1 = 2 ∨ t.2.1 = 3
  base : t.2.1 = 1 → t.2.2.2.1 = [] ∧ t.2.2.2.2.1 = false
  nm : t.2.1 ≠ 1 → Nm t.2.2.2.1
structure OkO (o : D tObject) : Prop where
  n4 : o.1.length ≤ 4
  w1 : 1 ≤ o.2.1.length
  w40 : o.2.1.length ≤ 40
  s8 : o.2.2.1.length ≤ 8
  t6 : o.2.2.2.1.length ≤ 6
  needs : ∀ s ∈ o.1, Nm s
  words : ∀ n ∈ o.2.1, InR (-2147483648) 2147483647 n
  syms : ∀ y ∈ o.2.2.1, Nm y.1 ∧ InR 0 39 y.2.1
  ties : ∀ t ∈ o.2.2.2.1, TieOk t
end Go.Mrl

namespace Go.Mrl
open Go.Vg
theorem needsG_zero : ∀ (l p : List Str), needsG p l = 0 → ∀ s ∈ l, nameFault s = 0
  | [], _, _, s, h => absurd h (by simp)
  | x :: r, p, h, s, hs => by
    have hx := nameFault_nonneg x
    unfold needsG at h
    split at h
    · omega
    · split at h
      · cases h
      · rcases List.mem_cons.1 hs with rfl | hs
        · omega
        · exact needsG_zero r _ h s hs
theorem wordsG_zero : ∀ (l : List Int), wordsG l = 0 → ∀ n ∈ l, wordB n = true
  | [], _, s, h => absurd h (by simp)
  | x :: r, h, s, hs => by
    unfold wordsG at h
    split at h
    · rename_i hx
      rcases List.mem_cons.1 hs with rfl | hs
      · exact hx
      · exact wordsG_zero r h s hs
    · cases h
theorem symsG_zero (n : Nat) : ∀ (l p : List (D tSymbol)), symsG n p l = 0 → ∀ y ∈ l, nameFault y.1 = 0 ∧ InR 0 (n - 1) y.2.1
  | [], _, _, s, h => absurd h (by simp)
  | x :: r, p, h, s, hs => by
    have hx := nameFault_nonneg x.1
    unfold symsG at h
    split at h
    · omega
    · split at h
      · cases h
      · rename_i h2
        split at h
        · cases h
        · rcases List.mem_cons.1 hs with rfl | hs
          · exact ⟨by omega, Int.not_lt.1 fun e => h2 (.inl e), Int.le_sub_one_of_lt (Int.not_le.1 fun e => h2 (.inr e))⟩
          · exact symsG_zero n r _ h s hs
theorem tieG_zero {n : Nat} {p : Option Int} {t : D tTie} (h : tieG n p t = 0) :
    InR 0 (n - 1) t.1 ∧ wordB t.2.2.1 = true ∧ InR 1 3 t.2.1 ∧ (t.2.1 = 1 → t.2.2.2.1 = [] ∧ t.2.2.2.2.1 = false) ∧ (t.2.1 ≠ 1 → nameFault t.2.2.2.1 = 0) := by
  unfold tieG at h
  split at h
  · cases h
  · rename_i h1
    split at h
    · cases h
    · rename_i h2
      refine ⟨⟨Int.not_lt.1 fun e => h1 (.inl e), Int.le_sub_one_of_lt (Int.not_le.1 fun e => h1 (.inr (.inl e)))⟩, ?_, ⟨Int.not_lt.1 fun e => h2 (.inl e), Int.not_lt.1 fun e => h2 (.inr (.inl e))⟩, ?_, ?_⟩
      · cases hw : wordB t.2.2.1 with
        | true => rfl
        | false => exact absurd (.inr (.inr hw)) h1
      · intro e
        rw [if_pos e] at h
        split at h
        · cases h
        · rename_i h3
          refine ⟨Classical.byContradiction fun e => h3 (.inl e), ?_⟩
          cases hb : t.2.2.2.2.1 with
          | false => rfl
          | true => exact absurd (.inr hb) h3
      · intro e
        rw [if_neg e] at h
        exact h
theorem tiesG_zero (n : Nat) : ∀ (l : List (D tTie)) (p : Option Int), tiesG n p l = 0 → ∀ t ∈ l, ∃ p, tieG n p t = 0
  | [], _, _, s, h => absurd h (by simp)
  | x :: r, p, h, s, hs => by
    unfold tiesG at h
    split at h
    · rename_i h0; exact absurd h h0
    · rename_i h0
      rcases List.mem_cons.1 hs with rfl | hs
      · exact ⟨p, Classical.byContradiction h0⟩
      · exact tiesG_zero n r _ h s hs
theorem nm_of {s : Str} (h : nameFault s = 0) : Nm s := by
  unfold nameFault at h
  split at h
  · cases h
  · rename_i hl
    split at h
    · cases h
    · rename_i hb
      refine ⟨by rintro rfl; simp at hl, by omega, fun c hc => ?_⟩
      obtain ⟨i, hi, rfl⟩ := List.getElem_of_mem hc
      have hn : badAt i (nthB s i) = false := by
        unfold anyBad at hb
        rw [Bool.not_eq_true, List.any_eq_false] at hb
        have := hb i (by simpa using hi)
        simpa using this
      have he : nthB s i = s[i] := by unfold nthB; simp [hi]
      rw [he] at hn
      constructor
      · intro e; rw [e] at hn; unfold badAt small other at hn; simp at hn
      · intro e; rw [e] at hn; unfold badAt small other at hn; simp at hn
theorem three {x : Int} (h : 1 ≤ x) (h' : x ≤ 3) : x = 1 ∨ x = 2 ∨ x = 3 := by omega
theorem okO_of {o : D tObject} (h : faultO o = 0) : OkO o := by
  unfold faultO at h
  split at h
  · cases h
  · rename_i hm
    split at h
    · rename_i h1; exact absurd h h1
    · rename_i h1
      split at h
      · rename_i h2; exact absurd h h2
      · rename_i h2
        split at h
        · rename_i h3; exact absurd h h3
        · rename_i h3
          have h1 := Classical.byContradiction h1
          have h2 := Classical.byContradiction h2
          have h3 := Classical.byContradiction h3
          unfold manyO at hm
          have hw : o.2.1.length ≤ 40 := Nat.not_lt.1 fun e => hm (.inr (.inr (.inl e)))
          refine ⟨Nat.not_lt.1 fun e => hm (.inl e), Nat.not_lt.1 fun e => hm (.inr (.inl e)), hw, Nat.not_lt.1 fun e => hm (.inr (.inr (.inr (.inl e)))), Nat.not_lt.1 fun e => hm (.inr (.inr (.inr (.inr e)))),
            fun s hs => nm_of (needsG_zero _ _ h1 s hs), fun n hn => ?_, fun y hy => ?_, fun t ht => ?_⟩
          · have := wordsG_zero _ h2 n hn
            unfold wordB at this
            simp only [Bool.and_eq_true, decide_eq_true_eq] at this
            exact this
          · obtain ⟨a, b, c⟩ := symsG_zero _ _ _ h3 y hy
            exact ⟨nm_of a, b, Int.le_trans c (by omega)⟩
          · obtain ⟨p, hp⟩ := tiesG_zero _ _ _ h t ht
            obtain ⟨⟨a, b⟩, c, ⟨d, e⟩, f, g⟩ := tieG_zero hp
            unfold wordB at c
            simp only [Bool.and_eq_true, decide_eq_true_eq] at c
            exact ⟨⟨a, Int.le_trans b (by omega)⟩, c, three d e, f, fun e => nm_of (g e)⟩
theorem itoa_len21 {a b n : Int} (h : InR a b n) (ha : -999999999999999999 ≤ a) (hb : b ≤ 999999999999999999) : (Lib.itoa n).length ≤ 19 := by
  obtain ⟨h0, h1⟩ := h
  unfold Lib.itoa
  split
  · rw [List.length_cons]
    have := decDigits_len 17 n.natAbs (by omega)
    omega
  · have := decDigits_len 17 n.toNat (by omega)
    omega
theorem weakT_len (b : Bool) : (weakT b).length ≤ 5 := by cases b <;> decide
theorem needT_len {s : Str} (h : Nm s) : (needT s).length ≤ 64 := by have := h.2.1; simp [needT]; omega
theorem wordT_len {n : Int} (h : InR (-2147483648) 2147483647 n) : (wordT n).length ≤ 64 := by have := itoa_len21 h (by decide) (by decide); simp [wordT]; omega
theorem symT_len {y : D tSymbol} (h : Nm y.1 ∧ InR 0 39 y.2.1) : (symT y).length ≤ 64 := by
  have h1 := itoa_len21 h.2 (by decide) (by decide)
  have h2 := weakT_len y.2.2.1
  have h3 := h.1.2.1
  simp [symT]; omega
theorem tieT_len {t : D tTie} (h : TieOk t) : (tieT t).length ≤ 64 := by
  have h1 := itoa_len21 h.a (by decide) (by decide)
  have h4 := itoa_len21 h.w (by decide) (by decide)
  have h2 := weakT_len t.2.2.2.2.1
  unfold tieT
  split
  · simp; omega
  · rename_i hk
    have h3 := (h.nm hk).2.1
    split
    · simp; omega
    · simp; omega
theorem flat_len {α : Type} {f : α → Str} : ∀ {l : List α}, (∀ x ∈ l, (f x).length ≤ 64) → (l.flatMap f).length ≤ 64 * l.length
  | [], _ => by simp
  | x :: r, h => by
    have h1 := h x (by simp)
    have h2 := flat_len (f := f) (l := r) fun y hy => h y (List.mem_cons_of_mem _ hy)
    rw [List.flatMap_cons, List.length_append, List.length_cons]; omega
theorem OkO.len0 {o : D tObject} (h : OkO o) (i : Nat) : (pre0 o i).length ≤ 1000 := by
  have := flat_len (f := needT) (l := o.1.take i) fun s hs => needT_len (h.needs s (List.mem_of_mem_take hs))
  have h2 := h.n4
  unfold pre0; simp only [List.length_take] at this; omega
theorem OkO.len1 {o : D tObject} (h : OkO o) (i : Nat) : (pre1 o i).length ≤ 4000 := by
  have h0 := h.len0 o.1.length
  have := flat_len (f := wordT) (l := o.2.1.take i) fun s hs => wordT_len (h.words s (List.mem_of_mem_take hs))
  have h2 := h.w40
  unfold pre1; rw [List.length_append]; simp only [List.length_take] at this; omega
theorem OkO.len2 {o : D tObject} (h : OkO o) (i : Nat) : (pre2 o i).length ≤ 5000 := by
  have h0 := h.len1 o.2.1.length
  have := flat_len (f := symT) (l := o.2.2.1.take i) fun s hs => symT_len (h.syms s (List.mem_of_mem_take hs))
  have h2 := h.s8
  unfold pre2; rw [List.length_append]; simp only [List.length_take] at this; omega
theorem OkO.len3 {o : D tObject} (h : OkO o) (i : Nat) : (pre3 o i).length ≤ 6000 := by
  have h0 := h.len2 o.2.2.1.length
  have := flat_len (f := tieT) (l := o.2.2.2.1.take i) fun s hs => tieT_len (h.ties s (List.mem_of_mem_take hs))
  have h2 := h.t6
  unfold pre3; rw [List.length_append]; simp only [List.length_take] at this; omega
theorem OkO.need {o : D tObject} (h : OkO o) {i : Nat} (hi : i < o.1.length) : Nm (nth .str o.1 i) := h.needs _ (nth_mem (t := .str) hi)
theorem OkO.word {o : D tObject} (h : OkO o) {i : Nat} (hi : i < o.2.1.length) : InR (-2147483648) 2147483647 (nth (.int .i64) o.2.1 i) := h.words _ (nth_mem (t := .int .i64) hi)
theorem OkO.sym {o : D tObject} (h : OkO o) {i : Nat} (hi : i < o.2.2.1.length) : Nm (nth tSymbol o.2.2.1 i).1 ∧ InR 0 39 (nth tSymbol o.2.2.1 i).2.1 := h.syms _ (nth_mem (t := tSymbol) hi)
theorem OkO.tie {o : D tObject} (h : OkO o) {i : Nat} (hi : i < o.2.2.2.1.length) : TieOk (nth tTie o.2.2.2.1 i) := h.ties _ (nth_mem (t := tTie) hi)
theorem bytesIn_app (a b : Str) : bytesIn a ++ bytesIn b = bytesIn (a ++ b) := by simp [bytesIn]
theorem need_lens {o : D tObject} (h : OkO o) {i : Nat} (hi : i < o.1.length) : (nth .str o.1 i).length ≤ 8 ∧ (pre0 o i).length ≤ 1000 := ⟨(h.need hi).2.1, h.len0 i⟩
theorem word_lens {o : D tObject} (h : OkO o) {i : Nat} (hi : i < o.2.1.length) : (Lib.itoa (nth (.int .i64) o.2.1 i)).length ≤ 19 ∧ (pre1 o i).length ≤ 4000 :=
  ⟨itoa_len21 (h.word hi) (by decide) (by decide), h.len1 i⟩
theorem sym_lens {o : D tObject} (h : OkO o) {i : Nat} (hi : i < o.2.2.1.length) :
    (nth tSymbol o.2.2.1 i).1.length ≤ 8 ∧ (Lib.itoa (nth tSymbol o.2.2.1 i).2.1).length ≤ 19 ∧ (weakT (nth tSymbol o.2.2.1 i).2.2.1).length ≤ 5 ∧ (pre2 o i).length ≤ 5000 :=
  ⟨(h.sym hi).1.2.1, itoa_len21 (h.sym hi).2 (by decide) (by decide), weakT_len _, h.len2 i⟩
theorem tie_lens {o : D tObject} (h : OkO o) {i : Nat} (hi : i < o.2.2.2.1.length) :
    (nth tTie o.2.2.2.1 i).2.2.2.1.length ≤ 8 ∧ (Lib.itoa (nth tTie o.2.2.2.1 i).1).length ≤ 19 ∧ (Lib.itoa (nth tTie o.2.2.2.1 i).2.2.1).length ≤ 19 ∧ (weakT (nth tTie o.2.2.2.1 i).2.2.2.2.1).length ≤ 5 ∧ (pre3 o i).length ≤ 6000 := by
  have ht := h.tie hi
  refine ⟨?_, itoa_len21 ht.a (by decide) (by decide), itoa_len21 ht.w (by decide) (by decide), weakT_len _, h.len3 i⟩
  by_cases hk : (nth tTie o.2.2.2.1 i).2.1 = 1
  · rw [(ht.base hk).1]; decide
  · exact (ht.nm hk).2.1
theorem bld_step {p p' q : Str} {a b : Int} (h : p' = p ++ q) : (((bytesIn p ++ bytesIn q, a, b, ()) : D bldT)) = ((bytesIn p', a, b, ()) : D bldT) := by rw [h, bytesIn_app]
theorem bld_same {p p' : Str} {a b : Int} (h : p = p') : ((bytesIn p, a, b, ()) : D bldT) = ((bytesIn p', a, b, ()) : D bldT) := by rw [h]
theorem pre3_step1 {o : D tObject} {i : Nat} (h : i < o.2.2.2.1.length) (hk : (nth tTie o.2.2.2.1 i).2.1 = 1) :
    pre3 o (i + 1) = pre3 o i ++ ([98, 97, 115, 101, 32] ++ Lib.itoa (nth tTie o.2.2.2.1 i).1 ++ [32] ++ Lib.itoa (nth tTie o.2.2.2.1 i).2.2.1 ++ [10]) := by
  rw [pre3_next h]; unfold tieT; rw [if_pos hk]
theorem pre3_step2 {o : D tObject} {i : Nat} (h : i < o.2.2.2.1.length) (hk : ¬ (nth tTie o.2.2.2.1 i).2.1 = 1) (hk2 : (nth tTie o.2.2.2.1 i).2.1 = 2) :
    pre3 o (i + 1) = pre3 o i ++ (weakT (nth tTie o.2.2.2.1 i).2.2.2.2.1 ++ [119, 104, 111, 108, 101, 32] ++ Lib.itoa (nth tTie o.2.2.2.1 i).1 ++ [32] ++ Lib.itoa (nth tTie o.2.2.2.1 i).2.2.1 ++ [32] ++ (nth tTie o.2.2.2.1 i).2.2.2.1 ++ [10]) := by
  rw [pre3_next h]; unfold tieT; rw [if_neg hk, if_pos hk2]
theorem pre3_step3 {o : D tObject} {i : Nat} (h : i < o.2.2.2.1.length) (hk : ¬ (nth tTie o.2.2.2.1 i).2.1 = 1) (hk2 : ¬ (nth tTie o.2.2.2.1 i).2.1 = 2) :
    pre3 o (i + 1) = pre3 o i ++ (weakT (nth tTie o.2.2.2.1 i).2.2.2.2.1 ++ [110, 101, 97, 114, 32] ++ Lib.itoa (nth tTie o.2.2.2.1 i).1 ++ [32] ++ Lib.itoa (nth tTie o.2.2.2.1 i).2.2.1 ++ [32] ++ (nth tTie o.2.2.2.1 i).2.2.2.1 ++ [10]) := by
  rw [pre3_next h]; unfold tieT; rw [if_neg hk, if_neg hk2]
theorem textR_bad {o : D tObject} (h : faultO o ≠ 0) : textR o = ([], errNo (faultO o)) := by unfold textR; rw [if_pos h]
theorem textR_many {o : D tObject} (h : faultO o = 0) {i : Nat} (hi : i = o.2.2.2.1.length) (hl : (pre3 o i).length > 1200) : textR o = ([], .no 2) := by
  unfold textR; rw [if_neg (by rw [h]; decide), if_pos (by unfold textO; rw [← hi]; exact hl)]
theorem textR_ok {o : D tObject} (h : faultO o = 0) {i : Nat} (hi : i = o.2.2.2.1.length) (hl : (pre3 o i).length ≤ 1200) : textR o = (pre3 o i, .nil) := by
  unfold textR; rw [if_neg (by rw [h]; decide), if_neg (by unfold textO; rw [← hi]; omega)]; unfold textO; rw [← hi]
theorem OkO.kind {o : D tObject} (h : OkO o) {i : Nat} (hi : i < o.2.2.2.1.length) : InR 1 3 (nth tTie o.2.2.2.1 i).2.1 := by
  rcases (h.tie hi).k with e | e | e <;> rw [e] <;> exact ⟨by decide, by decide⟩
end Go.Mrl

namespace Go.Mrl
open Go.Vg
@[reducible] def wWeak : Str := [119, 101, 97, 107]
@[reducible] def wWeakB : Str := [119, 101, 97, 107, 32]
@[reducible] def wNeed : Str := [110, 101, 101, 100]
@[reducible] def wWord : Str := [119, 111, 114, 100]
@[reducible] def wSymbol : Str := [115, 121, 109, 98, 111, 108]
@[reducible] def wBase : Str := [98, 97, 115, 101]
@[reducible] def wWhole : Str := [119, 104, 111, 108, 101]
@[reducible] def wNear : Str := [110, 101, 97, 114]
def addNeed (o : D tObject) (s : Str) : D tObject := (o.1 ++ [s], o.2)
def addWord (o : D tObject) (n : Int) : D tObject := (o.1, o.2.1 ++ [n], o.2.2)
def addSym (o : D tObject) (y : D tSymbol) : D tObject := (o.1, o.2.1, o.2.2.1 ++ [y], o.2.2.2)
def addTie (o : D tObject) (t : D tTie) : D tObject := (o.1, o.2.1, o.2.2.1, o.2.2.2.1 ++ [t], ())
def num2 (x y : Str) (k : Int → Int → D tObject) : Option (D tObject) :=
  match numA x, numA y with
  | some m, some n => some (k m n)
  | _, _ => none
def wordsA (o : D tObject) (b : Bool) : List Str → Option (D tObject)
  | [a, x] => if a = wNeed then some (addNeed o x) else if a = wWord then (numA x).map (addWord o) else none
  | [a, x, y] => if a = wSymbol then (numA y).map fun n => addSym o (x, n, b, ()) else if a = wBase then num2 x y fun m n => addTie o (m, 1, n, [], false, ()) else none
  | [a, x, y, z] => if a = wWhole ∨ a = wNear then num2 x y fun m n => addTie o (m, if a = wNear then 3 else 2, n, z, b, ()) else none
  | _ => none
def lineA (o : D tObject) (s : Str) : Option (D tObject) := wordsA o (Lib.hasPrefix s wWeakB) (parts 32 (Lib.trimPrefix s wWeakB))
def numD (x : Str) : Int := (numB x).getD (-1099511627776)
def wordsB (o : D tObject) (b : Bool) : List Str → Option (D tObject)
  | [a, x] => if a = wNeed then some (addNeed o x) else if a = wWord then some (addWord o (numD x)) else none
  | [a, x, y] => if a = wSymbol then some (addSym o (x, numD y, b, ())) else if a = wBase then some (addTie o (numD x, 1, numD y, [], b, ())) else none
  | [a, x, y, z] => if a = wWhole then some (addTie o (numD x, 2, numD y, z, b, ())) else if a = wNear then some (addTie o (numD x, 3, numD y, z, b, ())) else none
  | _ => none
def weakB (l : List Str) : Bool := decide (l.headD [] = wWeak)
def restB (l : List Str) : List Str := if weakB l = true then l.drop 1 else l
def lineB (o : D tObject) (s : Str) : Option (D tObject) := wordsB o (weakB (parts 32 s)) (restB (parts 32 s))
def run (f : D tObject → Str → Option (D tObject)) : D tObject → List Str → Option (D tObject)
  | o, [] => some o
  | o, s :: r => match f o s with
    | some p => run f p r
    | none => none
theorem run_snoc {f : D tObject → Str → Option (D tObject)} : ∀ {l : List Str} {o : D tObject} {s : Str}, run f o (l ++ [s]) = (run f o l).bind fun p => f p s
  | [], o, s => by simp only [List.nil_append, run, Option.bind_some]; cases f o s <;> rfl
  | x :: r, o, s => by
    simp only [List.cons_append, run]
    cases f o x with
    | none => rfl
    | some p => exact run_snoc
theorem run_app {f : D tObject → Str → Option (D tObject)} : ∀ {l m : List Str} {o p : D tObject}, run f o l = some p → run f o (l ++ m) = run f p m
  | [], m, o, p, h => by simp only [run, Option.some.injEq] at h; rw [h]; rfl
  | x :: r, m, o, p, h => by
    simp only [run] at h
    simp only [List.cons_append, run]
    cases hx : f o x with
    | none => rw [hx] at h; cases h
    | some q => rw [hx] at h; exact run_app h
def needL (s : Str) : Str := [110, 101, 101, 100, 32] ++ s
def wordL (n : Int) : Str := [119, 111, 114, 100, 32] ++ Lib.itoa n
def symL (y : D tSymbol) : Str := weakT y.2.2.1 ++ ([115, 121, 109, 98, 111, 108, 32] ++ (y.1 ++ 32 :: Lib.itoa y.2.1))
def tieL (t : D tTie) : Str :=
  if t.2.1 = 1 then [98, 97, 115, 101, 32] ++ (Lib.itoa t.1 ++ 32 :: Lib.itoa t.2.2.1)
  else if t.2.1 = 2 then weakT t.2.2.2.2.1 ++ ([119, 104, 111, 108, 101, 32] ++ (Lib.itoa t.1 ++ 32 :: (Lib.itoa t.2.2.1 ++ 32 :: t.2.2.2.1)))
  else weakT t.2.2.2.2.1 ++ ([110, 101, 97, 114, 32] ++ (Lib.itoa t.1 ++ 32 :: (Lib.itoa t.2.2.1 ++ 32 :: t.2.2.2.1)))
def linesO (o : D tObject) : List Str := o.1.map needL ++ (o.2.1.map wordL ++ (o.2.2.1.map symL ++ o.2.2.2.1.map tieL))
theorem flat_end {α : Type} {f g : α → Str} (h : ∀ x, f x = g x ++ [10]) : ∀ l : List α, l.flatMap f = endB 10 (l.map g)
  | [] => rfl
  | x :: r => by rw [List.flatMap_cons, flat_end h r, List.map_cons, endB_cons, h]; simp
theorem endB_app (c : UInt8) (l m : List Str) : endB c (l ++ m) = endB c l ++ endB c m := by simp [endB]
theorem textO_lines (o : D tObject) : textO o = endB 10 (linesO o) := by
  unfold textO pre3 pre2 pre1 pre0 linesO
  rw [List.take_length, List.take_length, List.take_length, List.take_length, endB_app, endB_app, endB_app,
    flat_end (g := needL) (fun s => by simp [needT, needL]) o.1, flat_end (g := wordL) (fun s => by simp [wordT, wordL]) o.2.1,
    flat_end (g := symL) (fun s => by simp [symT, symL]) o.2.2.1,
    flat_end (g := tieL) (fun s => by unfold tieT tieL; split <;> (try split) <;> simp) o.2.2.2.1]
  simp
structure Reads (f : D tObject → Str → Option (D tObject)) : Prop where
  need : ∀ (o : D tObject) (s : Str), Nm s → f o (needL s) = some (addNeed o s)
  word : ∀ (o : D tObject) (n : Int), InR (-2147483648) 2147483647 n → f o (wordL n) = some (addWord o n)
  sym : ∀ (o : D tObject) (y : D tSymbol), Nm y.1 → InR 0 39 y.2.1 → f o (symL y) = some (addSym o y)
  tie : ∀ (o : D tObject) (t : D tTie), TieOk t → f o (tieL t) = some (addTie o t)
section
variable {f : D tObject → Str → Option (D tObject)} (h : Reads f)
include h
theorem run_needs : ∀ (l : List Str) (o : D tObject), (∀ s ∈ l, Nm s) → run f o (l.map needL) = some (o.1 ++ l, o.2)
  | [], o, _ => by simp [run]
  | s :: r, o, hl => by
    rw [List.map_cons, run, h.need o s (hl s (by simp))]
    show run f (addNeed o s) (r.map needL) = _
    rw [run_needs r _ fun x hx => hl x (List.mem_cons_of_mem _ hx)]
    simp [addNeed]
theorem run_words : ∀ (l : List Int) (o : D tObject), (∀ n ∈ l, InR (-2147483648) 2147483647 n) → run f o (l.map wordL) = some (o.1, o.2.1 ++ l, o.2.2)
  | [], o, _ => by simp [run]
  | s :: r, o, hl => by
    rw [List.map_cons, run, h.word o s (hl s (by simp))]
    show run f (addWord o s) (r.map wordL) = _
    rw [run_words r _ fun x hx => hl x (List.mem_cons_of_mem _ hx)]
    simp [addWord]
theorem run_syms : ∀ (l : List (D tSymbol)) (o : D tObject), (∀ y ∈ l, Nm y.1 ∧ InR 0 39 y.2.1) → run f o (l.map symL) = some (o.1, o.2.1, o.2.2.1 ++ l, o.2.2.2)
  | [], o, _ => by simp [run]
  | s :: r, o, hl => by
    rw [List.map_cons, run, h.sym o s (hl s (by simp)).1 (hl s (by simp)).2]
    show run f (addSym o s) (r.map symL) = _
    rw [run_syms r _ fun x hx => hl x (List.mem_cons_of_mem _ hx)]
    simp [addSym]
theorem run_ties : ∀ (l : List (D tTie)) (o : D tObject), (∀ t ∈ l, TieOk t) → run f o (l.map tieL) = some (o.1, o.2.1, o.2.2.1, o.2.2.2.1 ++ l, ())
  | [], o, _ => by simp [run]
  | s :: r, o, hl => by
    rw [List.map_cons, run, h.tie o s (hl s (by simp))]
    show run f (addTie o s) (r.map tieL) = _
    rw [run_ties r _ fun x hx => hl x (List.mem_cons_of_mem _ hx)]
    simp [addTie]
theorem run_lines {o : D tObject} (ok : OkO o) : run f (zeroD tObject) (linesO o) = some o := by
  unfold linesO
  rw [run_app (run_needs h o.1 _ ok.needs), run_app (run_words h o.2.1 _ ok.words), run_app (run_syms h o.2.2.1 _ ok.syms), run_ties h o.2.2.2.1 _ ok.ties]
  rfl
end
theorem pre_no {a : UInt8} {s : Str} (h : a ≠ 119) : Lib.hasPrefix (a :: s) wWeakB = false := by
  unfold Lib.hasPrefix wWeakB; simp [List.isPrefixOf]; intro e; exact absurd e.symm h
theorem trim_no {s : Str} (h : Lib.hasPrefix s wWeakB = false) : Lib.trimPrefix s wWeakB = s := by unfold Lib.trimPrefix; rw [if_neg (by rw [h]; decide)]
theorem pre_yes (s : Str) : Lib.hasPrefix (wWeakB ++ s) wWeakB = true := by unfold Lib.hasPrefix wWeakB; simp [List.isPrefixOf]
theorem trim_yes (s : Str) : Lib.trimPrefix (wWeakB ++ s) wWeakB = s := by unfold Lib.trimPrefix; rw [if_pos (pre_yes s)]; rfl
theorem pre_no2 {a b : UInt8} {s : Str} (h : b ≠ 101) : Lib.hasPrefix (a :: b :: s) wWeakB = false := by
  unfold Lib.hasPrefix wWeakB; simp [List.isPrefixOf]; intro _ e; exact absurd e.symm h
theorem lineA_weak (o : D tObject) (b : Bool) (s : Str) (h : Lib.hasPrefix s wWeakB = false) : lineA o (weakT b ++ s) = wordsA o b (parts 32 s) := by
  unfold lineA
  cases b with
  | false => show wordsA o (Lib.hasPrefix s wWeakB) (parts 32 (Lib.trimPrefix s wWeakB)) = _; rw [h, trim_no h]
  | true => show wordsA o (Lib.hasPrefix (wWeakB ++ s) wWeakB) (parts 32 (Lib.trimPrefix (wWeakB ++ s) wWeakB)) = _; rw [pre_yes, trim_yes]
theorem nm_free {s : Str} (h : Nm s) : (32 : UInt8) ∉ s ∧ (10 : UInt8) ∉ s := ⟨fun hc => (h.2.2 _ hc).2 rfl, fun hc => (h.2.2 _ hc).1 rfl⟩
theorem itoa_f32 (n : Int) : (32 : UInt8) ∉ Lib.itoa n := itoa_free (by decide)
theorem itoa_f10 (n : Int) : (10 : UInt8) ∉ Lib.itoa n := itoa_free (by decide)
theorem parts_need {s : Str} (h : Nm s) : parts 32 (needL s) = [wNeed, s] := by
  show parts 32 (wNeed ++ 32 :: s) = _
  rw [parts_app (by decide), parts_one (nm_free h).1]
theorem parts_word (n : Int) : parts 32 (wordL n) = [wWord, Lib.itoa n] := by
  show parts 32 (wWord ++ 32 :: Lib.itoa n) = _
  rw [parts_app (by decide), parts_one (itoa_f32 n)]
theorem parts_sym {s : Str} {n : Int} (h : Nm s) : parts 32 ([115, 121, 109, 98, 111, 108, 32] ++ (s ++ 32 :: Lib.itoa n)) = [wSymbol, s, Lib.itoa n] := by
  show parts 32 (wSymbol ++ 32 :: (s ++ 32 :: Lib.itoa n)) = _
  rw [parts_app (by decide), parts_app (nm_free h).1, parts_one (itoa_f32 n)]
theorem parts_base (m n : Int) : parts 32 ([98, 97, 115, 101, 32] ++ (Lib.itoa m ++ 32 :: Lib.itoa n)) = [wBase, Lib.itoa m, Lib.itoa n] := by
  show parts 32 (wBase ++ 32 :: (Lib.itoa m ++ 32 :: Lib.itoa n)) = _
  rw [parts_app (by decide), parts_app (itoa_f32 m), parts_one (itoa_f32 n)]
theorem parts_whole {s : Str} (m n : Int) (h : Nm s) : parts 32 ([119, 104, 111, 108, 101, 32] ++ (Lib.itoa m ++ 32 :: (Lib.itoa n ++ 32 :: s))) = [wWhole, Lib.itoa m, Lib.itoa n, s] := by
  show parts 32 (wWhole ++ 32 :: (Lib.itoa m ++ 32 :: (Lib.itoa n ++ 32 :: s))) = _
  rw [parts_app (by decide), parts_app (itoa_f32 m), parts_app (itoa_f32 n), parts_one (nm_free h).1]
theorem parts_near {s : Str} (m n : Int) (h : Nm s) : parts 32 ([110, 101, 97, 114, 32] ++ (Lib.itoa m ++ 32 :: (Lib.itoa n ++ 32 :: s))) = [wNear, Lib.itoa m, Lib.itoa n, s] := by
  show parts 32 (wNear ++ 32 :: (Lib.itoa m ++ 32 :: (Lib.itoa n ++ 32 :: s))) = _
  rw [parts_app (by decide), parts_app (itoa_f32 m), parts_app (itoa_f32 n), parts_one (nm_free h).1]
theorem numA_in {a b n : Int} (h : InR a b n) (ha : -9223372036854775808 ≤ a) (hb : b ≤ 9223372036854775807) : numA (Lib.itoa n) = some n := numA_itoa (Int.le_trans ha h.1) (Int.le_trans h.2 hb)
theorem readsA : Reads lineA where
  need o s h := by
    have := lineA_weak o false (needL s) (pre_no (by decide))
    rw [show weakT false ++ needL s = needL s from rfl, parts_need h] at this
    exact this
  word o n h := by
    have := lineA_weak o false (wordL n) (pre_no2 (by decide))
    rw [show weakT false ++ wordL n = wordL n from rfl, parts_word] at this
    rw [this]
    show (if wWord = wNeed then some (addNeed o (Lib.itoa n)) else if wWord = wWord then (numA (Lib.itoa n)).map (addWord o) else none) = _
    rw [if_neg (by decide), if_pos rfl, numA_in h (by decide) (by decide)]; rfl
  sym o y h h' := by
    have := lineA_weak o y.2.2.1 ([115, 121, 109, 98, 111, 108, 32] ++ (y.1 ++ 32 :: Lib.itoa y.2.1)) (pre_no (by decide))
    rw [parts_sym h] at this
    refine Eq.trans this ?_
    dsimp only [wordsA]
    rw [if_pos rfl, numA_in h' (by decide) (by decide)]; rfl
  tie o t h := by
    obtain ⟨at', k, ad, nm, b, _⟩ := t
    have ha := numA_in h.a (by decide) (by decide)
    have hw := numA_in h.w (by decide) (by decide)
    simp only at ha hw
    unfold tieL
    rcases h.k with e | e | e
    · have hb := h.base e
      simp only at e hb
      obtain ⟨rfl, rfl⟩ := hb
      subst e
      rw [if_pos rfl]
      have := lineA_weak o false ([98, 97, 115, 101, 32] ++ (Lib.itoa at' ++ 32 :: Lib.itoa ad)) (pre_no (by decide))
      rw [parts_base] at this
      refine this.trans ?_
      dsimp only [wordsA]
      rw [if_neg (by decide), if_pos rfl]; unfold num2; rw [ha, hw]
    · have hn := h.nm (by rw [show _ = _ from e]; decide)
      simp only at e hn
      subst e
      rw [if_neg (by simp), if_pos rfl]
      have := lineA_weak o b ([119, 104, 111, 108, 101, 32] ++ (Lib.itoa at' ++ 32 :: (Lib.itoa ad ++ 32 :: nm))) (pre_no2 (by decide))
      rw [parts_whole _ _ hn] at this
      refine this.trans ?_
      dsimp only [wordsA]
      rw [if_pos (.inl rfl), if_neg (by decide)]; unfold num2; rw [ha, hw]
    · have hn := h.nm (by rw [show _ = _ from e]; decide)
      simp only at e hn
      subst e
      rw [if_neg (by simp), if_neg (by simp)]
      have := lineA_weak o b ([110, 101, 97, 114, 32] ++ (Lib.itoa at' ++ 32 :: (Lib.itoa ad ++ 32 :: nm))) (pre_no (by decide))
      rw [parts_near _ _ hn] at this
      refine this.trans ?_
      dsimp only [wordsA]
      rw [if_pos (.inr rfl), if_pos rfl]; unfold num2; rw [ha, hw]
end Go.Mrl

namespace Go.Mrl
open Go.Vg
theorem lines_free {o : D tObject} (h : OkO o) : ∀ l ∈ linesO o, (10 : UInt8) ∉ l := by
  intro l hl
  unfold linesO at hl
  simp only [List.mem_append, List.mem_map] at hl
  have hw : ∀ b, (10 : UInt8) ∉ weakT b := by intro b; cases b <;> decide
  rcases hl with ⟨s, hs, rfl⟩ | ⟨n, hn, rfl⟩ | ⟨y, hy, rfl⟩ | ⟨t, ht, rfl⟩
  · have := (nm_free (h.needs s hs)).2
    unfold needL; simp [this]
  · have := itoa_f10 n
    unfold wordL; simp [this]
  · have h1 := (nm_free (h.syms y hy).1).2
    have h2 := itoa_f10 y.2.1
    have h3 := hw y.2.2.1
    unfold symL; simp [h1, h2, h3]
  · have h1 := itoa_f10 t.1
    have h2 := itoa_f10 t.2.2.1
    have h3 := hw t.2.2.2.2.1
    unfold tieL
    split
    · simp [h1, h2]
    · rename_i hk
      have h4 := (nm_free ((h.ties t ht).nm hk)).2
      split <;> simp [h1, h2, h3, h4]
theorem lines_ne {o : D tObject} (h : OkO o) : linesO o ≠ [] := by
  have h1 := h.w1
  unfold linesO
  intro e
  simp only [List.append_eq_nil_iff, List.map_eq_nil_iff] at e
  rw [e.2.1] at h1
  simp at h1
def resA (s : Str) : Option (D tObject) := run lineA (zeroD tObject) (parts 10 (Lib.trimSuffix s [10]))
theorem resA_text {o : D tObject} (h : faultO o = 0) : resA (textO o) = some o := by
  have ok := okO_of h
  unfold resA
  rw [textO_lines, parts_trim (lines_ne ok) (lines_free ok), run_lines readsA ok]
theorem textO_inj {o p : D tObject} (h : faultO o = 0) (h' : faultO p = 0) (e : textO o = textO p) : o = p := by
  have a := resA_text h
  rw [e, resA_text h'] at a
  exact (Option.some.inj a).symm
open Classical in
noncomputable def objR (s : Str) : D tObject × Int :=
  if s.length > 1200 then (zeroD tObject, 2)
  else if h : ∃ o : D tObject, faultO o = 0 ∧ textO o = s then (Classical.choose h, 0) else (zeroD tObject, 4)
theorem objR_many {s : Str} (h : s.length > 1200) : objR s = (zeroD tObject, 2) := by unfold objR; rw [if_pos h]
theorem objR_ok {s : Str} {o : D tObject} (h : ¬ s.length > 1200) (hf : faultO o = 0) (ht : textO o = s) : objR s = (o, 0) := by
  have hx : ∃ o : D tObject, faultO o = 0 ∧ textO o = s := ⟨o, hf, ht⟩
  have hc := Classical.choose_spec hx
  unfold objR
  rw [if_neg h, dif_pos hx, textO_inj hc.1 hf (hc.2.trans ht.symm)]
theorem objR_bad {s : Str} (h : ¬ s.length > 1200) (hn : ∀ o : D tObject, faultO o = 0 → textO o ≠ s) : objR s = (zeroD tObject, 4) := by
  unfold objR
  rw [if_neg h, dif_neg fun ⟨o, h1, h2⟩ => hn o h1 h2]
theorem objR_noneA {s : Str} (h : ¬ s.length > 1200) (hr : resA s = none) : objR s = (zeroD tObject, 4) :=
  objR_bad h fun o h1 h2 => by rw [← h2, resA_text h1] at hr; cases hr
theorem objR_someA {s : Str} {o : D tObject} (h : ¬ s.length > 1200) (hr : resA s = some o) (hb : faultO o = 0 → textO o ≠ s) : objR s = (zeroD tObject, 4) :=
  objR_bad h fun p h1 h2 => by
    have : p = o := by rw [← h2, resA_text h1] at hr; exact Option.some.inj hr
    rw [this] at h1 h2
    exact hb h1 h2
def linR (s : Str) : List Str × Bool := ((parts 10 s).dropLast, decide ((parts 10 s).getLastD [] = []))
theorem linR_of {s x : Str} {L : List Str} (h : ∀ y ∈ L, (10 : UInt8) ∉ y) (hx : (10 : UInt8) ∉ x) (e : endB 10 L ++ x = s) : linR s = (L, decide (x = [])) := by
  unfold linR
  rw [← e, parts_endB h hx]; simp
def lineF (o : D tObject) (b : Bool) (s : Str) : D tObject × Bool :=
  let w := parts 32 (Lib.trimPrefix s wWeakB)
  if nth .str w 0 = wNeed ∧ w.length = 2 then (addNeed o (nth .str w 1), b)
  else if nth .str w 0 = wWord ∧ w.length = 2 then (addWord o (atoiF (nth .str w 1)).1, b || (numA (nth .str w 1)).isNone)
  else if nth .str w 0 = wSymbol ∧ w.length = 3 then (addSym o (nth .str w 1, (atoiF (nth .str w 2)).1, Lib.hasPrefix s wWeakB, ()), b || (numA (nth .str w 2)).isNone)
  else if nth .str w 0 = wBase ∧ w.length = 3 then (addTie o ((atoiF (nth .str w 1)).1, 1, (atoiF (nth .str w 2)).1, [], false, ()), (b || (numA (nth .str w 1)).isNone) || (numA (nth .str w 2)).isNone)
  else if (nth .str w 0 = wWhole ∨ nth .str w 0 = wNear) ∧ w.length = 4 then
    (addTie o ((atoiF (nth .str w 1)).1, if nth .str w 0 = wNear then 3 else 2, (atoiF (nth .str w 2)).1, nth .str w 3, Lib.hasPrefix s wWeakB, ()), (b || (numA (nth .str w 1)).isNone) || (numA (nth .str w 2)).isNone)
  else (o, true)
theorem numA_atoi {s : Str} {n : Int} (h : numA s = some n) : (atoiF s).1 = n := by
  unfold numA at h
  unfold atoiF
  cases ha : Lib.atoiAll s with
  | ok v => rw [ha] at h; simp only at h ⊢; split at h <;> simp_all
  | range => rw [ha] at h; cases h
  | _ => rw [ha] at h; cases h
theorem lineF_spec (o : D tObject) (b : Bool) (s : Str) : (∃ p, lineA o s = some p ∧ lineF o b s = (p, b)) ∨ (lineA o s = none ∧ (lineF o b s).2 = true) := by
  unfold lineA lineF
  generalize hw : parts 32 (Lib.trimPrefix s wWeakB) = w
  generalize Lib.hasPrefix s wWeakB = k
  have hne := parts_ne 32 (Lib.trimPrefix s wWeakB)
  rw [hw] at hne
  match w, hne with
  | [], hne => exact absurd rfl hne
  | [a], _ => exact .inr ⟨rfl, by simp⟩
  | [a, x], _ =>
    dsimp only [wordsA]
    simp only [show nth .str [a, x] 0 = a from rfl, show nth .str [a, x] 1 = x from rfl]
    by_cases h1 : a = wNeed
    · rw [if_pos h1, if_pos (show (a = wNeed) ∧ [a, x].length = 2 from ⟨h1, rfl⟩)]; exact .inl ⟨_, rfl, rfl⟩
    · rw [if_neg h1, if_neg (show ¬ ((a = wNeed) ∧ [a, x].length = 2) from fun e => h1 e.1)]
      by_cases h2 : a = wWord
      · rw [if_pos h2, if_pos (show (a = wWord) ∧ [a, x].length = 2 from ⟨h2, rfl⟩)]
        cases hn : numA x with
        | none => exact .inr ⟨rfl, by simp⟩
        | some n => exact .inl ⟨_, rfl, by rw [numA_atoi hn]; simp⟩
      · rw [if_neg h2, if_neg (show ¬ ((a = wWord) ∧ [a, x].length = 2) from fun e => h2 e.1), if_neg (show ¬ ((a = wSymbol) ∧ [a, x].length = 3) from fun e => absurd e.2 (by simp)), if_neg (show ¬ ((a = wBase) ∧ [a, x].length = 3) from fun e => absurd e.2 (by simp)), if_neg (show ¬ ((a = wWhole ∨ a = wNear) ∧ [a, x].length = 4) from fun e => absurd e.2 (by simp))]; exact .inr ⟨rfl, rfl⟩
  | [a, x, y], _ =>
    dsimp only [wordsA]
    simp only [show nth .str [a, x, y] 0 = a from rfl, show nth .str [a, x, y] 1 = x from rfl, show nth .str [a, x, y] 2 = y from rfl]
    rw [if_neg (show ¬ ((a = wNeed) ∧ [a, x, y].length = 2) from fun e => absurd e.2 (by simp)), if_neg (show ¬ ((a = wWord) ∧ [a, x, y].length = 2) from fun e => absurd e.2 (by simp))]
    by_cases h1 : a = wSymbol
    · rw [if_pos h1, if_pos (show (a = wSymbol) ∧ [a, x, y].length = 3 from ⟨h1, rfl⟩)]
      cases hn : numA y with
      | none => exact .inr ⟨rfl, by simp⟩
      | some n => exact .inl ⟨_, rfl, by rw [numA_atoi hn]; simp⟩
    · rw [if_neg h1, if_neg (show ¬ ((a = wSymbol) ∧ [a, x, y].length = 3) from fun e => h1 e.1)]
      by_cases h2 : a = wBase
      · rw [if_pos h2, if_pos (show (a = wBase) ∧ [a, x, y].length = 3 from ⟨h2, rfl⟩)]
        unfold num2
        cases hm : numA x with
        | none => exact .inr ⟨rfl, by simp⟩
        | some m =>
          cases hn : numA y with
          | none => exact .inr ⟨rfl, by simp⟩
          | some n => exact .inl ⟨_, rfl, by rw [numA_atoi hn, numA_atoi hm]; simp⟩
      · rw [if_neg h2, if_neg (show ¬ ((a = wBase) ∧ [a, x, y].length = 3) from fun e => h2 e.1), if_neg (show ¬ ((a = wWhole ∨ a = wNear) ∧ [a, x, y].length = 4) from fun e => absurd e.2 (by simp))]; exact .inr ⟨rfl, rfl⟩
  | [a, x, y, z], _ =>
    dsimp only [wordsA]
    simp only [show nth .str [a, x, y, z] 0 = a from rfl, show nth .str [a, x, y, z] 1 = x from rfl, show nth .str [a, x, y, z] 2 = y from rfl, show nth .str [a, x, y, z] 3 = z from rfl]
    rw [if_neg (show ¬ ((a = wNeed) ∧ [a, x, y, z].length = 2) from fun e => absurd e.2 (by simp)), if_neg (show ¬ ((a = wWord) ∧ [a, x, y, z].length = 2) from fun e => absurd e.2 (by simp)), if_neg (show ¬ ((a = wSymbol) ∧ [a, x, y, z].length = 3) from fun e => absurd e.2 (by simp)), if_neg (show ¬ ((a = wBase) ∧ [a, x, y, z].length = 3) from fun e => absurd e.2 (by simp))]
    by_cases h1 : a = wWhole ∨ a = wNear
    · rw [if_pos h1, if_pos (show (a = wWhole ∨ a = wNear) ∧ [a, x, y, z].length = 4 from ⟨h1, rfl⟩)]
      unfold num2
      cases hm : numA x with
      | none => exact .inr ⟨rfl, by simp⟩
      | some m =>
        cases hn : numA y with
        | none => exact .inr ⟨rfl, by simp⟩
        | some n => exact .inl ⟨_, rfl, by rw [numA_atoi hn, numA_atoi hm]; simp⟩
    · rw [if_neg h1, if_neg (show ¬ ((a = wWhole ∨ a = wNear) ∧ [a, x, y, z].length = 4) from fun e => h1 e.1)]; exact .inr ⟨rfl, rfl⟩
  | a :: x :: y :: z :: u :: r, _ => exact .inr ⟨rfl, by simp⟩
theorem lineF_bad (o : D tObject) (s : Str) : (lineF o true s).2 = true := by
  unfold lineF; simp only [Bool.true_or]
  split
  · rfl
  · split
    · rfl
    · split
      · rfl
      · split
        · rfl
        · split <;> rfl
theorem lineF_len (o : D tObject) (b : Bool) (s : Str) :
    (lineF o b s).1.1.length ≤ o.1.length + 1 ∧ (lineF o b s).1.2.1.length ≤ o.2.1.length + 1 ∧ (lineF o b s).1.2.2.1.length ≤ o.2.2.1.length + 1 ∧ (lineF o b s).1.2.2.2.1.length ≤ o.2.2.2.1.length + 1 := by
  have e : ∀ {α : Type} (l : List α) (x : α), (l ++ [x]).length ≤ l.length + 1 := fun l x => by simp
  have e0 : ∀ n : Nat, n ≤ n + 1 := fun n => Nat.le_succ n
  unfold lineF
  simp only
  split
  · exact ⟨e _ _, e0 _, e0 _, e0 _⟩
  · split
    · exact ⟨e0 _, e _ _, e0 _, e0 _⟩
    · split
      · exact ⟨e0 _, e0 _, e _ _, e0 _⟩
      · split
        · exact ⟨e0 _, e0 _, e0 _, e _ _⟩
        · split
          · exact ⟨e0 _, e0 _, e0 _, e _ _⟩
          · exact ⟨e0 _, e0 _, e0 _, e0 _⟩
structure ParseI (L : List Str) (i : Nat) (o : D tObject) (b : Bool) : Prop where
  le : i ≤ L.length
  st : (run lineA (zeroD tObject) (L.take i) = some o ∧ b = false) ∨ (run lineA (zeroD tObject) (L.take i) = none ∧ b = true)
  l1 : o.1.length ≤ i
  l2 : o.2.1.length ≤ i
  l3 : o.2.2.1.length ≤ i
  l4 : o.2.2.2.1.length ≤ i
theorem ParseI.zero (L : List Str) : ParseI L 0 (zeroD tObject) false := ⟨Nat.zero_le _, .inl ⟨rfl, rfl⟩, Nat.le_refl _, Nat.le_refl _, Nat.le_refl _, Nat.le_refl _⟩
theorem ParseI.next {L : List Str} {i : Nat} {o : D tObject} {b : Bool} (h : ParseI L i o b) (hi : i < L.length) : ParseI L (i + 1) (lineF o b (nth .str L i)).1 (lineF o b (nth .str L i)).2 := by
  obtain ⟨a1, a2, a3, a4⟩ := lineF_len o b (nth .str L i)
  refine ⟨hi, ?_, by have := h.l1; omega, by have := h.l2; omega, by have := h.l3; omega, by have := h.l4; omega⟩
  rw [take_nth (t := .str) hi, run_snoc]
  rcases h.st with ⟨hr, hb⟩ | ⟨hr, hb⟩
  · rw [hr, Option.bind_some]
    rcases lineF_spec o b (nth .str L i) with ⟨p, h1, h2⟩ | ⟨h1, h2⟩
    · rw [h2]; exact .inl ⟨h1, hb⟩
    · exact .inr ⟨h1, h2⟩
  · rw [hr, hb]; exact .inr ⟨rfl, lineF_bad o _⟩
end Go.Mrl

namespace Go.Mrl
open Go.Vg
abbrev LineP := Unit × List (List UInt8) × List Int × List (D tSymbol) × List (D tTie) × (Bool × Unit) × Unit
def objP (x : LineP) : D tObject := (x.2.1, x.2.2.1, x.2.2.2.1, x.2.2.2.2.1, ())
def pdL (p : D tObject × Bool) : LineP := ((), p.1.1, p.1.2.1, p.1.2.2.1, p.1.2.2.2.1, (p.2, ()), ())
theorem trim_len (s p : Str) : (Lib.trimPrefix s p).length ≤ s.length := by unfold Lib.trimPrefix; split <;> simp
theorem line_le {s : Str} {w : List Str} (hw : w = parts 32 (Lib.trimPrefix s wWeakB)) (i : Nat) : (nth .str w i).length ≤ s.length := by
  by_cases h : i < w.length
  · have h1 := nth_mem (t := .str) h
    rw [hw] at h1
    have := parts_le _ _ _ h1
    rw [← hw] at this
    exact Nat.le_trans this (trim_len _ _)
  · unfold nth; rw [List.getD_eq_getElem?_getD, List.getElem?_eq_none (by omega)]; exact Nat.zero_le _
theorem line_pos {s : Str} {w : List Str} (hw : w = parts 32 (Lib.trimPrefix s wWeakB)) : 0 < w.length := by rw [hw]; exact List.length_pos_iff.2 (parts_ne _ _)
theorem notP {c : Bool} {P : Prop} (q : c = true ↔ P) (h : c = false) : ¬ P := fun p => by rw [q.2 p] at h; cases h
section
variable {o : D tObject} {b : Bool} {s : Str} {w : List Str} (hw : w = parts 32 (Lib.trimPrefix s wWeakB))
include hw
theorem lineF_need (h : nth .str w 0 = wNeed ∧ w.length = 2) : lineF o b s = (addNeed o (nth .str w 1), b) := by
  unfold lineF; simp only; rw [← hw, if_pos h]
theorem lineF_word (h0 : ¬ (nth .str w 0 = wNeed ∧ w.length = 2)) (h : nth .str w 0 = wWord ∧ w.length = 2) : lineF o b s = (addWord o (atoiF (nth .str w 1)).1, b || (numA (nth .str w 1)).isNone) := by
  unfold lineF; simp only; rw [← hw, if_neg h0, if_pos h]
theorem lineF_sym (h0 : ¬ (nth .str w 0 = wNeed ∧ w.length = 2)) (h1 : ¬ (nth .str w 0 = wWord ∧ w.length = 2)) (h : nth .str w 0 = wSymbol ∧ w.length = 3) :
    lineF o b s = (addSym o (nth .str w 1, (atoiF (nth .str w 2)).1, Lib.hasPrefix s wWeakB, ()), b || (numA (nth .str w 2)).isNone) := by
  unfold lineF; simp only; rw [← hw, if_neg h0, if_neg h1, if_pos h]
theorem lineF_base (h0 : ¬ (nth .str w 0 = wNeed ∧ w.length = 2)) (h1 : ¬ (nth .str w 0 = wWord ∧ w.length = 2)) (h2 : ¬ (nth .str w 0 = wSymbol ∧ w.length = 3)) (h : nth .str w 0 = wBase ∧ w.length = 3) :
    lineF o b s = (addTie o ((atoiF (nth .str w 1)).1, 1, (atoiF (nth .str w 2)).1, [], false, ()), (b || (numA (nth .str w 1)).isNone) || (numA (nth .str w 2)).isNone) := by
  unfold lineF; simp only; rw [← hw, if_neg h0, if_neg h1, if_neg h2, if_pos h]
theorem lineF_tie (h0 : ¬ (nth .str w 0 = wNeed ∧ w.length = 2)) (h1 : ¬ (nth .str w 0 = wWord ∧ w.length = 2)) (h2 : ¬ (nth .str w 0 = wSymbol ∧ w.length = 3)) (h3 : ¬ (nth .str w 0 = wBase ∧ w.length = 3))
    (h : (nth .str w 0 = wWhole ∨ nth .str w 0 = wNear) ∧ w.length = 4) {k : Int} (hk : k = if nth .str w 0 = wNear then 3 else 2) :
    lineF o b s = (addTie o ((atoiF (nth .str w 1)).1, k, (atoiF (nth .str w 2)).1, nth .str w 3, Lib.hasPrefix s wWeakB, ()), (b || (numA (nth .str w 1)).isNone) || (numA (nth .str w 2)).isNone) := by
  unfold lineF; simp only; rw [← hw, if_neg h0, if_neg h1, if_neg h2, if_neg h3, if_pos h, hk]
theorem lineF_none (h0 : ¬ (nth .str w 0 = wNeed ∧ w.length = 2)) (h1 : ¬ (nth .str w 0 = wWord ∧ w.length = 2)) (h2 : ¬ (nth .str w 0 = wSymbol ∧ w.length = 3)) (h3 : ¬ (nth .str w 0 = wBase ∧ w.length = 3))
    (h : ¬ ((nth .str w 0 = wWhole ∨ nth .str w 0 = wNear) ∧ w.length = 4)) : lineF o b s = (o, true) := by
  unfold lineF; simp only; rw [← hw, if_neg h0, if_neg h1, if_neg h2, if_neg h3, if_neg h]
end
end Go.Mrl

namespace Go.Mrl
open Go.Vg
structure WordsAt (c : UInt8) (s : Str) (i : Nat) (L : List Str) (x : Str) : Prop where
  le : i ≤ s.length
  eq : endB c L ++ x = s.take i
  free : ∀ y ∈ L, c ∉ y
  fx : c ∉ x
  len : L.length ≤ i
  lx : x.length ≤ i
theorem WordsAt.zero (c : UInt8) (s : Str) : WordsAt c s 0 [] [] := ⟨Nat.zero_le _, rfl, by simp, by simp, by simp, by simp⟩
theorem take_byte {s : Str} {i : Nat} (h : i < s.length) : s.take (i + 1) = s.take i ++ [nthB s i] := by
  rw [List.take_add_one, get?_nthB h]; rfl
theorem WordsAt.more {c : UInt8} {s : Str} {i : Nat} {L : List Str} {x : Str} (h : WordsAt c s i L x) (hi : i < s.length) (e : ¬ nthB s i = c) : WordsAt c s (i + 1) L (x ++ [nthB s i]) := by
  refine ⟨hi, ?_, h.free, ?_, by have := h.len; omega, by have := h.lx; simp; omega⟩
  · rw [take_byte hi, ← h.eq]; simp
  · intro hc
    rcases List.mem_append.1 hc with hc | hc
    · exact h.fx hc
    · simp at hc; exact e hc.symm
theorem WordsAt.done {c : UInt8} {s : Str} {i : Nat} {L : List Str} {x : Str} (h : WordsAt c s i L x) (hi : ¬ i < s.length) : L ++ [x] = parts c s := by
  have e := h.eq
  rw [List.take_of_length_le (by omega)] at e
  rw [← e, parts_endB h.free h.fx]
structure LinesAt (c : UInt8) (s : Str) (i : Nat) (L : List Str) (f : Nat) : Prop where
  le : i ≤ s.length
  fi : f ≤ i
  eq : endB c L = s.take f
  free : ∀ y ∈ L, c ∉ y
  gap : ∀ j, f ≤ j → j < i → ¬ nthB s j = c
  len : L.length ≤ i
theorem LinesAt.zero (c : UInt8) (s : Str) : LinesAt c s 0 [] 0 := ⟨Nat.zero_le _, Nat.le_refl _, rfl, by simp, fun j h h' => by omega, by simp⟩
theorem free_slice {c : UInt8} {s : Str} {f i : Nat} (hi : i ≤ s.length) (h : ∀ j, f ≤ j → j < i → ¬ nthB s j = c) : c ∉ (s.take i).drop f := by
  intro hc
  obtain ⟨k, hk, e⟩ := List.getElem_of_mem hc
  rw [List.length_drop, List.length_take] at hk
  rw [List.getElem_drop, List.getElem_take] at e
  refine h (f + k) (by omega) (by omega) ?_
  rw [nthB_eq (List.getElem?_eq_getElem (show f + k < s.length by omega))]
  exact e
theorem LinesAt.more {c : UInt8} {s : Str} {i : Nat} {L : List Str} {f : Nat} (h : LinesAt c s i L f) (hi : i < s.length) (e : ¬ nthB s i = c) : LinesAt c s (i + 1) L f := by
  refine ⟨hi, by have := h.fi; omega, h.eq, h.free, fun j h1 h2 => ?_, by have := h.len; omega⟩
  rcases Nat.lt_or_ge j i with hl | hl
  · exact h.gap j h1 hl
  · rw [show j = i by omega]; exact e
theorem LinesAt.done {s : Str} {i : Nat} {L : List Str} {f : Nat} (h : LinesAt 10 s i L f) (hi : ¬ i < s.length) : (L, (f == s.length)) = linR s := by
  have hle := h.le
  have e : i = s.length := by omega
  have hx : (10 : UInt8) ∉ s.drop f := by
    have := free_slice h.le h.gap
    rwa [List.take_of_length_le (by omega)] at this
  rw [linR_of (x := s.drop f) h.free hx (by rw [h.eq, List.take_append_drop])]
  congr 1
  have := h.fi
  rw [Bool.eq_iff_iff]
  simp [List.drop_eq_nil_iff]
  omega
end Go.Mrl

namespace Go.Mrl
open Go.Vg
noncomputable def parseF (s : Str) : D tObject × Err := ((objR s).1, errNo (objR s).2)
theorem parse_many {s : Str} (h : s.length > 1200) : (zeroD tObject, Err.no 2) = parseF s := by unfold parseF; rw [objR_many h]; rfl
theorem ParseI.run {L : List Str} {i : Nat} {o : D tObject} {b : Bool} (h : ParseI L i o b) (hi : ¬ i < L.length) : (run lineA (zeroD tObject) L = some o ∧ b = false) ∨ (run lineA (zeroD tObject) L = none ∧ b = true) := by
  have := h.st
  rwa [List.take_of_length_le (by omega)] at this
theorem parse_bad {s : Str} {i : Nat} {o : D tObject} {b : Bool} (h : ParseI (parts 10 (Lib.trimSuffix s [10])) i o b) (hi : ¬ i < (parts 10 (Lib.trimSuffix s [10])).length) (hl : ¬ s.length > 1200)
    (hb : b = true ∨ (textR o).2.isNil = false ∨ ¬ (textR o).1 = s) : (zeroD tObject, Err.no 4) = parseF s := by
  have : objR s = (zeroD tObject, 4) := by
    rcases h.run hi with ⟨hr, h0⟩ | ⟨hr, h0⟩
    · rcases hb with hb | hb | hb
      · rw [hb] at h0; cases h0
      · refine objR_someA hl hr fun hf ht => ?_
        rw [textR_ok hf rfl (by show (textO o).length ≤ 1200; rw [ht]; omega)] at hb
        cases hb
      · refine objR_someA hl hr fun hf ht => hb ?_
        rw [textR_ok hf rfl (by show (textO o).length ≤ 1200; rw [ht]; omega)]
        exact ht
    · exact objR_noneA hl hr
  unfold parseF; rw [this]; rfl
theorem parse_ok {s : Str} {o : D tObject} (hl : ¬ s.length > 1200)
    (hn : (textR o).2.isNil = true) (ht : (textR o).1 = s) : (o, Err.nil) = parseF s := by
  have hf : faultO o = 0 := by
    apply Classical.byContradiction; intro hf
    rw [textR_bad hf] at hn
    exact hf (errNo_nil.1 hn)
  have hs : textO o = s := by
    by_cases h : (textO o).length > 1200
    · rw [textR_many hf rfl h] at hn; cases hn
    · rw [textR_ok hf rfl (by show (textO o).length ≤ 1200; omega)] at ht; exact ht
  unfold parseF; rw [objR_ok hl hf hs]; rfl
theorem suf_len (s p : Str) : (Lib.trimSuffix s p).length ≤ s.length := by unfold Lib.trimSuffix; split <;> simp
theorem parts_few (s : Str) (h : s.length ≤ 1200) : (parts 10 (Lib.trimSuffix s [10])).length ≤ 1201 := by
  have h1 := parts_len 10 (Lib.trimSuffix s [10])
  have h2 : (Lib.trimSuffix s [10]).length ≤ s.length := by unfold Lib.trimSuffix; split <;> simp
  omega
theorem line_short {s : Str} (h : s.length ≤ 1200) (i : Nat) : (nth .str (parts 10 (Lib.trimSuffix s [10])) i).length ≤ 1200 := by
  by_cases hi : i < (parts 10 (Lib.trimSuffix s [10])).length
  · have := parts_le _ _ _ (nth_mem (t := .str) hi)
    have h2 : (Lib.trimSuffix s [10]).length ≤ s.length := by unfold Lib.trimSuffix; split <;> simp
    omega
  · unfold nth; rw [List.getD_eq_getElem?_getD, List.getElem?_eq_none (by omega)]; exact Nat.zero_le _
end Go.Mrl

namespace Go.Mrl
open Go.Vg
structure RunB (L : List Str) (i : Nat) (o : D tObject) : Prop where
  le : i ≤ L.length
  st : run lineB (zeroD tObject) (L.take i) = some o
  l1 : o.1.length ≤ i
  l2 : o.2.1.length ≤ i
  l3 : o.2.2.1.length ≤ i
  l4 : o.2.2.2.1.length ≤ i
theorem RunB.zero (L : List Str) : RunB L 0 (zeroD tObject) := ⟨Nat.zero_le _, rfl, Nat.le_refl _, Nat.le_refl _, Nat.le_refl _, Nat.le_refl _⟩
structure More (o p : D tObject) : Prop where
  l1 : p.1.length ≤ o.1.length + 1
  l2 : p.2.1.length ≤ o.2.1.length + 1
  l3 : p.2.2.1.length ≤ o.2.2.1.length + 1
  l4 : p.2.2.2.1.length ≤ o.2.2.2.1.length + 1
theorem snoc_le {α : Type} (l : List α) (x : α) : (l ++ [x]).length ≤ l.length + 1 := by simp
theorem More.need (o : D tObject) (s : Str) : More o (addNeed o s) := ⟨snoc_le _ _, Nat.le_succ _, Nat.le_succ _, Nat.le_succ _⟩
theorem More.word (o : D tObject) (n : Int) : More o (addWord o n) := ⟨Nat.le_succ _, snoc_le _ _, Nat.le_succ _, Nat.le_succ _⟩
theorem More.sym (o : D tObject) (y : D tSymbol) : More o (addSym o y) := ⟨Nat.le_succ _, Nat.le_succ _, snoc_le _ _, Nat.le_succ _⟩
theorem More.tie (o : D tObject) (t : D tTie) : More o (addTie o t) := ⟨Nat.le_succ _, Nat.le_succ _, Nat.le_succ _, snoc_le _ _⟩
theorem RunB.next {L : List Str} {i : Nat} {o p : D tObject} (h : RunB L i o) (hi : i < L.length) (hl : lineB o (nth .str L i) = some p) (hm : More o p) : RunB L (i + 1) p := by
  have a1 := h.l1; have a2 := h.l2; have a3 := h.l3; have a4 := h.l4
  have b1 := hm.l1; have b2 := hm.l2; have b3 := hm.l3; have b4 := hm.l4
  refine ⟨hi, ?_, by omega, by omega, by omega, by omega⟩
  rw [take_nth (t := .str) hi, run_snoc, h.st, Option.bind_some]; exact hl
theorem RunB.done {L : List Str} {i : Nat} {o : D tObject} (h : RunB L i o) (hi : ¬ i < L.length) : run lineB (zeroD tObject) L = some o := by
  have := h.st
  rwa [List.take_of_length_le (by omega)] at this
section
variable {o : D tObject} {b : Bool} {w : List Str} {k : Nat}
end
theorem eT {k n : Nat} (h : (k : Int) < (n : Int)) : (decide ((k : Int) < 3)) = true ↔ ((k : Int) < (n : Int) ∧ (k : Int) < 3) := by
  rw [decide_eq_true_eq]; omega
end Go.Mrl

namespace Go.Mrl
open Go.Vg
abbrev Rd := Str → Str × Int × Int
structure RdOK (rd : Rd) : Prop where
  code : ∀ s, (rd s).2.2 = 0 ∨ (rd s).2.2 = 5
  few : ∃ K : List Str, K.length ≤ 6 ∧ ∀ s, (rd s).2.2 = 0 → s ∈ K
def addN (ns l : List Str) : List Str := l.foldl (fun ns s => if ns.any (· == s) = true then ns else ns ++ [s]) ns
noncomputable def objAt (rd : Rd) (s : Str) : D tObject := (objR (rd s).1).1
noncomputable def faultAt (rd : Rd) (s : Str) : Int := if (rd s).2.2 = 0 then (objR (rd s).1).2 else (rd s).2.2
noncomputable def scopeG (rd : Rd) : Nat → Nat → List Str → List (D tObject) → List Str × List (D tObject) × Int
  | 0, _, ns, os => (ns, os, 0)
  | k + 1, i, ns, os =>
    if i < ns.length then
      if faultAt rd (nth .str ns i) = 0 then scopeG rd k (i + 1) (addN ns (objAt rd (nth .str ns i)).1) (os ++ [objAt rd (nth .str ns i)])
      else ([], [], faultAt rd (nth .str ns i))
    else (ns, os, 0)
noncomputable def scopeOf (rd : Rd) (root : Str) : List Str × List (D tObject) × Int := scopeG rd 7 0 [root] []
theorem objR_cases (s : Str) : ((objR s).2 = 0 ∧ faultO (objR s).1 = 0 ∧ textO (objR s).1 = s) ∨ objR s = (zeroD tObject, 2) ∨ objR s = (zeroD tObject, 4) := by
  by_cases h : s.length > 1200
  · exact .inr (.inl (objR_many h))
  · by_cases h2 : ∃ o : D tObject, faultO o = 0 ∧ textO o = s
    · obtain ⟨o, h3, h4⟩ := h2
      rw [objR_ok h h3 h4]; exact .inl ⟨rfl, h3, h4⟩
    · exact .inr (.inr (objR_bad h fun o h3 h4 => h2 ⟨o, h3, h4⟩))
theorem objR_fault {s : Str} (h : (objR s).2 = 0) : faultO (objR s).1 = 0 := by
  rcases objR_cases s with ⟨_, h, _⟩ | h' | h'
  · exact h
  · rw [h'] at h; cases h
  · rw [h'] at h; cases h
theorem objR_text {s : Str} (h : (objR s).2 = 0) : textO (objR s).1 = s := by
  rcases objR_cases s with ⟨_, _, h⟩ | h' | h'
  · exact h
  · rw [h'] at h; cases h
  · rw [h'] at h; cases h
theorem faultAt_zero {rd : Rd} (h : RdOK rd) {s : Str} (e : faultAt rd s = 0) : (rd s).2.2 = 0 ∧ (objR (rd s).1).2 = 0 := by
  unfold faultAt at e
  rcases h.code s with c | c
  · rw [if_pos c] at e; exact ⟨c, e⟩
  · rw [if_neg (by rw [c]; decide), c] at e; cases e
theorem addN_nil (ns : List Str) : addN ns [] = ns := rfl
theorem addN_cons (ns l : List Str) (s : Str) : addN ns (s :: l) = addN (if ns.any (· == s) = true then ns else ns ++ [s]) l := rfl
theorem any_mem {ns : List Str} {s : Str} : ns.any (· == s) = true ↔ s ∈ ns := by
  rw [List.any_eq_true]
  constructor
  · rintro ⟨x, hx, e⟩; rw [← (by simpa using e : x = s)]; exact hx
  · intro h; exact ⟨s, h, by simp⟩
theorem addN_pre : ∀ (l ns : List Str), ∃ r, addN ns l = ns ++ r ∧ r.length ≤ l.length ∧ ∀ s ∈ r, s ∈ l
  | [], ns => ⟨[], by simp [addN_nil], by simp, by simp⟩
  | x :: l, ns => by
    rw [addN_cons]
    split
    · obtain ⟨r, h1, h2, h3⟩ := addN_pre l ns
      exact ⟨r, h1, by simp; omega, fun s hs => by simp [h3 s hs]⟩
    · obtain ⟨r, h1, h2, h3⟩ := addN_pre l (ns ++ [x])
      refine ⟨x :: r, by rw [h1]; simp, by simp; omega, fun s hs => ?_⟩
      rcases List.mem_cons.1 hs with rfl | hs
      · simp
      · simp [h3 s hs]
theorem addN_nodup : ∀ (l ns : List Str), ns.Nodup → (addN ns l).Nodup
  | [], ns, h => h
  | x :: l, ns, h => by
    rw [addN_cons]
    split
    · exact addN_nodup l ns h
    · rename_i hx
      refine addN_nodup l _ ?_
      rw [List.nodup_append]
      refine ⟨h, by simp, fun a ha b hb e => hx (any_mem.2 ?_)⟩
      simp at hb; subst hb; exact e ▸ ha
theorem addN_all : ∀ (l ns : List Str), ∀ s ∈ l, s ∈ addN ns l
  | [], _, s, h => by simp at h
  | x :: l, ns, s, h => by
    rw [addN_cons]
    rcases List.mem_cons.1 h with rfl | h
    · split
      · rename_i hx
        obtain ⟨r, h1, _⟩ := addN_pre l ns
        rw [h1]; exact List.mem_append_left _ (any_mem.1 hx)
      · obtain ⟨r, h1, _⟩ := addN_pre l (ns ++ [s])
        rw [h1]; simp
    · exact addN_all l _ s h
theorem nth_app_l {t : Ty} {a b : List (D t)} {i : Nat} (h : i < a.length) : nth t (a ++ b) i = nth t a i := by rw [nth_append, if_pos h]
structure ScI (rd : Rd) (root : Str) (i : Nat) (ns : List Str) (os : List (D tObject)) : Prop where
  eq : scopeG rd (7 - i) i ns os = scopeOf rd root
  le : i ≤ 6
  lo : i ≤ ns.length
  pos : 0 < ns.length
  len : os.length = i
  hi : ns.length ≤ 1 + 4 * i
  head : nth .str ns 0 = root
  nd : ns.Nodup
  got : ∀ j, j < i → faultAt rd (nth .str ns j) = 0 ∧ nth tObject os j = objAt rd (nth .str ns j)
  want : ∀ j, j < ns.length → j ≠ 0 → ∃ k, k < i ∧ k < j ∧ nth .str ns j ∈ (nth tObject os k).1
  need : ∀ j, j < i → ∀ s ∈ (nth tObject os j).1, s ∈ ns
theorem ScI.zero (rd : Rd) (root : Str) : ScI rd root 0 [root] [] :=
  ⟨rfl, by omega, by simp, by simp, rfl, by simp, rfl, by simp, fun j h => by omega, fun j h h' => by simp at h; omega, fun j h => by omega⟩
theorem ScI.room {rd : Rd} {root : Str} {i : Nat} {ns : List Str} {os : List (D tObject)} (ok : RdOK rd) (h : ScI rd root i ns os) (hi : i < ns.length) (hf : faultAt rd (nth .str ns i) = 0) : i + 1 ≤ 6 := by
  obtain ⟨K, hK, hm⟩ := ok.few
  have hsub : ∀ y ∈ ns.take (i + 1), y ∈ K := by
    intro y hy
    obtain ⟨j, hj, rfl⟩ := mem_nth (t := .str) hy
    rw [List.length_take] at hj
    rw [nth_take (t := .str) (by omega)]
    refine hm _ (faultAt_zero ok ?_).1
    rcases Nat.lt_or_ge j i with hl | hl
    · exact (h.got j hl).1
    · rw [show j = i by omega]; exact hf
  have := nodup_len (h.nd.sublist (List.take_sublist (i + 1) ns)) hsub
  rw [List.length_take] at this
  omega
theorem ScI.fuel {rd : Rd} {root : Str} {i : Nat} {ns : List Str} {os : List (D tObject)} (h : ScI rd root i ns os) : scopeG rd (6 - i + 1) i ns os = scopeOf rd root := by
  rw [← h.eq]; congr 1; have := h.le; omega
theorem ScI.done {rd : Rd} {root : Str} {i : Nat} {ns : List Str} {os : List (D tObject)} (h : ScI rd root i ns os) (hi : ¬ i < ns.length) : scopeOf rd root = (ns, os, 0) := by
  rw [← h.fuel, scopeG, if_neg hi]
theorem objAt_ok {rd : Rd} (ok : RdOK rd) {s : Str} (hf : faultAt rd s = 0) : OkO (objAt rd s) := okO_of (objR_fault (faultAt_zero ok hf).2)
theorem ScI.next {rd : Rd} {root : Str} {i : Nat} {ns : List Str} {os : List (D tObject)} (ok : RdOK rd) (h : ScI rd root i ns os) (hi : i < ns.length) (hf : faultAt rd (nth .str ns i) = 0) :
    ScI rd root (i + 1) (addN ns (objAt rd (nth .str ns i)).1) (os ++ [objAt rd (nth .str ns i)]) := by
  have hr := h.room ok hi hf
  have ho := objAt_ok ok hf
  obtain ⟨r, h1, h2, h3⟩ := addN_pre (objAt rd (nth .str ns i)).1 ns
  have hn4 := ho.n4
  have hlen := h.len
  have hhi := h.hi
  have hpos := h.pos
  have hos : nth tObject (os ++ [objAt rd (nth .str ns i)]) i = objAt rd (nth .str ns i) := by rw [nth_append, if_neg (by omega), h.len, Nat.sub_self]; rfl
  have hns : ∀ j, j < ns.length → nth .str (addN ns (objAt rd (nth .str ns i)).1) j = nth .str ns j := fun j hj => by rw [h1, nth_app_l (t := .str) hj]
  have hoj : ∀ j, j < i → nth tObject (os ++ [objAt rd (nth .str ns i)]) j = nth tObject os j := fun j hj => nth_app_l (t := tObject) (by omega)
  refine ⟨?_, hr, by rw [h1, List.length_append]; omega, by rw [h1, List.length_append]; omega, by rw [List.length_append, h.len]; rfl, by rw [h1, List.length_append]; omega,
    by rw [hns 0 hpos]; exact h.head, addN_nodup _ _ h.nd, fun j hj => ?_, fun j hj h0 => ?_, fun j hj s hs => ?_⟩
  · rw [← h.fuel, scopeG, if_pos hi, if_pos hf]; congr 1; omega
  · rcases Nat.lt_or_ge j i with hl | hl
    · rw [hns j (by omega), hoj j hl]; exact h.got j hl
    · rw [show j = i by omega, hns i hi, hos]; exact ⟨hf, rfl⟩
  · rcases Nat.lt_or_ge j ns.length with hl | hl
    · obtain ⟨k, k1, k2, k3⟩ := h.want j hl h0
      exact ⟨k, by omega, k2, by rw [hns j hl, hoj k k1]; exact k3⟩
    · refine ⟨i, by omega, by omega, ?_⟩
      rw [hos, h1, nth_append, if_neg (by omega)]
      refine h3 _ (nth_mem (t := .str) ?_)
      rw [h1, List.length_append] at hj; omega
  · rcases Nat.lt_or_ge j i with hl | hl
    · rw [hoj j hl] at hs
      rw [h1]; exact List.mem_append_left _ (h.need j hl s hs)
    · rw [show j = i by omega, hos] at hs
      exact addN_all _ _ s hs
structure Scope (rd : Rd) (root : Str) (ns : List Str) (os : List (D tObject)) : Prop where
  le : ns.length ≤ 6
  pos : 0 < ns.length
  len : os.length = ns.length
  head : nth .str ns 0 = root
  nd : ns.Nodup
  got : ∀ j, j < ns.length → faultAt rd (nth .str ns j) = 0 ∧ nth tObject os j = objAt rd (nth .str ns j)
  want : ∀ j, j < ns.length → j ≠ 0 → ∃ k, k < j ∧ nth .str ns j ∈ (nth tObject os k).1
  need : ∀ j, j < ns.length → ∀ s ∈ (nth tObject os j).1, s ∈ ns
theorem FilesInv.rd {x : FZ} {r : RS} (h : FilesInv x r) : readFs x = findR r.1 := funext h.read
end Go.Mrl

namespace Go.Mrl
open Go.Vg
theorem goBases_prefix : ∀ {s : List Int} {l : List (D tRange)} {out o : List Int}, goBases l s out = some o → ∃ ext, o = out ++ ext ∧ ext.length = s.length := by
  intro s
  induction s with
  | nil => intro l out o h; simp only [goBases, Option.some.injEq] at h; exact ⟨[], by simp [h], rfl⟩
  | cons n r ih =>
    intro l out o h
    simp only [goBases] at h
    split at h
    · cases h
    · obtain ⟨ext, h1, h2⟩ := ih h
      exact ⟨_ :: ext, by rw [h1, List.append_assoc]; rfl, by simp [h2]⟩
theorem goBases_next {l : List (D tRange)} {s o : List Int} {k : Nat} (hk : k < s.length) (h : goBases l (s.drop k) (o.take k) = some o) (hl : o.length = s.length) :
    (nth (.int .i64) o k : Int) = baseAt l (roundF (nth (.int .i64) s k)) 40 0 ∧ baseAt l (roundF (nth (.int .i64) s k)) 40 0 + roundF (nth (.int .i64) s k) ≤ 256 ∧
    goBases (l ++ [(baseAt l (roundF (nth (.int .i64) s k)) 40 0, roundF (nth (.int .i64) s k), ())]) (s.drop (k + 1)) (o.take (k + 1)) = some o := by
  rw [goBases_step hk] at h
  split at h
  · cases h
  · rename_i hle
    obtain ⟨ext, h1, h2⟩ := goBases_prefix h
    have hlen : (o.take k).length = k := by rw [List.length_take]; omega
    have hget : o[k]? = some (baseAt l (roundF (nth (.int .i64) s k)) 40 0) := by
      rw [h1, List.append_assoc, List.getElem?_append_right (by omega), hlen, Nat.sub_self]; rfl
    refine ⟨nth_eq (t := .int .i64) hget, by omega, ?_⟩
    have : o.take (k + 1) = o.take k ++ [baseAt l (roundF (nth (.int .i64) s k)) 40 0] := by
      rw [List.take_add_one, hget]; rfl
    rw [this]; exact h
theorem basesF_nil {s : List Int} {l : List (D tRange)} (h : (basesF (s, l)).2.isNil = true) :
    s.length ≤ 6 ∧ l.length ≤ 20 ∧ (∀ j, j < s.length → 1 ≤ (nth (.int .i64) s j : Int) ∧ (nth (.int .i64) s j : Int) ≤ 40) ∧ (∀ y ∈ l, okR y) ∧ goBases l s [] = some (basesF (s, l)).1 ∧ (basesF (s, l)).1.length = s.length := by
  by_cases h1 : 6 < s.length ∨ 20 < l.length
  · rw [basesF_many h1] at h; cases h
  · by_cases h2 : badSizes s = true ∨ badTaken l = true
    · unfold basesF at h; rw [if_neg h1, if_pos h2] at h; cases h
    · have hs : ∀ j, j < s.length → 1 ≤ (nth (.int .i64) s j : Int) ∧ (nth (.int .i64) s j : Int) ≤ 40 := by
        intro j hj
        apply Classical.byContradiction
        intro hn
        rw [basesF_size h1 hj hn] at h; cases h
      have ht : ∀ j, j < l.length → okR (nth tRange l j) := by
        intro j hj
        apply Classical.byContradiction
        intro hn
        rw [basesF_taken h1 hj hn] at h; cases h
      rw [basesF_ok h1 hs ht] at h ⊢
      refine ⟨by omega, by omega, hs, fun y hy => ?_, ?_⟩
      · obtain ⟨i, hi, e⟩ := mem_nth (t := tRange) hy; rw [← e]; exact ht i hi
      · split at h
        · rename_i o ho
          obtain ⟨ext, k1, k2⟩ := goBases_prefix ho
          simp only [ho]
          exact ⟨trivial, by rw [k1]; simpa using k2⟩
        · cases h
end Go.Mrl
namespace Go.Mrl
open Go.Vg
theorem roundF_near {n : Int} : n ≤ roundF n ∧ roundF n < n + 16 := by unfold roundF; omega
end Go.Mrl

namespace Go.Mrl
open Go.Vg
def sumTo (s : List Int) : Nat → Int
  | 0 => 0
  | k + 1 => sumTo s k + roundF (nth (.int .i64) s k)
def Cont (l : List (Int × Int × Unit)) (S : Int) : Prop := 0 ≤ S ∧ (∃ m : Nat, S = 16 * (m : Int)) ∧ (∀ y ∈ l, y.1 + y.2.1 ≤ S) ∧ ∀ p : Int, 0 ≤ p → p < S → ∃ y ∈ l, y.1 ≤ p ∧ p < y.1 + y.2.1
theorem Cont.nil : Cont [] 0 := ⟨Int.le_refl _, ⟨0, rfl⟩, fun y hy => by simp at hy, fun p h1 h2 => by omega⟩
theorem Cont.snoc {l : List (Int × Int × Unit)} {S m : Int} (h : Cont l S) (hm : 0 < m) (h16 : ∃ k : Nat, m = 16 * (k : Int)) : Cont (l ++ [(S, m, ())]) (S + m) := by
  obtain ⟨h1, ⟨a, h2⟩, h3, h4⟩ := h
  obtain ⟨k, h5⟩ := h16
  refine ⟨by omega, ⟨a + k, by omega⟩, fun y hy => ?_, fun p h6 h7 => ?_⟩
  · rcases List.mem_append.1 hy with hy | hy
    · have := h3 y hy; omega
    · simp only [List.mem_singleton] at hy; subst hy; simp only; omega
  · by_cases c : p < S
    · obtain ⟨y, hy, h8⟩ := h4 p h6 c
      exact ⟨y, by simp [hy], h8⟩
    · exact ⟨(S, m, ()), by simp, by simp only; omega⟩
theorem Cont.base {l : List (Int × Int × Unit)} {S many : Int} (h : Cont l S) (hm : 0 < many) : ∀ (n : Nat) (k : Nat), 16 * (k : Int) ≤ S → S - 16 * (k : Int) < 16 * (n : Int) → baseAt l many n (16 * (k : Int)) = S := by
  obtain ⟨h1, ⟨a, h2⟩, h3, h4⟩ := h
  intro n
  induction n with
  | zero => intro k hk hn; omega
  | succ n ih =>
    intro k hk hn
    by_cases c : 16 * (k : Int) = S
    · rw [c]
      apply baseAt_stop
      refine freeF_true fun j hj => ?_
      have := h3 _ (nth_mem (t := tRange) hj)
      rw [apartF_true]; simp only; omega
    · obtain ⟨y, hy, h8, h9⟩ := h4 (16 * (k : Int)) (by omega) (by omega)
      have hf : freeF (16 * (k : Int), many, ()) l = false := by
        obtain ⟨j, hj, e⟩ := mem_nth (t := tRange) hy
        refine freeF_false hj ?_
        rw [e, apartF_false]; simp only; omega
      rw [baseAt_go hf, show 16 * (k : Int) + 16 = 16 * ((k + 1 : Nat) : Int) by omega]
      exact ih (k + 1) (by omega) (by omega)
theorem round16 {n : Int} (h : 1 ≤ n) : ∃ k : Nat, roundF n = 16 * (k : Int) := ⟨((n + 15) / 16).toNat, by unfold roundF; omega⟩
theorem sumTo_mono {s : List Int} (hs : ∀ j, j < s.length → 1 ≤ (nth (.int .i64) s j : Int) ∧ (nth (.int .i64) s j : Int) ≤ 40) : ∀ d k, k + d ≤ s.length → sumTo s k ≤ sumTo s (k + d) := by
  intro d
  induction d with
  | zero => intro k _; exact Int.le_refl _
  | succ d ih =>
    intro k hk
    have h1 := ih k (by omega)
    have h2 := hs (k + d) (by omega)
    have h3 := roundF_range h2.1 h2.2
    have e : sumTo s (k + (d + 1)) = sumTo s (k + d) + roundF (nth (.int .i64) s (k + d)) := rfl
    rw [e]
    omega
end Go.Mrl

namespace Go.Mrl
open Go.Vg
theorem bases_at {s : List Int} (hs : ∀ j, j < s.length → 1 ≤ (nth (.int .i64) s j : Int) ∧ (nth (.int .i64) s j : Int) ≤ 40) : ∀ (d k : Nat) {l : List (Int × Int × Unit)} {o : List Int}, k + d = s.length → Cont l (sumTo s k) → sumTo s k ≤ 256 →
    o.length = s.length → goBases l (s.drop k) (o.take k) = some o → sumTo s s.length ≤ 256 ∧ ∀ i, k ≤ i → i < s.length → (nth (.int .i64) o i : Int) = sumTo s i := by
  intro d
  induction d with
  | zero =>
    intro k l o hk hc hle hl h
    have e : k = s.length := by omega
    subst e
    exact ⟨hle, fun i h1 h2 => by omega⟩
  | succ d ih =>
    intro k l o hk hc hle hl h
    have h2 := hs k (by omega)
    have h3 := roundF_range h2.1 h2.2
    have hb := hc.base (many := roundF (nth (.int .i64) s k)) (by omega) 40 0 (by have := hc.1; omega) (by omega)
    simp only [Int.natCast_zero, Int.mul_zero] at hb
    obtain ⟨n1, n2, n3⟩ := goBases_next (k := k) (by omega) h hl
    rw [hb] at n1 n2 n3
    have e : sumTo s (k + 1) = sumTo s k + roundF (nth (.int .i64) s k) := rfl
    obtain ⟨r1, r2⟩ := ih (k + 1) (by omega) (l := l ++ [(sumTo s k, roundF (nth (.int .i64) s k), ())]) (by rw [e]; exact hc.snoc (by omega) (round16 h2.1)) (by omega) hl n3
    refine ⟨r1, fun i h4 h5 => ?_⟩
    rcases Nat.lt_or_ge k i with c | c
    · exact r2 i (by omega) h5
    · rw [show i = k by omega]; exact n1
theorem bases_sum {s : List Int} (h : (basesF (s, [])).2.isNil = true) : (basesF (s, [])).1.length = s.length ∧ (∀ j, j < s.length → 1 ≤ (nth (.int .i64) s j : Int) ∧ (nth (.int .i64) s j : Int) ≤ 40) ∧
    sumTo s s.length ≤ 256 ∧ ∀ i, i < s.length → (nth (.int .i64) (basesF (s, [])).1 i : Int) = sumTo s i := by
  obtain ⟨_, _, h3, _, h5, h6⟩ := basesF_nil h
  obtain ⟨r1, r2⟩ := bases_at h3 s.length 0 (l := []) (o := (basesF (s, [])).1) (by omega) Cont.nil (by simp [sumTo]) h6 (by rw [List.drop_zero, List.take_zero]; exact h5)
  exact ⟨h6, h3, r1, fun i hi => r2 i (Nat.zero_le _) hi⟩
def sizesF (l : List (D tObject)) : List Int := l.map fun o => (o.2.1.length : Int)
def wordsF (l : List (D tObject)) : Ws := l.map fun o => o.2.1
theorem sizesF_len (l : List (D tObject)) : (sizesF l).length = l.length := by simp [sizesF]
theorem wordsF_len (l : List (D tObject)) : (wordsF l).length = l.length := by simp [wordsF]
theorem nth_map {t u : Ty} {f : D u → D t} {l : List (D u)} {i : Nat} (h : i < l.length) : nth t (l.map f) i = f (nth u l i) := by
  unfold nth; rw [List.getD_eq_getElem?_getD, List.getD_eq_getElem?_getD, List.getElem?_map, List.getElem?_eq_getElem h]; rfl
theorem sizesF_nth {l : List (D tObject)} {i : Nat} (h : i < l.length) : (nth (.int .i64) (sizesF l) i : Int) = ((nth tObject l i).2.1.length : Int) := nth_map (u := tObject) (t := .int .i64) h
theorem wordsF_nth {l : List (D tObject)} {i : Nat} (h : i < l.length) : nth tRow (wordsF l) i = (nth tObject l i).2.1 := nth_map (u := tObject) (t := tRow) h
noncomputable def ptsK (l : List (D tObject)) (b : List Int) (i : Nat) (ts : List (D tTie)) : List Pt := ts.map fun t => ((i : Int), t.1, (oneF l b i t).1, ())
noncomputable def ptsI (l : List (D tObject)) (b : List Int) : List (D tObject) → Nat → List Pt
  | [], _ => []
  | o :: r, i => ptsK l b i o.2.2.2.1 ++ ptsI l b r (i + 1)
structure Reck (rd : Rd) (root : Str) (ns : List Str) (os : List (D tObject)) (bs : List Int) (ps : List Pt) : Prop where
  e : scopeOf rd root = (ns, os, 0)
  sc : Scope rd root ns os
  eb : basesF (sizesF os, []) = (bs, .nil)
  ea : allF (os, bs) = (ps, .nil)
  bl : bs.length = os.length
  bi : InB bs
  pt : ps = ptsI os bs os 0
  one : ∀ k, k < os.length → ∀ t ∈ (nth tObject os k).2.2.2.1, (oneF os bs (k : Int) t).2.isNil = true
  okp : ∀ i, i < ps.length → okP (wordsF os) (nth tPatch ps i)
theorem Scope.obj {rd : Rd} {root : Str} {ns : List Str} {os : List (D tObject)} (ok : RdOK rd) (h : Scope rd root ns os) {i : Nat} (hi : i < os.length) : OkO (nth tObject os i) := by
  have := h.got i (by rw [← h.len]; exact hi)
  rw [this.2]; exact objAt_ok ok this.1
theorem Reck.put {rd : Rd} {root : Str} {ns : List Str} {os : List (D tObject)} {bs : List Int} {ps : List Pt} (h : Reck rd root ns os bs ps) : putF (wordsF os, ps) = (putL (wordsF os) ps, .nil) := putF_ok h.okp
theorem Reck.row {rd : Rd} {root : Str} {ns : List Str} {os : List (D tObject)} {bs : List Int} {ps : List Pt} (h : Reck rd root ns os bs ps) {i : Nat} (hi : i < os.length) : nth tRow (putL (wordsF os) ps) i = rowL (nth tObject os i).2.1 i ps := by
  have := putF_row (w := wordsF os) (l := ps) (i := i) (by rw [wordsF_len]; exact hi) h.okp
  rw [h.put, wordsF_nth hi] at this
  exact this
theorem Reck.sum {rd : Rd} {root : Str} {ns : List Str} {os : List (D tObject)} {bs : List Int} {ps : List Pt} (h : Reck rd root ns os bs ps) :
    (∀ j, j < os.length → 1 ≤ (nth tObject os j).2.1.length ∧ (nth tObject os j).2.1.length ≤ 40) ∧ sumTo (sizesF os) os.length ≤ 256 ∧ ∀ i, i < os.length → (nth (.int .i64) bs i : Int) = sumTo (sizesF os) i := by
  have hb : (basesF (sizesF os, [])).2.isNil = true := by rw [h.eb]; rfl
  have hn : (basesF (sizesF os, [])).1 = bs := by rw [h.eb]
  obtain ⟨_, h2, h3, h4⟩ := bases_sum hb
  rw [hn] at h4
  have hl := sizesF_len os
  refine ⟨fun j hj => ?_, by rw [hl] at h3; exact h3, fun i hi => h4 i (by omega)⟩
  have := h2 j (by omega)
  rw [sizesF_nth hj] at this
  exact ⟨Int.ofNat_le.1 this.1, Int.ofNat_le.1 this.2⟩
theorem Reck.apart {rd : Rd} {root : Str} {ns : List Str} {os : List (D tObject)} {bs : List Int} {ps : List Pt} (h : Reck rd root ns os bs ps) {i j : Nat} (hij : i < j) (hj : j < os.length) :
    (nth (.int .i64) bs i : Int) + (nth tObject os i).2.1.length ≤ nth (.int .i64) bs j := by
  obtain ⟨h1, h2, h3⟩ := h.sum
  have hs : ∀ j, j < (sizesF os).length → 1 ≤ (nth (.int .i64) (sizesF os) j : Int) ∧ (nth (.int .i64) (sizesF os) j : Int) ≤ 40 := by
    intro k hk
    rw [sizesF_len] at hk
    rw [sizesF_nth hk]
    have := h1 k hk
    exact ⟨Int.ofNat_le.2 this.1, Int.ofNat_le.2 this.2⟩
  have hm := sumTo_mono hs (j - (i + 1)) (i + 1) (by rw [sizesF_len]; omega)
  rw [show i + 1 + (j - (i + 1)) = j by omega] at hm
  have e : sumTo (sizesF os) (i + 1) = sumTo (sizesF os) i + roundF (nth (.int .i64) (sizesF os) i) := rfl
  have hr := (roundF_near (n := nth (.int .i64) (sizesF os) i)).1
  rw [sizesF_nth (by omega)] at hr e
  rw [h3 i (by omega), h3 j hj]
  exact Int.le_trans (Int.add_le_add_left hr _) (e ▸ hm)
end Go.Mrl

namespace Go.Mrl
open Go.Vg
def stampsF (rd : Rd) (ns : List Str) (bs : List Int) (n : Nat) : List (D tStamped) := (List.range n).map fun i => (nth .str ns i, (rd (nth .str ns i)).2.1, nth (.int .i64) bs i, ())
theorem stampsF_len (rd : Rd) (ns : List Str) (bs : List Int) (n : Nat) : (stampsF rd ns bs n).length = n := by simp [stampsF]
theorem stampsF_nth {rd : Rd} {ns : List Str} {bs : List Int} {n i : Nat} (h : i < n) : nth tStamped (stampsF rd ns bs n) i = (nth .str ns i, (rd (nth .str ns i)).2.1, nth (.int .i64) bs i, ()) := by
  apply nth_eq; simp [stampsF, h]
def freshP (rd : Rd) (p : D tStamped) : Bool := decide ((rd p.1).2.2 = 0) && decide ((rd p.1).2.1 = p.2.1)
def freshF (rd : Rd) (e : D tEntry) : Bool := e.2.1.all (freshP rd) && decide (0 < e.2.1.length)
theorem fresh_all {rd : Rd} {e : D tEntry} (h : ∀ i, i < e.2.1.length → freshP rd (nth tStamped e.2.1 i) = true) : freshF rd e = decide (0 < e.2.1.length) := by
  unfold freshF
  have : e.2.1.all (freshP rd) = true := List.all_eq_true.2 fun x hx => by
    obtain ⟨i, hi, rfl⟩ := mem_nth (t := tStamped) hx
    exact h i hi
  rw [this]; rfl
noncomputable def objsE (rd : Rd) (l : List (D tStamped)) : List (D tObject) := l.map fun p => (objR (rd p.1).1).1
theorem list_ext_nth {t : Ty} {a b : List (D t)} (hl : a.length = b.length) (h : ∀ i, i < a.length → nth t a i = nth t b i) : a = b := list_eq_nth (t := t) hl h
theorem Reck.fresh {rd : Rd} (ok : RdOK rd) {root : Str} {ns : List Str} {os : List (D tObject)} {bs : List Int} {ps : List Pt} (h : Reck rd root ns os bs ps) : freshF rd (root, stampsF rd ns bs ns.length, ps, ()) = true := by
  rw [fresh_all]
  · exact decide_eq_true (by show 0 < (stampsF rd ns bs ns.length).length; rw [stampsF_len]; exact h.sc.pos)
  · intro i hi
    have hi : i < ns.length := by have : i < (stampsF rd ns bs ns.length).length := hi; rwa [stampsF_len] at this
    show freshP rd (nth tStamped (stampsF rd ns bs ns.length) i) = true
    rw [stampsF_nth hi]
    unfold freshP
    rw [decide_eq_true (faultAt_zero ok (h.sc.got i hi).1).1, decide_eq_true rfl]; rfl
theorem Reck.objs {rd : Rd} {root : Str} {ns : List Str} {os : List (D tObject)} {bs : List Int} {ps : List Pt} (h : Reck rd root ns os bs ps) {rd' : Rd} (hs : ∀ s ∈ ns, (rd' s).1 = (rd s).1) : objsE rd' (stampsF rd ns bs ns.length) = os := by
  refine list_ext_nth (t := tObject) (by simp [objsE, stampsF, h.sc.len]) fun i hi => ?_
  have hi' : i < ns.length := by simpa [objsE, stampsF] using hi
  unfold objsE
  rw [nth_map (u := tStamped) (t := tObject) (by rw [stampsF_len]; exact hi'), stampsF_nth hi', (h.sc.got i hi').2]
  unfold objAt
  rw [hs _ (nth_mem (t := .str) hi')]
def manyE (e : D tEntry) : Prop := e.2.1.length < 1 ∨ e.2.1.length > 6 ∨ e.2.2.1.length > 36
instance (e : D tEntry) : Decidable (manyE e) := by unfold manyE; infer_instance
end Go.Mrl

namespace Go.Mrl
open Go.Vg
open Classical in
noncomputable def sameO (a b : D tObject) : Bool := decide (a = b)
theorem sameO_self (a : D tObject) : sameO a a = true := by unfold sameO; simp
theorem sameO_true {a b : D tObject} (h1 : sameS a.1 b.1 = true) (h2 : sameI a.2.1 b.2.1 = true) (l3 : (a.2.2.1.length : Int) = b.2.2.1.length) (l4 : (a.2.2.2.1.length : Int) = b.2.2.2.1.length)
    (h3 : ∀ i, i < a.2.2.1.length → nth tSymbol a.2.2.1 i = nth tSymbol b.2.2.1 i) (h4 : ∀ i, i < a.2.2.2.1.length → nth tTie a.2.2.2.1 i = nth tTie b.2.2.2.1 i) : true = sameO a b := by
  obtain ⟨a1, a2, a3, a4, _⟩ := a
  obtain ⟨b1, b2, b3, b4, _⟩ := b
  have e1 : a1 = b1 := of_decide_eq_true h1
  have e2 : a2 = b2 := of_decide_eq_true h2
  have e3 : a3 = b3 := list_eq_nth (t := tSymbol) (Int.ofNat_inj.1 l3) h3
  have e4 : a4 = b4 := list_eq_nth (t := tTie) (Int.ofNat_inj.1 l4) h4
  rw [e1, e2, e3, e4]; exact (sameO_self _).symm
theorem sameO_ne {a b : D tObject} (h : ¬ a = b) : false = sameO a b := by unfold sameO; simp [h]
theorem sameO_s {a b : D tObject} (h : sameS a.1 b.1 = false) : false = sameO a b := sameO_ne fun e => of_decide_eq_false h (by rw [e])
theorem sameO_i {a b : D tObject} (h : sameI a.2.1 b.2.1 = false) : false = sameO a b := sameO_ne fun e => of_decide_eq_false h (by rw [e])
theorem sameO_l3 {a b : D tObject} (h : ¬ (a.2.2.1.length : Int) = b.2.2.1.length) : false = sameO a b := sameO_ne fun e => h (by rw [e])
theorem sameO_l4 {a b : D tObject} (h : ¬ (a.2.2.2.1.length : Int) = b.2.2.2.1.length) : false = sameO a b := sameO_ne fun e => h (by rw [e])
theorem sameO_y {a b : D tObject} {i : Nat} (h : ¬ nth tSymbol a.2.2.1 i = nth tSymbol b.2.2.1 i) : false = sameO a b := sameO_ne fun e => h (by rw [e])
theorem sameO_t {a b : D tObject} {i : Nat} (h : ¬ nth tTie a.2.2.2.1 i = nth tTie b.2.2.2.1 i) : false = sameO a b := sameO_ne fun e => h (by rw [e])
end Go.Mrl

