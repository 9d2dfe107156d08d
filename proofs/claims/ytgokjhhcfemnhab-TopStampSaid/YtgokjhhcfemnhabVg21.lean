/- A part of the proof that the law TopStamp holds of the given program: facts that are used there. -/
import Derived.Test.YtgokjhhcfemnhabVg20
import Derived.ProofKit
namespace Go.Vg
open Go.RowKit
/-- No errors within, and nothing that is not read. -/
def Ty.plain : Ty → Bool
  | .err | .opq => false
  | .prod a b => a.plain && b.plain
  | .slice e => e.plain
  | _ => true
/-- Slices of things that have cells. -/
def Ty.low : Ty → Bool
  | .slice e => Nat.blt 0 e.size && e.low
  | .prod a b => a.low && b.low
  | _ => true
section
variable {H : Type} {enc : TypeId × Value → H} {P : Program} {w : World} {base : Nat} {sp : Nat → Bool} {held : Bool} {eT : TypeId}
theorem Fit.cellsOf {t : TypeId} {ty : Ty} {i : TypeInfo} {d : TypeDesc} (h : Fit P t ty i d) : P.cellsOf t = ty.size := by
  unfold Program.cellsOf; rw [h.info]; exact h.size
theorem open_fields {f : TypeId → Ty → Bool} {cs : List Value} {fuel : Nat}
    (ih : ∀ t ty, f t ty = true → P.cellsOf t = ty.size ∧ ∀ us d ps, ty.plain = true → ty.low = true → DataW.trod enc P w base sp held fuel t us = some (d, ps) → ∃ x, R eT ty x None' w us) :
    ∀ (gs : List Field) (off : Nat) (ty : Ty) (xs : List (DataW H × List MemPlace)), fieldsFit f gs off ty = true → ty.plain = true → ty.low = true →
      gs.mapM (fun f => DataW.trod enc P w base sp held fuel f.type ((cs.drop f.offset).take (P.cellsOf f.type))) = some xs → cs.length = off + ty.size → ∃ x, R eT ty x None' w (cs.drop off) := by
  intro gs
  induction gs with
  | nil =>
    intro off ty xs h hp hs hm hl
    cases ty <;> simp [fieldsFit] at h
    refine ⟨(), ?_⟩
    show cs.drop off = []
    exact List.drop_eq_nil_of_le (by simp [Ty.size] at hl; omega)
  | cons g gs ihg =>
    intro off ty xs h hp hs hm hl
    cases ty <;> simp [fieldsFit] at h
    rename_i a b
    obtain ⟨⟨⟨h1, h2⟩, h3⟩, h4⟩ := h
    simp only [Ty.plain, Bool.and_eq_true] at hp
    simp only [Ty.size] at hl
    rw [List.mapM_cons] at hm
    obtain ⟨k1, k2⟩ := ih _ _ h2
    subst h1
    rw [k1] at hm
    cases hx : DataW.trod enc P w base sp held fuel g.type ((cs.drop g.offset).take a.size) with
    | none => simp [hx] at hm
    | some y =>
      cases hxs : gs.mapM (fun f => DataW.trod enc P w base sp held fuel f.type ((cs.drop f.offset).take (P.cellsOf f.type))) with
      | none => simp [hx, hxs] at hm
      | some ys =>
        simp only [Ty.low, Bool.and_eq_true] at hs
        obtain ⟨x, rx⟩ := k2 _ y.1 y.2 hp.1 hs.1 hx
        obtain ⟨z, rz⟩ := ihg _ _ _ h4 hp.2 hs.2 hxs (by omega)
        refine ⟨(x, z), _, _, ?_, rx, rz⟩
        rw [← List.drop_drop, List.take_append_drop]
theorem open_cells : ∀ (n : Nat) (t : TypeId) (ty : Ty), fits P n t ty = true → P.cellsOf t = ty.size ∧ ∀ fuel us d ps, ty.plain = true → ty.low = true →
    DataW.trod enc P w base sp held fuel t us = some (d, ps) → ∃ x, R eT ty x None' w us := by
  intro n
  induction n with
  | zero => intro t ty h; simp [fits] at h
  | succ n ih =>
    intro t ty h
    obtain ⟨m, i, dsc, hm, fit, hsh⟩ := fits_out h
    cases hm
    refine ⟨fit.cellsOf, fun fuel us d ps hp hs hd => ?_⟩
    cases fuel with
    | zero => simp [DataW.trod] at hd
    | succ fuel =>
      unfold DataW.trod at hd
      rw [fit.und] at hd
      cases ty with
      | bool =>
        cases dsc <;> simp [shapeFit] at hsh
        split at hd
        case h_1 _ _ b _ => exact ⟨b, rfl⟩
        all_goals simp_all
      | int k =>
        cases dsc <;> simp [shapeFit] at hsh
        subst hsh
        split at hd
        case h_2 _ _ k1 k2 x h0 =>
          cases h0
          split at hd
          · rename_i h1
            obtain ⟨rfl, h1⟩ := h1
            simp only [Lit.wf, Bool.and_eq_true, decide_eq_true_eq] at h1
            exact ⟨x, rfl, h1⟩
          · cases hd
        all_goals simp_all
      | str =>
        cases dsc <;> simp [shapeFit] at hsh
        split at hd
        case h_4 _ _ s _ =>
          split at hd
          · rename_i h1
            refine ⟨s.data.toList, ?_, ?_⟩
            · rw [Array.toArray_toList]
            · unfold maxLen at h1
              unfold big
              rw [Array.length_toList]
              exact h1
          · cases hd
        all_goals simp_all
      | err => simp [Ty.plain] at hp
      | opq => simp [Ty.plain] at hp
      | unit =>
        cases dsc <;> simp [shapeFit] at hsh
        rename_i fs
        simp only at hd
        split at hd
        · rename_i hl
          rw [fit.cellsOf] at hl
          refine ⟨(), ?_⟩
          exact List.length_eq_zero_iff.1 hl
        · cases hd
      | prod a b =>
        cases dsc <;> simp [shapeFit] at hsh
        rename_i fs
        simp only at hd
        split at hd
        · rename_i hl
          rw [fit.cellsOf] at hl
          cases hxs : fs.toList.mapM (fun f => DataW.trod enc P w base sp held fuel f.type ((us.drop f.offset).take (P.cellsOf f.type))) with
          | none => rw [hxs] at hd; simp at hd
          | some xs =>
            obtain ⟨x, hx⟩ := open_fields (fun t ty hf => ⟨(ih t ty hf).1, (ih t ty hf).2 fuel⟩) _ _ _ _ hsh hp hs hxs (by omega)
            exact ⟨x, by simpa using hx⟩
        · cases hd
      | slice e =>
        cases dsc <;> simp [shapeFit] at hsh
        rename_i te
        simp only [Ty.low, Bool.and_eq_true] at hs
        have hpos := blt_lt hs.1
        obtain ⟨hce, hel⟩ := ih te e hsh
        split at hd
        case h_7 => exact ⟨[], _, rfl, by simp [big], .inl ⟨rfl, _, _, rfl⟩⟩
        case h_8 _ _ te' b l c h0 =>
          cases h0
          simp only at hd
          split at hd
          case isFalse => cases hd
          rename_i hcond
          obtain ⟨hb, hlc, hcm⟩ := hcond
          obtain ⟨es, hes, _⟩ := Option.bind_eq_some_iff.1 hd
          rw [hce] at hes
          have hlen := mapM_some_length hes
          simp only [List.length_range] at hlen
          by_cases hl0 : l = 0
          · subst hl0
            exact ⟨[], _, rfl, by simp [big], .inl ⟨rfl, _, _, rfl⟩⟩
          have hspot : b.spot = none := by
            have h1 := mapM_some_get hes 0 0 (by rw [List.getElem?_range (by omega)])
            rw [List.getElem?_eq_getElem (by omega)] at h1
            obtain ⟨us, hu, hd1⟩ := Option.bind_eq_some_iff.1 h1
            obtain ⟨_, q1, q2⟩ := World.cells?_some hu
            have q3 := q2 0 hpos
            rw [List.getElem?_eq_getElem (by omega)] at q3
            have e0 : (b.add (0 * e.size)).add 0 = b := by simp [Addr.add]
            rw [e0] at q3
            unfold World.cell? at q3
            split at q3
            · cases hb0 : b.spot with
              | none => rfl
              | some k => rw [hb0] at q3; simp at q3
            · cases q3
          obtain ⟨bb, oo, so⟩ := b
          simp only at hspot
          subst hspot
          have hget : ∀ i, i < l → ∃ x us, R eT e x None' w us ∧ Row None' w bb (oo + i * e.size) us := by
            intro i hi
            have h1 := mapM_some_get hes i i (by simp [hi])
            rw [List.getElem?_eq_getElem (by omega)] at h1
            obtain ⟨us, hu, hd1⟩ := Option.bind_eq_some_iff.1 h1
            obtain ⟨_, q1, q2⟩ := World.cells?_some hu
            obtain ⟨x, hx⟩ := hel fuel us (es[i]'(by omega)).1 (es[i]'(by omega)).2 hp hs.2 hd1
            refine ⟨x, us, hx, fun j u hj => ⟨?_, id⟩⟩
            have hjl : j < us.length := by
              rcases Nat.lt_or_ge j us.length with h | h
              · exact h
              · rw [List.getElem?_eq_none h] at hj; cases hj
            have := q2 j (by omega)
            rw [Addr.add_lit, Addr.add_lit] at this
            rw [this, hj]
          let xs : List (D e) := (List.range l).map fun i => if h : i < l then (hget i h).choose else zeroD e
          have hxl : xs.length = l := by simp [xs]
          have hxi : ∀ i y, xs[i]? = some y → ∃ us, R eT e y None' w us ∧ Row None' w bb (oo + i * e.size) us := by
            intro i y hy
            have hi : i < l := by
              rcases Nat.lt_or_ge i l with h | h
              · exact h
              · rw [List.getElem?_eq_none (by omega)] at hy; cases hy
            have : xs[i]? = some (hget i hi).choose := by simp [xs, hi]
            rw [this] at hy
            cases hy
            exact (hget i hi).choose_spec
          refine ⟨xs, _, rfl, ?_, .inr ⟨bb, oo, c, ?_, ?_, hxi⟩⟩
          · rw [hxl]; unfold maxLen at hcm; unfold big; omega
          · rw [hxl]
          · rw [hxl]; exact hlc
        all_goals simp_all
theorem open_val {n : Nat} {t : TypeId} {ty : Ty} (hf : fits P n t ty = true) (hp : ty.plain = true) (hlow : ty.low = true) {r : Reach} {b : Nat} {v : Value} (hval : Value.okWide P w r b t v) {d : DataW H} {ps : List MemPlace}
    (hd : DataW.Trod enc P w base sp held t v d ps) : ∃ x, VR eT ty x None' w v := by
  obtain ⟨m, i, dsc, hm, fit, hsh⟩ := fits_out hf
  obtain ⟨fuel, hd⟩ := hd
  have key : ∃ x, R eT ty x None' w v.cells.toList := (open_cells (eT := eT) n t ty hf).2 fuel _ _ _ hp hlow hd
  unfold Value.okWide at hval
  rw [fit.und] at hval
  have one : ty.one = true → Cell.okWide P w r b t v → (v.cells.toList = [v]) → ∃ x, VR eT ty x None' w v := by
    intro h1 h2 h3
    rw [h3] at key
    obtain ⟨x, hx⟩ := key
    exact ⟨x, VR.of_one h1 hx⟩
  have agg : ty.one = false → (∃ cs, v = .agg cs ∧ cs.size = P.cellsOf t ∧ Row.okWide P w r b t cs) → ∃ x, VR eT ty x None' w v := by
    rintro h1 ⟨cs, rfl, _, ts, _, _, h2⟩
    obtain ⟨x, hx⟩ := key
    refine ⟨x, ?_⟩
    unfold VR
    rw [if_neg (by simp [h1])]
    exact ⟨cs, rfl, hx⟩
  cases ty with
  | err => simp [Ty.plain] at hp
  | opq => simp [Ty.plain] at hp
  | prod a b => cases dsc <;> simp [shapeFit] at hsh; exact agg rfl hval
  | unit => cases dsc <;> simp [shapeFit] at hsh; exact agg rfl hval
  | bool =>
    cases dsc <;> simp [shapeFit] at hsh
    refine one rfl hval ?_
    cases v <;> simp [Cell.okWide, Cell.ok, fit.und, Value.cells] at hval ⊢
  | int k =>
    cases dsc <;> simp [shapeFit] at hsh
    refine one rfl hval ?_
    cases v <;> simp [Cell.okWide, Cell.ok, fit.und, Value.cells] at hval ⊢
  | str =>
    cases dsc <;> simp [shapeFit] at hsh
    refine one rfl hval ?_
    cases v <;> simp [Cell.okWide, Cell.ok, fit.und, Value.cells] at hval ⊢
  | slice e =>
    cases dsc <;> simp [shapeFit] at hsh
    refine one rfl hval ?_
    cases v <;> simp [Cell.okWide, Cell.ok, fit.und, Value.cells] at hval ⊢
/-- All arguments at once. -/
def fitsAll (P : Program) (n : Nat) : List TypeId → List Ty → Bool
  | [], [] => true
  | t :: ts, ty :: tys => fits P n t ty && ty.plain && ty.low && fitsAll P n ts tys
  | _, _ => false
theorem open_args {n : Nat} {r : Reach} {b : Nat} : ∀ (ts : List TypeId) (tys : List Ty) (vs : List Value) (ds : List (DataW H)) (ps : List MemPlace), fitsAll P n ts tys = true →
    (∀ (j : Nat) t v, ts[j]? = some t → vs[j]? = some v → Value.okWide P w r b t v) → DataW.TrodAll enc P w base sp held ts vs ds ps → ∃ xs, ArgsR eT None' w tys xs vs := by
  intro ts
  induction ts with
  | nil =>
    intro tys vs ds ps hf hv h
    cases tys <;> simp [fitsAll] at hf
    cases vs <;> cases ds <;> simp [DataW.TrodAll] at h
    exact ⟨(), rfl⟩
  | cons t ts ih =>
    intro tys vs ds ps hf hv h
    cases tys <;> simp [fitsAll] at hf
    rename_i ty tys
    obtain ⟨⟨⟨h1, h2⟩, h3⟩, h4⟩ := hf
    cases vs <;> cases ds <;> simp [DataW.TrodAll] at h
    rename_i v vs d ds
    obtain ⟨p, hp, q, hq, _⟩ := h
    obtain ⟨x, hx⟩ := open_val (eT := eT) h1 h2 h3 (hv 0 t v rfl rfl) hp
    obtain ⟨xs, hxs⟩ := ih tys vs ds q h4 (fun j t' v' h1 h2 => hv (j + 1) t' v' h1 h2) hq
    cases tys with
    | nil => exact ⟨x, v, by rw [show vs = [] from hxs], hx⟩
    | cons ty' tys => exact ⟨(x, xs), v, vs, rfl, hx, hxs⟩
/-- What was read reads as it did. -/
theorem stays_args (hl : laidOutB P = true) {W W' : World} (hb : Below W.heap.size W W') : ∀ (ts : List TypeId) (vs : List Value) (ds : List (DataW H)) (ps : List MemPlace), (ts.all fun t => P.readableRec t && Nat.blt t P.types.size) = true →
    DataW.TrodAll enc P W 0 (fun _ => true) true ts vs ds ps → (∀ x ∈ ps, x.block < W.heap.size) → DataW.TrodAll enc P W' 0 (fun b => decide (b < W.heap.size)) true ts vs ds ps := by
  intro ts
  induction ts with
  | nil => intro vs ds ps _ h _; cases vs <;> cases ds <;> simp [DataW.TrodAll] at h ⊢; exact h
  | cons t ts ih =>
    intro vs ds ps hr h hlt
    simp only [List.all_cons, Bool.and_eq_true] at hr
    cases vs <;> cases ds <;> simp only [DataW.TrodAll] at h ⊢
    rename_i v vs d ds
    obtain ⟨p, q, hp, hq, rfl⟩ := h
    exact ⟨p, q, WideElems.Trod_stays hl hr.1.1 (blt_lt hr.1.2) hp (fun x hx => hb.same (hlt x (by simp [hx]))) (fun x hx => by simpa using hlt x (by simp [hx])), ih vs ds q hr.2 hq (fun x hx => hlt x (by simp [hx])), rfl⟩
theorem len_trod : ∀ {ts : List TypeId} {vs : List Value} {ds : List (DataW H)} {ps : List MemPlace}, DataW.TrodAll enc P w base sp held ts vs ds ps → vs.length = ts.length ∧ ds.length = ts.length
  | [], [], [], _, _ => ⟨rfl, rfl⟩
  | _ :: _, _ :: _, _ :: _, _, ⟨_, _, _, h, _⟩ => by simp [len_trod h]
/-- A law: whatever comes in, it is true, and nothing has turned. -/
theorem law_calls {C : Checked} {f : FuncId} {fn : Func} {s : ChangeSpec} {tys : List Ty} {pre : HL tys → Prop} (hs : s.vars = []) (hl : laidOutB C.prog = true)
    (hsp : ∀ ds : List (DataW H), ds.length = tys.length → s.fn H ds = { results := [.lit (.bool true)], args := ds })
    {n : Nat} (hf : fitsAll C.prog n fn.params.toList tys = true) (hr : (fn.params.toList.all fun t => C.prog.readableRec t && Nat.blt t C.prog.types.size) = true)
    {tb : TypeId} (hres : fn.resultTypes = #[tb]) (hb : C.prog.underlying tb = some .bool)
    (h : PureOK C.prog eT f tys [.bool] pre (fun _ y => y = true))
    {W : World} {base : Nat} {args : Array Value} {ds gs : List (DataW H)} {before : List MemPlace}
    (hval : ∀ (j : Nat) t v, fn.params[j]? = some t → args[j]? = some v → Value.okWide C.prog W .any base t v)
    (hW : DataW.Whole enc C.prog fn.params.toList s.vars false W args.toList ds gs before)
    (hpre : ∀ xs, ArgsR eT None' W tys xs args.toList → pre xs) :
    Calls C.prog f args W fun e W' => ∃ v, e = .returned v ∧ s.post enc C.prog fn false true false false W args v W' := by
  have hW0 := hW
  obtain ⟨p, q, hA, hV, rfl, _, _⟩ := hW
  rw [hs] at hV
  obtain ⟨rfl, rfl⟩ : gs = [] ∧ q = [] := by cases gs <;> simp [DataW.TrodVars] at hV; exact ⟨rfl, hV⟩
  obtain ⟨xs, hxs⟩ := open_args (eT := eT) _ _ _ _ _ hf (fun j t v h1 h2 => hval j t v (by rw [← Array.getElem?_toList]; exact h1) (by rw [← Array.getElem?_toList]; exact h2)) hA
  have := h.ok None' W xs args.toList (fun _ _ h => h.elim) hxs (hpre xs hxs)
  rw [Array.toArray_toList] at this
  refine this.mono ?_
  rintro e W' ⟨us, ys, rfl, rfl, hr', hbel⟩
  obtain ⟨u, rfl, hu⟩ := hr'
  have hu : u = .bool true := by
    have := VR.one rfl hu
    simpa [R] using this
  subst hu
  have hlen : ds.length = tys.length := by
    have h1 := hxs.length
    have h2 := len_trod hA
    omega
  simp only [List.append_nil] at hW0 ⊢
  have hlt : ∀ x ∈ p, x.block < W.heap.size := hW0.lt
  refine ⟨_, rfl, ds, [], p, [], p, [], hW0, ?_, ?_, ?_, hbel.frame _, fun hh => by cases hh⟩
  · rw [List.append_nil, hsp ds hlen, hres]
    exact ⟨[], [], shut_bool hb true, rfl, rfl⟩
  · rw [List.append_nil, hsp ds hlen]
    exact stays_args hl hbel _ _ _ _ hr hA hlt
  · rw [List.append_nil, hsp ds hlen, hs]
    rfl
end
end Go.Vg
