/- A part of the proof that the law TopStamp holds of the given program: facts that are used there. -/
import Derived.Test.YtgokjhhcfemnhabVg19
namespace Go.Vg
open Go.RowKit
section
variable {X : Ext} {P : Program} {cx : Cx}
theorem A_of_O {O : Avoid} {st : St} {loc : Nat → Loc} {w : World} {b o : Nat} (h : ¬ (sit O st loc w).A b o) : ¬ O b o := fun k => h (.inl k)
theorem to_O {O : Avoid} {st : St} {loc : Nat → Loc} {w : World} {t : Ty} {x : D t} {v : Value} {eT : TypeId} (h : VR eT t x (sit O st loc w).A w v) : VR eT t x O w v :=
  VR.frame h fun _ _ _ ha hc => ⟨hc, A_of_O ha⟩
theorem mrow_vr {O : Avoid} {st : St} {loc : Nat → Loc} {w : World} (g : Good cx.eT X (sit O st loc w)) {n : Nat} {t : Ty} {xs : List (D t)} (hob : look st.objs n = some (.mrow t xs))
    {v : Value} (hx : CR cx.eT (sit O st loc w) (.mrow n) v) : VR cx.eT (.slice t) xs O w v := by
  rcases (g.obj _ _ hob).2 with ⟨rfl, ⟨a, ha⟩, _⟩ | ⟨b, vs, T, cap, hl, hbs, hheap, hvs, hcap, hbig, he⟩
  · exact VR.of_one rfl ⟨_, rfl, by simp, .inl ⟨rfl, a, 0, (hx.2 _ _ hob).trans ha⟩⟩
  refine VR.of_one rfl ⟨_, rfl, hbig, .inr ⟨b, 0, cap, (hx.2 _ _ hob).trans hl, hcap, fun i y hy => ?_⟩⟩
  obtain ⟨us, h1, h2⟩ := he i y hy
  refine ⟨us, h1.frame fun _ _ _ ha hc => ⟨hc, A_of_O ha⟩, fun j u hj => ⟨?_, ?_⟩⟩
  · rw [Nat.zero_add, cell_of_row w b _ vs T (0, 0) hheap]; exact h2 j u hj
  · exact g.out n _ b _ hob (by rw [hbs]; simp)
theorem deep_vr {O : Avoid} {st : St} {loc : Nat → Loc} {w : World} (g : Good cx.eT X (sit O st loc w)) {n : Nat} {t : Ty} {xs : D t} (hob : look st.objs n = some (.ext 0 t xs))
    {v : Value} (hx : CR cx.eT (sit O st loc w) (.xd n .top) v) {A : Avoid} (hA : ∀ b ∈ (loc n).bs, ∀ o, ¬ A b o) : VR cx.eT t xs A w v := by
  have hd : DeepR t xs (loc n) w := X.deep.1 (g.obj _ _ hob).2
  obtain ⟨e, s, rfl, hs⟩ := deep_spot hd
  exact hd.data (hx.2 _ _ hob) hA
theorem deepD_rel {O : Avoid} {st : St} {loc : Nat → Loc} {w : World} (g : Good cx.eT X (sit O st loc w)) {n : Nat} {t : Ty} {xs : D t} (h : deepD st t n = some xs)
    {v : Value} (hx : CR cx.eT (sit O st loc w) (.xd n .top) v) : VR cx.eT t xs O w v := by
  unfold deepD at h
  split at h
  · rename_i t' ys hob
    split at h
    · cases h; rename_i hb
      exact castD_vr hb _ (deep_vr g hob hx fun b hb o => g.out n _ b o hob hb)
    · cases h
  · cases h
theorem asF_rel {O : Avoid} {st : St} {loc : Nat → Loc} {w : World} (g : Good cx.eT X (sit O st loc w)) {want : Ty} {c : C} {x : D want} {v : Value} (h : asF st want c = some x)
    (hc : CR cx.eT (sit O st loc w) c v) : VR cx.eT want x O w v := by
  unfold asF at h
  split at h
  · rename_i n
    split at h
    · rename_i t xs hob
      split at h
      · cases h; rename_i hb; exact castD_vr hb _ (mrow_vr g hob hc)
      · cases h
    · cases h
  · exact deepD_rel g h hc
  · exact to_O (asD_rel h hc)
theorem packF_rel {O : Avoid} {st : St} {loc : Nat → Loc} {w : World} (g : Good cx.eT X (sit O st loc w)) : ∀ {t : Ty} {cs cs' : List C} {x : D t} {vs : List Value}, packF st t cs = some (x, cs') → CRs cx.eT (sit O st loc w) cs vs →
    ∃ us vs', vs = us ++ vs' ∧ R cx.eT t x O w us ∧ CRs cx.eT (sit O st loc w) cs' vs' := by
  have one : ∀ {t : Ty} {c : C} {cs cs' : List C} {x : D t} {vs : List Value}, (match asF st t c with | some x => some (x, cs) | none => none) = some (x, cs') → CRs cx.eT (sit O st loc w) (c :: cs) vs →
      ∃ us vs', vs = us ++ vs' ∧ R cx.eT t x O w us ∧ CRs cx.eT (sit O st loc w) cs' vs' := by
    intro t c cs cs' x vs h hc
    cases hc with
    | cons h1 h2 h3 =>
      rename_i v vs0
      split at h
      · rename_i y hy
        cases h
        exact ⟨[v], vs0, rfl, (R_of_one_VR h2 (asF_rel g hy h1)).2, h3⟩
      · cases h
  intro t
  induction t with
  | prod a b iha ihb =>
    intro cs cs' x vs h hc
    simp only [packF] at h
    split at h
    · rename_i y cs1 h1
      split at h
      · rename_i z cs2 h2
        cases h
        obtain ⟨u1, v1, rfl, r1, k1⟩ := iha h1 hc
        obtain ⟨u2, v2, rfl, r2, k2⟩ := ihb h2 k1
        exact ⟨u1 ++ u2, v2, by simp, ⟨u1, u2, rfl, r1, r2⟩, k2⟩
      · cases h
    · cases h
  | unit =>
    intro cs cs' x vs h hc
    simp only [packF] at h
    cases h
    exact ⟨[], vs, rfl, rfl, hc⟩
  | bool => intro cs cs' x vs h hc; cases cs with | nil => simp [packF] at h | cons c cs => exact one (t := .bool) h hc
  | int k => intro cs cs' x vs h hc; cases cs with | nil => simp [packF] at h | cons c cs => exact one (t := .int k) h hc
  | str => intro cs cs' x vs h hc; cases cs with | nil => simp [packF] at h | cons c cs => exact one (t := .str) h hc
  | err => intro cs cs' x vs h hc; cases cs with | nil => simp [packF] at h | cons c cs => exact one (t := .err) h hc
  | opq => intro cs cs' x vs h hc; cases cs with | nil => simp [packF] at h | cons c cs => exact one (t := .opq) h hc
  | slice e _ => intro cs cs' x vs h hc; cases cs with | nil => simp [packF] at h | cons c cs => exact one (t := .slice e) h hc
theorem asF0_rel {O : Avoid} {st : St} {loc : Nat → Loc} {w : World} (g : Good cx.eT X (sit O st loc w)) {want : Ty} {c : SV0} {x : D want} {v : Value} (h : asF0 st want c = some x)
    (hc : SV0R cx.eT (sit O st loc w) c v) : VR cx.eT want x O w v := by
  cases c with
  | one c => exact asF_rel g h hc
  | agg cs =>
    simp only [asF0] at h
    obtain ⟨vs, rfl, hcs⟩ := hc
    split at h
    · cases h
    · rename_i ho
      split at h
      · rename_i y hy
        cases h
        obtain ⟨us, vs', rfl, r, k⟩ := packF_rel g hy hcs
        cases k
        unfold VR
        rw [if_neg (by simp [ho])]
        exact ⟨_, rfl, by simpa using r⟩
      · cases h
theorem resD_rel {O : Avoid} {st : St} {loc : Nat → Loc} {w : World} (g : Good cx.eT X (sit O st loc w)) : ∀ {ts : List Ty} {vs : List SV0} {ys : HL ts} {us : List Value}, resD st ts vs = some ys →
    SV0Rs cx.eT (sit O st loc w) vs us → ArgsR cx.eT O w ts ys us
  | [], [], _, _, _, .nil => rfl
  | [t], [a], ys, _, h, .cons h1 .nil => ⟨_, rfl, asF0_rel g h h1⟩
  | t :: u :: r, a :: as, ys, _, h, .cons h1 h2 => by
    simp only [resD] at h
    split at h
    · rename_i x xs k1 k2
      cases h
      exact ⟨_, _, rfl, asF0_rel g k1 h1, resD_rel g k2 h2⟩
    · cases h
  | [], _ :: _, _, _, h, _ => by simp [resD] at h
  | [_], [], _, _, h, _ => by simp [resD] at h
  | [_], _ :: _ :: _, _, _, h, _ => by simp [resD] at h
  | _ :: _ :: _, [], _, _, h, _ => by simp [resD] at h
theorem argEnv_rel {eT : TypeId} {O : Avoid} {w : World} {S : Sit} (hS : S.w = w) (hA : ∀ b o, ¬ O b o → ¬ S.A b o) : ∀ (ts : List Ty) (k : Nat) (xs : HL ts) (vs : List Value), ArgsR eT O w ts xs vs →
    ∀ t sv, look (argEnv k ts xs) t = some sv → k ≤ t ∧ ∃ v, vs[t - k]? = some v ∧ SVR eT S sv v
  | [], k, xs, vs, _, t, sv, h => by simp [argEnv, look] at h
  | [ty], k, x, _, ⟨v, rfl, hv⟩, t, sv, h => by
    simp only [argEnv, look_cons] at h
    split at h
    · cases h
      rename_i e; subst e
      exact ⟨Nat.le_refl _, v, by simp, VR.frame hv fun b o _ ha hc => ⟨by rw [hS]; exact hc, hA b o ha⟩⟩
    · simp [look] at h
  | ty :: u :: r, k, xs, _, ⟨v, vs', rfl, hv, hr⟩, t, sv, h => by
    simp only [argEnv, look_cons] at h
    split at h
    · cases h
      rename_i e; subst e
      exact ⟨Nat.le_refl _, v, by simp, VR.frame hv fun b o _ ha hc => ⟨by rw [hS]; exact hc, hA b o ha⟩⟩
    · obtain ⟨h1, v', h2, h3⟩ := argEnv_rel hS hA (u :: r) (k + 1) xs.2 vs' hr t sv h
      refine ⟨by omega, v', ?_, h3⟩
      rw [show t - k = (t - (k + 1)) + 1 from by omega, List.getElem?_cons_succ]
      exact h2
theorem ArgsR.length {eT : TypeId} {O : Avoid} {w : World} : ∀ {ts : List Ty} {xs : HL ts} {vs : List Value}, ArgsR eT O w ts xs vs → vs.length = ts.length
  | [], _, _, h => by rw [show _ = [] from h]; rfl
  | [_], _, _, ⟨_, rfl, _⟩ => rfl
  | _ :: u :: r, _, _, ⟨_, _, rfl, _, h⟩ => by simp [ArgsR.length h]
/-- What every thing of a type is like. -/
def wf : (t : Ty) → D t → Prop
  | .int k, x => k.min ≤ x ∧ x ≤ k.max
  | .str, x => x.length ≤ big
  | .prod a b, x => wf a x.1 ∧ wf b x.2
  | .slice e, x => x.length ≤ big ∧ ∀ (i : Nat) y, x[i]? = some y → wf e y
  | _, _ => True
def wfL : (ts : List Ty) → HL ts → Prop
  | [], _ => True
  | [t], x => wf t x
  | t :: u :: r, xs => wf t xs.1 ∧ wfL (u :: r) xs.2
theorem R.wf {eT : TypeId} : ∀ {t : Ty} {x : D t} {A : Avoid} {w : World} {vs : List Value}, R eT t x A w vs → Vg.wf t x := by
  intro t
  induction t with
  | int k => intro x A w vs h; exact h.2
  | str => intro x A w vs h; exact h.2
  | prod a b iha ihb => intro x A w vs h; obtain ⟨_, _, _, h1, h2⟩ := h; exact ⟨iha h1, ihb h2⟩
  | slice e ih =>
    intro x A w vs h
    obtain ⟨v, _, hl, h⟩ := h
    refine ⟨hl, fun i y hy => ?_⟩
    rcases h with ⟨rfl, _⟩ | ⟨b, o, cap, _, _, h⟩
    · simp at hy
    · obtain ⟨us, h1, _⟩ := h i y hy; exact ih h1
  | _ => intro x A w vs h; trivial
theorem VR.wf {eT : TypeId} {t : Ty} {x : D t} {A : Avoid} {w : World} {v : Value} (h : VR eT t x A w v) : Vg.wf t x := (VR.cells h).wf
theorem ArgsR.wf {eT : TypeId} {O : Avoid} {w : World} : ∀ {ts : List Ty} {xs : HL ts} {vs : List Value}, ArgsR eT O w ts xs vs → wfL ts xs
  | [], _, _, _ => trivial
  | [_], _, _, ⟨_, _, h⟩ => h.wf
  | _ :: _ :: _, _, _, ⟨_, _, _, h, h'⟩ => ⟨h.wf, ArgsR.wf h'⟩
/-- A function that only computes: its condition for every argument. -/
theorem pure_of_vc {B : Cx} {X : Ext} {Γ : List (FuncId × (Bool × CSpec))} {N : Nat} {f : FuncId} {fn : Func} {c : Code} (hok : CxOK P (mkCx B Γ N) X) (hf : P.funcs[f]? = some fn) (hb : fn.body = some c) (hn : (fn.name == "runtime.NumGoroutine") = false)
    (hN : fn.ntmps = N) {ts rts : List Ty} (anns : HL ts → Anns) (hts : ts.length ≤ N) {pre : HL ts → Prop} {post : HL ts → HL rts → Prop}
    (h : ∀ xs, wfL ts xs → pre xs → (pureVCs B Γ N (anns xs) fn.results.toList c ts rts post xs).holds) :
    PureOK P B.eT f ts rts pre post := by
  refine ⟨⟨fn, hf, by rw [hb]; rfl, hn⟩, fun O w xs vs hO ha hp => ?_⟩
  have g0 : Good (mkCx B Γ N).eT X (sit O (argSt ts xs) (fun _ => default) w) :=
    ⟨fun n oc h => by simp [sit, argSt, look] at h, fun n m oc oc' b h => by simp [sit, argSt, look] at h, fun n oc b off h => by simp [sit, argSt, look] at h⟩
  have hA0 : ∀ b o, ¬ O b o → ¬ (sit O (argSt ts xs) (fun _ => default) w).A b o := by
    rintro b o h (k | ⟨n, oc, k, _⟩)
    · exact h k
    · simp [sit, argSt, look] at k
  refine Calls.mono (calls_of_vc hok hf hb hN.symm (anns xs) (by simpa [ha.length, hN] using hts) g0 hO ?_ (h xs ha.wf hp)) ?_
  · intro t sv ht
    obtain ⟨_, v, h1, h2⟩ := argEnv_rel (eT := B.eT) (S := sit O (argSt ts xs) (fun _ => default) w) rfl hA0 ts 0 xs vs ha t sv ht
    exact ⟨v, by simpa using h1, h2⟩
  · rintro e w' ⟨vs', us, st', loc', rfl, h1, h2, h3, h4⟩
    split at h1
    · rename_i ys hys
      refine ⟨us, ys, rfl, h1, resD_rel h3 hys h2, h4.os, h4.output, h4.size, fun k hk => h4.block k hk ?_⟩
      rintro ⟨n, oc, k, _⟩
      simp [sit, argSt, look] at k
    · exact h1.elim
def None' : Avoid := fun _ _ => False
def outer (lend : Bool) (A : Avoid) : Avoid := match lend with
  | true => None'
  | false => A
theorem argD_rel {O : Avoid} {st : St} {loc : Nat → Loc} {w : World} (g : Good cx.eT X (sit O st loc w)) {lend : Bool} {t : Ty} {a : SV0} {x : D t} {v : Value} (h : argD lend st t a = some x)
    (ha : SV0R cx.eT (sit O st loc w) a v) : VR cx.eT t x (outer lend (sit O st loc w).A) w v := by
  have base : asD0 t a = some x → VR cx.eT t x (outer lend (sit O st loc w).A) w v := by
    intro h
    refine VR.weak (asD0_rel h ha) fun b o k => ?_
    cases lend with
    | true => exact id
    | false => exact k
  unfold argD at h
  split at h
  · rename_i e n x' heq
    unfold srcD at h
    simp only [rowD] at h
    split at h
    · rename_i e' ys hob
      split at h
      · cases h; rename_i hb
        exact castD_vr hb _ (VR.weak (mrow_vr g hob ha) fun _ _ _ => id)
      · cases h
    · cases h
  · exact VR.weak (deepD_rel g h ha) fun _ _ _ => id
  · exact base h
theorem argsD_rel {O : Avoid} {st : St} {loc : Nat → Loc} {w : World} (g : Good cx.eT X (sit O st loc w)) {lend : Bool} : ∀ {ts : List Ty} {as : List SV0} {xs : HL ts} {vs : List Value}, argsD lend st ts as = some xs →
    SV0Rs cx.eT (sit O st loc w) as vs → ArgsR cx.eT (outer lend (sit O st loc w).A) w ts xs vs
  | [], [], _, _, _, .nil => rfl
  | [t], [a], xs, _, h, .cons h1 .nil => ⟨_, rfl, argD_rel g h h1⟩
  | t :: u :: r, a :: as, xs, _, h, .cons h1 h2 => by
    simp only [argsD] at h
    split at h
    · rename_i x xs k1 k2
      cases h
      exact ⟨_, _, rfl, argD_rel g k1 h1, argsD_rel g k2 h2⟩
    · cases h
  | [], _ :: _, _, _, h, _ => by simp [argsD] at h
  | [_], [], _, _, h, _ => by simp [argsD] at h
  | [_], _ :: _ :: _, _, _, h, _ => by simp [argsD] at h
  | _ :: _ :: _, [], _, _, h, _ => by simp [argsD] at h
theorem resList_rel {eT : TypeId} {S : Sit} {O : Avoid} {w : World} (hS : S.w = w) : ∀ {ts : List Ty} {ys : HL ts} {us : List Value}, (flatL ts = true ∨ O = S.A) → ArgsR eT O w ts ys us → SV0Rs eT S (resList ts ys) us
  | [], _, _, _, h => by rw [show _ = [] from h]; exact .nil
  | [t], y, _, hl, ⟨v, rfl, hv⟩ => by
    refine .cons ?_ .nil
    subst hS
    rcases hl with hl | hl
    · simp only [flatL, Bool.and_true] at hl
      exact VR.of_flat hl hv
    · subst hl; exact hv
  | t :: u :: r, ys, _, hl, ⟨v, vs', rfl, hv, hr⟩ => by
    refine .cons ?_ (resList_rel hS ?_ hr)
    · subst hS
      rcases hl with hl | hl
      · simp only [flatL, Bool.and_eq_true] at hl
        exact VR.of_flat hl.1 hv
      · subst hl; exact hv
    · rcases hl with hl | hl
      · simp only [flatL, Bool.and_eq_true] at hl ⊢; exact .inl hl.2
      · exact .inr hl
theorem OIn_A {O : Avoid} {st : St} {loc : Nat → Loc} {w : World} {eT : TypeId} (g : Good eT X (sit O st loc w)) (hO : OIn O w) : OIn (sit O st loc w).A w := by
  rintro b off (h | ⟨n, oc, h1, h2, _⟩)
  · exact hO b off h
  · exact (g.obj n oc h1).2.inside b h2
theorem call_pure {eT : TypeId} {f : FuncId} {ts rts : List Ty} {pre : HL ts → Prop} {post : HL ts → HL rts → Prop} (h : PureOK P eT f ts rts pre post)
    {O : Avoid} {st : St} {loc : Nat → Loc} {w : World} {args : List SV0} {vs : List Value} {xs : HL ts} (hx : argsD (flatL rts) st ts args = some xs) (hp : pre xs)
    {K : SV → St → VC} (hK : ∀ ys, post xs ys → (K (retSV (resList rts ys)) st).holds)
    (g : Good eT X (sit O st loc w)) (hO : OIn O w) (ha : SV0Rs eT (sit O st loc w) args vs) :
    Calls P f vs.toArray w fun e w' => ∃ v sv st' loc', e = .returned v ∧ (K sv st').holds ∧ st'.env = st.env ∧ (true = true → Below w.heap.size w w') ∧ Good eT X (sit O st' loc' w') ∧
      Tr (sit O st loc w) (sit O st' loc' w') ∧ SVR eT (sit O st' loc' w') sv v := by
  have g' : Good (Cx.mk eT [] [] [] 0 [] [] [] false []).eT X (sit O st loc w) := g
  have hOut : OIn (outer (flatL rts) (sit O st loc w).A) w := by
    intro b off hb
    cases hf : flatL rts with
    | true => rw [hf] at hb; exact hb.elim
    | false => rw [hf] at hb; exact OIn_A g hO b off hb
  refine Calls.mono (h.ok _ w xs vs hOut (argsD_rel g' hx ha) hp) ?_
  rintro e w' ⟨us, ys, rfl, h1, h2, h3⟩
  obtain ⟨t, g2⟩ := step_world (S' := sit O st loc w') g rfl rfl rfl rfl h3
  refine ⟨_, _, st, loc, rfl, hK ys h1, rfl, fun _ => h3, g2, t, retSV_rel (resList_rel rfl ?_ h2)⟩
  cases hf : flatL rts with
  | true => exact .inl rfl
  | false => exact .inr (by simp only [outer]; funext b off; simp [Sit.A, sit])
theorem frzC_sound {O : Avoid} {st : St} {loc : Nat → Loc} {w : World} (g : Good cx.eT X (sit O st loc w)) (c : C) :
    Tr (sit O st loc w) (sit O (frzC st c).2 loc w) ∧ Good cx.eT X (sit O (frzC st c).2 loc w) ∧ (frzC st c).2.env = st.env ∧
      ∀ v, CR cx.eT (sit O st loc w) c v → CR cx.eT (sit O (frzC st c).2 loc w) (frzC st c).1 v := by
  unfold frzC
  split
  · rename_i n
    split
    · rename_i t xs hob
      obtain ⟨h1, h2⟩ := drop_step g n
      exact ⟨h1, h2, rfl, fun v hv => freeze_step g hob hv⟩
    · exact ⟨Tr.refl _, g, rfl, fun v hv => hv⟩
  · rename_i n
    split
    · rename_i t xs hob
      obtain ⟨h1, h2⟩ := drop_step g n
      refine ⟨h1, h2, rfl, fun v hv => deep_vr g hob hv fun b hb o => ?_⟩
      rintro (hA' | ⟨m, oc, k1, k2, k3⟩)
      · exact g.out n _ b o hob hb hA'
      · simp only [sit, dropObj] at k1 k2
        rw [look_del] at k1
        split at k1
        · cases k1
        · rename_i h8; exact h8 (g.apart n m _ _ b hob k1 hb k2)
    · exact ⟨Tr.refl _, g, rfl, fun v hv => hv⟩
  · exact ⟨Tr.refl _, g, rfl, fun v hv => hv⟩
theorem frzCs_sound {O : Avoid} {loc : Nat → Loc} {w : World} : ∀ (cs : List C) {st : St}, Good cx.eT X (sit O st loc w) →
    Tr (sit O st loc w) (sit O (frzCs st cs).2 loc w) ∧ Good cx.eT X (sit O (frzCs st cs).2 loc w) ∧ (frzCs st cs).2.env = st.env ∧
      ∀ vs, CRs cx.eT (sit O st loc w) cs vs → CRs cx.eT (sit O (frzCs st cs).2 loc w) (frzCs st cs).1 vs
  | [], st, g => ⟨Tr.refl _, g, rfl, fun vs h => h⟩
  | c :: cs, st, g => by
    obtain ⟨t1, g1, e1, k1⟩ := frzC_sound g c
    obtain ⟨t2, g2, e2, k2⟩ := frzCs_sound cs g1
    refine ⟨t1.trans t2, g2, e2.trans e1, fun vs h => ?_⟩
    cases h with
    | cons h1 h2 h3 => exact .cons ((k1 _ h1).tr t2) h2 (k2 _ (h3.tr t1))
theorem frz0_sound {O : Avoid} {st : St} {loc : Nat → Loc} {w : World} (g : Good cx.eT X (sit O st loc w)) (x : SV0) :
    Tr (sit O st loc w) (sit O (frz0 st x).2 loc w) ∧ Good cx.eT X (sit O (frz0 st x).2 loc w) ∧ (frz0 st x).2.env = st.env ∧
      ∀ v, SV0R cx.eT (sit O st loc w) x v → SV0R cx.eT (sit O (frz0 st x).2 loc w) (frz0 st x).1 v := by
  cases x with
  | one c => exact frzC_sound g c
  | agg cs =>
    obtain ⟨t1, g1, e1, k1⟩ := frzCs_sound cs g
    exact ⟨t1, g1, e1, fun v ⟨vs, h1, h2⟩ => ⟨vs, h1, k1 _ h2⟩⟩
theorem frzA_sound {O : Avoid} {st : St} {loc : Nat → Loc} {w : World} (g : Good cx.eT X (sit O st loc w)) (lend : Bool) (x : SV0) :
    Tr (sit O st loc w) (sit O (frzA lend st x).2 loc w) ∧ Good cx.eT X (sit O (frzA lend st x).2 loc w) ∧ (frzA lend st x).2.env = st.env ∧
      ∀ v, SV0R cx.eT (sit O st loc w) x v → SV0R cx.eT (sit O (frzA lend st x).2 loc w) (frzA lend st x).1 v := by
  cases lend with
  | false => cases x <;> exact frz0_sound g _
  | true =>
    cases x with
    | one c => exact ⟨Tr.refl _, g, rfl, fun v hv => hv⟩
    | agg cs => exact frz0_sound g _
theorem frzL_sound {O : Avoid} {loc : Nat → Loc} {w : World} (lend : Bool) : ∀ (xs : List SV0) {st : St}, Good cx.eT X (sit O st loc w) →
    Tr (sit O st loc w) (sit O (frzL lend st xs).2 loc w) ∧ Good cx.eT X (sit O (frzL lend st xs).2 loc w) ∧ (frzL lend st xs).2.env = st.env ∧
      ∀ vs, SV0Rs cx.eT (sit O st loc w) xs vs → SV0Rs cx.eT (sit O (frzL lend st xs).2 loc w) (frzL lend st xs).1 vs
  | [], st, g => ⟨Tr.refl _, g, rfl, fun vs h => h⟩
  | x :: xs, st, g => by
    obtain ⟨t1, g1, e1, k1⟩ := frzA_sound g lend x
    obtain ⟨t2, g2, e2, k2⟩ := frzL_sound lend xs g1
    refine ⟨t1.trans t2, g2, e2.trans e1, fun vs h => ?_⟩
    cases h with
    | cons h1 h3 => exact .cons ((k1 _ h1).tr t2) (k2 _ (h3.tr t1))
/-- A call whose arguments were frozen first. -/
theorem calls_frz {eT : TypeId} {f : FuncId} {q : Bool} {sp : CSpec} {lend : Bool}
    (h : ∀ O st loc w args vs K, (sp args st K).holds → Good eT X (sit O st loc w) → OIn O w → SV0Rs eT (sit O st loc w) args vs →
      Calls P f vs.toArray w fun e w' => ∃ v sv st' loc', e = .returned v ∧ (K sv st').holds ∧ st'.env = st.env ∧ (q = true → Below w.heap.size w w') ∧ Good eT X (sit O st' loc' w') ∧
        Tr (sit O st loc w) (sit O st' loc' w') ∧ SVR eT (sit O st' loc' w') sv v)
    (O : Avoid) (st : St) (loc : Nat → Loc) (w : World) (args : List SV0) (vs : List Value) (K : SV → St → VC) (hs : (sp (frzL lend st args).1 (frzL lend st args).2 K).holds)
    (g : Good eT X (sit O st loc w)) (hO : OIn O w) (ha : SV0Rs eT (sit O st loc w) args vs) :
    Calls P f vs.toArray w fun e w' => ∃ v sv st' loc', e = .returned v ∧ (K sv st').holds ∧ st'.env = st.env ∧ (q = true → Below w.heap.size w w') ∧ Good eT X (sit O st' loc' w') ∧
      Tr (sit O st loc w) (sit O st' loc' w') ∧ SVR eT (sit O st' loc' w') sv v := by
  have g' : Good (Cx.mk eT [] [] [] 0 [] [] [] false []).eT X (sit O st loc w) := g
  obtain ⟨t1, g1, e1, k1⟩ := frzL_sound lend args g'
  refine Calls.mono (h O _ loc w _ vs K hs g1 hO (k1 _ ha)) ?_
  rintro e w' ⟨v, sv, st', loc', h1, h2, h3, h4, h5, h6, h7⟩
  exact ⟨v, sv, st', loc', h1, h2, h3.trans e1, h4, h5, t1.trans h6, h7⟩
theorem callOK_of_pure {eT : TypeId} {f : FuncId} {ts rts : List Ty} {pre : HL ts → Prop} {post : HL ts → HL rts → Prop} (h : PureOK P eT f ts rts pre post) :
    CallOK P eT X f true (pureSpec ts rts pre post) := by
  refine ⟨h.fn, calls_frz (lend := flatL rts) (sp := fun args st K => match argsD (flatL rts) st ts args with
    | some xs => .and (pre xs) (.all (HL rts) fun ys => .imp (post xs ys) (K (retSV (resList rts ys)) st))
    | none => .ff) fun O st loc w args vs K hs g hO ha => ?_⟩
  split at hs
  · rename_i xs hx
    exact call_pure h hx hs.1 (fun ys hy => hs.2 ys hy) g hO ha
  · exact hs.elim
theorem callOK_of_fun {eT : TypeId} {f : FuncId} {ts rts : List Ty} {pre : HL ts → Prop} {g : HL ts → HL rts} (h : PureOK P eT f ts rts pre (fun xs ys => ys = g xs)) :
    CallOK P eT X f true (funSpec ts rts pre g) := by
  refine ⟨h.fn, calls_frz (lend := flatL rts) (sp := fun args st K => match argsD (flatL rts) st ts args with
    | some xs => .and (pre xs) (K (retSV (resList rts (g xs))) st)
    | none => .ff) fun O st loc w args vs K hs hg hO ha => ?_⟩
  split at hs
  · rename_i xs hx
    exact call_pure h hx hs.1 (fun ys hy => by rw [hy]; exact hs.2) hg hO ha
  · exact hs.elim
theorem callOK_of_tree {eT : TypeId} {f : FuncId} {ts rts : List Ty} {pre : HL ts → Prop} {g : HL ts → Dec (HL rts)} (h : PureOK P eT f ts rts pre (fun xs ys => ys = (g xs).eval)) :
    CallOK P eT X f true (treeSpec ts rts pre g) := by
  have hf := callOK_of_fun (X := X) (g := fun xs => (g xs).eval) h
  refine ⟨hf.fn, fun O st loc w args vs K hK hg hO ha => hf.ok O st loc w args vs K ?_ hg hO ha⟩
  simp only [treeSpec] at hK
  simp only [funSpec]
  split at hK
  · exact ⟨hK.1, decVC_holds hK.2⟩
  · exact hK.elim
theorem PureOK.of_eq {eT : TypeId} {f : FuncId} {ts rts : List Ty} {pre : HL ts → Prop} {g g' : HL ts → HL rts} (h : PureOK P eT f ts rts pre (fun xs ys => ys = g xs)) (e : ∀ xs, g xs = g' xs) :
    PureOK P eT f ts rts pre (fun xs ys => ys = g' xs) := by
  rw [show g' = g from (funext e).symm]; exact h
theorem ctx_nil {B : Cx} {N : Nat} (h : TyOK P B) : CxOK P (mkCx B [] N) X :=
  { fit := h.fit, errno := h.errno, errnoZero := h.errnoZero, mixed := h.mixed, arr := h.arr, arr0 := h.arr0, eqs := h.eqs, ptrs := h.ptrs, mps := h.mps, calls := fun f q sp hl => by simp [mkCx, look] at hl }
theorem ctx_cons {B : Cx} {Γ : List (FuncId × (Bool × CSpec))} {N : Nat} {f : FuncId} {q : Bool} {sp : CSpec} (h : CallOK P B.eT X f q sp) (hΓ : CxOK P (mkCx B Γ N) X) : CxOK P (mkCx B ((f, q, sp) :: Γ) N) X :=
  { fit := hΓ.fit, errno := hΓ.errno, errnoZero := hΓ.errnoZero, mixed := hΓ.mixed, arr := hΓ.arr, arr0 := hΓ.arr0, eqs := hΓ.eqs, ptrs := hΓ.ptrs, mps := hΓ.mps, calls := fun f' q' sp' hl => by
      simp only [mkCx, look_cons] at hl
      split at hl
      · rename_i e; subst e; cases hl; exact h
      · exact hΓ.calls f' q' sp' hl }
end
end Go.Vg
