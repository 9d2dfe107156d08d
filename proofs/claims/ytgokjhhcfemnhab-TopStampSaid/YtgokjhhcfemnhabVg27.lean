/- A part of the proof that the law TopStamp holds of the given program: facts that are used there. -/
import Derived.Test.YtgokjhhcfemnhabVg26
namespace Go.Vg
open Go.RowKit
section
variable {X : Ext} {P : Program} {obs : List Ob} {args : List Cl}
theorem altsVC_mem {a : CD args} {x : PD obs} {ν : List Nat} {st : St} {K : SV → St → VC} : ∀ {alts : List (Alt obs args)}, (altsVC a x ν st K alts).holds → ∀ al ∈ alts, (altVC al a x ν st K).holds
  | [], _, al, h => by simp at h
  | [al0], h, al, ha => by simp at ha; subst ha; exact h
  | al0 :: al1 :: r, h, al, ha => by
    rcases List.mem_cons.1 ha with e | ha
    · subst e; exact h.1
    · exact altsVC_mem h.2 al ha
theorem endVC_out {a : CD args} {x : PD obs} {vs : List SV0} {st : St} : ∀ {alts : List (Alt obs args)}, (endVC a x vs st alts).holds → ∃ al ∈ alts, ∃ ν,
    nodupB ν = true ∧ keptB 0 obs al.obs' ν = true ∧ (al.cv = false ∨ (noTok obs = true ∧ flatObs al.obs' = true ∧ flatCls al.res = true)) ∧ al.ok a x ∧
    getVs al.cv (frzP al.res st vs).2.objs al.obs' ν al.res (frzP al.res st vs).1 = some (al.ret a x) ∧ getObs al.cv (frzP al.res st vs).2.objs al.obs' ν al.obs' ν = some (al.out a x) ∧
    (∀ p ∈ condVs al.obs' (al.out a x) al.res (frzP al.res st vs).1, p) ∧ (∀ p ∈ condObs al.obs' (al.out a x) (frzP al.res st vs).2.objs al.obs' ν, p)
  | [], h => h.elim
  | al :: r, h => by
    have rest : (endVC a x vs st r).holds → ∃ al' ∈ al :: r, ∃ ν,
        nodupB ν = true ∧ keptB 0 obs al'.obs' ν = true ∧ (al'.cv = false ∨ (noTok obs = true ∧ flatObs al'.obs' = true ∧ flatCls al'.res = true)) ∧ al'.ok a x ∧
        getVs al'.cv (frzP al'.res st vs).2.objs al'.obs' ν al'.res (frzP al'.res st vs).1 = some (al'.ret a x) ∧ getObs al'.cv (frzP al'.res st vs).2.objs al'.obs' ν al'.obs' ν = some (al'.out a x) ∧
        (∀ p ∈ condVs al'.obs' (al'.out a x) al'.res (frzP al'.res st vs).1, p) ∧ (∀ p ∈ condObs al'.obs' (al'.out a x) (frzP al'.res st vs).2.objs al'.obs' ν, p) := fun h => by
      obtain ⟨al', h1, h2⟩ := endVC_out h
      exact ⟨al', by simp [h1], h2⟩
    simp only [endVC] at h
    split at h
    · rename_i ν hν
      split at h
      · rename_i b y hc hb hy
        simp only [Bool.and_eq_true, Bool.or_eq_true, Bool.not_eq_true'] at hc
        obtain ⟨h1, h2, h3⟩ := hc
        have hall := allP_out h
        have k3 : al.ok a x ∧ y = al.out a x ∧ b = al.ret a x := hall _ (List.mem_append_right _ (by simp))
        obtain ⟨k4, k5, k6⟩ := k3
        subst k5; subst k6
        obtain ⟨k1, _⟩ := allP_app.1 hall
        obtain ⟨k1, k2⟩ := allP_app.1 k1
        exact ⟨al, by simp, ν, h1, h2, h3, k4, hb, hy, k1, k2⟩
      · exact rest h
    · exact rest h
/-- A call, with what it was handed, and what it gives back. -/
theorem obj_call {B : Cx} {Γ : List (FuncId × (Bool × CSpec))} (hok : CtxOK P B X Γ) {f : FuncId} {fn : Func} {c : Code} (hf : P.funcs[f]? = some fn) (hb : fn.body = some c) (hN : args.length ≤ fn.ntmps) {anns : CD args → PD obs → Anns}
    {pre : CD args → PD obs → Prop} {alts : List (Alt obs args)} (h : ∀ a x, wfC args a → pre a x → (objVCs B Γ fn (anns a x) obs args alts a x).holds)
    {O : Avoid} {st : St} {loc : Nat → Loc} {w : World} {as : List SV0} {vs : List Value} {K : SV → St → VC} (g : Good B.eT X (sit O st loc w)) (hO : OIn O w) (ha : SV0Rs B.eT (sit O st loc w) as vs)
    {ν : List Nat} {a : CD args} {x : PD obs} (hnd : nodupB ν = true) (hga : getVs false st.objs obs ν args as = some a) (hx : getObs false st.objs obs ν obs ν = some x)
    (hp1 : ∀ p ∈ condVs obs x args as, p) (hp2 : ∀ p ∈ condObs obs x st.objs obs ν, p) (hpre : pre a x) (hK : (altsVC a x ν st K alts).holds) :
    Calls P f vs.toArray w fun e w' => ∃ v sv st' loc', e = .returned v ∧ (K sv st').holds ∧ st'.env = st.env ∧ Good B.eT X (sit O st' loc' w') ∧
      Tr (sit O st loc w) (sit O st' loc' w') ∧ SVR B.eT (sit O st' loc' w') sv v := by
  have hvals := getVs_rel g hx hga ha hp1
  have hobsl := getObs_len hx
  -- the callee's situation
  let us := upto 0 obs.length
  have hul : ν.length = us.length := by rw [upto_len]; exact hobsl.symm
  let O' : Avoid := fun b off => O b off ∨ ∃ n oc, look st.objs n = some oc ∧ n ∉ ν ∧ b ∈ (loc n).bs ∧ oc.lo ≤ off
  let st0 := startSt obs args a x
  have hOin' : OIn O' w := by
    rintro b off (h | ⟨n, oc, h1, _, h2, _⟩)
    · exact hO b off h
    · exact (g.obj n oc h1).2.inside b h2
  have hlo : ∀ n ∈ ν, ∀ oc, look st.objs n = some oc → noTok obs = true → oc.lo = 0 := by
    intro n hn oc h1 h2
    obtain ⟨o, oc', y, k1, k2, k3⟩ := getObs_look hx hn
    rw [h1] at k2; cases k2
    have := (getO_kind k3 (fun _ => .any)).2.2.2 (fun t => noTok_mem h2 k1) rfl
    cases oc <;> first | rfl | exact (this _ _ rfl).elim
  have hν : ∀ n ∈ ν, ∃ oc, look st.objs n = some oc := fun n hn => let ⟨_, oc, _, _, k, _⟩ := getObs_look hx hn; ⟨oc, k⟩
  let loc0 := locOf us (ν.map loc) loc
  have hf0 : ∀ k oc, look st0.objs k = some oc → ∃ (i n : Nat) (o : Ob) (y : OD o) (oc0 : OC), ν[i]? = some n ∧ us[i]? = some k ∧ obs[i]? = some o ∧ look st.objs n = some oc0 ∧ getO false st.objs obs ν o oc0 = some y ∧ oc = ocOf (refAt obs x us) o y ∧ loc0 k = loc n := by
    intro k oc hk
    obtain ⟨i, n, o, y, oc0, k1, k2, k3, k4, k5, k6, _⟩ := objsC_find hx (getObs_rel (X := X) g hx hx hp2) hul hk
    exact ⟨i, n, o, y, oc0, k1, k2, k3, k4, k5, k6, locOf_get (upto_nodup _ _) k2 (by simp [k1])⟩
  have hA0 : ∀ b o, (sit O' st0 loc0 w).A b o → (sit O st loc w).A b o := by
    rintro b off ((h | ⟨n, oc, h1, _, h2, h3⟩) | ⟨k, oc, h1, h2, h3⟩)
    · exact .inl h
    · exact .inr ⟨n, oc, h1, h2, h3⟩
    · obtain ⟨i, n, o, y, oc0, _, _, _, k4, k5, k6, k7⟩ := hf0 k oc h1
      refine .inr ⟨n, oc0, k4, by simp only [sit] at h2; rw [k7] at h2; exact h2, ?_⟩
      rcases getO_lo (f := refAt obs x us) k5 with e | e
      · rw [← e, ← k6]; exact h3
      · cases e
  have hown0 : ∀ b, (sit O' st0 loc0 w).owns b → ∃ n ∈ ν, b ∈ (loc n).bs := by
    rintro b ⟨k, oc, h1, h2⟩
    obtain ⟨i, n, o, y, oc0, k1, _, _, _, _, _, k7⟩ := hf0 k oc h1
    exact ⟨n, List.mem_of_getElem? k1, by simp only [sit] at h2; rw [k7] at h2; exact h2⟩
  obtain ⟨g0, laid0⟩ := relay (X := X) g hx hp2 hnd (O2 := O') (ν2 := us) (rest := []) (locR := loc) (st2 := st0) (upto_nodup _ _) hul
    (by simp [st0, startSt, us]) (fun n hn => by have := upto_mem hn; simp [st0, startSt]; omega)
    (fun n hn b hb off => by
      obtain ⟨oc, k⟩ := hν n hn
      rintro (h | ⟨m, oc', h1, h2, h3, _⟩)
      · exact g.out n oc b off k hb h
      · exact h2 (by rw [← g.apart n m oc oc' b k h1 hb h3]; exact hn))
    (fun n hn b hb m oc h => by simp [look] at h) (fun m oc h => by simp [look] at h) (fun m m' oc oc' b h => by simp [look] at h) (fun m oc b off h => by simp [look] at h) (.inr hA0)
  have hargs : SV0Rs B.eT (sit O' st0 loc0 w) (clsV (refAt obs x us) args a) vs := clsV_rel (S := sit O st loc w) (S' := sit O' st0 loc0 w) rfl (fun k v hk => CR_ref laid0 hk) (.inr hA0) hvals
  have hcode : codeOf fn = c := by unfold codeOf; rw [hb]; rfl
  have hvc := h a x (clsR_wf hvals) hpre
  unfold objVCs at hvc
  rw [hcode] at hvc
  have hcalls := calls_of_vc (X := X) (hok fn.ntmps) hf hb (by rfl) (anns a x) (O := O') (loc := loc0) (w := w) (args := vs.toArray) (st := st0)
    (by rw [List.size_toArray, clsR_len hvals]; exact hN) g0 hOin'
    (fun t sv ht => by
      obtain ⟨_, v, k1, k2⟩ := argEnv0_rel 0 hargs t sv ht
      exact ⟨v, by simpa using k1, k2⟩) hvc
  refine hcalls.mono ?_
  rintro e w' ⟨rs, us', st', locE, he, hk, hr, gE', trE'⟩
  obtain ⟨al, hal, ν', hnd', hkept, hcv, hokal, hret, hout, hc1, hc2⟩ := endVC_out hk
  obtain ⟨tF, gE, _, kF⟩ := frzP_sound al.res rs gE'
  generalize hst2 : (frzP al.res st' rs).2 = st2 at *
  generalize hrs2 : (frzP al.res st' rs).1 = rs2 at *
  have trE := trE'.trans tF
  have hrE := kF us' hr
  have hKal := altsVC_mem hK al hal
  unfold altVC at hKal
  split at hKal
  case h_2 => exact hKal.elim
  rename_i hn1
  simp only [Bool.and_eq_true] at hn1
  obtain ⟨hnd1, hbel⟩ := hn1
  have hKal := hKal hokal
  generalize hν1 : newN obs al.obs' ν st.next = ν1 at *
  have hl1 : ν'.length = ν1.length := by rw [← hν1, newN_len]; exact (getObs_len hout).symm
  -- the caller's situation afterwards
  generalize hst1 : ({ env := st.env, objs := objsC (refAt al.obs' (al.out a x) ν1) al.obs' (al.out a x) ν1 ++ delAll st.objs ν, next := st.next + al.obs'.length } : St) = st1 at hKal
  have h1env : st1.env = st.env := by rw [← hst1]
  have h1objs : st1.objs = objsC (refAt al.obs' (al.out a x) ν1) al.obs' (al.out a x) ν1 ++ delAll st.objs ν := by rw [← hst1]
  have h1next : st1.next = st.next + al.obs'.length := by rw [← hst1]
  let loc1 := locOf ν1 (ν'.map locE) loc
  have hf1 : ∀ m oc, look st1.objs m = some oc → (∃ (i n : Nat) (o : Ob) (y : OD o) (oc0 : OC), ν'[i]? = some n ∧ ν1[i]? = some m ∧ al.obs'[i]? = some o ∧ look st2.objs n = some oc0 ∧ getO al.cv st2.objs al.obs' ν' o oc0 = some y ∧
      oc = ocOf (refAt al.obs' (al.out a x) ν1) o y ∧ loc1 m = locE n) ∨ (m ∉ ν1 ∧ m ∉ ν ∧ look st.objs m = some oc ∧ loc1 m = loc m) := by
    intro m oc hm
    rw [h1objs, look_append] at hm
    split at hm
    · rename_i oc' hm'
      cases hm
      obtain ⟨i, n, o, y, oc0, k1, k2, k3, k4, k5, k6, _⟩ := objsC_find hout (getObs_rel (X := X) gE hout hout hc2) hl1 hm'
      exact .inl ⟨i, n, o, y, oc0, k1, k2, k3, k4, k5, k6, locOf_get hnd1 k2 (by simp [k1])⟩
    · rename_i hm'
      have hnin : m ∉ ν1 := fun hmem => by
        obtain ⟨oc1, h2⟩ := objsC_mem (f := refAt al.obs' (al.out a x) ν1) (x := al.out a x) (by rw [← hν1, newN_len]) hmem
        rw [h2] at hm'; cases hm'
      rw [look_delAll] at hm
      split at hm
      · cases hm
      · rename_i hmn
        exact .inr ⟨hnin, hmn, hm, locOf_not hnin⟩
  have hownE : ∀ n ∈ ν', ∀ b ∈ (locE n).bs, (sit O' st2 locE w').owns b := by
    intro n hn b hb
    obtain ⟨_, oc, _, _, k, _⟩ := getObs_look hout hn
    exact ⟨n, oc, k, hb⟩
  have hblk : ∀ m oc, look st.objs m = some oc → m ∉ ν → ∀ b ∈ (loc m).bs, ¬ (sit O' st0 loc0 w).owns b := by
    intro m oc h1 h2 b hb' ho
    obtain ⟨n, hn, hbn⟩ := hown0 b ho
    obtain ⟨oc', k⟩ := hν n hn
    have := g.apart n m oc' oc b k h1 hbn hb'
    exact h2 (by rw [← this]; exact hn)
  have hA1 : al.cv = false → ∀ b o, (sit O st1 loc1 w').A b o → (sit O' st2 locE w').A b o := by
    rintro hcv0 b off (h | ⟨m, oc, h1, h2, h3⟩)
    · exact .inl (.inl h)
    · rcases hf1 m oc h1 with ⟨i, n, o, y, oc0, k1, k2, k3, k4, k5, k6, k7⟩ | ⟨k1, k2, k3, k4⟩
      · refine .inr ⟨n, oc0, k4, by simp only [sit] at h2; rw [k7] at h2; exact h2, ?_⟩
        rcases getO_lo (f := refAt al.obs' (al.out a x) ν1) k5 with e | e
        · rw [← e, ← k6]; exact h3
        · rw [hcv0] at e; cases e
      · exact .inl (.inr ⟨m, oc, k3, k2, by simp only [sit] at h2; rw [k4] at h2; exact h2, h3⟩)
  have hkeep : ∀ (m i : Nat), ν1[i]? = some m → m < st.next → ∃ o o', obs[i]? = some o ∧ al.obs'[i]? = some o' ∧ keepO o o' = true ∧ ν[i]? = some m := by
    intro m i h1 h2
    rw [← hν1] at h1
    rcases newN_spec h1 with h3 | h3
    · exact h3
    · omega
  have hT : Tr (sit O st loc w) (sit O st1 loc1 w') := {
    O := rfl
    next := by simp only [sit]; omega
    os := trE.os
    output := trE.output
    size := trE.size
    own := by
      rintro b ⟨m, oc, h1, h2⟩
      rcases hf1 m oc h1 with ⟨i, n, o, y, oc0, k1, k2, k3, k4, k5, k6, k7⟩ | ⟨k1, k2, k3, k4⟩
      · simp only [sit] at h2; rw [k7] at h2
        rcases trE.own b (hownE n (List.mem_of_getElem? k1) b h2) with h3 | h3
        · obtain ⟨n', hn', hb'⟩ := hown0 b h3
          obtain ⟨oc', k⟩ := hν n' hn'
          exact .inl ⟨n', oc', k, hb'⟩
        · exact .inr h3
      · simp only [sit] at h2; rw [k4] at h2; exact .inl ⟨m, oc, k3, h2⟩
    cell := by
      intro b off v hna hcell
      obtain ⟨h1, h2⟩ := trE.cell b off v (fun h => hna (hA0 b off h)) hcell
      refine ⟨h1, fun h3 => ?_⟩
      rcases hcv with hcv | ⟨hnt, _, _⟩
      · exact h2 (hA1 hcv b off h3)
      · rcases h3 with h3 | ⟨m, oc, h3, h4, h5⟩
        · exact hna (.inl h3)
        · rcases hf1 m oc h3 with ⟨i, n, o, y, oc0, k1, k2, k3, k4, k5, k6, k7⟩ | ⟨k1, k2, k3, k4⟩
          · simp only [sit] at h4; rw [k7] at h4
            rcases trE.own b (hownE n (List.mem_of_getElem? k1) b h4) with h6 | h6
            · obtain ⟨n', hn', hb'⟩ := hown0 b h6
              obtain ⟨oc', k⟩ := hν n' hn'
              exact hna (.inr ⟨n', oc', k, hb', by rw [hlo n' hn' oc' k hnt]; exact Nat.zero_le _⟩)
            · have := World.block_lt_of_cell? _ _ hcell
              simp only [sit] at this h6
              omega
          · simp only [sit] at h4; rw [k4] at h4; exact hna (.inr ⟨m, oc, k3, h4, h5⟩)
    block := fun b hb' ho => trE.block b hb' fun h => ho (by
      obtain ⟨n, hn, hbn⟩ := hown0 b h
      obtain ⟨oc, k⟩ := hν n hn
      exact ⟨n, oc, k, hbn⟩)
    loc := by
      intro m hm hfix
      by_cases hin : m ∈ ν1
      · obtain ⟨i, hi⟩ := List.getElem?_of_mem hin
        obtain ⟨o, o', e1, e2, e3, e4⟩ := hkeep m i hi hm
        have hiE : i < ν'.length := by rw [hl1]; exact getElem?_lt hi
        have hn' : ν'[i]? = some ν'[i] := List.getElem?_eq_getElem hiE
        have hni := keptB_spec hkept e1 e2 e3 hn'
        rw [Nat.zero_add] at hni
        have e5 : loc1 m = locE i := by
          have := locOf_get (d := loc) hnd1 hi (ls := ν'.map locE) (l := locE i) (by simp [hn', hni])
          exact this
        have hui : us[i]? = some i := by have := upto_get obs.length 0 i (getElem?_lt e1); simpa using this
        have e6 : loc0 i = loc m := locOf_get (upto_nodup _ _) hui (by simp [e4])
        have e7 := trE.loc i (show i < st0.next by simp [st0, startSt]; exact getElem?_lt e1) (fun t ys hy => by
          obtain ⟨j, n, o2, y, oc0, k1, k2, k3, k4, k5, k6, k7⟩ := hf0 i _ hy
          have hj : j = i := nodup_idx (upto_nodup _ _) k2 hui
          subst hj
          rw [e1] at k3; cases k3
          cases o <;> simp [ocOf] at k6
          cases o' <;> simp [keepO] at e3)
        show loc1 m = loc m
        rw [e5, ← e6]; exact e7
      · exact locOf_not hin
    kind := by
      intro m oc' hm hob
      rcases hf1 m oc' hob with ⟨i, n, o, y, oc0, k1, k2, k3, k4, k5, k6, k7⟩ | ⟨k1, k2, k3, k4⟩
      · obtain ⟨o0, o', e1, e2, e3, e4⟩ := hkeep m i k2 hm
        rw [k3] at e2; cases e2
        have hui : us[i]? = some i := by have := upto_get obs.length 0 i (getElem?_lt e1); simpa using this
        obtain ⟨oc2, h2⟩ := objsC_mem (f := refAt obs x us) (x := x) (ms := us) (by rw [upto_len]) (List.mem_of_getElem? hui)
        obtain ⟨j, n2, o2, y2, oc3, j1, j2, j3, j4, j5, j6, j7⟩ := hf0 i oc2 (by simpa [st0, startSt] using h2)
        have hj : j = i := nodup_idx (upto_nodup _ _) j2 hui
        subst hj
        rw [e1] at j3; cases j3
        rw [e4] at j1; cases j1
        refine ⟨oc3, j4, ?_⟩
        cases o0 <;> cases o <;> simp [keepO] at e3
        · subst e3
          obtain ⟨cs, rfl⟩ := (getO_kind j5 (fun _ => .any)).1 _ _ rfl
          rw [k6]
          rfl
        · rename_i kp t kp' t'
          cases kp <;> cases kp' <;> simp at e3
          have e3 := Ty.eq_of_beq e3
          subst e3
          obtain ⟨xs, rfl⟩ := (getO_kind j5 (fun _ => .any)).2.2.1 _ _ rfl rfl
          rw [k6]
          rfl
        · obtain ⟨e3, e4⟩ := e3
          have e4 := Ty.eq_of_beq e4
          subst e3; subst e4
          obtain ⟨z, rfl⟩ := (getO_kind j5 (fun _ => .any)).2.1 _ _ rfl
          rw [k6]
          exact ⟨rfl, rfl⟩
      · refine ⟨oc', k3, ?_⟩
        cases oc' <;> simp [SameKind, sit, k4] }
  obtain ⟨g1, laid1⟩ := relay (X := X) gE hout hc2 hnd' (O2 := O) (ν2 := ν1) (rest := delAll st.objs ν) (locR := loc) (st2 := st1) hnd1 hl1 h1objs
    (fun n hn => by rw [h1next]; exact capsBelow_mem hbel hn)
    (fun n hn b hb' off h => by
      obtain ⟨_, oc, _, _, k, _⟩ := getObs_look hout hn
      exact gE.out n oc b off k hb' (.inl h))
    (fun n hn b hb' m oc h1 h2 h3 => by
      rw [look_delAll] at h1
      split at h1
      · cases h1
      · rename_i hmn
        rcases trE.own b (hownE n hn b hb') with h4 | h4
        · exact hblk m oc h1 hmn b h3 h4
        · have := (g.obj m oc h1).2.inside b h3
          simp only [sit] at this h4
          omega)
    (fun m oc h1 h2 => by
      rw [look_delAll] at h1
      split at h1
      · cases h1
      · rename_i hmn
        obtain ⟨k1, k2⟩ := g.obj m oc h1
        refine ⟨by rw [h1next]; simp only [sit] at k1; omega, k2.tr hT fun b hb' => ?_⟩
        exact trE.block b (k2.inside b hb') (hblk m oc h1 hmn b hb'))
    (fun m m' oc oc' b h1 h2 _ _ h3 h4 => by
      rw [look_delAll] at h1 h2
      split at h1
      · cases h1
      · split at h2
        · cases h2
        · exact g.apart m m' oc oc' b h1 h2 h3 h4)
    (fun m oc b off h1 _ h2 => by
      rw [look_delAll] at h1
      split at h1
      · cases h1
      · exact g.out m oc b off h1 h2)
    (by
      rcases hcv with hcv | ⟨_, hcv, _⟩
      · exact .inr (hA1 hcv)
      · exact .inl hcv)
  have hres := getVs_rel gE hout hret hrE hc1
  refine ⟨_, _, st1, loc1, he, hKal, h1env, g1, hT, retSV_rel (clsV_rel (S := sit O' st2 locE w') (S' := sit O st1 loc1 w') rfl (fun k v hk => CR_ref laid1 hk) ?_ hres)⟩
  rcases hcv with hcv | ⟨_, _, hcv⟩
  · exact .inr (hA1 hcv)
  · exact .inl hcv
/-- A contract of a function that turns things of one's own: from its condition. -/
theorem callOK_of_obj {B : Cx} {Γ : List (FuncId × (Bool × CSpec))} (hok : CtxOK P B X Γ) {f : FuncId} {fn : Func} (hf : P.funcs[f]? = some fn) (hg : goodFn fn args.length = true) (anns : CD args → PD obs → Anns)
    {pre : CD args → PD obs → Prop} {alts : List (Alt obs args)} (h : ∀ a x, wfC args a → pre a x → (objVCs B Γ fn (anns a x) obs args alts a x).holds) :
    CallOK P B.eT X f false (objSpec obs args pre alts) := by
  simp only [goodFn, Bool.and_eq_true, Bool.not_eq_true'] at hg
  obtain ⟨⟨h1, h2⟩, h3⟩ := hg
  obtain ⟨c, hc⟩ := Option.isSome_iff_exists.1 h1
  refine ⟨⟨fn, hf, by rw [hc]; rfl, h2⟩, fun O st loc w as vs K hK g hO ha => ?_⟩
  unfold objSpec at hK
  obtain ⟨t1, g1, e1, k1⟩ := frzP_sound args as g
  simp only at hK
  split at hK
  case h_2 => exact hK.elim
  rename_i ν hν
  split at hK
  case h_2 => exact hK.elim
  rename_i a x hnd hga hx
  obtain ⟨hp, hpre, hK⟩ := andP_out hK
  obtain ⟨hp1, hp2⟩ := allP_app.1 hp
  refine (obj_call hok hf hc (Nat.le_of_ble_eq_true h3) h g1 hO (k1 vs ha) hnd hga hx hp1 hp2 hpre hK).mono ?_
  rintro e w' ⟨v, sv, st', loc', q1, q2, q3, q4, q5, q6⟩
  exact ⟨v, sv, st', loc', q1, q2, q3.trans e1, (fun hq => by cases hq), q4, t1.trans q5, q6⟩
end
end Go.Vg
