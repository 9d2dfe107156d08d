/- A part of the proof that the law NamesCard holds of the given program: facts that are used there. -/
import Derived.Test.YtgokjhhcfemnhaaDoorPart2
set_option linter.unusedSimpArgs false
set_option linter.unusedVariables false
namespace Go.Vg
open Go.RowKit
/-- Rows of one's own become data where data is wanted. -/
def frzP : List Cl → St → List SV0 → List SV0 × St
  | .d _ :: r, st, v :: vs => match frz0 st v with
    | (v', st1) => match frzP r st1 vs with
      | (vs', st2) => (v' :: vs', st2)
  | .obj _ :: r, st, v :: vs => match frzP r st vs with
    | (vs', st2) => (v :: vs', st2)
  | .nilP :: r, st, v :: vs => match frzP r st vs with
    | (vs', st2) => (v :: vs', st2)
  | _, st, vs => (vs, st)
def delAll : List (Nat × OC) → List Nat → List (Nat × OC)
  | l, [] => l
  | l, n :: r => delAll (delObj l n) r
def keepO : Ob → Ob → Bool
  | .box T _, .box T' _ => Nat.beq T T'
  | .ext k t, .ext k' t' => Nat.beq k k' && Ty.beq t t'
  | .row true t, .row true t' => Ty.beq t t'
  | _, _ => false
/-- The names of what is given back: what was handed over keeps its name. -/
def newN : List Ob → List Ob → List Nat → Nat → List Nat
  | o :: os, o' :: os', n :: ns, b => (match keepO o o' with | true => n | false => b) :: newN os os' ns (b + 1)
  | _, _ :: os', _, b => b :: newN [] os' [] (b + 1)
  | _, [], _, _ => []
def startAs : Nat → List Ob → List Ob → List (Nat × Nat)
  | k, o :: os, o' :: os' => match keepO o o' with
    | true => (k, k) :: startAs (k + 1) os os'
    | false => startAs (k + 1) os os'
  | _, _, _ => []
def keptB : Nat → List Ob → List Ob → List Nat → Bool
  | k, o :: os, o' :: os', n :: ns => (match keepO o o' with | true => Nat.beq n k | false => true) && keptB (k + 1) os os' ns
  | _, _, _, _ => true
/-- One way in which a call may end. -/
structure Alt (obs : List Ob) (args : List Cl) : Type 1 where
  cv : Bool := false
  obs' : List Ob
  res : List Cl
  ok : CD args → PD obs → Prop := fun _ _ => True
  out : CD args → PD obs → PD obs'
  ret : CD args → PD obs → CD res
section
variable {obs : List Ob} {args : List Cl}
def altVC (al : Alt obs args) (a : CD args) (x : PD obs) (ν : List Nat) (st : St) (K : SV → St → VC) : VC :=
  match nodupB (newN obs al.obs' ν st.next) && capsBelow (st.next + al.obs'.length) (newN obs al.obs' ν st.next) with
  | true => .imp (al.ok a x) (K (retSV (clsV (refAt al.obs' (al.out a x) (newN obs al.obs' ν st.next)) al.res (al.ret a x)))
      { env := st.env, objs := objsC (refAt al.obs' (al.out a x) (newN obs al.obs' ν st.next)) al.obs' (al.out a x) (newN obs al.obs' ν st.next) ++ delAll st.objs ν, next := st.next + al.obs'.length })
  | false => .ff
def altsVC (a : CD args) (x : PD obs) (ν : List Nat) (st : St) (K : SV → St → VC) : List (Alt obs args) → VC
  | [] => .leaf True
  | [al] => altVC al a x ν st K
  | al :: al2 :: r => .both (altVC al a x ν st K) (altsVC a x ν st K (al2 :: r))
/-- What is said of a call that turns things of one's own. -/
def objSpec (obs : List Ob) (args : List Cl) (pre : CD args → PD obs → Prop) (alts : List (Alt obs args)) : CSpec := fun as st K =>
  match frzP args st as with
  | (as, st) => match findN obs args as st.objs [] with
    | some ν => match nodupB ν, getVs false st.objs obs ν args as, getObs false st.objs obs ν obs ν with
      | true, some a, some x => andP (condVs obs x args as ++ condObs obs x st.objs obs ν) (.and (pre a x) (altsVC a x ν st K alts))
      | _, _, _ => .ff
    | none => .ff
def startSt (obs : List Ob) (args : List Cl) (a : CD args) (x : PD obs) : St :=
  { env := argEnv0 0 (clsV (refAt obs x (upto 0 obs.length)) args a), objs := objsC (refAt obs x (upto 0 obs.length)) obs x (upto 0 obs.length), next := obs.length }
def endVC (a : CD args) (x : PD obs) (vs : List SV0) (st : St) : List (Alt obs args) → VC
  | [] => .ff
  | al :: r => match frzP al.res st vs with
    | (vs', st') => match findN al.obs' al.res vs' st'.objs (startAs 0 obs al.obs') with
      | some ν => match nodupB ν && (keptB 0 obs al.obs' ν && (!al.cv || (noTok obs && (flatObs al.obs' && flatCls al.res)))), getVs al.cv st'.objs al.obs' ν al.res vs', getObs al.cv st'.objs al.obs' ν al.obs' ν with
        | true, some b, some y => .leaf (allP (condVs al.obs' y al.res vs' ++ condObs al.obs' y st'.objs al.obs' ν ++ [al.ok a x ∧ y = al.out a x ∧ b = al.ret a x]))
        | _, _, _ => endVC a x vs st r
      | none => endVC a x vs st r
def objVCs (B : Cx) (Γ : List (FuncId × (Bool × CSpec))) (fn : Func) (anns : Anns) (obs : List Ob) (args : List Cl) (alts : List (Alt obs args)) (a : CD args) (x : PD obs) : VC :=
  fnVC (mkCx B Γ fn.ntmps) anns fn.results.toList (codeOf fn) (startSt obs args a x) fun vs st' => endVC a x vs st' alts
def wfC : (cls : List Cl) → CD cls → Prop
  | [], _ => True
  | .d t :: r, x => wf t x.1 ∧ wfC r x.2
  | .obj _ :: r, x => wfC r x
  | .nilP :: r, x => wfC r x
end
section
variable {eT : TypeId} {X : Ext}
theorem capsBelow_mem {k : Nat} : ∀ {l : List Nat} {n : Nat}, capsBelow k l = true → n ∈ l → n < k
  | [], _, _, h => by simp at h
  | m :: r, n, h, hn => by
    simp only [capsBelow, Bool.and_eq_true] at h
    rcases List.mem_cons.1 hn with e | hn
    · rw [e]; exact blt_lt h.1
    · exact capsBelow_mem h.2 hn
theorem look_delAll (m : Nat) : ∀ (ns : List Nat) (l : List (Nat × OC)), look (delAll l ns) m = if m ∈ ns then none else look l m
  | [], l => by simp [delAll]
  | n :: r, l => by
    simp only [delAll]
    rw [look_delAll m r, look_del]
    by_cases h1 : m ∈ r
    · simp [h1]
    · by_cases h2 : n = m
      · subst h2; simp
      · have : ¬ m = n := fun e => h2 e.symm
        simp [h1, h2, this]
theorem newN_spec : ∀ {obs obs' : List Ob} {ν : List Nat} {b i n : Nat}, (newN obs obs' ν b)[i]? = some n →
    (∃ o o', obs[i]? = some o ∧ obs'[i]? = some o' ∧ keepO o o' = true ∧ ν[i]? = some n) ∨ b ≤ n
  | obs, [], ν, b, i, n, h => by
    cases obs <;> cases ν <;> simp [newN] at h
  | [], o' :: os', ν, b, i, n, h => by
    simp only [newN] at h
    cases i with
    | zero => simp at h; exact .inr (by omega)
    | succ i =>
      rcases newN_spec (obs := []) (ν := []) (by simpa using h) with ⟨o, _, h1, _⟩ | h1
      · simp at h1
      · exact .inr (by omega)
  | o :: os, o' :: os', [], b, i, n, h => by
    simp only [newN] at h
    cases i with
    | zero => simp at h; exact .inr (by omega)
    | succ i =>
      rcases newN_spec (obs := []) (ν := []) (by simpa using h) with ⟨o, _, h1, _⟩ | h1
      · simp at h1
      · exact .inr (by omega)
  | o :: os, o' :: os', n0 :: ns, b, i, n, h => by
    simp only [newN] at h
    cases i with
    | zero =>
      simp only [List.getElem?_cons_zero, Option.some.injEq] at h
      split at h
      · rename_i hk; exact .inl ⟨o, o', rfl, rfl, hk, by simp [h]⟩
      · exact .inr (by omega)
    | succ i =>
      rcases newN_spec (by simpa using h) with ⟨a, a', h1, h2, h3⟩ | h1
      · exact .inl ⟨a, a', by simpa using h1, by simpa using h2, by simpa using h3⟩
      · exact .inr (by omega)
theorem newN_len : ∀ {obs obs' : List Ob} {ν : List Nat} {b : Nat}, (newN obs obs' ν b).length = obs'.length
  | obs, [], ν, b => by cases obs <;> cases ν <;> rfl
  | [], o' :: os', ν, b => by simp [newN, newN_len]
  | o :: os, o' :: os', [], b => by simp [newN, newN_len]
  | o :: os, o' :: os', n0 :: ns, b => by simp [newN, newN_len]
theorem keptB_spec : ∀ {obs obs' : List Ob} {ν : List Nat} {k i n : Nat} {o o' : Ob}, keptB k obs obs' ν = true → obs[i]? = some o → obs'[i]? = some o' → keepO o o' = true → ν[i]? = some n → n = k + i
  | [], _, _, _, _, _, _, _, _, h, _, _, _ => by simp at h
  | _ :: _, [], _, _, _, _, _, _, _, _, h, _, _ => by simp at h
  | _ :: _, _ :: _, [], _, _, _, _, _, _, _, _, _, h => by simp at h
  | a :: os, a' :: os', m :: ns, k, 0, n, o, o', h, h1, h2, h3, h4 => by
    simp at h1 h2 h4
    subst h1; subst h2; subst h4
    simp only [keptB, h3, Bool.and_eq_true] at h
    have := Nat.eq_of_beq_eq_true h.1
    omega
  | a :: os, a' :: os', m :: ns, k, i + 1, n, o, o', h, h1, h2, h3, h4 => by
    simp only [keptB, Bool.and_eq_true] at h
    have := keptB_spec h.2 (by simpa using h1) (by simpa using h2) h3 (by simpa using h4)
    omega
theorem noTok_mem : ∀ {l : List Ob} {o : Ob} {t : Ty}, noTok l = true → o ∈ l → o ≠ .tok t
  | [], _, _, _, h => by simp at h
  | a :: r, o, t, h, ho => by
    rcases List.mem_cons.1 ho with e | ho
    · subst e; intro e; subst e; simp [noTok] at h
    · exact noTok_mem (by cases a <;> simp_all [noTok]) ho
theorem clsR_wf {S : Sit} {F : Nat → Value → Prop} : ∀ {cls : List Cl} {x : CD cls} {vs : List Value}, clsR eT S F cls x vs → wfC cls x
  | [], _, _, _ => trivial
  | .d t :: r, x, v :: vs, h => ⟨h.1.wf, clsR_wf h.2⟩
  | .obj k :: r, x, v :: vs, h => clsR_wf (cls := r) h.2
  | .nilP :: r, x, v :: vs, h => clsR_wf (cls := r) h.2
theorem clsR_len {S : Sit} {F : Nat → Value → Prop} : ∀ {cls : List Cl} {x : CD cls} {vs : List Value}, clsR eT S F cls x vs → vs.length = cls.length
  | [], _, _, h => by rw [show _ = [] from h]; rfl
  | .d t :: r, x, v :: vs, h => by simp [clsR_len h.2]
  | .obj k :: r, x, v :: vs, h => by simp [clsR_len (cls := r) h.2]
  | .nilP :: r, x, v :: vs, h => by simp [clsR_len (cls := r) h.2]
theorem frzP_sound {O : Avoid} {loc : Nat → Loc} {w : World} : ∀ (cls : List Cl) (xs : List SV0) {st : St}, Good eT X (sit O st loc w) →
    Tr (sit O st loc w) (sit O (frzP cls st xs).2 loc w) ∧ Good eT X (sit O (frzP cls st xs).2 loc w) ∧ (frzP cls st xs).2.env = st.env ∧
      ∀ vs, SV0Rs eT (sit O st loc w) xs vs → SV0Rs eT (sit O (frzP cls st xs).2 loc w) (frzP cls st xs).1 vs := by
  intro cls
  induction cls with
  | nil => intro xs st g; exact ⟨Tr.refl _, g, rfl, fun vs h => h⟩
  | cons cl r ih =>
    intro xs st g
    cases xs with
    | nil => cases cl <;> exact ⟨Tr.refl _, g, rfl, fun vs h => h⟩
    | cons x xs =>
      cases cl with
      | d t =>
        have g' : Good (Cx.mk eT [] [] [] 0 [] [] [] false []).eT X (sit O st loc w) := g
        obtain ⟨t1, g1, e1, k1⟩ := frz0_sound g' x
        obtain ⟨t2, g2, e2, k2⟩ := ih xs g1
        refine ⟨t1.trans t2, g2, e2.trans e1, fun vs h => ?_⟩
        cases h with
        | cons h1 h3 => exact .cons ((k1 _ h1).tr t2) (k2 _ (h3.tr t1))
      | obj k =>
        obtain ⟨t2, g2, e2, k2⟩ := ih xs g
        refine ⟨t2, g2, e2, fun vs h => ?_⟩
        cases h with
        | cons h1 h3 => exact .cons (h1.tr t2) (k2 _ h3)
      | nilP =>
        obtain ⟨t2, g2, e2, k2⟩ := ih xs g
        refine ⟨t2, g2, e2, fun vs h => ?_⟩
        cases h with
        | cons h1 h3 => exact .cons (h1.tr t2) (k2 _ h3)
end
end Go.Vg
namespace Go.Vg
open Go.RowKit
section
variable {X : Ext} {P : Program} {obs : List Ob} {args : List Cl}
theorem altsVC_mem {a : CD args} {x : PD obs} {ν : List Nat} {st : St} {K : SV → St → VC} : ∀ {alts : List (Alt obs args)}, (altsVC a x ν st K alts).holds → ∀ al ∈ alts, (altVC al a x ν st K).holds
  | [], _, al, h => by simp at h
  | [al0], h, al, ha => by simp at ha; subst ha; exact h
  | al0 :: al1 :: r, h, al, ha => by
    rcases List.mem_cons.1 ha with e | ha
    · subst e; exact h.1
    · exact altsVC_mem h.2 al ha
theorem endVC_out {a : CD args} {x : PD obs} {vs : List SV0} {st : St} : ∀ {alts : List (Alt obs args)}, (endVC a x vs st alts).holds → ∃ al ∈ alts, ∃ ν,
    nodupB ν = true ∧ keptB 0 obs al.obs' ν = true ∧ (al.cv = false ∨ (noTok obs = true ∧ flatObs al.obs' = true ∧ flatCls al.res = true)) ∧ al.ok a x ∧
    getVs al.cv (frzP al.res st vs).2.objs al.obs' ν al.res (frzP al.res st vs).1 = some (al.ret a x) ∧ getObs al.cv (frzP al.res st vs).2.objs al.obs' ν al.obs' ν = some (al.out a x) ∧
    (∀ p ∈ condVs al.obs' (al.out a x) al.res (frzP al.res st vs).1, p) ∧ (∀ p ∈ condObs al.obs' (al.out a x) (frzP al.res st vs).2.objs al.obs' ν, p)
  | [], h => h.elim
  | al :: r, h => by
    have rest : (endVC a x vs st r).holds → ∃ al' ∈ al :: r, ∃ ν,
        nodupB ν = true ∧ keptB 0 obs al'.obs' ν = true ∧ (al'.cv = false ∨ (noTok obs = true ∧ flatObs al'.obs' = true ∧ flatCls al'.res = true)) ∧ al'.ok a x ∧
        getVs al'.cv (frzP al'.res st vs).2.objs al'.obs' ν al'.res (frzP al'.res st vs).1 = some (al'.ret a x) ∧ getObs al'.cv (frzP al'.res st vs).2.objs al'.obs' ν al'.obs' ν = some (al'.out a x) ∧
        (∀ p ∈ condVs al'.obs' (al'.out a x) al'.res (frzP al'.res st vs).1, p) ∧ (∀ p ∈ condObs al'.obs' (al'.out a x) (frzP al'.res st vs).2.objs al'.obs' ν, p) := fun h => by
      obtain ⟨al', h1, h2⟩ := endVC_out h
      exact ⟨al', by simp [h1], h2⟩
    simp only [endVC] at h
    split at h
    · rename_i ν hν
      split at h
      · rename_i b y hc hb hy
        simp only [Bool.and_eq_true, Bool.or_eq_true, Bool.not_eq_true'] at hc
        obtain ⟨h1, h2, h3⟩ := hc
        have hall := allP_out h
        have k3 : al.ok a x ∧ y = al.out a x ∧ b = al.ret a x := hall _ (List.mem_append_right _ (by simp))
        obtain ⟨k4, k5, k6⟩ := k3
        subst k5; subst k6
        obtain ⟨k1, _⟩ := allP_app.1 hall
        obtain ⟨k1, k2⟩ := allP_app.1 k1
        exact ⟨al, by simp, ν, h1, h2, h3, k4, hb, hy, k1, k2⟩
      · exact rest h
    · exact rest h
/-- A call, with what it was handed, and what it gives back. -/
theorem obj_call {B : Cx} {Γ : List (FuncId × (Bool × CSpec))} (hok : CtxOK P B X Γ) {f : FuncId} {fn : Func} {c : Code} (hf : P.funcs[f]? = some fn) (hb : fn.body = some c) (hN : args.length ≤ fn.ntmps) {anns : CD args → PD obs → Anns}
    {pre : CD args → PD obs → Prop} {alts : List (Alt obs args)} (h : ∀ a x, wfC args a → pre a x → (objVCs B Γ fn (anns a x) obs args alts a x).holds)
    {O : Avoid} {st : St} {loc : Nat → Loc} {w : World} {as : List SV0} {vs : List Value} {K : SV → St → VC} (g : Good B.eT X (sit O st loc w)) (hO : OIn O w) (ha : SV0Rs B.eT (sit O st loc w) as vs)
    {ν : List Nat} {a : CD args} {x : PD obs} (hnd : nodupB ν = true) (hga : getVs false st.objs obs ν args as = some a) (hx : getObs false st.objs obs ν obs ν = some x)
    (hp1 : ∀ p ∈ condVs obs x args as, p) (hp2 : ∀ p ∈ condObs obs x st.objs obs ν, p) (hpre : pre a x) (hK : (altsVC a x ν st K alts).holds) :
    Calls P f vs.toArray w fun e w' => ∃ v sv st' loc', e = .returned v ∧ (K sv st').holds ∧ st'.env = st.env ∧ Good B.eT X (sit O st' loc' w') ∧
      Tr (sit O st loc w) (sit O st' loc' w') ∧ SVR B.eT (sit O st' loc' w') sv v := by
  have hvals := getVs_rel g hx hga ha hp1
  have hobsl := getObs_len hx
  -- the callee's situation
  let us := upto 0 obs.length
  have hul : ν.length = us.length := by rw [upto_len]; exact hobsl.symm
  let O' : Avoid := fun b off => O b off ∨ ∃ n oc, look st.objs n = some oc ∧ n ∉ ν ∧ b ∈ (loc n).bs ∧ oc.lo ≤ off
  let st0 := startSt obs args a x
  have hOin' : OIn O' w := by
    rintro b off (h | ⟨n, oc, h1, _, h2, _⟩)
    · exact hO b off h
    · exact (g.obj n oc h1).2.inside b h2
  have hlo : ∀ n ∈ ν, ∀ oc, look st.objs n = some oc → noTok obs = true → oc.lo = 0 := by
    intro n hn oc h1 h2
    obtain ⟨o, oc', y, k1, k2, k3⟩ := getObs_look hx hn
    rw [h1] at k2; cases k2
    have := (getO_kind k3 (fun _ => .any)).2.2.2 (fun t => noTok_mem h2 k1) rfl
    cases oc <;> first | rfl | exact (this _ _ rfl).elim
  have hν : ∀ n ∈ ν, ∃ oc, look st.objs n = some oc := fun n hn => let ⟨_, oc, _, _, k, _⟩ := getObs_look hx hn; ⟨oc, k⟩
  let loc0 := locOf us (ν.map loc) loc
  have hf0 : ∀ k oc, look st0.objs k = some oc → ∃ (i n : Nat) (o : Ob) (y : OD o) (oc0 : OC), ν[i]? = some n ∧ us[i]? = some k ∧ obs[i]? = some o ∧ look st.objs n = some oc0 ∧ getO false st.objs obs ν o oc0 = some y ∧ oc = ocOf (refAt obs x us) o y ∧ loc0 k = loc n := by
    intro k oc hk
    obtain ⟨i, n, o, y, oc0, k1, k2, k3, k4, k5, k6, _⟩ := objsC_find hx (getObs_rel (X := X) g hx hx hp2) hul hk
    exact ⟨i, n, o, y, oc0, k1, k2, k3, k4, k5, k6, locOf_get (upto_nodup _ _) k2 (by simp [k1])⟩
  have hA0 : ∀ b o, (sit O' st0 loc0 w).A b o → (sit O st loc w).A b o := by
    rintro b off ((h | ⟨n, oc, h1, _, h2, h3⟩) | ⟨k, oc, h1, h2, h3⟩)
    · exact .inl h
    · exact .inr ⟨n, oc, h1, h2, h3⟩
    · obtain ⟨i, n, o, y, oc0, _, _, _, k4, k5, k6, k7⟩ := hf0 k oc h1
      refine .inr ⟨n, oc0, k4, by simp only [sit] at h2; rw [k7] at h2; exact h2, ?_⟩
      rcases getO_lo (f := refAt obs x us) k5 with e | e
      · rw [← e, ← k6]; exact h3
      · cases e
  have hown0 : ∀ b, (sit O' st0 loc0 w).owns b → ∃ n ∈ ν, b ∈ (loc n).bs := by
    rintro b ⟨k, oc, h1, h2⟩
    obtain ⟨i, n, o, y, oc0, k1, _, _, _, _, _, k7⟩ := hf0 k oc h1
    exact ⟨n, List.mem_of_getElem? k1, by simp only [sit] at h2; rw [k7] at h2; exact h2⟩
  obtain ⟨g0, laid0⟩ := relay (X := X) g hx hp2 hnd (O2 := O') (ν2 := us) (rest := []) (locR := loc) (st2 := st0) (upto_nodup _ _) hul
    (by simp [st0, startSt, us]) (fun n hn => by have := upto_mem hn; simp [st0, startSt]; omega)
    (fun n hn b hb off => by
      obtain ⟨oc, k⟩ := hν n hn
      rintro (h | ⟨m, oc', h1, h2, h3, _⟩)
      · exact g.out n oc b off k hb h
      · exact h2 (by rw [← g.apart n m oc oc' b k h1 hb h3]; exact hn))
    (fun n hn b hb m oc h => by simp [look] at h) (fun m oc h => by simp [look] at h) (fun m m' oc oc' b h => by simp [look] at h) (fun m oc b off h => by simp [look] at h) (.inr hA0)
  have hargs : SV0Rs B.eT (sit O' st0 loc0 w) (clsV (refAt obs x us) args a) vs := clsV_rel (S := sit O st loc w) (S' := sit O' st0 loc0 w) rfl (fun k v hk => CR_ref laid0 hk) (.inr hA0) hvals
  have hcode : codeOf fn = c := by unfold codeOf; rw [hb]; rfl
  have hvc := h a x (clsR_wf hvals) hpre
  unfold objVCs at hvc
  rw [hcode] at hvc
  have hcalls := calls_of_vc (X := X) (hok fn.ntmps) hf hb (by rfl) (anns a x) (O := O') (loc := loc0) (w := w) (args := vs.toArray) (st := st0)
    (by rw [List.size_toArray, clsR_len hvals]; exact hN) g0 hOin'
    (fun t sv ht => by
      obtain ⟨_, v, k1, k2⟩ := argEnv0_rel 0 hargs t sv ht
      exact ⟨v, by simpa using k1, k2⟩) hvc
  refine hcalls.mono ?_
  rintro e w' ⟨rs, us', st', locE, he, hk, hr, gE', trE'⟩
  obtain ⟨al, hal, ν', hnd', hkept, hcv, hokal, hret, hout, hc1, hc2⟩ := endVC_out hk
  obtain ⟨tF, gE, _, kF⟩ := frzP_sound al.res rs gE'
  generalize hst2 : (frzP al.res st' rs).2 = st2 at *
  generalize hrs2 : (frzP al.res st' rs).1 = rs2 at *
  have trE := trE'.trans tF
  have hrE := kF us' hr
  have hKal := altsVC_mem hK al hal
  unfold altVC at hKal
  split at hKal
  case h_2 => exact hKal.elim
  rename_i hn1
  simp only [Bool.and_eq_true] at hn1
  obtain ⟨hnd1, hbel⟩ := hn1
  have hKal := hKal hokal
  generalize hν1 : newN obs al.obs' ν st.next = ν1 at *
  have hl1 : ν'.length = ν1.length := by rw [← hν1, newN_len]; exact (getObs_len hout).symm
  -- the caller's situation afterwards
  generalize hst1 : ({ env := st.env, objs := objsC (refAt al.obs' (al.out a x) ν1) al.obs' (al.out a x) ν1 ++ delAll st.objs ν, next := st.next + al.obs'.length } : St) = st1 at hKal
  have h1env : st1.env = st.env := by rw [← hst1]
  have h1objs : st1.objs = objsC (refAt al.obs' (al.out a x) ν1) al.obs' (al.out a x) ν1 ++ delAll st.objs ν := by rw [← hst1]
  have h1next : st1.next = st.next + al.obs'.length := by rw [← hst1]
  let loc1 := locOf ν1 (ν'.map locE) loc
  have hf1 : ∀ m oc, look st1.objs m = some oc → (∃ (i n : Nat) (o : Ob) (y : OD o) (oc0 : OC), ν'[i]? = some n ∧ ν1[i]? = some m ∧ al.obs'[i]? = some o ∧ look st2.objs n = some oc0 ∧ getO al.cv st2.objs al.obs' ν' o oc0 = some y ∧
      oc = ocOf (refAt al.obs' (al.out a x) ν1) o y ∧ loc1 m = locE n) ∨ (m ∉ ν1 ∧ m ∉ ν ∧ look st.objs m = some oc ∧ loc1 m = loc m) := by
    intro m oc hm
    rw [h1objs, look_append] at hm
    split at hm
    · rename_i oc' hm'
      cases hm
      obtain ⟨i, n, o, y, oc0, k1, k2, k3, k4, k5, k6, _⟩ := objsC_find hout (getObs_rel (X := X) gE hout hout hc2) hl1 hm'
      exact .inl ⟨i, n, o, y, oc0, k1, k2, k3, k4, k5, k6, locOf_get hnd1 k2 (by simp [k1])⟩
    · rename_i hm'
      have hnin : m ∉ ν1 := fun hmem => by
        obtain ⟨oc1, h2⟩ := objsC_mem (f := refAt al.obs' (al.out a x) ν1) (x := al.out a x) (by rw [← hν1, newN_len]) hmem
        rw [h2] at hm'; cases hm'
      rw [look_delAll] at hm
      split at hm
      · cases hm
      · rename_i hmn
        exact .inr ⟨hnin, hmn, hm, locOf_not hnin⟩
  have hownE : ∀ n ∈ ν', ∀ b ∈ (locE n).bs, (sit O' st2 locE w').owns b := by
    intro n hn b hb
    obtain ⟨_, oc, _, _, k, _⟩ := getObs_look hout hn
    exact ⟨n, oc, k, hb⟩
  have hblk : ∀ m oc, look st.objs m = some oc → m ∉ ν → ∀ b ∈ (loc m).bs, ¬ (sit O' st0 loc0 w).owns b := by
    intro m oc h1 h2 b hb' ho
    obtain ⟨n, hn, hbn⟩ := hown0 b ho
    obtain ⟨oc', k⟩ := hν n hn
    have := g.apart n m oc' oc b k h1 hbn hb'
    exact h2 (by rw [← this]; exact hn)
  have hA1 : al.cv = false → ∀ b o, (sit O st1 loc1 w').A b o → (sit O' st2 locE w').A b o := by
    rintro hcv0 b off (h | ⟨m, oc, h1, h2, h3⟩)
    · exact .inl (.inl h)
    · rcases hf1 m oc h1 with ⟨i, n, o, y, oc0, k1, k2, k3, k4, k5, k6, k7⟩ | ⟨k1, k2, k3, k4⟩
      · refine .inr ⟨n, oc0, k4, by simp only [sit] at h2; rw [k7] at h2; exact h2, ?_⟩
        rcases getO_lo (f := refAt al.obs' (al.out a x) ν1) k5 with e | e
        · rw [← e, ← k6]; exact h3
        · rw [hcv0] at e; cases e
      · exact .inl (.inr ⟨m, oc, k3, k2, by simp only [sit] at h2; rw [k4] at h2; exact h2, h3⟩)
  have hkeep : ∀ (m i : Nat), ν1[i]? = some m → m < st.next → ∃ o o', obs[i]? = some o ∧ al.obs'[i]? = some o' ∧ keepO o o' = true ∧ ν[i]? = some m := by
    intro m i h1 h2
    rw [← hν1] at h1
    rcases newN_spec h1 with h3 | h3
    · exact h3
    · omega
  have hT : Tr (sit O st loc w) (sit O st1 loc1 w') := {
    O := rfl
    next := by simp only [sit]; omega
    os := trE.os
    output := trE.output
    size := trE.size
    own := by
      rintro b ⟨m, oc, h1, h2⟩
      rcases hf1 m oc h1 with ⟨i, n, o, y, oc0, k1, k2, k3, k4, k5, k6, k7⟩ | ⟨k1, k2, k3, k4⟩
      · simp only [sit] at h2; rw [k7] at h2
        rcases trE.own b (hownE n (List.mem_of_getElem? k1) b h2) with h3 | h3
        · obtain ⟨n', hn', hb'⟩ := hown0 b h3
          obtain ⟨oc', k⟩ := hν n' hn'
          exact .inl ⟨n', oc', k, hb'⟩
        · exact .inr h3
      · simp only [sit] at h2; rw [k4] at h2; exact .inl ⟨m, oc, k3, h2⟩
    cell := by
      intro b off v hna hcell
      obtain ⟨h1, h2⟩ := trE.cell b off v (fun h => hna (hA0 b off h)) hcell
      refine ⟨h1, fun h3 => ?_⟩
      rcases hcv with hcv | ⟨hnt, _, _⟩
      · exact h2 (hA1 hcv b off h3)
      · rcases h3 with h3 | ⟨m, oc, h3, h4, h5⟩
        · exact hna (.inl h3)
        · rcases hf1 m oc h3 with ⟨i, n, o, y, oc0, k1, k2, k3, k4, k5, k6, k7⟩ | ⟨k1, k2, k3, k4⟩
          · simp only [sit] at h4; rw [k7] at h4
            rcases trE.own b (hownE n (List.mem_of_getElem? k1) b h4) with h6 | h6
            · obtain ⟨n', hn', hb'⟩ := hown0 b h6
              obtain ⟨oc', k⟩ := hν n' hn'
              exact hna (.inr ⟨n', oc', k, hb', by rw [hlo n' hn' oc' k hnt]; exact Nat.zero_le _⟩)
            · have := World.block_lt_of_cell? _ _ hcell
              simp only [sit] at this h6
              omega
          · simp only [sit] at h4; rw [k4] at h4; exact hna (.inr ⟨m, oc, k3, h4, h5⟩)
    block := fun b hb' ho => trE.block b hb' fun h => ho (by
      obtain ⟨n, hn, hbn⟩ := hown0 b h
      obtain ⟨oc, k⟩ := hν n hn
      exact ⟨n, oc, k, hbn⟩)
    loc := by
      intro m hm hfix
      by_cases hin : m ∈ ν1
      · obtain ⟨i, hi⟩ := List.getElem?_of_mem hin
        obtain ⟨o, o', e1, e2, e3, e4⟩ := hkeep m i hi hm
        have hiE : i < ν'.length := by rw [hl1]; exact getElem?_lt hi
        have hn' : ν'[i]? = some ν'[i] := List.getElem?_eq_getElem hiE
        have hni := keptB_spec hkept e1 e2 e3 hn'
        rw [Nat.zero_add] at hni
        have e5 : loc1 m = locE i := by
          have := locOf_get (d := loc) hnd1 hi (ls := ν'.map locE) (l := locE i) (by simp [hn', hni])
          exact this
        have hui : us[i]? = some i := by have := upto_get obs.length 0 i (getElem?_lt e1); simpa using this
        have e6 : loc0 i = loc m := locOf_get (upto_nodup _ _) hui (by simp [e4])
        have e7 := trE.loc i (show i < st0.next by simp [st0, startSt]; exact getElem?_lt e1) (fun t ys hy => by
          obtain ⟨j, n, o2, y, oc0, k1, k2, k3, k4, k5, k6, k7⟩ := hf0 i _ hy
          have hj : j = i := nodup_idx (upto_nodup _ _) k2 hui
          subst hj
          rw [e1] at k3; cases k3
          cases o <;> simp [ocOf] at k6
          cases o' <;> simp [keepO] at e3)
        show loc1 m = loc m
        rw [e5, ← e6]; exact e7
      · exact locOf_not hin
    kind := by
      intro m oc' hm hob
      rcases hf1 m oc' hob with ⟨i, n, o, y, oc0, k1, k2, k3, k4, k5, k6, k7⟩ | ⟨k1, k2, k3, k4⟩
      · obtain ⟨o0, o', e1, e2, e3, e4⟩ := hkeep m i k2 hm
        rw [k3] at e2; cases e2
        have hui : us[i]? = some i := by have := upto_get obs.length 0 i (getElem?_lt e1); simpa using this
        obtain ⟨oc2, h2⟩ := objsC_mem (f := refAt obs x us) (x := x) (ms := us) (by rw [upto_len]) (List.mem_of_getElem? hui)
        obtain ⟨j, n2, o2, y2, oc3, j1, j2, j3, j4, j5, j6, j7⟩ := hf0 i oc2 (by simpa [st0, startSt] using h2)
        have hj : j = i := nodup_idx (upto_nodup _ _) j2 hui
        subst hj
        rw [e1] at j3; cases j3
        rw [e4] at j1; cases j1
        refine ⟨oc3, j4, ?_⟩
        cases o0 <;> cases o <;> simp [keepO] at e3
        · subst e3
          obtain ⟨cs, rfl⟩ := (getO_kind j5 (fun _ => .any)).1 _ _ rfl
          rw [k6]
          rfl
        · rename_i kp t kp' t'
          cases kp <;> cases kp' <;> simp at e3
          have e3 := Ty.eq_of_beq e3
          subst e3
          obtain ⟨xs, rfl⟩ := (getO_kind j5 (fun _ => .any)).2.2.1 _ _ rfl rfl
          rw [k6]
          rfl
        · obtain ⟨e3, e4⟩ := e3
          have e4 := Ty.eq_of_beq e4
          subst e3; subst e4
          obtain ⟨z, rfl⟩ := (getO_kind j5 (fun _ => .any)).2.1 _ _ rfl
          rw [k6]
          exact ⟨rfl, rfl⟩
      · refine ⟨oc', k3, ?_⟩
        cases oc' <;> simp [SameKind, sit, k4] }
  obtain ⟨g1, laid1⟩ := relay (X := X) gE hout hc2 hnd' (O2 := O) (ν2 := ν1) (rest := delAll st.objs ν) (locR := loc) (st2 := st1) hnd1 hl1 h1objs
    (fun n hn => by rw [h1next]; exact capsBelow_mem hbel hn)
    (fun n hn b hb' off h => by
      obtain ⟨_, oc, _, _, k, _⟩ := getObs_look hout hn
      exact gE.out n oc b off k hb' (.inl h))
    (fun n hn b hb' m oc h1 h2 h3 => by
      rw [look_delAll] at h1
      split at h1
      · cases h1
      · rename_i hmn
        rcases trE.own b (hownE n hn b hb') with h4 | h4
        · exact hblk m oc h1 hmn b h3 h4
        · have := (g.obj m oc h1).2.inside b h3
          simp only [sit] at this h4
          omega)
    (fun m oc h1 h2 => by
      rw [look_delAll] at h1
      split at h1
      · cases h1
      · rename_i hmn
        obtain ⟨k1, k2⟩ := g.obj m oc h1
        refine ⟨by rw [h1next]; simp only [sit] at k1; omega, k2.tr hT fun b hb' => ?_⟩
        exact trE.block b (k2.inside b hb') (hblk m oc h1 hmn b hb'))
    (fun m m' oc oc' b h1 h2 _ _ h3 h4 => by
      rw [look_delAll] at h1 h2
      split at h1
      · cases h1
      · split at h2
        · cases h2
        · exact g.apart m m' oc oc' b h1 h2 h3 h4)
    (fun m oc b off h1 _ h2 => by
      rw [look_delAll] at h1
      split at h1
      · cases h1
      · exact g.out m oc b off h1 h2)
    (by
      rcases hcv with hcv | ⟨_, hcv, _⟩
      · exact .inr (hA1 hcv)
      · exact .inl hcv)
  have hres := getVs_rel gE hout hret hrE hc1
  refine ⟨_, _, st1, loc1, he, hKal, h1env, g1, hT, retSV_rel (clsV_rel (S := sit O' st2 locE w') (S' := sit O st1 loc1 w') rfl (fun k v hk => CR_ref laid1 hk) ?_ hres)⟩
  rcases hcv with hcv | ⟨_, _, hcv⟩
  · exact .inr (hA1 hcv)
  · exact .inl hcv
/-- A contract of a function that turns things of one's own: from its condition. -/
theorem callOK_of_obj {B : Cx} {Γ : List (FuncId × (Bool × CSpec))} (hok : CtxOK P B X Γ) {f : FuncId} {fn : Func} (hf : P.funcs[f]? = some fn) (hg : goodFn fn args.length = true) (anns : CD args → PD obs → Anns)
    {pre : CD args → PD obs → Prop} {alts : List (Alt obs args)} (h : ∀ a x, wfC args a → pre a x → (objVCs B Γ fn (anns a x) obs args alts a x).holds) :
    CallOK P B.eT X f false (objSpec obs args pre alts) := by
  simp only [goodFn, Bool.and_eq_true, Bool.not_eq_true'] at hg
  obtain ⟨⟨h1, h2⟩, h3⟩ := hg
  obtain ⟨c, hc⟩ := Option.isSome_iff_exists.1 h1
  refine ⟨⟨fn, hf, by rw [hc]; rfl, h2⟩, fun O st loc w as vs K hK g hO ha => ?_⟩
  unfold objSpec at hK
  obtain ⟨t1, g1, e1, k1⟩ := frzP_sound args as g
  simp only at hK
  split at hK
  case h_2 => exact hK.elim
  rename_i ν hν
  split at hK
  case h_2 => exact hK.elim
  rename_i a x hnd hga hx
  obtain ⟨hp, hpre, hK⟩ := andP_out hK
  obtain ⟨hp1, hp2⟩ := allP_app.1 hp
  refine (obj_call hok hf hc (Nat.le_of_ble_eq_true h3) h g1 hO (k1 vs ha) hnd hga hx hp1 hp2 hpre hK).mono ?_
  rintro e w' ⟨v, sv, st', loc', q1, q2, q3, q4, q5, q6⟩
  exact ⟨v, sv, st', loc', q1, q2, q3.trans e1, (fun hq => by cases hq), q4, t1.trans q5, q6⟩
end
end Go.Vg
namespace Go.Vg
/-! The program's kinds of things. -/
@[reducible] def tSymbol : Ty := .prod .str (.prod (.int .i64) (.prod .bool .unit))
@[reducible] def tRange : Ty := .prod (.int .i64) (.prod (.int .i64) .unit)
@[reducible] def tTie : Ty := .prod (.int .i64) (.prod (.int .i64) (.prod (.int .i64) (.prod .str (.prod .bool .unit))))
@[reducible] def tPatch : Ty := .prod (.int .i64) (.prod (.int .i64) (.prod (.int .i64) .unit))
@[reducible] def tStamped : Ty := .prod .str (.prod (.int .i64) (.prod (.int .i64) .unit))
@[reducible] def tObject : Ty := .prod (.slice .str) (.prod (.slice (.int .i64)) (.prod (.slice tSymbol) (.prod (.slice tTie) .unit)))
@[reducible] def tEntry : Ty := .prod .str (.prod (.slice tStamped) (.prod (.slice tPatch) .unit))
@[reducible] def tAct : Ty := .prod .str (.prod .str (.prod .str (.prod (.int .i64) (.prod (.int .u64) (.prod tEntry .unit)))))
@[reducible] def tPart : Ty := .prod .str (.prod (.int .i64) (.prod (.slice (.int .i64)) .unit))
@[reducible] def tTable : Ty := .prod (.slice (.int .i64)) (.prod (.slice (.int .i64)) .unit)
@[reducible] def tTurn : Ty := .prod (.int .i64) (.prod .str .unit)
@[reducible] def tDisk : Ty := .prod (.slice .str) (.prod (.slice .str) (.prod (.slice tTurn) (.prod (.int .i64) (.prod .bool .unit))))
@[reducible] def tFile : Ty := .prod .str (.prod .str (.prod (.int .i64) .unit))
@[reducible] def tRFiles : Ty := .prod (.slice tFile) (.prod (.int .i64) .unit)
/-- How tests are read. -/
theorem bl :
    (∀ (p : Prop) [Decidable p], (decide p = true) = p) ∧ (∀ (p : Prop) [Decidable p], (decide p = false) = ¬ p) ∧
    (∀ (α : Type) [BEq α] [LawfulBEq α] (a b : α), ((a == b) = true) = (a = b)) ∧ (∀ (α : Type) [BEq α] [LawfulBEq α] (a b : α), ((a == b) = false) = ¬ a = b) ∧
    (∀ (α : Type) [BEq α] [LawfulBEq α] (a b : α), ((a != b) = true) = ¬ a = b) ∧ (∀ (α : Type) [BEq α] [LawfulBEq α] (a b : α), ((a != b) = false) = (a = b)) ∧
    (∀ b : Bool, ((!b) = true) = (b = false)) ∧ (∀ b : Bool, ((!b) = false) = (b = true)) ∧ (∀ b : Bool, (¬ b = true) = (b = false)) ∧ (∀ b : Bool, (¬ b = false) = (b = true)) ∧
    (∀ a b : Bool, ((a && b) = true) = (a = true ∧ b = true)) ∧ (∀ a b : Bool, ((a || b) = true) = (a = true ∨ b = true)) ∧
    (∀ a b : Bool, ((a && b) = false) = (a = false ∨ b = false)) ∧ (∀ a b : Bool, ((a || b) = false) = (a = false ∧ b = false)) ∧
    (∀ a b : Int, (¬ a < b) = (b ≤ a)) ∧ (∀ a b : Int, (¬ a ≤ b) = (b < a)) := by
  refine ⟨?_, ?_, ?_, ?_, ?_, ?_, ?_, ?_, ?_, ?_, ?_, ?_, ?_, ?_, ?_, ?_⟩ <;> intros <;> first | (simp; done) | (rename_i a b; cases a <;> cases b <;> simp)
end Go.Vg
namespace Go.Mrl
open Go.Vg
/-! Names and their hashes, as plain functions. -/
def small (c : UInt8) : Bool := decide ((97 : Int) ≤ c.toNat) && decide ((c.toNat : Int) ≤ 122)
def other (c : UInt8) : Bool := (decide ((48 : Int) ≤ c.toNat) && decide ((c.toNat : Int) ≤ 57)) || ((c.toNat : Int) == 95)
def badAt (i : Nat) (c : UInt8) : Bool := !small c && ((i : Int) == 0 || !other c)
def anyBad (s : List UInt8) : Bool := (List.range s.length).any fun i => badAt i (nthB s i)
def nameFault (s : List UInt8) : Int := if s.length < 1 ∨ 8 < s.length then 1 else if anyBad s = true then 3 else 0
def errNo (n : Int) : Err := if n = 0 then .nil else .no n
def sameE : Err → Int → Bool
  | .nil, n => n == 0
  | .no m, n => decide (n > 0) && m == n
  | .other, _ => false
def numE : Err → Int
  | .nil => 0
  | .no m => m
  | .other => -1
theorem sameE_errNo {n : Int} (h : 0 ≤ n) : sameE (errNo n) n = true := by
  unfold errNo
  split
  · rename_i e; subst e; rfl
  · simp [sameE]; omega
theorem nameFault_nonneg (s : List UInt8) : 0 ≤ nameFault s := by
  unfold nameFault; split
  · decide
  · split <;> decide
theorem anyBad_true {s : List UInt8} {i : Nat} (h : i < s.length) (hb : badAt i (nthB s i) = true) : anyBad s = true := by
  simp only [anyBad, List.any_eq_true, List.mem_range]
  exact ⟨i, h, hb⟩
theorem anyBad_false {s : List UInt8} (h : ∀ i, i < s.length → badAt i (nthB s i) = false) : anyBad s = false := by
  simp only [anyBad, List.any_eq_false, List.mem_range]
  intro i hi; rw [h i hi]; simp
theorem get?_nthB {s : List UInt8} {i : Nat} (h : i < s.length) : s[i]? = some (nthB s i) := by
  rw [nthB_eq (List.getElem?_eq_getElem h), List.getElem?_eq_getElem h]
theorem nameFault_one {s : List UInt8} (h : s.length < 1 ∨ 8 < s.length) : nameFault s = 1 := by unfold nameFault; rw [if_pos h]
theorem nameFault_three {s : List UInt8} {i : Nat} (h : ¬ (s.length < 1 ∨ 8 < s.length)) (hi : i < s.length) (hb : badAt i (nthB s i) = true) : nameFault s = 3 := by
  unfold nameFault
  rw [if_neg h, if_pos (anyBad_true hi hb)]
theorem nameFault_zero {s : List UInt8} (h : ¬ (s.length < 1 ∨ 8 < s.length)) (hb : ∀ i, i < s.length → badAt i (nthB s i) = false) : nameFault s = 0 := by
  unfold nameFault
  rw [if_neg h, if_neg (by rw [anyBad_false hb]; decide)]
theorem badAt_iff {i : Nat} {c : UInt8} : badAt i c = true ↔ ¬ (97 ≤ c.toNat ∧ c.toNat ≤ 122) ∧ (i = 0 ∨ ¬ ((48 ≤ c.toNat ∧ c.toNat ≤ 57) ∨ c.toNat = 95)) := by
  simp only [badAt, small, other, Bool.and_eq_true, Bool.not_eq_true', Bool.and_eq_false_iff, Bool.or_eq_true, Bool.or_eq_false_iff, decide_eq_false_iff_not, beq_iff_eq, beq_eq_false_iff_ne]
  omega
theorem badAt_false {i : Nat} {c : UInt8} : badAt i c = false ↔ ¬ (¬ (97 ≤ c.toNat ∧ c.toNat ≤ 122) ∧ (i = 0 ∨ ¬ ((48 ≤ c.toNat ∧ c.toNat ≤ 57) ∨ c.toNat = 95))) := by
  rw [← badAt_iff]; simp
theorem bad_next {s : List UInt8} {i : Nat} (h : ∀ j, j < i → badAt j (nthB s j) = false) (hb : badAt i (nthB s i) = false) : ∀ j, j < i + 1 → badAt j (nthB s j) = false := by
  intro j hj
  rcases Nat.lt_or_ge j i with hlt | hge
  · exact h j hlt
  · obtain rfl : j = i := by omega
    exact hb
def hashStep (h : Nat) (c : UInt8) : Nat := ((16 * h + c.toNat) % 4294967296 % 268435456) ^^^ (16 * ((16 * h + c.toNat) % 4294967296 / 268435456))
def hashF (s : List UInt8) : Nat := s.foldl hashStep 0
theorem hashStep_lt (h : Nat) (c : UInt8) : hashStep h c < 268435456 := by
  unfold hashStep
  have h1 : (16 * h + c.toNat) % 4294967296 % 268435456 < 2 ^ 28 := Nat.mod_lt _ (by decide)
  have h2 : 16 * ((16 * h + c.toNat) % 4294967296 / 268435456) < 2 ^ 28 := by
    have : (16 * h + c.toNat) % 4294967296 < 4294967296 := Nat.mod_lt _ (by decide)
    omega
  exact Nat.xor_lt_two_pow h1 h2
theorem hashF_lt (s : List UInt8) : hashF s < 268435456 := by
  rcases List.eq_nil_or_concat s with rfl | ⟨l, a, rfl⟩
  · decide
  · simp only [hashF, List.concat_eq_append, List.foldl_append, List.foldl_cons, List.foldl_nil]; exact hashStep_lt _ _
theorem hashF_take {s : List UInt8} {i : Nat} (h : i < s.length) : hashF (s.take (i + 1)) = hashStep (hashF (s.take i)) (nthB s i) := by
  rw [List.take_add_one, get?_nthB h]
  simp [hashF]
theorem bv_and {n a b : Nat} (ha : a < 2 ^ n) : (BitVec.ofInt n (a : Int) &&& BitVec.ofInt n (b : Int)).toNat = a &&& b % 2 ^ n := by
  simp [BitVec.ofInt_natCast, Nat.mod_eq_of_lt ha]
theorem bv_xor {n a b : Nat} (ha : a < 2 ^ n) (hb : b < 2 ^ n) : (BitVec.ofInt n (a : Int) ^^^ BitVec.ofInt n (b : Int)).toNat = a ^^^ b := by
  simp [BitVec.ofInt_natCast, Nat.mod_eq_of_lt ha, Nat.mod_eq_of_lt hb]
theorem u32_id {a : Nat} (h : a < 4294967296) : IntKind.u32.wrap (a : Int) = a := wrap_id (by simp [IntKind.min, IntKind.max, IntKind.signed, IntKind.bits]; omega)
theorem i64_id {a : Nat} (h : a < 9223372036854775808) : IntKind.i64.wrap (a : Int) = a := wrap_id (by simp [IntKind.min, IntKind.max, IntKind.signed, IntKind.bits]; omega)
theorem u32_mod (a : Nat) : IntKind.u32.wrap (a : Int) = ((a % 4294967296 : Nat) : Int) := by
  simp [IntKind.wrap, IntKind.signed, IntKind.bits]
  try omega
theorem high_bits {x : Nat} (hx : x < 4294967296) : x &&& 4026531840 = 268435456 * (x / 268435456) := by
  apply Nat.eq_of_testBit_eq
  intro i
  rw [Nat.testBit_and, show (4026531840 : Nat) = 2 ^ 28 * (2 ^ 4 - 1) from by decide, show (268435456 : Nat) = 2 ^ 28 from by decide, Nat.testBit_two_pow_mul, Nat.testBit_two_pow_mul, Nat.testBit_two_pow_sub_one, Nat.testBit_div_two_pow]
  by_cases h : 28 ≤ i
  · rw [show i - 28 + 28 = i from by omega]
    by_cases h2 : i - 28 < 4
    · simp [h, h2]
    · rw [Nat.testBit_lt_two_pow (x := x) (i := i) (Nat.lt_of_lt_of_le hx (Nat.pow_le_pow_right (n := 2) (i := 32) (j := i) (by decide) (by omega)))]; simp
  · simp [h]
theorem hash_bits {x : Nat} (hx : x < 4294967296) : (BitVec.ofInt 32 ((x ^^^ 16 * (x / 268435456) : Nat) : Int) &&& ~~~ BitVec.ofInt 32 ((268435456 * (x / 268435456) : Nat) : Int)).toNat = (x % 268435456) ^^^ (16 * (x / 268435456)) := by
  have hq : x / 268435456 < 16 := by omega
  have h1 : x ^^^ 16 * (x / 268435456) < 2 ^ 32 := Nat.xor_lt_two_pow hx (by omega)
  rw [BitVec.toNat_and, BitVec.toNat_not, BitVec.ofInt_natCast, BitVec.ofInt_natCast, BitVec.toNat_ofNat, BitVec.toNat_ofNat, Nat.mod_eq_of_lt h1, Nat.mod_eq_of_lt (by omega)]
  apply Nat.eq_of_testBit_eq
  intro i
  rw [show 2 ^ 32 - 1 - 268435456 * (x / 268435456) = 2 ^ 32 - (268435456 * (x / 268435456) + 1) from by omega, Nat.testBit_and, Nat.testBit_two_pow_sub_succ (by omega), Nat.testBit_xor, Nat.testBit_xor,
    show (268435456 : Nat) = 2 ^ 28 from by decide, Nat.testBit_mod_two_pow, Nat.testBit_two_pow_mul, Nat.testBit_div_two_pow]
  by_cases h : i < 28
  · simp [h, show ¬ 28 ≤ i from by omega, show i < 32 from by omega]
  · have h16 : (16 * (x / 2 ^ 28)).testBit i = false := by
      apply Nat.testBit_lt_two_pow
      exact Nat.lt_of_lt_of_le (show _ < 2 ^ 28 by omega) (Nat.pow_le_pow_right (by decide) (by omega))
    rw [h16]
    by_cases h2 : i < 32
    · simp [h, h2, show 28 ≤ i from by omega]
    · simp [h, h2]
theorem hash_next {h : Nat} {c : UInt8} (hh : h < 268435456) {x1 x3 x4 x5 x6 x7 : Int}
    (e1 : x1 = IntKind.wrap IntKind.u32 ((h : Int) * (2 : Int) ^ min (Int.toNat (4 : Int)) 32)) (e3 : x3 = IntKind.wrap IntKind.u32 (x1 + (c.toNat : Int)))
    (e4 : x4 = IntKind.wrap IntKind.u32 (((BitVec.ofInt 32 x3 &&& BitVec.ofInt 32 (4026531840 : Int)).toNat : Nat) : Int))
    (e5 : x5 = Int.fdiv x4 ((2 : Int) ^ min (Int.toNat (24 : Int)) 32))
    (e6 : x6 = IntKind.wrap IntKind.u32 (((BitVec.ofInt 32 x3 ^^^ BitVec.ofInt 32 x5).toNat : Nat) : Int))
    (e7 : x7 = IntKind.wrap IntKind.u32 (((BitVec.ofInt 32 x6 &&& ~~~BitVec.ofInt 32 x4).toNat : Nat) : Int)) :
    x7 = (hashStep h c : Int) := by
  have hc := c.toNat_lt
  have h1 : x1 = ((16 * h : Nat) : Int) := by
    rw [e1, show (h : Int) * (2 : Int) ^ min (Int.toNat (4 : Int)) 32 = ((16 * h : Nat) : Int) from by rw [show min (Int.toNat (4 : Int)) 32 = 4 from by decide]; omega, u32_id (by omega)]
  have h3 : x3 = (((16 * h + c.toNat) % 4294967296 : Nat) : Int) := by
    rw [e3, h1, show ((16 * h : Nat) : Int) + (c.toNat : Int) = ((16 * h + c.toNat : Nat) : Int) from by omega, u32_mod]
  generalize hx : (16 * h + c.toNat) % 4294967296 = x at h3
  have hxl : x < 4294967296 := by omega
  have h4 : x4 = ((268435456 * (x / 268435456) : Nat) : Int) := by
    rw [e4, h3, show (4026531840 : Int) = ((4026531840 : Nat) : Int) from rfl, bv_and (by omega), show (4026531840 : Nat) % 2 ^ 32 = 4026531840 from by decide, high_bits hxl, u32_id (by omega)]
  have h5 : x5 = ((16 * (x / 268435456) : Nat) : Int) := by
    rw [e5, h4, show min (Int.toNat (24 : Int)) 32 = 24 from by decide, Int.fdiv_eq_ediv_of_nonneg _ (by decide)]
    omega
  have hxor : x ^^^ 16 * (x / 268435456) < 2 ^ 32 := Nat.xor_lt_two_pow hxl (by omega)
  have h6 : x6 = ((x ^^^ 16 * (x / 268435456) : Nat) : Int) := by
    rw [e6, h3, h5, bv_xor (by omega) (by omega), u32_id hxor]
  have hlow : (x % 268435456) ^^^ (16 * (x / 268435456)) < 2 ^ 28 := Nat.xor_lt_two_pow (Nat.mod_lt _ (by decide)) (by omega)
  rw [e7, h6, h4, hash_bits hxl, u32_id (by omega)]
  unfold hashStep
  rw [hx]
theorem rh3 {h : Nat} {c : UInt8} {x1 x3 : Int} (e1 : x1 = 16 * (h : Int)) (e3 : x3 = (x1 + (c.toNat : Int)).tmod 4294967296) : x3 = (((16 * h + c.toNat) % 4294967296 : Nat) : Int) := by
  rw [e3, e1, Int.tmod_eq_emod_of_nonneg (by omega)]; omega
theorem rh4 {x : Nat} {x3 x4 : Int} (h3 : x3 = (x : Int)) (e4 : x4 = x3.tdiv 268435456) : x4 = ((x / 268435456 : Nat) : Int) := by
  rw [e4, h3, Int.tdiv_eq_ediv_of_nonneg (by omega)]; omega
theorem rhash_next {h : Nat} {c : UInt8} {x1 x3 x4 x5 x6 x7 : Int} (e1 : x1 = 16 * (h : Int)) (e3 : x3 = (x1 + (c.toNat : Int)).tmod 4294967296) (e4 : x4 = x3.tdiv 268435456) (e5 : x5 = x3.tmod 268435456)
    (e6 : x6 = 16 * x4) (e7 : x7 = IntKind.wrap IntKind.i64 (((BitVec.ofInt 64 x5 ^^^ BitVec.ofInt 64 x6).toNat : Nat) : Int)) : x7 = (hashStep h c : Int) := by
  have hc := c.toNat_lt
  have h3 := rh3 e1 e3
  generalize hx : (16 * h + c.toNat) % 4294967296 = x at h3
  have hxl : x < 4294967296 := by omega
  have h4 := rh4 h3 e4
  have h5 : x5 = ((x % 268435456 : Nat) : Int) := by rw [e5, h3, Int.tmod_eq_emod_of_nonneg (by omega)]; omega
  have h6 : x6 = ((16 * (x / 268435456) : Nat) : Int) := by rw [e6, h4]; omega
  have hlow : (x % 268435456) ^^^ (16 * (x / 268435456)) < 2 ^ 28 := Nat.xor_lt_two_pow (Nat.mod_lt _ (by decide)) (by omega)
  rw [e7, h5, h6, bv_xor (by omega) (by omega), i64_id (by omega)]
  unfold hashStep
  rw [hx]
theorem u8_range {c : Int} (h : wf (.int .u8) c) : 0 ≤ c ∧ c ≤ 255 := by
  have : IntKind.u8.min ≤ c ∧ c ≤ IntKind.u8.max := h
  simpa [IntKind.min, IntKind.max, IntKind.signed, IntKind.bits] using this
theorem hash_letter {s : List UInt8} {c x1 x2 : Int} (hc : 0 ≤ c ∧ c ≤ 255) (h : hashF s < 16777200) (e1 : x1 = IntKind.wrap IntKind.u32 (16 * (hashF s : Int))) (e2 : x2 = IntKind.wrap IntKind.u32 (x1 + c)) : (hashF (s ++ bytesOf [c]) : Int) = x2 := by
  have hb : (UInt8.ofNat c.toNat).toNat = c.toNat := by simp; omega
  have h1 : x1 = ((16 * hashF s : Nat) : Int) := by rw [e1, show (16 : Int) * (hashF s : Int) = ((16 * hashF s : Nat) : Int) from by omega, u32_id (by omega)]
  have h2 : x2 = ((16 * hashF s + c.toNat : Nat) : Int) := by rw [e2, h1, show ((16 * hashF s : Nat) : Int) + c = ((16 * hashF s + c.toNat : Nat) : Int) from by omega, u32_id (by omega)]
  rw [h2]
  have : hashF (s ++ bytesOf [c]) = hashStep (hashF s) (UInt8.ofNat c.toNat) := by simp [hashF, bytesOf]
  rw [this]
  unfold hashStep
  rw [hb, show (16 * hashF s + c.toNat) % 4294967296 = 16 * hashF s + c.toNat from by omega, show (16 * hashF s + c.toNat) / 268435456 = 0 from by omega, show (16 * hashF s + c.toNat) % 268435456 = 16 * hashF s + c.toNat from by omega]
  simp
end Go.Mrl
namespace Go.Mrl
open Go.Vg
/-! Tables of symbols, as plain functions. -/
def tab (n : Nat) (f : Nat → Int) : List Int := (List.range n).map f
theorem tab_length (n : Nat) (f : Nat → Int) : (tab n f).length = n := by simp [tab]
theorem tab_get {n i : Nat} {f : Nat → Int} (h : i < n) : (tab n f)[i]? = some (f i) := by simp [tab, h]
theorem tab_nth {n i : Nat} {f : Nat → Int} (h : i < n) : nth (.int .i64) (tab n f) i = f i := nth_eq (t := .int .i64) (tab_get h)
theorem tab_set {n i : Nat} {f : Nat → Int} (v : Int) : (tab n f).set i v = tab n (fun j => if j = i then v else f j) := by
  apply List.ext_getElem?
  intro j
  rw [List.getElem?_set]
  by_cases hj : j < n
  · rw [tab_get hj, tab_get hj, tab_length]
    by_cases e : i = j
    · subst e; simp [hj]
    · rw [if_neg e, if_neg (fun e' => e e'.symm)]
  · have h1 : (tab n f)[j]? = none := List.getElem?_eq_none (by rw [tab_length]; omega)
    have h2 : (tab n (fun j => if j = i then v else f j))[j]? = none := List.getElem?_eq_none (by rw [tab_length]; omega)
    rw [h1, h2, tab_length]
    split
    · split
      · omega
      · rfl
    · rfl
theorem tab_ext {n : Nat} {f g : Nat → Int} (h : ∀ i, i < n → f i = g i) : tab n f = tab n g := by
  apply List.map_congr_left
  intro i hi
  exact h i (List.mem_range.1 hi)
theorem tab_replicate (n : Nat) (v : Int) : List.replicate n v = tab n (fun _ => v) := by
  apply List.ext_getElem?
  intro j
  by_cases hj : j < n
  · rw [tab_get hj, List.getElem?_replicate, if_pos hj]
  · rw [List.getElem?_replicate, if_neg hj, List.getElem?_eq_none (by rw [tab_length]; omega)]
def bucketN (l : List (D tSymbol)) (m j : Nat) : Nat := hashF (nth tSymbol l j).1 % m
def nextIn (l : List (D tSymbol)) (m h : Nat) : Nat → Nat → Int
  | _, 0 => -1
  | k, n + 1 => if bucketN l m k = h then (k : Int) else nextIn l m h (k + 1) n
def firstOf (l : List (D tSymbol)) (m h k : Nat) : Int := nextIn l m h k (l.length - k)
theorem firstOf_end (l : List (D tSymbol)) (m h : Nat) : firstOf l m h l.length = -1 := by simp [firstOf, nextIn]
theorem firstOf_step {l : List (D tSymbol)} {m h k : Nat} (hk : k < l.length) : firstOf l m h k = if bucketN l m k = h then (k : Int) else firstOf l m h (k + 1) := by
  unfold firstOf
  rw [show l.length - k = (l.length - (k + 1)) + 1 from by omega]
  rfl
def firstT (l : List (D tSymbol)) (m k : Nat) : List Int := tab m fun h => firstOf l m h k
def nextT (l : List (D tSymbol)) (m k : Nat) : List Int := tab l.length fun j => if j < k then 0 else firstOf l m (bucketN l m j) (j + 1)
def fillT (m i : Nat) : List Int := tab m fun h => if h < i then -1 else 0
theorem fillT_zero (m : Nat) : fillT m 0 = List.replicate m 0 := by rw [tab_replicate]; exact tab_ext fun i _ => by simp
theorem fillT_set {m i : Nat} : (fillT m i).set i (-1) = fillT m (i + 1) := by
  unfold fillT; rw [tab_set]; exact tab_ext fun j _ => by
    by_cases e : j = i
    · subst e; simp
    · simp only [if_neg e]; by_cases h : j < i
      · rw [if_pos h, if_pos (by omega)]
      · rw [if_neg h, if_neg (by omega)]
theorem fillT_full (l : List (D tSymbol)) (m : Nat) : fillT m m = firstT l m l.length := tab_ext fun i hi => by rw [if_pos hi, firstOf_end]
theorem nextT_full (l : List (D tSymbol)) (m : Nat) : nextT l m l.length = List.replicate l.length 0 := by
  rw [tab_replicate]; exact tab_ext fun i hi => by rw [if_pos hi]
theorem firstT_set {l : List (D tSymbol)} {m k : Nat} (hk : k < l.length) : (firstT l m (k + 1)).set (bucketN l m k) k = firstT l m k := by
  unfold firstT; rw [tab_set]; exact tab_ext fun j _ => by
    rw [firstOf_step hk]
    by_cases e : j = bucketN l m k
    · rw [if_pos e, if_pos e.symm]
    · rw [if_neg e, if_neg fun e' => e e'.symm]
theorem nextT_set {l : List (D tSymbol)} {m k : Nat} : (nextT l m (k + 1)).set k (firstOf l m (bucketN l m k) (k + 1)) = nextT l m k := by
  unfold nextT; rw [tab_set]; exact tab_ext fun j _ => by
    by_cases e : j = k
    · subst e; rw [if_pos rfl, if_neg (by omega)]
    · rw [if_neg e]
      by_cases h : j < k
      · rw [if_pos (by omega), if_pos h]
      · rw [if_neg (by omega), if_neg h]
def tableOf (l : List (D tSymbol)) (m : Nat) : D tTable := (firstT l m 0, nextT l m 0, ())
end Go.Mrl
namespace Go.Mrl
open Go.Vg
def makeF (x : List (D tSymbol) × Int) : D tTable × Err :=
  if x.2 < 1 ∨ 16 < x.2 then (([], [], ()), .no 1) else if 8 < x.1.length then (([], [], ()), .no 2) else (tableOf x.1 x.2.toNat, .nil)
end Go.Mrl
namespace Go.Mrl
open Go.Vg
theorem fillT_length (m i : Nat) : (fillT m i).length = m := by simp [fillT, tab_length]
theorem firstT_length (l : List (D tSymbol)) (m k : Nat) : (firstT l m k).length = m := by simp [firstT, tab_length]
theorem nextT_length (l : List (D tSymbol)) (m k : Nat) : (nextT l m k).length = l.length := by simp [nextT, tab_length]
theorem bucketN_lt {l : List (D tSymbol)} {m j : Nat} (h : 0 < m) : bucketN l m j < m := Nat.mod_lt _ h
theorem wrap_u32_small {n : Int} (h : 0 ≤ n) (h' : n < 4294967296) : IntKind.u32.wrap n = n := by
  have := u32_id (a := n.toNat) (by omega)
  rwa [Int.toNat_of_nonneg h] at this
theorem bucket_eq {l : List (D tSymbol)} {many x : Int} {j : Nat} (h1 : 1 ≤ many) (h2 : many ≤ 16)
    (hx : x = Int.tmod (↑(hashF (nth tSymbol l j).1) : Int) (IntKind.wrap IntKind.u32 many)) : x = (bucketN l many.toNat j : Int) := by
  rw [wrap_u32_small (by omega) (by omega)] at hx
  rw [hx, Int.tmod_eq_emod_of_nonneg (by omega)]
  unfold bucketN
  rw [Int.natCast_emod, Int.toNat_of_nonneg (by omega)]
theorem make_first {l : List (D tSymbol)} {m k : Nat} {x y : Int} (hk : k < l.length) (hx : x = (bucketN l m k : Int)) (hy : y = (k : Int)) : (firstT l m (k + 1)).set x.toNat y = firstT l m k := by
  subst hx hy; rw [Int.toNat_natCast]; exact firstT_set hk
theorem make_next {l : List (D tSymbol)} {m k : Nat} {x : Int} {j : Nat} (hm : 0 < m) (hx : x = (bucketN l m k : Int)) (hj : j = k) : (nextT l m (k + 1)).set j (nth (.int .i64) (firstT l m (k + 1)) x.toNat) = nextT l m k := by
  subst hx; rw [hj, Int.toNat_natCast]
  have : nth (.int .i64) (firstT l m (k + 1)) (bucketN l m k) = firstOf l m (bucketN l m k) (k + 1) := tab_nth (bucketN_lt hm)
  rw [this]; exact nextT_set
end Go.Mrl
namespace Go.Mrl
open Go.Vg
/-! The first one of some: sought from a place on. -/
def seek (p : Nat → Bool) : Nat → Nat → Int
  | _, 0 => -1
  | k, n + 1 => if p k = true then (k : Int) else seek p (k + 1) n
theorem seek_spec (p : Nat → Bool) : ∀ n k, (seek p k n = -1 ∧ ∀ j, k ≤ j → j < k + n → p j = false) ∨ ∃ j : Nat, seek p k n = j ∧ k ≤ j ∧ j < k + n ∧ p j = true ∧ ∀ i, k ≤ i → i < j → p i = false := by
  intro n
  induction n with
  | zero => intro k; exact .inl ⟨rfl, fun j h1 h2 => by omega⟩
  | succ n ih =>
    intro k
    by_cases h : p k = true
    · exact .inr ⟨k, by simp [seek, h], by omega, by omega, h, fun i h1 h2 => by omega⟩
    · have e : seek p k (n + 1) = seek p (k + 1) n := by simp [seek, h]
      have h0 : p k = false := by simpa using h
      rcases ih (k + 1) with ⟨h1, h2⟩ | ⟨j, h1, h2, h3, h4, h5⟩
      · refine .inl ⟨by rw [e, h1], fun j a b => ?_⟩
        by_cases ej : j = k
        · rw [ej]; exact h0
        · exact h2 j (by omega) (by omega)
      · refine .inr ⟨j, by rw [e, h1], by omega, by omega, h4, fun i a b => ?_⟩
        by_cases ei : i = k
        · rw [ei]; exact h0
        · exact h5 i (by omega) b
def nameIs (l : List (D tSymbol)) (s : List UInt8) (j : Nat) : Bool := (nth tSymbol l j).1 == s
/-- The first one from k on that has the name. -/
def wantF (l : List (D tSymbol)) (s : List UInt8) (k : Nat) : Int := seek (nameIs l s) k (l.length - k)
theorem wantF_end {l : List (D tSymbol)} {s : List UInt8} {k : Nat} (h : l.length ≤ k) : wantF l s k = -1 := by
  unfold wantF; rw [show l.length - k = 0 by omega]; rfl
theorem wantF_step {l : List (D tSymbol)} {s : List UInt8} {k : Nat} (h : k < l.length) : wantF l s k = if nameIs l s k = true then (k : Int) else wantF l s (k + 1) := by
  unfold wantF; rw [show l.length - k = (l.length - (k + 1)) + 1 by omega]; rfl
/-- A chain is followed. -/
def chase (nx : List Int) (l : List (D tSymbol)) (s : List UInt8) : Nat → Int → Int
  | 0, i => i
  | n + 1, i => if i < 0 ∨ (l.length : Int) ≤ i ∨ (nx.length : Int) ≤ i ∨ nameIs l s i.toNat = true then i else chase nx l s n (nth (.int .i64) nx i.toNat)
def clampF (l : List (D tSymbol)) (s : List UInt8) (r : Int) : Int := if r < 0 ∨ (l.length : Int) ≤ r ∨ nameIs l s r.toNat = false then -1 else r
def find3 (t : D tTable) (l : List (D tSymbol)) (s : List UInt8) : Int :=
  if t.1.length = 0 then -1 else clampF l s (chase t.2.1 l s l.length (nth (.int .i64) t.1 (hashF s % t.1.length)))
def findF (x : D tTable × List (D tSymbol) × List UInt8) : Int := find3 x.1 x.2.1 x.2.2
theorem chase_stop {nx : List Int} {l : List (D tSymbol)} {s : List UInt8} {n : Nat} {i : Int} (h : i < 0 ∨ (l.length : Int) ≤ i ∨ (nx.length : Int) ≤ i ∨ nameIs l s i.toNat = true) : chase nx l s n i = i := by
  cases n with
  | zero => rfl
  | succ n => simp only [chase]; rw [if_pos h]
theorem chase_go {nx : List Int} {l : List (D tSymbol)} {s : List UInt8} {n : Nat} {i : Int} (h : ¬ (i < 0 ∨ (l.length : Int) ≤ i ∨ (nx.length : Int) ≤ i ∨ nameIs l s i.toNat = true)) :
    chase nx l s (n + 1) i = chase nx l s n (nth (.int .i64) nx i.toNat) := by
  simp only [chase]; rw [if_neg h]
theorem findF_sound (o : D tTable) (l : List (D tSymbol)) (s : List UInt8) : findF (o, l, s) < 0 ∨ (findF (o, l, s) < (l.length : Int) ∧ nameIs l s (findF (o, l, s)).toNat = true) := by
  show find3 o l s < 0 ∨ (find3 o l s < (l.length : Int) ∧ nameIs l s (find3 o l s).toNat = true)
  unfold find3
  split
  · exact .inl (by omega)
  · generalize chase _ _ _ _ _ = r
    unfold clampF
    split
    · exact .inl (by omega)
    · rename_i h
      refine .inr ⟨by omega, ?_⟩
      cases e : nameIs l s r.toNat with
      | true => rfl
      | false => exact absurd (.inr (.inr e)) h
theorem find_end {t : D tTable} {l : List (D tSymbol)} {s : List UInt8} {n : Nat} {i : Int} (ne : ¬ t.1.length = 0) (h : chase t.2.1 l s n i = chase t.2.1 l s l.length (nth (.int .i64) t.1 (hashF s % t.1.length)))
    (stop : ¬ (0 < n ∧ 0 ≤ i ∧ i < l.length ∧ i < t.2.1.length ∧ ¬ (nth tSymbol l i.toNat).1 = s)) : findF (t, l, s) = clampF l s i := by
  show find3 t l s = _
  unfold find3
  rw [if_neg ne, ← h]
  congr 1
  cases n with
  | zero => rfl
  | succ n =>
    apply chase_stop
    by_cases h1 : i < 0
    · exact .inl h1
    · by_cases h2 : (l.length : Int) ≤ i
      · exact .inr (.inl h2)
      · by_cases h3 : (t.2.1.length : Int) ≤ i
        · exact .inr (.inr (.inl h3))
        · refine .inr (.inr (.inr ?_))
          by_cases h4 : (nth tSymbol l i.toNat).1 = s
          · simp [nameIs, h4]
          · exact absurd ⟨by omega, by omega, by omega, by omega, h4⟩ stop
theorem find_none {t : D tTable} {l : List (D tSymbol)} {s : List UInt8} {n : Nat} {i : Int} (ne : ¬ t.1.length = 0) (h : chase t.2.1 l s n i = chase t.2.1 l s l.length (nth (.int .i64) t.1 (hashF s % t.1.length)))
    (stop : ¬ (0 < n ∧ 0 ≤ i ∧ i < l.length ∧ i < t.2.1.length ∧ ¬ (nth tSymbol l i.toNat).1 = s)) (bad : ¬ (0 ≤ i ∧ i < l.length ∧ (nth tSymbol l i.toNat).1 = s)) : -1 = findF (t, l, s) := by
  rw [find_end ne h stop]
  unfold clampF
  rw [if_pos]
  by_cases h1 : i < 0
  · exact .inl h1
  · by_cases h2 : (l.length : Int) ≤ i
    · exact .inr (.inl h2)
    · refine .inr (.inr ?_)
      cases e : nameIs l s i.toNat with
      | false => rfl
      | true => exact absurd ⟨by omega, by omega, by simpa [nameIs] using e⟩ bad
theorem find_some {t : D tTable} {l : List (D tSymbol)} {s : List UInt8} {n : Nat} {i : Int} (ne : ¬ t.1.length = 0) (h : chase t.2.1 l s n i = chase t.2.1 l s l.length (nth (.int .i64) t.1 (hashF s % t.1.length)))
    (stop : ¬ (0 < n ∧ 0 ≤ i ∧ i < l.length ∧ i < t.2.1.length ∧ ¬ (nth tSymbol l i.toNat).1 = s)) (h1 : 0 ≤ i) (h2 : i < l.length) (h3 : (nth tSymbol l i.toNat).1 = s) : i = findF (t, l, s) := by
  rw [find_end ne h stop]
  unfold clampF
  rw [if_neg]
  rintro (h4 | h4 | h4)
  · omega
  · omega
  · simp [nameIs, h3] at h4
theorem hash_rem {s : List UInt8} {n : Nat} {x : Int} (h0 : 0 < n) (h1 : n < 4294967296) (hx : x = Int.tmod (↑(hashF s) : Int) (IntKind.wrap IntKind.u32 (n : Int))) : x = ((hashF s % n : Nat) : Int) := by
  rw [wrap_u32_small (by omega) (by omega)] at hx
  rw [hx, Int.tmod_eq_emod_of_nonneg (by omega)]; omega
theorem chase_table {l : List (D tSymbol)} {m : Nat} {s : List UInt8} : ∀ d k n, l.length - k = d → k ≤ l.length → d ≤ n →
    chase (nextT l m 0) l s n (firstOf l m (hashF s % m) k) = wantF l s k := by
  intro d
  induction d with
  | zero =>
    intro k n h1 h2 _
    have : k = l.length := by omega
    subst this
    rw [firstOf_end, wantF_end (Nat.le_refl _)]
    exact chase_stop (.inl (by omega))
  | succ d ih =>
    intro k n h1 h2 h3
    have hk : k < l.length := by omega
    rw [firstOf_step hk, wantF_step hk]
    by_cases hb : bucketN l m k = hashF s % m
    · rw [if_pos hb]
      by_cases hn : nameIs l s k = true
      · rw [if_pos hn]; exact chase_stop (.inr (.inr (.inr (by simpa using hn))))
      · rw [if_neg hn]
        obtain ⟨n', rfl⟩ : ∃ n', n = n' + 1 := ⟨n - 1, by omega⟩
        rw [chase_go (by simp [nextT_length]; exact ⟨hk, by simpa using hn⟩), Int.toNat_natCast]
        have : nth (.int .i64) (nextT l m 0) k = firstOf l m (hashF s % m) (k + 1) := by
          rw [← hb]
          have := tab_nth (n := l.length) (f := fun j => if j < 0 then 0 else firstOf l m (bucketN l m j) (j + 1)) hk
          rw [show nextT l m 0 = tab l.length (fun j => if j < 0 then 0 else firstOf l m (bucketN l m j) (j + 1)) from rfl, this, if_neg (by omega)]
        rw [this]
        exact ih (k + 1) n' (by omega) (by omega) (by omega)
    · rw [if_neg hb]
      have hn : ¬ nameIs l s k = true := by
        intro e
        have e : (nth tSymbol l k).1 = s := by simpa [nameIs] using e
        exact hb (by unfold bucketN; rw [e])
      rw [if_neg hn]
      exact ih (k + 1) n (by omega) (by omega) (by omega)
theorem findF_table {l : List (D tSymbol)} {m : Nat} {s : List UInt8} (hm : 0 < m) : findF (tableOf l m, l, s) = wantF l s 0 := by
  show find3 (tableOf l m) l s = _
  unfold find3 tableOf
  have hl : (firstT l m 0).length = m := firstT_length _ _ _
  simp only [hl]
  rw [if_neg (by omega)]
  have h0 : nth (.int .i64) (firstT l m 0) (hashF s % m) = firstOf l m (hashF s % m) 0 := tab_nth (Nat.mod_lt _ hm)
  rw [h0, chase_table (l.length) 0 l.length (by omega) (by omega) (Nat.le_refl _)]
  unfold clampF
  rcases seek_spec (nameIs l s) (l.length - 0) 0 with ⟨h1, h2⟩ | ⟨j, h1, h2, h3, h4, h5⟩
  · rw [if_pos (.inl (by unfold wantF; rw [h1]; omega))]; unfold wantF; rw [h1]
  · have e : wantF l s 0 = j := h1
    rw [e, if_neg]
    rintro (h | h | h)
    · omega
    · omega
    · rw [Int.toNat_natCast, h4] at h; cases h
end Go.Mrl
namespace Go.Mrl
open Go.Vg
def makeT (x : List (D tSymbol) × Int) : Dec (D tTable × Err) :=
  .ite (decide (x.2 < 1)) (.ret (([], [], ()), .no 1)) (.ite (decide (16 < x.2)) (.ret (([], [], ()), .no 1)) (.ite (decide (8 < x.1.length)) (.ret (([], [], ()), .no 2)) (.ret (tableOf x.1 x.2.toNat, .nil))))
theorem makeT_eval (x : List (D tSymbol) × Int) : makeF x = (makeT x).eval := by
  unfold makeF makeT
  by_cases h1 : x.2 < 1
  · simp [h1, Dec.eval]
  · by_cases h2 : 16 < x.2
    · simp [h1, h2, Dec.eval]
    · by_cases h3 : 8 < x.1.length
      · simp [h1, h2, h3, Dec.eval]
      · simp [h1, h2, h3, Dec.eval]
end Go.Mrl
namespace Go.Mrl
open Go.Vg
theorem rem_bucket {l : List (D tSymbol)} {many x : Int} {j : Nat} (h1 : 1 ≤ many) (hx : x = Int.tmod (↑(hashF (nth tSymbol l j).1) : Int) many) : x = (bucketN l many.toNat j : Int) := by
  rw [hx, Int.tmod_eq_emod_of_nonneg (by omega)]
  unfold bucketN
  rw [Int.natCast_emod, Int.toNat_of_nonneg (by omega)]
theorem firstT_nth {l : List (D tSymbol)} {m k b : Nat} (h : b < m) : nth (.int .i64) (firstT l m k) b = firstOf l m b k := tab_nth h
theorem nextT_nth {l : List (D tSymbol)} {m j : Nat} (h : j < l.length) : nth (.int .i64) (nextT l m 0) j = firstOf l m (bucketN l m j) (j + 1) := by
  have := tab_nth (n := l.length) (f := fun j => if j < 0 then 0 else firstOf l m (bucketN l m j) (j + 1)) h
  rw [show nextT l m 0 = tab l.length (fun j => if j < 0 then 0 else firstOf l m (bucketN l m j) (j + 1)) from rfl, this, if_neg (by omega)]
theorem firstOf_other {l : List (D tSymbol)} {m b k : Nat} (hk : k < l.length) (h : bucketN l m k ≠ b) : firstOf l m b k = firstOf l m b (k + 1) := by
  rw [firstOf_step hk, if_neg h]
theorem firstOf_here {l : List (D tSymbol)} {m b k : Nat} (hk : k < l.length) (h : bucketN l m k = b) : firstOf l m b k = k := by
  rw [firstOf_step hk, if_pos h]
theorem wantF_here {l : List (D tSymbol)} {s : List UInt8} {k : Nat} (hk : k < l.length) (h : (nth tSymbol l k).1 = s) : wantF l s k = k := by
  rw [wantF_step hk, if_pos (by simp [nameIs, h])]
theorem wantF_other {l : List (D tSymbol)} {s : List UInt8} {k : Nat} (hk : k < l.length) (h : ¬ (nth tSymbol l k).1 = s) : wantF l s k = wantF l s (k + 1) := by
  rw [wantF_step hk, if_neg (by simp [nameIs, h])]
end Go.Mrl
namespace Go.Mrl
open Go.Vg
def tabB (n : Nat) (f : Nat → Bool) : List Bool := (List.range n).map f
theorem tabB_length (n : Nat) (f : Nat → Bool) : (tabB n f).length = n := by simp [tabB]
theorem tabB_get {n i : Nat} {f : Nat → Bool} (h : i < n) : (tabB n f)[i]? = some (f i) := by simp [tabB, List.getElem?_range h]
theorem tabB_nth {n i : Nat} {f : Nat → Bool} (h : i < n) : nth .bool (tabB n f) i = f i := nth_eq (t := .bool) (tabB_get h)
theorem tabB_set {n i : Nat} {f : Nat → Bool} (v : Bool) : (tabB n f).set i v = tabB n (fun j => if j = i then v else f j) := by
  apply List.ext_getElem?
  intro j
  rw [List.getElem?_set]
  by_cases hj : j < n
  · rw [tabB_get hj]
    by_cases e : i = j
    · subst e; rw [if_pos rfl, if_pos (by rw [tabB_length]; exact hj), tabB_get hj, if_pos rfl]
    · rw [if_neg e, tabB_get hj, if_neg (fun h => e h.symm)]
  · have h1 : ∀ g : Nat → Bool, (tabB n g)[j]? = none := fun g => List.getElem?_eq_none (by rw [tabB_length]; omega)
    rw [h1, h1]
    split
    · rw [tabB_length, if_neg (by omega)]
    · rfl
theorem tabB_ext {n : Nat} {f g : Nat → Bool} (h : ∀ i, i < n → f i = g i) : tabB n f = tabB n g :=
  List.map_congr_left fun i hi => h i (List.mem_range.1 hi)
theorem tabB_replicate (n : Nat) (v : Bool) : List.replicate n v = tabB n (fun _ => v) := by
  simp [tabB, List.map_const']
/-- What a chain's walk has seen. -/
def seenT (l : List (D tSymbol)) (m b k : Nat) : List Bool := tabB l.length fun j => decide (bucketN l m j < b) || (decide (bucketN l m j = b) && decide (j < k))
theorem seenT_length (l : List (D tSymbol)) (m b k : Nat) : (seenT l m b k).length = l.length := tabB_length _ _
theorem seenT_zero (l : List (D tSymbol)) (m : Nat) : List.replicate l.length false = seenT l m 0 0 := by
  rw [tabB_replicate]; exact tabB_ext fun j _ => by simp
/-- Where a chain leads. -/
theorem firstOf_spec {l : List (D tSymbol)} {m b : Nat} : ∀ d k, l.length - k = d → (firstOf l m b k = -1 ∧ ∀ j, k ≤ j → j < l.length → bucketN l m j ≠ b) ∨
    ∃ j : Nat, firstOf l m b k = j ∧ k ≤ j ∧ j < l.length ∧ bucketN l m j = b ∧ ∀ i, k ≤ i → i < j → bucketN l m i ≠ b := by
  intro d
  induction d with
  | zero =>
    intro k hk
    refine .inl ⟨?_, fun j h1 h2 => by omega⟩
    unfold firstOf; rw [hk]; rfl
  | succ d ih =>
    intro k hk
    by_cases hb : bucketN l m k = b
    · exact .inr ⟨k, firstOf_here (by omega) hb, by omega, by omega, hb, fun i h1 h2 => by omega⟩
    · rw [firstOf_other (by omega) hb]
      rcases ih (k + 1) (by omega) with ⟨h1, h2⟩ | ⟨j, h1, h2, h3, h4, h5⟩
      · refine .inl ⟨h1, fun j a c => ?_⟩
        by_cases e : j = k
        · rw [e]; exact hb
        · exact h2 j (by omega) c
      · refine .inr ⟨j, h1, by omega, h3, h4, fun i a c => ?_⟩
        by_cases e : i = k
        · rw [e]; exact hb
        · exact h5 i (by omega) c
theorem firstOf_pos {l : List (D tSymbol)} {m b k : Nat} (h : 0 ≤ firstOf l m b k) : ∃ j : Nat, firstOf l m b k = j ∧ k ≤ j ∧ j < l.length ∧ bucketN l m j = b ∧ (∀ i, k ≤ i → i < j → bucketN l m i ≠ b) ∧
    nth .bool (seenT l m b k) j = false ∧ (seenT l m b k).set j true = seenT l m b (j + 1) := by
  rcases firstOf_spec (l := l) (m := m) (b := b) _ k rfl with ⟨h1, _⟩ | ⟨j, h1, h2, h3, h4, h5⟩
  · omega
  · refine ⟨j, h1, h2, h3, h4, h5, ?_, ?_⟩
    · unfold seenT; rw [tabB_nth h3]; simp [h4]; omega
    · unfold seenT; rw [tabB_set]
      refine tabB_ext fun i hi => ?_
      by_cases e : i = j
      · subst e; simp [h4]
      · rw [if_neg e]
        congr 1
        by_cases hb : bucketN l m i = b
        · have : ¬ (k ≤ i ∧ i < j) := fun ⟨a, c⟩ => h5 i a c hb
          simp only [hb, decide_true, Bool.true_and]
          by_cases q : i < k
          · simp [q]; omega
          · simp [q]; omega
        · simp [hb]
theorem seenT_next {l : List (D tSymbol)} {m b k : Nat} (h : firstOf l m b k < 0) : seenT l m b k = seenT l m (b + 1) 0 := by
  rcases firstOf_spec (l := l) (m := m) (b := b) _ k rfl with ⟨_, h2⟩ | ⟨j, h1, _⟩
  · unfold seenT
    refine tabB_ext fun i hi => ?_
    by_cases q : bucketN l m i = b
    · have : ¬ k ≤ i := fun a => h2 i a hi q
      simp [q]; omega
    · by_cases q' : bucketN l m i < b
      · simp [q']; omega
      · simp [q, q']; omega
  · exact absurd h (by rw [h1]; omega)
theorem seenT_all {l : List (D tSymbol)} {m i : Nat} (hm : 0 < m) (hi : i < l.length) : nth .bool (seenT l m m 0) i = true := by
  unfold seenT; rw [tabB_nth hi]; simp [bucketN_lt hm]
end Go.Mrl
namespace Go.Mrl
open Go.Vg
theorem wantF_first {l : List (D tSymbol)} {s : List UInt8} {k : Nat} (hk : k < l.length) (h : (nth tSymbol l k).1 = s) (hno : ∀ j, j < k → nameIs l s j = false) : wantF l s 0 = k := by
  have key : ∀ d i, k - i = d → i ≤ k → wantF l s i = k := by
    intro d
    induction d with
    | zero => intro i h1 h2; obtain rfl : i = k := by omega
              exact wantF_here hk h
    | succ d ih =>
      intro i h1 h2
      rw [wantF_step (by omega), if_neg (by rw [hno i (by omega)]; decide)]
      exact ih (i + 1) (by omega) (by omega)
  exact key k 0 (by omega) (by omega)
theorem wantF_none {l : List (D tSymbol)} {s : List UInt8} (hno : ∀ j, j < l.length → nameIs l s j = false) : wantF l s 0 = -1 := by
  rcases seek_spec (nameIs l s) (l.length - 0) 0 with ⟨h1, _⟩ | ⟨j, _, h2, h3, h4, _⟩
  · exact h1
  · rw [hno j (by omega)] at h4; cases h4
end Go.Mrl
namespace Go.Mrl
open Go.Vg
theorem nameIs_next {l : List (D tSymbol)} {s : List UInt8} {k : Nat} (h : ¬ (nth tSymbol l k).1 = s) (hno : ∀ j, j < k → nameIs l s j = false) {j : Nat} (hj : j < k + 1) : nameIs l s j = false := by
  by_cases e : j = k
  · subst e; simp [nameIs, h]
  · exact hno j (by omega)
end Go.Mrl
namespace Go.Mrl
open Go.Vg
/-! Places, as plain functions. -/
def apartF (a b : Int × Int × Unit) : Bool := decide (a.2.1 ≤ 0) || (decide (b.2.1 ≤ 0) || (decide (a.1 + a.2.1 ≤ b.1) || decide (b.1 + b.2.1 ≤ a.1)))
theorem apartF_true {a b : Int × Int × Unit} : apartF a b = true ↔ a.2.1 ≤ 0 ∨ b.2.1 ≤ 0 ∨ a.1 + a.2.1 ≤ b.1 ∨ b.1 + b.2.1 ≤ a.1 := by simp [apartF]
theorem apartF_false {a b : Int × Int × Unit} : apartF a b = false ↔ 0 < a.2.1 ∧ 0 < b.2.1 ∧ b.1 < a.1 + a.2.1 ∧ a.1 < b.1 + b.2.1 := by simp [apartF]
def roundF (n : Int) : Int := (n + 15) / 16 * 16
def bnd (r : Int × Int × Unit) : Prop := -1000000 ≤ r.1 ∧ r.1 ≤ 1000000 ∧ -1000000 ≤ r.2.1 ∧ r.2.1 ≤ 1000000
def freeF (r : D tRange) (l : List (D tRange)) : Bool := l.all (apartF r)
theorem getElem?_nth {t : Ty} {xs : List (D t)} {i : Nat} (h : i < xs.length) : xs[i]? = some (nth t xs i) := by
  rw [List.getElem?_eq_getElem h, ← nth_eq (List.getElem?_eq_getElem h)]
theorem nth_mem {t : Ty} {xs : List (D t)} {i : Nat} (h : i < xs.length) : nth t xs i ∈ xs := by
  have := getElem?_nth (t := t) h
  exact List.mem_of_getElem? this
theorem mem_nth {t : Ty} {xs : List (D t)} {x : D t} (h : x ∈ xs) : ∃ i, i < xs.length ∧ nth t xs i = x := by
  obtain ⟨i, hi, e⟩ := List.getElem_of_mem h
  exact ⟨i, hi, by rw [← e]; exact nth_eq (List.getElem?_eq_getElem hi)⟩
theorem freeF_true {r : D tRange} {l : List (D tRange)} (h : ∀ j, j < l.length → apartF r (nth tRange l j) = true) : freeF r l = true := by
  unfold freeF; rw [List.all_eq_true]
  intro x hx
  obtain ⟨i, hi, e⟩ := mem_nth hx
  rw [← e]; exact h i hi
theorem freeF_false {r : D tRange} {l : List (D tRange)} {j : Nat} (h : j < l.length) (hf : apartF r (nth tRange l j) = false) : freeF r l = false := by
  unfold freeF; rw [List.all_eq_false]
  exact ⟨_, nth_mem h, by rw [hf]; decide⟩
theorem freeF_not {r : D tRange} {l : List (D tRange)} (h : freeF r l = false) : ∃ x ∈ l, apartF r x = false := by
  unfold freeF at h; rw [List.all_eq_false] at h
  obtain ⟨x, hx, e⟩ := h
  exact ⟨x, hx, by simpa using e⟩
def baseAt (l : List (D tRange)) (many : Int) : Nat → Int → Int
  | 0, at_ => at_
  | n + 1, at_ => if freeF (at_, many, ()) l = true then at_ else baseAt l many n (at_ + 16)
def goBases : List (D tRange) → List Int → List Int → Option (List Int)
  | _, [], out => some out
  | l, n :: r, out => if 256 < baseAt l (roundF n) 40 0 + roundF n then none else goBases (l ++ [(baseAt l (roundF n) 40 0, roundF n, ())]) r (out ++ [baseAt l (roundF n) 40 0])
def badSizes (s : List Int) : Bool := s.any fun (n : Int) => decide (n < 1) || decide (40 < n)
def badTaken (l : List (D tRange)) : Bool := l.any fun (r : Int × Int × Unit) => decide (r.1 < 0) || (decide (256 < r.1) || (decide (r.2.1 < 0) || decide (256 < r.2.1)))
def basesF (x : List Int × List (D tRange)) : List Int × Err :=
  if 6 < x.1.length ∨ 20 < x.2.length then ([], .no 2) else if badSizes x.1 = true ∨ badTaken x.2 = true then ([], .no 1) else
    match goBases x.2 x.1 [] with
    | some o => (o, .nil)
    | none => ([], .no 8)
theorem any_nth {t : Ty} {xs : List (D t)} {p : D t → Bool} {i : Nat} (h : i < xs.length) (hp : p (nth t xs i) = true) : xs.any p = true := by
  rw [List.any_eq_true]; exact ⟨_, nth_mem h, hp⟩
theorem any_not {t : Ty} {xs : List (D t)} {p : D t → Bool} (h : ∀ i, i < xs.length → p (nth t xs i) = false) : xs.any p = false := by
  rw [List.any_eq_false]; intro x hx
  obtain ⟨i, hi, e⟩ := mem_nth hx
  rw [← e, h i hi]; decide
theorem goBases_step {l : List (D tRange)} {s out : List Int} {k : Nat} (h : k < s.length) : goBases l (s.drop k) out =
    if 256 < baseAt l (roundF (nth (.int .i64) s k)) 40 0 + roundF (nth (.int .i64) s k) then none
    else goBases (l ++ [(baseAt l (roundF (nth (.int .i64) s k)) 40 0, roundF (nth (.int .i64) s k), ())]) (s.drop (k + 1)) (out ++ [baseAt l (roundF (nth (.int .i64) s k)) 40 0]) := by
  have e : s.drop k = nth (.int .i64) s k :: s.drop (k + 1) := by
    rw [List.drop_eq_getElem_cons h]
    congr 1
    exact (nth_eq (t := .int .i64) (List.getElem?_eq_getElem h)).symm
  rw [e]; rfl
theorem goBases_end {l : List (D tRange)} {s out : List Int} {k : Nat} (h : s.length ≤ k) : goBases l (s.drop k) out = some out := by
  rw [List.drop_eq_nil_of_le h]; rfl
/-- What lies in the window. -/
def okR (r : Int × Int × Unit) : Prop := 0 ≤ r.1 ∧ r.1 ≤ 256 ∧ 0 ≤ r.2.1 ∧ r.2.1 ≤ 256
theorem okR.bnd {r : Int × Int × Unit} (h : okR r) : Mrl.bnd r := by
  obtain ⟨h1, h2, h3, h4⟩ := h
  refine ⟨?_, ?_, ?_, ?_⟩ <;> omega
theorem free_near {l : List (D tRange)} {at_ many : Int} (hl : ∀ x ∈ l, okR x) (h : freeF (at_, many, ()) l = false) : at_ < 512 := by
  obtain ⟨x, hx, e⟩ := freeF_not h
  obtain ⟨h1, h2, h3, h4⟩ := hl x hx
  obtain ⟨h5, h6, h7, h8⟩ := apartF_false.1 e
  have h8 : at_ < x.1 + x.2.1 := h8
  omega
theorem baseAt_stop {l : List (D tRange)} {many at_ : Int} {n : Nat} (h : freeF (at_, many, ()) l = true) : baseAt l many n at_ = at_ := by
  cases n with
  | zero => rfl
  | succ n => rw [baseAt, if_pos h]
theorem baseAt_go {l : List (D tRange)} {many at_ : Int} {n : Nat} (h : freeF (at_, many, ()) l = false) : baseAt l many (n + 1) at_ = baseAt l many n (at_ + 16) := by
  rw [baseAt, if_neg (by rw [h]; decide)]
theorem roundF_range {n : Int} (h1 : 1 ≤ n) (h2 : n ≤ 40) : 16 ≤ roundF n ∧ roundF n ≤ 48 := by unfold roundF; omega
end Go.Mrl
namespace Go.Mrl
open Go.Vg
theorem basesF_many {s : List Int} {l : List (D tRange)} (h : 6 < s.length ∨ 20 < l.length) : basesF (s, l) = ([], .no 2) := by
  unfold basesF; rw [if_pos h]
theorem basesF_size {s : List Int} {l : List (D tRange)} (h : ¬ (6 < s.length ∨ 20 < l.length)) {i : Nat} (hi : i < s.length) (hb : ¬ (1 ≤ (nth (.int .i64) s i : Int) ∧ (nth (.int .i64) s i : Int) ≤ 40)) : basesF (s, l) = ([], .no 1) := by
  unfold basesF; rw [if_neg h, if_pos]
  refine .inl (any_nth (t := .int .i64) hi ?_)
  simp only [Bool.or_eq_true, decide_eq_true_eq]
  generalize nth (.int .i64) s i = x at hb
  have hb : ¬ (1 ≤ (x : Int) ∧ (x : Int) ≤ 40) := hb
  dsimp only [D] at *; omega
theorem basesF_taken {s : List Int} {l : List (D tRange)} (h : ¬ (6 < s.length ∨ 20 < l.length)) {i : Nat} (hi : i < l.length) (hb : ¬ okR (nth tRange l i)) : basesF (s, l) = ([], .no 1) := by
  unfold basesF; rw [if_neg h, if_pos]
  refine .inr (any_nth (t := tRange) hi ?_)
  simp only [Bool.or_eq_true, decide_eq_true_eq]
  unfold okR at hb
  dsimp only [D] at *; omega
theorem basesF_ok {s : List Int} {l : List (D tRange)} (h : ¬ (6 < s.length ∨ 20 < l.length)) (hs : ∀ j, j < s.length → 1 ≤ (nth (.int .i64) s j : Int) ∧ (nth (.int .i64) s j : Int) ≤ 40) (ht : ∀ j, j < l.length → okR (nth tRange l j)) :
    basesF (s, l) = match goBases l s [] with | some o => (o, .nil) | none => ([], .no 8) := by
  unfold basesF; rw [if_neg h, if_neg]
  rintro (e | e)
  · have : badSizes s = false := any_not (t := .int .i64) fun i hi => by
      have := hs i hi
      simp only [Bool.or_eq_false_iff, decide_eq_false_iff_not]
      dsimp only [D] at *; omega
    rw [this] at e; cases e
  · have : badTaken l = false := any_not (t := tRange) fun i hi => by
      have := ht i hi
      unfold okR at this
      simp only [Bool.or_eq_false_iff, decide_eq_false_iff_not]
      dsimp only [D] at *; omega
    rw [this] at e; cases e
end Go.Mrl
namespace Go.Mrl
open Go.Vg
theorem okR_snoc {l : List (Int × Int × Unit)} {r : Int × Int × Unit} (h : ∀ y ∈ l, okR y) (hr : okR r) : ∀ y ∈ l ++ [r], okR y := by
  intro y hy
  rcases List.mem_append.1 hy with hy | hy
  · exact h y hy
  · simp at hy; rw [hy]; exact hr
end Go.Mrl
namespace Go.Mrl
open Go.Vg
/-! The document's way: words that are used. -/
def inAny (l : List (Int × Int × Unit)) (p : Int) : Bool := l.any fun r => decide (r.1 ≤ p) && decide (p < r.1 + r.2.1)
def usedT (l : List (Int × Int × Unit)) : List Bool := tabB 600 fun p => inAny l p
def okU (U : List Bool) (p : Int) : Bool := decide (600 ≤ p) || !(nth .bool U p.toNat)
def freeU (U : List Bool) (at_ : Int) (k : Nat) : Bool := (List.range k).all fun q => okU U (at_ + q)
def baseU (U : List Bool) (many : Int) : Nat → Int → Int
  | 0, at_ => at_
  | n + 1, at_ => if freeU U at_ many.toNat = true then at_ else baseU U many n (at_ + 16)
def markU (U : List Bool) (at_ : Int) (k : Nat) : List Bool := tabB 600 fun p => nth .bool U p || (decide (at_ ≤ p) && decide ((p : Int) < at_ + k))
theorem usedT_length (l : List (Int × Int × Unit)) : (usedT l).length = 600 := tabB_length _ _
theorem markU_length (U : List Bool) (at_ : Int) (k : Nat) : (markU U at_ k).length = 600 := tabB_length _ _
theorem usedT_nth {l : List (Int × Int × Unit)} {p : Nat} (h : p < 600) : nth .bool (usedT l) p = inAny l p := tabB_nth h
theorem bool_list_ext {a b : List Bool} (hl : a.length = b.length) (h : ∀ i, i < a.length → nth .bool a i = nth .bool b i) : a = b := by
  apply List.ext_getElem hl
  intro i h1 h2
  have := h i h1
  rw [show nth .bool a i = a[i] from nth_eq (t := .bool) (List.getElem?_eq_getElem h1), show nth .bool b i = b[i] from nth_eq (t := .bool) (List.getElem?_eq_getElem h2)] at this
  exact this
theorem markU_zero {U : List Bool} {at_ : Int} (h : U.length = 600) : markU U at_ 0 = U := by
  apply bool_list_ext (by rw [markU_length, h])
  intro i hi
  rw [markU_length] at hi
  unfold markU; rw [tabB_nth hi]
  have : (decide (at_ ≤ (i : Int)) && decide ((i : Int) < at_ + ((0 : Nat) : Int))) = false := by simp <;> omega
  rw [this, Bool.or_false]
theorem markU_set {U : List Bool} {at_ : Int} {k : Nat} (h0 : 0 ≤ at_) (_ : at_ + k < 600) : (markU U at_ k).set (at_ + k).toNat true = markU U at_ (k + 1) := by
  unfold markU; rw [tabB_set]
  refine tabB_ext fun i hi => ?_
  by_cases e : i = (at_ + k).toNat
  · rw [if_pos e]
    have : (decide (at_ ≤ (i : Int)) && decide ((i : Int) < at_ + ((k + 1 : Nat) : Int))) = true := by simp; omega
    rw [this, Bool.or_true]
  · rw [if_neg e]
    congr 1
    by_cases h1 : at_ ≤ (i : Int)
    · by_cases h2 : (i : Int) < at_ + k
      · simp [h1, h2]; omega
      · simp [h1, h2]; omega
    · simp [h1]
theorem inAny_snoc (l : List (Int × Int × Unit)) (r : Int × Int × Unit) (p : Int) : inAny (l ++ [r]) p = (inAny l p || (decide (r.1 ≤ p) && decide (p < r.1 + r.2.1))) := by
  simp [inAny]
theorem markU_full {l : List (Int × Int × Unit)} {at_ many : Int} {k : Nat} (hk : (k : Int) = many) : markU (usedT l) at_ k = usedT (l ++ [(at_, many, ())]) := by
  unfold markU usedT
  refine tabB_ext fun i hi => ?_
  rw [tabB_nth hi, inAny_snoc]
  simp only [hk]
theorem markU_take {l : List (D tRange)} {i k : Nat} (hi : i < l.length) (hk : (k : Int) = (nth tRange l i).2.1) : markU (usedT (l.take i)) (nth tRange l i).1 k = usedT (l.take (i + 1)) := by
  have e : l.take (i + 1) = l.take i ++ [nth tRange l i] := by
    rw [List.take_add_one, getElem?_nth (t := tRange) hi]; rfl
  rw [e]
  exact markU_full (l := l.take i) hk
theorem markU_empty {l : List (D tRange)} {i : Nat} (hi : i < l.length) (hk : (nth tRange l i).2.1 = (0 : Int)) : usedT (l.take i) = usedT (l.take (i + 1)) := by
  rw [← markU_take (k := 0) hi hk.symm, markU_zero (usedT_length _)]
theorem freeU_succ {U : List Bool} {at_ : Int} {k : Nat} : freeU U at_ (k + 1) = (freeU U at_ k && okU U (at_ + k)) := by
  unfold freeU; rw [List.range_succ, List.all_append]; simp
theorem freeU_mono {U : List Bool} {at_ : Int} {k n : Nat} (h : k ≤ n) (hf : freeU U at_ k = false) : freeU U at_ n = false := by
  induction n with
  | zero => obtain rfl : k = 0 := by omega
            exact hf
  | succ n ih =>
    by_cases e : k = n + 1
    · rw [← e]; exact hf
    · rw [freeU_succ, ih (by omega)]; rfl
theorem baseU_stop {U : List Bool} {many at_ : Int} {n : Nat} (h : freeU U at_ many.toNat = true) : baseU U many n at_ = at_ := by
  cases n with
  | zero => rfl
  | succ n => rw [baseU, if_pos h]
theorem baseU_go {U : List Bool} {many at_ : Int} {n : Nat} (h : freeU U at_ many.toNat = false) : baseU U many (n + 1) at_ = baseU U many n (at_ + 16) := by
  rw [baseU, if_neg (by rw [h]; decide)]
/-- Both ways find the same places free. -/
theorem freeU_used {l : List (Int × Int × Unit)} {at_ many : Int} (hl : ∀ y ∈ l, okR y) (h0 : 0 ≤ at_) (hm : 0 < many) : freeU (usedT l) at_ many.toNat = freeF (at_, many, ()) l := by
  rw [Bool.eq_iff_iff]
  constructor
  · intro h
    unfold freeF; rw [List.all_eq_true]
    intro (x : Int × Int × Unit) hx
    obtain ⟨g1, g2, g3, g4⟩ := hl x hx
    rw [apartF_true]
    show many ≤ 0 ∨ x.2.1 ≤ 0 ∨ at_ + many ≤ x.1 ∨ x.1 + x.2.1 ≤ at_
    apply Classical.byContradiction
    intro hn
    have hc : 0 < x.2.1 ∧ x.1 < at_ + many ∧ at_ < x.1 + x.2.1 := by omega
    -- the greater of the two beginnings is in both
    have key : ∀ p : Int, at_ ≤ p → p < at_ + many → x.1 ≤ p → p < x.1 + x.2.1 → False := by
      intro p p1 p2 p3 p4
      have := List.all_eq_true.1 h (p - at_).toNat (List.mem_range.2 (by omega))
      rw [show at_ + ((p - at_).toNat : Int) = p by omega] at this
      unfold okU at this
      rw [usedT_nth (by omega), show ((p.toNat : Nat) : Int) = p by omega] at this
      have hin : inAny l p = true := by
        unfold inAny; rw [List.any_eq_true]
        exact ⟨x, hx, by simp [p3, p4]⟩
      rw [hin] at this
      simp at this; omega
    by_cases q : at_ ≤ x.1
    · exact key x.1 q (by omega) (by omega) (by omega)
    · exact key at_ (by omega) (by omega) (by omega) (by omega)
  · intro h
    unfold freeU; rw [List.all_eq_true]
    intro q hq
    have hq := List.mem_range.1 hq
    unfold okU
    by_cases h6 : 600 ≤ at_ + (q : Int)
    · simp [h6]
    · rw [usedT_nth (by omega), show (((at_ + (q : Int)).toNat : Nat) : Int) = at_ + q by omega]
      have : inAny l (at_ + q) = false := by
        unfold inAny; rw [List.any_eq_false]
        intro (x : Int × Int × Unit) hx
        unfold freeF at h
        have := apartF_true.1 (List.all_eq_true.1 h x hx)
        simp only [Bool.and_eq_true, decide_eq_true_eq, not_and]
        have : many ≤ 0 ∨ x.2.1 ≤ 0 ∨ at_ + many ≤ x.1 ∨ x.1 + x.2.1 ≤ at_ := this
        omega
      rw [this]; simp
theorem baseU_used {l : List (Int × Int × Unit)} {many : Int} (hl : ∀ y ∈ l, okR y) (hm : 0 < many) : ∀ (n : Nat) (at_ : Int), 0 ≤ at_ → baseU (usedT l) many n at_ = baseAt l many n at_ := by
  intro n
  induction n with
  | zero => intro at_ _; rfl
  | succ n ih =>
    intro at_ h0
    unfold baseU baseAt
    rw [freeU_used hl h0 hm, ih _ (by omega)]
end Go.Mrl
namespace Go.Mrl
open Go.Vg
theorem freeU_next1 {U : List Bool} {at_ : Int} {k : Nat} (h : freeU U at_ k = true) (h6 : 600 ≤ at_ + k) : true = freeU U at_ (k + 1) := by
  rw [freeU_succ, h]; simp [okU, h6]
theorem freeU_next2 {U : List Bool} {at_ : Int} {k : Nat} (h : freeU U at_ k = true) (h6 : at_ + k < 600) : (!(nth .bool U (at_ + k).toNat)) = freeU U at_ (k + 1) := by
  rw [freeU_succ, h]
  have : decide (600 ≤ at_ + (k : Int)) = false := by simp; omega
  simp [okU, this]
def rbasesF (x : List Int × List (D tRange)) : List Int × Int := ((basesF x).1, numE (basesF x).2)
end Go.Mrl
namespace Go.Mrl
open Go.Vg
/-! Lists that are the same. -/
theorem list_eq_nth {t : Ty} {a b : List (D t)} (hl : a.length = b.length) (h : ∀ i, i < a.length → nth t a i = nth t b i) : a = b := by
  apply List.ext_getElem hl
  intro i h1 h2
  have := h i h1
  rwa [show nth t a i = a[i] from nth_eq (List.getElem?_eq_getElem h1), show nth t b i = b[i] from nth_eq (List.getElem?_eq_getElem h2)] at this
def sameI (a b : List Int) : Bool := decide (a = b)
def sameS (a b : List (List UInt8)) : Bool := decide (a = b)
def sameP (a b : List (D tPatch)) : Bool := decide (a = b)
theorem sameI_true {a b : List Int} (hl : (a.length : Int) = b.length) (h : ∀ i, i < a.length → nth (.int .i64) a i = nth (.int .i64) b i) : true = sameI a b := by
  rw [list_eq_nth (t := .int .i64) (by omega) h]; simp [sameI]
theorem sameI_len {a b : List Int} (hl : ¬ (a.length : Int) = b.length) : false = sameI a b := by
  symm; simp only [sameI, decide_eq_false_iff_not]; intro e; exact hl (by rw [e])
theorem sameI_at {a b : List Int} {i : Nat} (h : ¬ nth (.int .i64) a i = nth (.int .i64) b i) : false = sameI a b := by
  symm; simp only [sameI, decide_eq_false_iff_not]; intro e; exact h (by rw [e])
theorem sameS_true {a b : List (List UInt8)} (hl : (a.length : Int) = b.length) (h : ∀ i, i < a.length → nth .str a i = nth .str b i) : true = sameS a b := by
  rw [list_eq_nth (t := .str) (by omega) h]; simp [sameS]
theorem sameS_len {a b : List (List UInt8)} (hl : ¬ (a.length : Int) = b.length) : false = sameS a b := by
  symm; simp only [sameS, decide_eq_false_iff_not]; intro e; exact hl (by rw [e])
theorem sameS_at {a b : List (List UInt8)} {i : Nat} (h : ¬ nth .str a i = nth .str b i) : false = sameS a b := by
  symm; simp only [sameS, decide_eq_false_iff_not]; intro e; exact h (by rw [e])
theorem nth_next {α : Type} {p : Nat → α → Prop} {f : Nat → α} {k : Nat} (h : ∀ j, j < k → p j (f j)) (hk : p k (f k)) : ∀ j, j < k + 1 → p j (f j) := by
  intro j hj
  by_cases e : j = k
  · subst e; exact hk
  · exact h j (by omega)
theorem upto_next {p : Nat → Prop} {k : Nat} (h : ∀ j, j < k → p j) (hk : p k) : ∀ j, j < k + 1 → p j := by
  intro j hj
  by_cases e : j = k
  · subst e; exact hk
  · exact h j (by omega)
theorem sameE_bases (x : List Int × List (D tRange)) : sameE (basesF x).2 (numE (basesF x).2) = true := by
  unfold basesF
  split
  · rfl
  · split
    · rfl
    · split <;> rfl
end Go.Mrl
