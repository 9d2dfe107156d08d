/- A part of the proof that the law TopStamp holds of the given program: facts that are used there. -/
import Derived.Test.YtgokjhhcfemnhabVg25
import Derived.Test.YtgokjhhcfemnhabVg23
namespace Go.Vg
open Go.RowKit
/-- Rows of one's own become data where data is wanted. -/
def frzP : List Cl → St → List SV0 → List SV0 × St
  | .d _ :: r, st, v :: vs => match frz0 st v with
    | (v', st1) => match frzP r st1 vs with
      | (vs', st2) => (v' :: vs', st2)
  | .obj _ :: r, st, v :: vs => match frzP r st vs with
    | (vs', st2) => (v :: vs', st2)
  | .nilP :: r, st, v :: vs => match frzP r st vs with
    | (vs', st2) => (v :: vs', st2)
  | _, st, vs => (vs, st)
def delAll : List (Nat × OC) → List Nat → List (Nat × OC)
  | l, [] => l
  | l, n :: r => delAll (delObj l n) r
def keepO : Ob → Ob → Bool
  | .box T _, .box T' _ => Nat.beq T T'
  | .ext k t, .ext k' t' => Nat.beq k k' && Ty.beq t t'
  | .row true t, .row true t' => Ty.beq t t'
  | _, _ => false
/-- The names of what is given back: what was handed over keeps its name. -/
def newN : List Ob → List Ob → List Nat → Nat → List Nat
  | o :: os, o' :: os', n :: ns, b => (match keepO o o' with | true => n | false => b) :: newN os os' ns (b + 1)
  | _, _ :: os', _, b => b :: newN [] os' [] (b + 1)
  | _, [], _, _ => []
def startAs : Nat → List Ob → List Ob → List (Nat × Nat)
  | k, o :: os, o' :: os' => match keepO o o' with
    | true => (k, k) :: startAs (k + 1) os os'
    | false => startAs (k + 1) os os'
  | _, _, _ => []
def keptB : Nat → List Ob → List Ob → List Nat → Bool
  | k, o :: os, o' :: os', n :: ns => (match keepO o o' with | true => Nat.beq n k | false => true) && keptB (k + 1) os os' ns
  | _, _, _, _ => true
/-- One way in which a call may end. -/
structure Alt (obs : List Ob) (args : List Cl) : Type 1 where
  cv : Bool := false
  obs' : List Ob
  res : List Cl
  ok : CD args → PD obs → Prop := fun _ _ => True
  out : CD args → PD obs → PD obs'
  ret : CD args → PD obs → CD res
section
variable {obs : List Ob} {args : List Cl}
def altVC (al : Alt obs args) (a : CD args) (x : PD obs) (ν : List Nat) (st : St) (K : SV → St → VC) : VC :=
  match nodupB (newN obs al.obs' ν st.next) && capsBelow (st.next + al.obs'.length) (newN obs al.obs' ν st.next) with
  | true => .imp (al.ok a x) (K (retSV (clsV (refAt al.obs' (al.out a x) (newN obs al.obs' ν st.next)) al.res (al.ret a x)))
      { env := st.env, objs := objsC (refAt al.obs' (al.out a x) (newN obs al.obs' ν st.next)) al.obs' (al.out a x) (newN obs al.obs' ν st.next) ++ delAll st.objs ν, next := st.next + al.obs'.length })
  | false => .ff
def altsVC (a : CD args) (x : PD obs) (ν : List Nat) (st : St) (K : SV → St → VC) : List (Alt obs args) → VC
  | [] => .leaf True
  | [al] => altVC al a x ν st K
  | al :: al2 :: r => .both (altVC al a x ν st K) (altsVC a x ν st K (al2 :: r))
/-- What is said of a call that turns things of one's own. -/
def objSpec (obs : List Ob) (args : List Cl) (pre : CD args → PD obs → Prop) (alts : List (Alt obs args)) : CSpec := fun as st K =>
  match frzP args st as with
  | (as, st) => match findN obs args as st.objs [] with
    | some ν => match nodupB ν, getVs false st.objs obs ν args as, getObs false st.objs obs ν obs ν with
      | true, some a, some x => andP (condVs obs x args as ++ condObs obs x st.objs obs ν) (.and (pre a x) (altsVC a x ν st K alts))
      | _, _, _ => .ff
    | none => .ff
def startSt (obs : List Ob) (args : List Cl) (a : CD args) (x : PD obs) : St :=
  { env := argEnv0 0 (clsV (refAt obs x (upto 0 obs.length)) args a), objs := objsC (refAt obs x (upto 0 obs.length)) obs x (upto 0 obs.length), next := obs.length }
def endVC (a : CD args) (x : PD obs) (vs : List SV0) (st : St) : List (Alt obs args) → VC
  | [] => .ff
  | al :: r => match frzP al.res st vs with
    | (vs', st') => match findN al.obs' al.res vs' st'.objs (startAs 0 obs al.obs') with
      | some ν => match nodupB ν && (keptB 0 obs al.obs' ν && (!al.cv || (noTok obs && (flatObs al.obs' && flatCls al.res)))), getVs al.cv st'.objs al.obs' ν al.res vs', getObs al.cv st'.objs al.obs' ν al.obs' ν with
        | true, some b, some y => .leaf (allP (condVs al.obs' y al.res vs' ++ condObs al.obs' y st'.objs al.obs' ν ++ [al.ok a x ∧ y = al.out a x ∧ b = al.ret a x]))
        | _, _, _ => endVC a x vs st r
      | none => endVC a x vs st r
def objVCs (B : Cx) (Γ : List (FuncId × (Bool × CSpec))) (fn : Func) (anns : Anns) (obs : List Ob) (args : List Cl) (alts : List (Alt obs args)) (a : CD args) (x : PD obs) : VC :=
  fnVC (mkCx B Γ fn.ntmps) anns fn.results.toList (codeOf fn) (startSt obs args a x) fun vs st' => endVC a x vs st' alts
def wfC : (cls : List Cl) → CD cls → Prop
  | [], _ => True
  | .d t :: r, x => wf t x.1 ∧ wfC r x.2
  | .obj _ :: r, x => wfC r x
  | .nilP :: r, x => wfC r x
end
section
variable {eT : TypeId} {X : Ext}
theorem capsBelow_mem {k : Nat} : ∀ {l : List Nat} {n : Nat}, capsBelow k l = true → n ∈ l → n < k
  | [], _, _, h => by simp at h
  | m :: r, n, h, hn => by
    simp only [capsBelow, Bool.and_eq_true] at h
    rcases List.mem_cons.1 hn with e | hn
    · rw [e]; exact blt_lt h.1
    · exact capsBelow_mem h.2 hn
theorem look_delAll (m : Nat) : ∀ (ns : List Nat) (l : List (Nat × OC)), look (delAll l ns) m = if m ∈ ns then none else look l m
  | [], l => by simp [delAll]
  | n :: r, l => by
    simp only [delAll]
    rw [look_delAll m r, look_del]
    by_cases h1 : m ∈ r
    · simp [h1]
    · by_cases h2 : n = m
      · subst h2; simp
      · have : ¬ m = n := fun e => h2 e.symm
        simp [h1, h2, this]
theorem newN_spec : ∀ {obs obs' : List Ob} {ν : List Nat} {b i n : Nat}, (newN obs obs' ν b)[i]? = some n →
    (∃ o o', obs[i]? = some o ∧ obs'[i]? = some o' ∧ keepO o o' = true ∧ ν[i]? = some n) ∨ b ≤ n
  | obs, [], ν, b, i, n, h => by
    cases obs <;> cases ν <;> simp [newN] at h
  | [], o' :: os', ν, b, i, n, h => by
    simp only [newN] at h
    cases i with
    | zero => simp at h; exact .inr (by omega)
    | succ i =>
      rcases newN_spec (obs := []) (ν := []) (by simpa using h) with ⟨o, _, h1, _⟩ | h1
      · simp at h1
      · exact .inr (by omega)
  | o :: os, o' :: os', [], b, i, n, h => by
    simp only [newN] at h
    cases i with
    | zero => simp at h; exact .inr (by omega)
    | succ i =>
      rcases newN_spec (obs := []) (ν := []) (by simpa using h) with ⟨o, _, h1, _⟩ | h1
      · simp at h1
      · exact .inr (by omega)
  | o :: os, o' :: os', n0 :: ns, b, i, n, h => by
    simp only [newN] at h
    cases i with
    | zero =>
      simp only [List.getElem?_cons_zero, Option.some.injEq] at h
      split at h
      · rename_i hk; exact .inl ⟨o, o', rfl, rfl, hk, by simp [h]⟩
      · exact .inr (by omega)
    | succ i =>
      rcases newN_spec (by simpa using h) with ⟨a, a', h1, h2, h3⟩ | h1
      · exact .inl ⟨a, a', by simpa using h1, by simpa using h2, by simpa using h3⟩
      · exact .inr (by omega)
theorem newN_len : ∀ {obs obs' : List Ob} {ν : List Nat} {b : Nat}, (newN obs obs' ν b).length = obs'.length
  | obs, [], ν, b => by cases obs <;> cases ν <;> rfl
  | [], o' :: os', ν, b => by simp [newN, newN_len]
  | o :: os, o' :: os', [], b => by simp [newN, newN_len]
  | o :: os, o' :: os', n0 :: ns, b => by simp [newN, newN_len]
theorem keptB_spec : ∀ {obs obs' : List Ob} {ν : List Nat} {k i n : Nat} {o o' : Ob}, keptB k obs obs' ν = true → obs[i]? = some o → obs'[i]? = some o' → keepO o o' = true → ν[i]? = some n → n = k + i
  | [], _, _, _, _, _, _, _, _, h, _, _, _ => by simp at h
  | _ :: _, [], _, _, _, _, _, _, _, _, h, _, _ => by simp at h
  | _ :: _, _ :: _, [], _, _, _, _, _, _, _, _, _, h => by simp at h
  | a :: os, a' :: os', m :: ns, k, 0, n, o, o', h, h1, h2, h3, h4 => by
    simp at h1 h2 h4
    subst h1; subst h2; subst h4
    simp only [keptB, h3, Bool.and_eq_true] at h
    have := Nat.eq_of_beq_eq_true h.1
    omega
  | a :: os, a' :: os', m :: ns, k, i + 1, n, o, o', h, h1, h2, h3, h4 => by
    simp only [keptB, Bool.and_eq_true] at h
    have := keptB_spec h.2 (by simpa using h1) (by simpa using h2) h3 (by simpa using h4)
    omega
theorem noTok_mem : ∀ {l : List Ob} {o : Ob} {t : Ty}, noTok l = true → o ∈ l → o ≠ .tok t
  | [], _, _, _, h => by simp at h
  | a :: r, o, t, h, ho => by
    rcases List.mem_cons.1 ho with e | ho
    · subst e; intro e; subst e; simp [noTok] at h
    · exact noTok_mem (by cases a <;> simp_all [noTok]) ho
theorem clsR_wf {S : Sit} {F : Nat → Value → Prop} : ∀ {cls : List Cl} {x : CD cls} {vs : List Value}, clsR eT S F cls x vs → wfC cls x
  | [], _, _, _ => trivial
  | .d t :: r, x, v :: vs, h => ⟨h.1.wf, clsR_wf h.2⟩
  | .obj k :: r, x, v :: vs, h => clsR_wf (cls := r) h.2
  | .nilP :: r, x, v :: vs, h => clsR_wf (cls := r) h.2
theorem clsR_len {S : Sit} {F : Nat → Value → Prop} : ∀ {cls : List Cl} {x : CD cls} {vs : List Value}, clsR eT S F cls x vs → vs.length = cls.length
  | [], _, _, h => by rw [show _ = [] from h]; rfl
  | .d t :: r, x, v :: vs, h => by simp [clsR_len h.2]
  | .obj k :: r, x, v :: vs, h => by simp [clsR_len (cls := r) h.2]
  | .nilP :: r, x, v :: vs, h => by simp [clsR_len (cls := r) h.2]
theorem frzP_sound {O : Avoid} {loc : Nat → Loc} {w : World} : ∀ (cls : List Cl) (xs : List SV0) {st : St}, Good eT X (sit O st loc w) →
    Tr (sit O st loc w) (sit O (frzP cls st xs).2 loc w) ∧ Good eT X (sit O (frzP cls st xs).2 loc w) ∧ (frzP cls st xs).2.env = st.env ∧
      ∀ vs, SV0Rs eT (sit O st loc w) xs vs → SV0Rs eT (sit O (frzP cls st xs).2 loc w) (frzP cls st xs).1 vs := by
  intro cls
  induction cls with
  | nil => intro xs st g; exact ⟨Tr.refl _, g, rfl, fun vs h => h⟩
  | cons cl r ih =>
    intro xs st g
    cases xs with
    | nil => cases cl <;> exact ⟨Tr.refl _, g, rfl, fun vs h => h⟩
    | cons x xs =>
      cases cl with
      | d t =>
        have g' : Good (Cx.mk eT [] [] [] 0 [] [] [] false []).eT X (sit O st loc w) := g
        obtain ⟨t1, g1, e1, k1⟩ := frz0_sound g' x
        obtain ⟨t2, g2, e2, k2⟩ := ih xs g1
        refine ⟨t1.trans t2, g2, e2.trans e1, fun vs h => ?_⟩
        cases h with
        | cons h1 h3 => exact .cons ((k1 _ h1).tr t2) (k2 _ (h3.tr t1))
      | obj k =>
        obtain ⟨t2, g2, e2, k2⟩ := ih xs g
        refine ⟨t2, g2, e2, fun vs h => ?_⟩
        cases h with
        | cons h1 h3 => exact .cons (h1.tr t2) (k2 _ h3)
      | nilP =>
        obtain ⟨t2, g2, e2, k2⟩ := ih xs g
        refine ⟨t2, g2, e2, fun vs h => ?_⟩
        cases h with
        | cons h1 h3 => exact .cons (h1.tr t2) (k2 _ h3)
end
end Go.Vg
