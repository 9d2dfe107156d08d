/- A part of the proof that the law TopStamp holds of the given program: facts that are used there. -/
import Derived.Test.YtgokjhhcfemnhabVg15
namespace Go.Vg
open Go.RowKit
/-! Regions that draw their order: what only hangs on its operands, or reads what nobody writes before it, is taken first; the others in every order. -/
inductive Anc (ops : Array Oper) (i : Nat) : Nat → Prop
  | dir {j o e} : ops[j]? = some o → e ∈ o.after → Region.binds .any e = true → e.on = i → Anc ops i j
  | step {j o e} : ops[j]? = some o → e ∈ o.after → Region.binds .any e = true → Anc ops i e.on → Anc ops i j
def ClosedL (ops : Array Oper) (listed : Array Bool) : Prop :=
  ∀ j o, ops[j]? = some o → listed.getD j false = true → ∀ e ∈ o.after, Region.binds .any e = true → listed.getD e.on false = true
theorem Anc.listed {ops : Array Oper} {listed : Array Bool} {i j : Nat} (h : Anc ops i j) (hc : ClosedL ops listed) : (∀ o, ops[j]? = some o → ∀ e ∈ o.after, Region.binds .any e = true → listed.getD e.on false = true) → listed.getD i false = true := by
  induction h with
  | dir ho he hb hi => intro hj; rw [← hi]; exact hj _ ho _ he hb
  | step ho he hb _ ih => intro hj; exact ih fun o' ho' => hc _ o' ho' (hj _ ho _ he hb)
def maskOf (ms : List Nat) (o : Oper) : Nat :=
  o.after.toList.foldl (fun s e => match Region.binds .any e with
    | true => s ||| (1 <<< e.on) ||| ms.getD e.on 0
    | false => s) 0
def masksGo : List Oper → List Nat → List Nat
  | [], ms => ms
  | o :: r, ms => masksGo r (ms ++ [maskOf ms o])
theorem testBit_one_shl {k i : Nat} (h : (1 <<< k).testBit i = true) : k = i := by
  rw [Nat.one_shiftLeft, Nat.testBit_two_pow] at h
  simpa using h
theorem maskOf_anc {ops : Array Oper} {ms : List Nat} (hms : ∀ j, j < ms.length → ∀ i, (ms.getD j 0).testBit i = true → Anc ops i j) {j : Nat} {o : Oper} (ho : ops[j]? = some o) :
    ∀ i, (maskOf ms o).testBit i = true → Anc ops i j := by
  intro i hi
  unfold maskOf at hi
  have key : ∀ (l : List Edge) (s : Nat), (∀ e ∈ l, e ∈ o.after) → (s.testBit i = true → Anc ops i j) →
      (l.foldl (fun s e => match Region.binds .any e with | true => s ||| (1 <<< e.on) ||| ms.getD e.on 0 | false => s) s).testBit i = true → Anc ops i j := by
    intro l
    induction l with
    | nil => intro s _ hs h; exact hs h
    | cons e l ih =>
      intro s hl hs h
      simp only [List.foldl_cons] at h
      refine ih _ (fun e' he' => hl e' (by simp [he'])) ?_ h
      intro hb
      split at hb
      · rename_i hbind
        rw [Nat.testBit_or, Nat.testBit_or] at hb
        simp only [Bool.or_eq_true] at hb
        rcases hb with (hb | hb) | hb
        · exact hs hb
        · exact .dir ho (hl e (by simp)) hbind (testBit_one_shl hb)
        · by_cases hlt : e.on < ms.length
          · exact .step ho (hl e (by simp)) hbind (hms _ hlt i hb)
          · rw [List.getD_eq_getElem?_getD, List.getElem?_eq_none (by omega)] at hb
            simp at hb
      · exact hs hb
  exact key o.after.toList 0 (fun e he => by simpa using he) (by simp) hi
theorem masksGo_anc {ops : Array Oper} : ∀ (r : List Oper) (ms : List Nat), (∀ j, j < ms.length → ∀ i, (ms.getD j 0).testBit i = true → Anc ops i j) → (∀ k o, r[k]? = some o → ops[ms.length + k]? = some o) →
    ∀ j i, ((masksGo r ms).getD j 0).testBit i = true → Anc ops i j := by
  intro r
  induction r with
  | nil =>
    intro ms hms _ j i h
    by_cases hlt : j < ms.length
    · exact hms j hlt i h
    · simp only [masksGo] at h
      rw [List.getD_eq_getElem?_getD, List.getElem?_eq_none (by omega)] at h
      simp at h
  | cons o r ih =>
    intro ms hms hr
    refine ih _ ?_ ?_
    · intro j hj i h
      rw [List.length_append, List.length_singleton] at hj
      by_cases hlt : j < ms.length
      · rw [List.getD_eq_getElem?_getD, List.getElem?_append_left hlt, ← List.getD_eq_getElem?_getD] at h
        exact hms j hlt i h
      · have e : j = ms.length := by omega
        subst e
        rw [List.getD_eq_getElem?_getD, List.getElem?_append_right (Nat.le_refl _)] at h
        simp only [Nat.sub_self, List.getElem?_cons_zero, Option.getD_some] at h
        exact maskOf_anc hms (by simpa using hr 0 o rfl) i h
    · intro k o' hk
      have := hr (k + 1) o' (by simpa using hk)
      rw [List.length_append, List.length_singleton, show ms.length + 1 + k = ms.length + (k + 1) from by omega]
      exact this
def masks (ops : List Oper) : List Nat := masksGo ops []
theorem masks_anc {ops : Array Oper} {i j : Nat} (h : ((masks ops.toList).getD j 0).testBit i = true) : Anc ops i j :=
  masksGo_anc ops.toList [] (fun j hj => by simp at hj) (fun k o hk => by simpa using hk) j i h
section
variable {P : Program} {ops : Array Oper} {Q : Exit → Act → World → Prop} {loud : Nat → Bool}
def wpS (P : Program) (ops : Array Oper) (loud : Nat → Bool) (Q : Exit → Act → World → Prop) : Nat → Array Bool → Act → World → Prop
  | 0, listed, a, w => Region.ready .any ops listed = [] ∧ Q .normal a w
  | n + 1, listed, a, w => (Region.ready .any ops listed = [] → Q .normal a w) ∧
    ∀ i ∈ Region.ready .any ops listed, wpOp P ops Q i (fun a' w' => (loud i = false → Below w.heap.size w w') ∧ wpS P ops loud Q n (listed.setIfInBounds i true) a' w') a w
theorem wpS_any : ∀ (n : Nat) (listed : Array Bool) (a : Act) (w : World), wpS P ops loud Q n listed a w → wpAny P .any ops Q n listed a w
  | 0, _, _, _, h => h
  | n + 1, _, _, _, h => ⟨h.1, fun i hi => wpOp_mono (fun a' w' h' => wpS_any n _ a' w' h'.2) (h.2 i hi)⟩
/-- It yields this in every world that is as this one is to it. -/
def YieldsC (P : Program) (ops : Array Oper) (C : World → World → Prop) (o : Oper) (v : Value) (a : Act) (w : World) : Prop :=
  (Region.wanted o (yielded ops a.tmps) = true ∧ ∀ w', C w w' → (execOp a.eval o).run P w' = .ok (.value v) w') ∨
  (Region.wanted o (yielded ops a.tmps) = false ∧ v = undef)
theorem YieldsC.of_same {C : World → World → Prop} (ht : ∀ a b c, C a b → C b c → C a c) {o : Oper} {v : Value} {a a' : Act} {w w' : World} (hy : YieldsC P ops C o v a w) (hc : C w w') (he : execOp a'.eval o = execOp a.eval o)
    (hw : Region.wanted o (yielded ops a'.tmps) = Region.wanted o (yielded ops a.tmps)) : YieldsC P ops C o v a' w' := by
  unfold YieldsC at *
  rw [he, hw]
  rcases hy with ⟨h1, h2⟩ | h
  · exact .inl ⟨h1, fun w'' hc' => h2 w'' (ht _ _ _ hc hc')⟩
  · exact .inr h
theorem wpOp_putC {C : World → World → Prop} (ht : ∀ a b c, C a b → C b c → C a c) {j : Nat} {oi oj : Oper} {v : Value} (hj : ops[j]? = some oj) (hap : oi.apart ops oj = true)
    (hsi : ∀ cs b, oi.op ≠ .select cs b) (hsj : ∀ cs b, oj.op ≠ .select cs b)
    (hQ : ∀ c a w, Q (.panic c) (a.put oi.dst v) w → Q (.panic c) a w) {K : Act → World → Prop} {a : Act} {w : World} (hCw : ∀ w', (loud j = false → Below w.heap.size w w') → C w w')
    (hy : YieldsC P ops C oi v a w) (h : wpOp P ops Q j (fun a' w' => (loud j = false → Below w.heap.size w w') ∧ K a' w') (a.put oi.dst v) w) :
    wpOp P ops Q j (fun a' w' => (loud j = false → Below w.heap.size w w') ∧ YieldsC P ops C oi v a' w' ∧ K (a'.put oi.dst v) w') a w := by
  obtain ⟨h1, h2, h3⟩ := Oper.apart_spec hap
  have keep : ∀ (a : Act) (w' : World), YieldsC P ops C oi v a w → C w w' → ∀ u, YieldsC P ops C oi v (a.put oj.dst u) w' := fun a w' hy hc u =>
    hy.of_same ht hc (execOp_put oi hsi a oj.dst u h3) (wanted_put oi a oj.dst u h3)
  have keepD : ∀ d, YieldsC P ops C oi v { a with defers := d :: a.defers } w := fun d => by
    unfold YieldsC at *; exact hy
  unfold wpOp at *
  simp only [hj] at *
  rw [wanted_put oj a oi.dst v h1] at h
  split
  · rename_i hw
    simp only [hw, if_true] at h
    rcases h with h | ⟨hasks, hlets⟩
    case inr => exact .inr ⟨by unfold Oper.asks at *; rw [execOp_put oj hsj a oi.dst v h1] at hasks; exact hasks, hlets⟩
    refine .inl ?_
    unfold Oper.wp at *
    rw [execOp_put oj hsj a oi.dst v h1] at h
    generalize (execOp a.eval oj).run P w = r at *
    cases r with
    | ok n w' =>
      cases n <;> simp only [Oper.upon] at h ⊢
      case value u => exact ⟨h.1, keep a w' hy (hCw _ h.1) u, by rw [← Act.put_comm a v u h2]; exact h.2⟩
      case skip => exact ⟨h.1, keep a w' hy (hCw _ h.1) _, by rw [← Act.put_comm a v undef h2]; exact h.2⟩
      case defer d =>
        refine ⟨h.1, keep _ w' (keepD d) (hCw _ h.1) _, ?_⟩
        rw [← Act.put_comm _ v undef h2, ← Act.put_defers]
        exact h.2
      case enter f args =>
        refine Calls.mono h fun e w'' he => ?_
        cases e with
        | returned u => exact ⟨he.1, keep a w'' hy (hCw _ he.1) u, by rw [← Act.put_comm a v u h2]; exact he.2⟩
        | panicked c => exact hQ _ _ _ he
        | outgrown => exact he
      case row row args => exact Rows.mono h fun u w'' he => ⟨he.1, keep a w'' hy (hCw _ he.1) u, by rw [← Act.put_comm a v u h2]; exact he.2⟩
    | halt x w' =>
      cases x <;> simp only [Oper.upon] at h ⊢
      case panic u => exact hQ _ _ _ h
  · rename_i hw
    simp only [hw] at h
    exact ⟨h.1, keep a w hy (hCw _ h.1) _, by rw [← Act.put_comm a v undef h2]; exact h.2⟩
theorem YieldsC.wpOp {C : World → World → Prop} (hr : ∀ w, C w w) {i : Nat} {o : Oper} {v : Value} {a : Act} {w : World} (hi : ops[i]? = some o) (hy : YieldsC P ops C o v a w)
    {K : Act → World → Prop} (h : K (a.put o.dst v) w) : wpOp P ops Q i (fun a' w' => (loud i = false → Below w.heap.size w w') ∧ K a' w') a w := by
  unfold Go.wpOp
  simp only [hi]
  rcases hy with ⟨hw, hv⟩ | ⟨hw, rfl⟩
  · simp only [hw, if_true, Oper.wp, hv w (hr w), Oper.upon]; exact .inl ⟨fun _ => Below.refl _ _, h⟩
  · simp only [hw, Bool.false_eq_true, if_false]; exact ⟨fun _ => Below.refl _ _, h⟩
theorem closed_set {listed : Array Bool} {i : Nat} (hc : ClosedL ops listed) (hr : i ∈ Region.ready .any ops listed) : ClosedL ops (listed.setIfInBounds i true) := by
  intro j o ho hj e he hb
  by_cases hij : i = j
  · subst hij
    obtain ⟨_, o', ho', hall⟩ := mem_ready.1 hr
    rw [ho] at ho'
    cases ho'
    exact getD_set_true (hall e he hb)
  · rw [getD_set_ne false hij] at hj
    exact getD_set_true (hc j o ho hj e he hb)
theorem wpS_first {C : World → World → Prop} (hrefl : ∀ w, C w w) (ht : ∀ a b c, C a b → C b c → C a c) {i : Nat} {oi : Oper} {v : Value} (hi : ops[i]? = some oi)
    (hsel : ∀ (j : Nat) (o : Oper) cs b, ops[j]? = some o → o.op ≠ .select cs b)
    (hQ : ∀ c a w, Q (.panic c) (a.put oi.dst v) w → Q (.panic c) a w) :
    ∀ (fuel : Nat) (listed : Array Bool) (a : Act) (w : World), ClosedL ops listed →
      (∀ j oj, ops[j]? = some oj → j ≠ i → listed.getD j true = false → (∀ e ∈ oj.after, Region.binds .any e = true → e.on ≠ i) → oi.apart ops oj = true) →
      ((∀ w w', C w w') ∨ ((∀ w w', Below w.heap.size w w' → C w w') ∧ ∀ j, listed.getD j true = false → j ≠ i → loud j = true → Anc ops i j)) →
      i ∈ Region.ready .any ops listed → YieldsC P ops C oi v a w →
      wpS P ops loud Q fuel (listed.setIfInBounds i true) (a.put oi.dst v) w → wpS P ops loud Q (fuel + 1) listed a w := by
  intro fuel
  induction fuel with
  | zero =>
    intro listed a w _ _ _ hr hy H
    refine ⟨fun h => (by rw [h] at hr; cases hr), fun j hj => ?_⟩
    by_cases hji : j = i
    · subst hji; exact hy.wpOp hrefl hi H
    · have := ready_mono hj hji
      rw [H.1] at this
      cases this
  | succ fuel ih =>
    intro listed a w hcl hfree hC hr hy H
    refine ⟨fun h => (by rw [h] at hr; cases hr), fun j hj => ?_⟩
    by_cases hji : j = i
    · subst hji; exact hy.wpOp hrefl hi H
    · have h1 := H.2 j (ready_mono hj hji)
      obtain ⟨hjun, oj, hoj, hall⟩ := mem_ready.1 hj
      have hiun : listed.getD i false ≠ true := by
        have h0 := (mem_ready.1 hr).1
        rcases Nat.lt_or_ge i listed.size with h' | h'
        · simp [h'] at h0 ⊢; exact h0
        · simp [Array.getElem?_eq_none h']
      have hnot : ∀ e ∈ oj.after, Region.binds .any e = true → e.on ≠ i := fun e he hb heq => hiun (heq ▸ hall e he hb)
      have hCw : ∀ w', (loud j = false → Below w.heap.size w w') → C w w' := by
        intro w' hb
        rcases hC with hC | ⟨hC1, hC2⟩
        · exact hC w w'
        · refine hC1 w w' (hb ?_)
          cases hl : loud j
          · rfl
          · exact absurd ((hC2 j hjun hji hl).listed hcl (fun o ho => by rw [hoj] at ho; cases ho; exact hall)) hiun
      have h2 := wpOp_putC ht hoj (hfree j oj hoj hji hjun hnot) (fun cs b => hsel i oi cs b hi) (fun cs b => hsel j oj cs b hoj) hQ hCw hy h1
      have hfree' : ∀ k ok, ops[k]? = some ok → k ≠ i → (listed.setIfInBounds j true).getD k true = false →
          (∀ e ∈ ok.after, Region.binds .any e = true → e.on ≠ i) → oi.apart ops ok = true := fun k ok hk hki hun hno => by
        refine hfree k ok hk hki ?_ hno
        by_cases hjk : j = k
        · subst hjk; exact hjun
        · rw [getD_set_ne true hjk] at hun; exact hun
      have hC' : (∀ w w', C w w') ∨ ((∀ w w', Below w.heap.size w w' → C w w') ∧ ∀ k, (listed.setIfInBounds j true).getD k true = false → k ≠ i → loud k = true → Anc ops i k) := by
        rcases hC with hC | ⟨hC1, hC2⟩
        · exact .inl hC
        · refine .inr ⟨hC1, fun k hk => hC2 k ?_⟩
          by_cases hjk : j = k
          · subst hjk; exact hjun
          · rw [getD_set_ne true hjk] at hk; exact hk
      refine wpOp_mono (fun a' w' h3 => ⟨h3.1, ih (listed.setIfInBounds j true) a' w' (closed_set hcl hj) hfree' hC' (ready_mono hr (Ne.symm hji)) h3.2.1 ?_⟩) h2
      rw [Array.setIfInBounds_comm _ _ hji]
      exact h3.2.2
end
end Go.Vg
