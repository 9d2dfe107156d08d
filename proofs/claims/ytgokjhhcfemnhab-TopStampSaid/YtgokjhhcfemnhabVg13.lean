/- A part of the proof that the law TopStamp holds of the given program: facts that are used there. -/
import Derived.Test.YtgokjhhcfemnhabVg12
namespace Go.Vg
open Go.RowKit
def srcD (st : St) (e : Ty) (x : C) : Option (List (D e)) :=
  match rowD e x with
  | some ys => some ys
  | none => match x with
    | .mrow m => match look st.objs m with
      | some (.mrow e' ys) => match h : Ty.beq (.slice e') (.slice e) with
        | true => some (castD h (a := .slice e') ys)
        | false => none
      | _ => none
    | _ => none
def delObj (l : List (Nat × OC)) (n : Nat) : List (Nat × OC) :=
  match l with
  | [] => []
  | (m, x) :: r => match Nat.beq m n with
    | true => delObj r n
    | false => (m, x) :: delObj r n
def dropObj (st : St) (n : Nat) : St := { st with objs := delObj st.objs n }
/-- Onto a list that may be appended to. -/
def appOn (st : St) (e : Ty) (ys : List (D e)) (e' : Ty) (xs : List (D e')) (n : Nat) (K : SV → St → VC) : VC :=
  match h : Ty.beq (.slice e') (.slice e), look st.objs n with
  | true, some (.tok e'' zs) => match h2 : Ty.beq (.slice e'') (.slice e) with
    | true => .and (castD h2 (a := .slice e'') zs = castD h (a := .slice e') xs ∧ xs.length + ys.length ≤ 1000000000)
        (K (.s (.one (.app e (castD h (a := .slice e') xs ++ ys) n))) (setObj st n (.tok e (castD h (a := .slice e') xs ++ ys))))
    | false => .ff
  | _, _ => .ff
def newRowVC (st : St) (e : Ty) (ys : List (D e)) (K : SV → St → VC) : VC :=
  .and (ys.length ≤ 1000000000) (K (.s (.one (.mrow st.next))) (fresh st (.mrow e ys)))
def newTokVC (st : St) (e : Ty) (ys : List (D e)) (K : SV → St → VC) : VC :=
  .and (ys.length ≤ 1000000000) (K (.s (.one (.app e ys (st.next + 1)))) (fresh (dropObj (fresh st (.mrow e ys)) st.next) (.tok e ys)))
def newVC (tk : Bool) (st : St) (e : Ty) (ys : List (D e)) (K : SV → St → VC) : VC :=
  match tk with
  | true => newTokVC st e ys K
  | false => newRowVC st e ys K
/-- 'tk': what is new is to be appended to further. -/
def appendVC (cx : Cx) (tk : Bool) (st : St) (t : TypeId) (s x : C) (K : SV → St → VC) : VC :=
  match look cx.τ t with
  | some (.slice e) => match srcD st e x with
    | some ys => match s with
      | .nilS => newVC tk st e ys K
      | .emp => newVC tk st e ys K
      | .app e' xs n => appOn st e ys e' xs n K
      | .mrow n => match look st.objs n with
        | some (.mrow e' zs) => appOn (fresh (dropObj st n) (.tok e' zs)) e ys e' zs st.next K
        | _ => .ff
      | _ => .ff
    | none => .ff
  | _ => .ff
section
variable {X : Ext} {P : Program} {cx : Cx}
theorem zeroCs_length : ∀ t : Ty, (zeroCs t).length = t.size := by
  intro t
  induction t with
  | prod a b iha ihb => simp [zeroCs, Ty.size, iha, ihb]
  | _ => rfl
def RowsL (eT : TypeId) (e : Ty) (xs : List (D e)) (A : Avoid) (w : World) (cs : List Value) : Prop :=
  ∀ i y, xs[i]? = some y → ∃ us, R eT e y A w us ∧ ∀ j u, us[j]? = some u → cs[i * e.size + j]? = some u
theorem RowsL.cons {eT : TypeId} {e : Ty} {x : D e} {xs : List (D e)} {A : Avoid} {w : World} {us cs : List Value} (h : R eT e x A w us) (h' : RowsL eT e xs A w cs) : RowsL eT e (x :: xs) A w (us ++ cs) := by
  intro i y hy
  cases i with
  | zero =>
    simp at hy
    subst hy
    refine ⟨us, h, fun j u hj => ?_⟩
    rw [List.getElem?_append_left (by simpa using getElem?_lt hj)]
    simpa using hj
  | succ i =>
    simp at hy
    obtain ⟨us', h1, h2⟩ := h' i y hy
    refine ⟨us', h1, fun j u hj => ?_⟩
    have hl := h.length
    rw [Nat.add_mul, List.getElem?_append_right (by omega), show i * e.size + 1 * e.size + j - us.length = i * e.size + j from by omega]
    exact h2 j u hj
theorem RowsL.append {eT : TypeId} {e : Ty} {xs ys : List (D e)} {A : Avoid} {w : World} {cs ds : List Value} (h : RowsL eT e xs A w cs) (hl : cs.length = xs.length * e.size) (h' : RowsL eT e ys A w ds) :
    RowsL eT e (xs ++ ys) A w (cs ++ ds) := by
  intro i y hy
  rw [List.getElem?_append] at hy
  split at hy
  · rename_i hi
    obtain ⟨us, h1, h2⟩ := h i y hy
    refine ⟨us, h1, fun j u hj => ?_⟩
    have := h2 j u hj
    rw [List.getElem?_append_left (getElem?_lt this)]
    exact this
  · rename_i hi
    obtain ⟨us, h1, h2⟩ := h' _ y hy
    refine ⟨us, h1, fun j u hj => ?_⟩
    have e1 : i * e.size = cs.length + (i - xs.length) * e.size := by
      rw [hl, ← Nat.add_mul, show xs.length + (i - xs.length) = i from by omega]
    rw [List.getElem?_append_right (by omega), show i * e.size + j - cs.length = (i - xs.length) * e.size + j from by omega]
    exact h2 j u hj
theorem RowsL.frame {eT : TypeId} {e : Ty} {xs : List (D e)} {A A' : Avoid} {w w' : World} {cs : List Value} (h : RowsL eT e xs A w cs)
    (hf : ∀ b o v, ¬ A b o → w.cell? ⟨b, o, none⟩ = some v → w'.cell? ⟨b, o, none⟩ = some v ∧ ¬ A' b o) : RowsL eT e xs A' w' cs :=
  fun i y hy => let ⟨us, h1, h2⟩ := h i y hy; ⟨us, h1.frame hf, h2⟩
/-- The cells of a slice, in a list. -/
theorem cells_of_rows {eT : TypeId} {e : Ty} {A : Avoid} {w : World} {b : Nat} : ∀ {xs : List (D e)} {o : Nat}, (∀ i y, xs[i]? = some y → ∃ us, R eT e y A w us ∧ Row A w b (o + i * e.size) us) →
    ∃ cs, cs.length = xs.length * e.size ∧ Row A w b o cs ∧ RowsL eT e xs A w cs ∧ ∀ u ∈ cs, u.oneCell' = true := by
  intro xs
  induction xs with
  | nil => intro o _; exact ⟨[], by simp, fun j u h => by simp at h, fun i y h => by simp at h, by simp⟩
  | cons x xs ih =>
    intro o h
    obtain ⟨us, h1, h2⟩ := h 0 x rfl
    obtain ⟨cs, k1, k2, k3, k4⟩ := ih (o := o + e.size) (fun i y hy => by
      obtain ⟨us, r1, r2⟩ := h (i + 1) y (by simpa using hy)
      refine ⟨us, r1, ?_⟩
      rw [show o + e.size + i * e.size = o + (i + 1) * e.size from by rw [Nat.add_mul]; omega]
      exact r2)
    have hl := h1.length
    refine ⟨us ++ cs, by simp [hl, k1, Nat.add_mul]; omega, fun j u hj => ?_, RowsL.cons h1 k3, fun u hu => ?_⟩
    · rw [List.getElem?_append] at hj
      split at hj
      · have := h2 j u hj
        simpa using this
      · have := k2 _ u hj
        rw [hl, show o + e.size + (j - e.size) = o + j from by omega] at this
        exact this
    · rcases List.mem_append.1 hu with hu | hu
      · exact h1.oneCell u hu
      · exact k4 u hu
theorem rows_of_cells {eT : TypeId} {e : Ty} {A : Avoid} {w : World} {b o : Nat} {xs : List (D e)} {cs : List Value} (h : RowsL eT e xs A w cs) (hr : Row A w b o cs) :
    ∀ i y, xs[i]? = some y → ∃ us, R eT e y A w us ∧ Row A w b (o + i * e.size) us := by
  intro i y hy
  obtain ⟨us, h1, h2⟩ := h i y hy
  refine ⟨us, h1, fun j u hj => ?_⟩
  rw [Nat.add_assoc]
  exact hr _ _ (h2 j u hj)
/-- A slice's value, and its cells. -/
theorem slice_cells {eT : TypeId} {e : Ty} {xs : List (D e)} {A : Avoid} {w : World} {v : Value} (h : VR eT (.slice e) xs A w v) :
    xs.length ≤ big ∧ ((xs = [] ∧ ∃ a c, v = .slice a 0 c) ∨ ∃ b o cap cs, v = .slice (some ⟨b, o, none⟩) xs.length cap ∧ xs.length ≤ cap ∧ cs.length = xs.length * e.size ∧ Row A w b o cs ∧ RowsL eT e xs A w cs ∧ ∀ u ∈ cs, u.oneCell' = true) := by
  obtain ⟨u, hu, hl, h⟩ := VR.one rfl h
  simp at hu; subst hu
  refine ⟨hl, ?_⟩
  rcases h with h | ⟨b, o, cap, rfl, hc, h⟩
  · exact .inl h
  · obtain ⟨cs, k1, k2, k3, k4⟩ := cells_of_rows h
    exact .inr ⟨b, o, cap, cs, rfl, hc, k1, k2, k3, k4⟩
theorem slice_of_cells {eT : TypeId} {e : Ty} {xs : List (D e)} {A : Avoid} {w : World} {b o cap : Nat} {cs : List Value} (hb : xs.length ≤ big) (hc : xs.length ≤ cap) (hr : Row A w b o cs) (h : RowsL eT e xs A w cs) :
    VR eT (.slice e) xs A w (.slice (some ⟨b, o, none⟩) xs.length cap) :=
  VR.of_one rfl ⟨_, rfl, hb, .inr ⟨b, o, cap, rfl, hc, rows_of_cells h hr⟩⟩
/-- What is appended: nothing, or cells that are there. -/
def Src (eT : TypeId) (e : Ty) (ys : List (D e)) (A : Avoid) (w : World) (v : Value) : Prop :=
  (ys = [] ∧ ∃ a c, v = .slice a 0 c) ∨ ∃ b o cap cs, v = .slice (some ⟨b, o, none⟩) ys.length cap ∧ cs.length = ys.length * e.size ∧ (∀ j u, cs[j]? = some u → w.cell? ⟨b, o + j, none⟩ = some u) ∧ RowsL eT e ys A w cs ∧ ∀ u ∈ cs, u.oneCell' = true
theorem Src.of_VR {eT : TypeId} {e : Ty} {ys : List (D e)} {A : Avoid} {w : World} {v : Value} (h : VR eT (.slice e) ys A w v) : Src eT e ys A w v := by
  rcases (slice_cells h).2 with h | ⟨b, o, cap, cs, h1, _, h3, h4, h5, h6⟩
  · exact .inl h
  · exact .inr ⟨b, o, cap, cs, h1, h3, fun j u hj => (h4 j u hj).1, h5, h6⟩
theorem elems_cells {S : Sit} {e : Ty} {ys : List (D e)} {vs : Array Value} (h : Elems cx.eT S e ys vs) (hl : ys.length * e.size ≤ vs.size) :
    ∃ cs, cs = vs.toList.take (ys.length * e.size) ∧ cs.length = ys.length * e.size ∧ RowsL cx.eT e ys S.A S.w cs ∧ ∀ u ∈ cs, u.oneCell' = true := by
  have hlen : (vs.toList.take (ys.length * e.size)).length = ys.length * e.size := by simp; omega
  have hrow : RowsL cx.eT e ys S.A S.w (vs.toList.take (ys.length * e.size)) := by
    intro i y hy
    obtain ⟨us, h1, h2⟩ := h i y hy
    refine ⟨us, h1, fun j u hj => ?_⟩
    have hi := getElem?_lt hy
    have hj' := getElem?_lt hj
    rw [h1.length] at hj'
    have : (i + 1) * e.size ≤ ys.length * e.size := Nat.mul_le_mul_right _ hi
    rw [Nat.add_mul] at this
    rw [List.getElem?_take, if_pos (by omega), Array.getElem?_toList]
    exact h2 j u hj
  refine ⟨_, rfl, hlen, hrow, fun u hu => ?_⟩
  obtain ⟨k, hk, rfl⟩ := List.getElem_of_mem hu
  have hk' : k < ys.length * e.size := by omega
  have hpos : 0 < e.size := by
    rcases Nat.eq_zero_or_pos e.size with h0 | h0
    · rw [h0] at hk'; omega
    · exact h0
  have hi : k / e.size < ys.length := Nat.div_lt_of_lt_mul (by rw [Nat.mul_comm]; exact hk')
  obtain ⟨us, h1, h2⟩ := hrow _ _ (List.getElem?_eq_getElem hi)
  have hjlt : k % e.size < us.length := by rw [h1.length]; exact Nat.mod_lt _ hpos
  have := h2 _ _ (List.getElem?_eq_getElem hjlt)
  rw [show k / e.size * e.size + k % e.size = k from by rw [Nat.mul_comm]; exact Nat.div_add_mod k e.size] at this
  rw [List.getElem?_eq_getElem hk] at this
  rw [Option.some.inj this]
  exact h1.oneCell _ (List.getElem_mem hjlt)
theorem srcD_rel {O : Avoid} {st : St} {loc : Nat → Loc} {w : World} (g : Good cx.eT X (sit O st loc w)) {e : Ty} {x : C} {ys : List (D e)} {v : Value} (h : srcD st e x = some ys)
    (hx : CR cx.eT (sit O st loc w) x v) : Src cx.eT e ys (sit O st loc w).A w v := by
  unfold srcD at h
  split at h
  · rename_i zs hz
    cases h
    exact Src.of_VR (rowD_rel hz hx)
  · split at h
    · rename_i m
      split at h
      · rename_i e' zs hob
        split at h
        · rename_i hb
          cases h
          have hee : e' = e := by have := Ty.eq_of_beq hb; cases this; rfl
          subst hee
          rcases (g.obj _ _ hob).2 with ⟨rfl, ⟨a, ha⟩, _⟩ | ⟨b, vs, T, cap, hl, hbs, hheap, hvs, hcap, _, he⟩
          · exact .inl ⟨rfl, a, 0, (hx.2 _ _ hob).trans ha⟩
          have hle : zs.length * e'.size ≤ vs.size := by rw [hvs]; exact Nat.mul_le_mul_right _ hcap
          obtain ⟨cs, hcs, k1, k2, k3⟩ := elems_cells he hle
          refine .inr ⟨b, 0, cap, cs, (hx.2 _ _ hob).trans hl, k1, fun j u hj => ?_, k2, k3⟩
          rw [Nat.zero_add, cell_of_row w b j vs T (0, 0) hheap]
          subst hcs
          rw [List.getElem?_take] at hj
          split at hj
          · simpa using hj
          · cases hj
        · cases h
      · cases h
    · cases h
theorem run_append_zero {t te : TypeId} {ti : TypeInfo} {ty : TypeId} (ht : P.underlying t = some (.slice te)) (hi : P.info? te = some ti) {s : Value} {base : Option Addr} {n c : Nat} (hs : s = .slice base n c) (hnc : n ≤ c)
    {x : Value} (hx : ∃ a cap, x = .slice a 0 cap) (w : World) : (Builtin.append_ #[t, t] ty #[s, x]).run P w = .ok s w := by
  subst hs
  obtain ⟨a, cap, rfl⟩ := hx
  rcases a with _ | a
  · cases base <;> simp [Builtin.append_, run_underlying ht, sizeOf, typeInfo, hi, Builtin.lenOf, hnc, Builtin.firstCells, storeCells]
  · cases base <;> simp [Builtin.append_, run_underlying ht, sizeOf, typeInfo, hi, Builtin.lenOf, hnc, Builtin.firstCells, loadCells, loadCellsFrom, storeCells]
theorem run_append_in {t te T : TypeId} {ti : TypeInfo} {ty : TypeId} (ht : P.underlying t = some (.slice te)) (hi : P.info? te = some ti) {g sLen sCap : Nat} {cur : Array Value} {w : World}
    (hg : w.heap[g]? = some (.cells cur T (0, 0))) {a : Addr} {m c : Nat} {news : List Value} (hl : news.length = m * ti.size) (hnews : ∀ j u, news[j]? = some u → w.cell? (a.add j) = some u) (h1 : ∀ u ∈ news, u.oneCell' = true)
    (hroom : sLen + m ≤ sCap) (hfit : sLen * ti.size + news.length ≤ cur.size) :
    (Builtin.append_ #[t, t] ty #[.slice (some ⟨g, 0, none⟩) sLen sCap, .slice (some a) m c]).run P w =
      .ok (.slice (some ⟨g, 0, none⟩) (sLen + m) sCap) (w.setRow g (cur.toList.take (sLen * ti.size) ++ news ++ cur.toList.drop (sLen * ti.size + news.length)).toArray) := by
  have hf := run_firstCells_some (P := P) w ti.size m a m c news hl hnews
  have hst := run_storeCells_at P g (sLen * ti.size) T news 0 cur w hg (by simpa using hfit) h1
  simp only [Nat.add_zero] at hst
  simp [Builtin.append_, run_underlying ht, sizeOf, typeInfo, hi, Builtin.lenOf, hroom, hf, Addr.add_lit, hst]
/-- Onto a slice that has no room at all. -/
theorem run_append_emp {w : World} {t te ty : TypeId} {ti : TypeInfo} {z : Value} (ht : P.underlying t = some (.slice te)) (hi : P.info? te = some ti) (hz : ti.zero = some z) (a0 : Option Addr)
    {a : Addr} {n c : Nat} {news : List Value} (hl : news.length = n * ti.size) (hnews : ∀ j v, news[j]? = some v → w.cell? (a.add j) = some v)
    (h0 : 0 < n) (h63 : (n : Int) ≤ 9223372036854775807) (h48 : n * ti.bytes ≤ 140737488355328) :
    (Builtin.append_ #[t, t] ty #[.slice a0 0 0, .slice (some a) n c]).run P w =
      .ok (.slice (some ⟨w.heap.size, 0, none⟩) n (grownCap w n 0 te)) (w.drew.alloc (.cells (news.toArray ++ Builtin.zeroCells z.cells (grownCap w n 0 te - n)) te)) := by
  cases a0 with
  | none => exact run_append_nil (P := P) w t ty te ti z ht hi hz a n c news hl hnews h0 h63 (by omega)
  | some b =>
    have := run_append_grow (P := P) w t ty te ti z ht hi hz b 0 0 [] (by simp) (fun j v hj => by simp at hj) a n c news hl hnews (by omega) (by simpa using h63)
      (growslice_fits (by omega) (by simpa using h48))
    simpa using this
theorem castD_self {a : Ty} (h : Ty.beq a a = true) (x : D a) : castD h x = x := rfl
theorem castL_self {a : Ty} (h : Ty.beq (.slice a) (.slice a) = true) (x : List (D a)) : castD h (a := .slice a) (b := .slice a) x = x := rfl
theorem sit_set_ob (O : Avoid) (st : St) (loc : Nat → Loc) (w : World) (n : Nat) (oc : OC) (m : Nat) : (sit O (setObj st n oc) loc w).ob m = if n = m then some oc else look st.objs m := look_set st n m oc
/-- A token has moved to a new block, and grown. -/
theorem tok_new {O : Avoid} {st : St} {loc : Nat → Loc} {w : World} (g : Good cx.eT X (sit O st loc w)) (hO : OIn O w) {e : Ty} {xs ys : List (D e)} {n : Nat} {te : TypeId} {z : Array Value} {cap' : Nat} {olds news : List Value}
    (hob : look st.objs n = some (.tok e xs)) (hz : z.size = e.size) (hlo : olds.length = xs.length * e.size) (hln : news.length = ys.length * e.size) (hro : RowsL cx.eT e xs (sit O st loc w).A w olds) (hrn : RowsL cx.eT e ys (sit O st loc w).A w news)
    (hle : xs.length + ys.length ≤ 1000000000) (hcap : xs.length + ys.length ≤ cap') (hpos : 0 < ys.length) :
    let w' := w.drew.alloc (.cells (olds.toArray ++ news.toArray ++ Builtin.zeroCells z (cap' - (xs.length + ys.length))) te)
    let v := Value.slice (some ⟨w.heap.size, 0, none⟩) (xs.length + ys.length) cap'
    let loc' := updLoc loc n ⟨v, [w.heap.size]⟩
    Good cx.eT X (sit O (setObj st n (.tok e (xs ++ ys))) loc' w') ∧ Tr (sit O st loc w) (sit O (setObj st n (.tok e (xs ++ ys))) loc' w') ∧
      SVR cx.eT (sit O (setObj st n (.tok e (xs ++ ys))) loc' w') (.s (.one (.app e (xs ++ ys) n))) v := by
  intro w' v loc'
  have hb : Below w.heap.size w w' := (Below.refl _ w).drew.alloc (Nat.le_refl _) _
  have hheap : w'.heap[w.heap.size]? = some (.cells (olds.toArray ++ news.toArray ++ Builtin.zeroCells z (cap' - (xs.length + ys.length))) te (0, 0)) := heap_alloc_new w.drew _
  have hsz : (olds.toArray ++ news.toArray ++ Builtin.zeroCells z (cap' - (xs.length + ys.length))).size = cap' * e.size := by
    simp only [Array.size_append, List.size_toArray, size_zeroCells, hz, hlo, hln, ← Nat.add_mul]
    congr 1; omega
  have hn := (g.obj n _ hob).1
  obtain ⟨tr1, g1⟩ := step_set (S := sit O st loc w) (S' := sit O (setObj st n (.tok e (xs ++ ys))) loc' w') (n := n) (oc := .tok e xs) (oc' := .tok e (xs ++ ys)) (l' := ⟨v, [w.heap.size]⟩) g rfl hO hob
    (fun m => sit_set_ob O st loc' w' n _ m) (fun _ => rfl) rfl (fun h => (h e xs rfl).elim)
    ⟨rfl, by simp, fun e1 => by rw [List.length_append] at e1; omega⟩ hb.os hb.output hb.size (fun b hlt _ => hb.block b hlt)
    (fun b o v _ _ hc => below_cell hb hc) (fun b hb' => .inr (by simp at hb'; subst hb'; exact Nat.le_refl _))
  have hcell : ∀ j u, (olds ++ news)[j]? = some u → w'.cell? ⟨w.heap.size, j, none⟩ = some u := by
    intro j u hj
    rw [cell_of_row _ w.heap.size j _ te (0, 0) hheap]
    have hl := getElem?_lt hj
    rw [Array.getElem?_append, if_pos (by simpa using hl)]
    simpa using hj
  have g1 := g1 (.inr ⟨w.heap.size, _, te, cap', by rw [List.length_append], rfl, hheap, hsz, by rw [List.length_append]; exact hcap, by rw [List.length_append]; unfold big; omega, fun i y hy => by
    obtain ⟨us, r1, r2⟩ := (hro.append hlo hrn).frame tr1.cell i y hy
    refine ⟨us, r1, fun j u hj => ?_⟩
    have := r2 j u hj
    have hl := getElem?_lt this
    rw [Array.getElem?_append, if_pos (by simpa using hl)]
    simpa using this⟩)
  refine ⟨g1, tr1, ?_, hn, fun zs hy => ?_⟩
  · have hrows := (hro.append hlo hrn).frame tr1.cell
    have := slice_of_cells (eT := cx.eT) (b := w.heap.size) (o := 0) (cap := cap') (by rw [List.length_append]; unfold big; omega) (by rw [List.length_append]; exact hcap) (cs := olds ++ news) ?_ hrows
    · rw [List.length_append] at this; exact this
    · intro j u hj
      rw [Nat.zero_add]
      refine ⟨hcell j u hj, ?_⟩
      rintro (hA | ⟨m, oc, h1, h2, h3⟩)
      · have := hO _ _ hA; omega
      · by_cases e1 : n = m
        · rw [sit_set_ob, if_pos e1] at h1
          cases h1
          have hl := getElem?_lt hj
          simp only [OC.lo, List.length_append, Nat.add_mul] at h3
          rw [List.length_append, hlo, hln] at hl
          omega
        · rw [sit_set_ob, if_neg e1] at h1
          simp only [sit, loc', updLoc, if_neg e1] at h2
          have := (g.obj m oc h1).2.inside _ h2
          simp [sit] at this
  · rw [sit_set_ob, if_pos rfl] at hy
    cases hy
    exact ⟨Nat.le_refl _, fun _ => by simp [sit, loc', updLoc]⟩
/-- A token's list grows: where it lies, or in a new block. -/
theorem appOn_sound {O : Avoid} {st : St} {loc : Nat → Loc} {w : World} (g : Good cx.eT X (sit O st loc w)) (hO : OIn O w)
    {t ty te : TypeId} {ti : TypeInfo} {td : TypeDesc} {z : Value} {e e' : Ty} (hu : P.underlying t = some (.slice te)) (hf : Fit P te e ti td) (hz : ti.zero = some z) (hzs : z.cells.size = e.size)
    {ys : List (D e)} {xs : List (D e')} {n : Nat} {K : SV → St → VC} {vs vx : Value} (hs : CR cx.eT (sit O st loc w) (.app e' xs n) vs) (hsrc : Src cx.eT e ys (sit O st loc w).A w vx)
    (h : (appOn st e ys e' xs n K).holds) :
    ∃ sv v st' loc' w', (K sv st').holds ∧ st'.env = st.env ∧ Good cx.eT X (sit O st' loc' w') ∧ Tr (sit O st loc w) (sit O st' loc' w') ∧ SVR cx.eT (sit O st' loc' w') sv v ∧
      (Builtin.append_ #[t, t] ty #[vs, vx]).run P w = .ok v w' := by
  unfold appOn at h
  split at h
  · rename_i e'' zs hb hob
    split at h
    · rename_i hb2
      have h1 : e' = e := by have := Ty.eq_of_beq hb; cases this; rfl
      subst h1
      have h2 : e'' = e' := by have := Ty.eq_of_beq hb2; cases this; rfl
      subst h2
      rw [castL_self, castL_self] at h
      obtain ⟨⟨heq, hle⟩, h⟩ := h
      subst heq
      obtain ⟨hvr, hn, htok⟩ := hs
      have hvl := (htok _ hob).2 rfl
      have zero : ys = [] → (∃ a cap, vx = .slice a 0 cap) → ∃ sv v st' loc' w', (K sv st').holds ∧ st'.env = st.env ∧ Good cx.eT X (sit O st' loc' w') ∧ Tr (sit O st loc w) (sit O st' loc' w') ∧ SVR cx.eT (sit O st' loc' w') sv v ∧
          (Builtin.append_ #[t, t] ty #[vs, vx]).run P w = .ok v w' := by
        intro hy hvx
        subst hy
        rw [List.append_nil] at h
        have hst : sit O (setObj st n (.tok e'' zs)) loc w = sit O st loc w := by
          have : look (setObj st n (.tok e'' zs)).objs = look st.objs := by
            funext m
            rw [look_set]
            by_cases e1 : n = m
            · rw [if_pos e1, ← e1, hob]
            · rw [if_neg e1]
          simp only [sit, this]; rfl
        obtain ⟨a, c, hvs, hcl⟩ := len_rel hvr
        have hnc : zs.length ≤ c := by
          rcases (slice_cells hvr).2 with ⟨h1, h2⟩ | ⟨b, o, cap, cs, h1, h2, _⟩
          · rw [h1]; simp
          · rw [hvs] at h1; cases h1; exact h2
        refine ⟨_, vs, _, loc, w, h, rfl, by rw [hst]; exact g, by rw [hst]; exact Tr.refl _, ?_, run_append_zero hu hf.info hvs hnc hvx w⟩
        rw [hst]
        exact ⟨hvr, hn, htok⟩
      rcases hsrc with ⟨hy, hvx⟩ | ⟨b, o, cap, cs, hvx, hcl, hcc, hrl, hone⟩
      · exact zero hy hvx
      · by_cases hm : ys = []
        · exact zero hm ⟨some ⟨b, o, none⟩, cap, by rw [hvx, hm]; rfl⟩
        · have hpos : 0 < ys.length := by cases ys with | nil => exact (hm rfl).elim | cons => simp
          subst hvx
          have hnews : ∀ j u, cs[j]? = some u → w.cell? ((⟨b, o, none⟩ : Addr).add j) = some u := fun j u hj => by rw [Addr.add_lit]; exact hcc j u hj
          have hbytes : (zs.length + ys.length) * ti.bytes ≤ 140737488355328 := by have := Nat.mul_le_mul hle hf.bytes; omega
          rcases (g.obj n _ hob).2 with ⟨hx0, ⟨a0, hv0⟩, hbs0⟩ | ⟨g0, cur, T, cap0, hv0, hbs0, hheap0, hsz0, hcap0, _, _⟩
          · have hv0' : vs = .slice a0 0 0 := hvl.trans hv0
            subst hx0
            subst hv0'
            have hrun := run_append_emp (P := P) (w := w) (t := t) (ty := ty) hu hf.info hz a0 (a := ⟨b, o, none⟩) (n := ys.length) (c := cap) (news := cs) (by rw [hcl, hf.size]) hnews hpos (by omega)
              (by have := hbytes; simp only [List.length_nil, Nat.zero_add] at this; omega)
            have hc' : ys.length ≤ grownCap w ys.length 0 te := grownCap_ge w _ _ _
            obtain ⟨k1, k2, k3⟩ := tok_new (te := te) (cap' := grownCap w ys.length 0 te) (olds := []) g hO hob hzs (by simp) hcl (fun i y hy => by simp at hy) hrl hle (by simpa using hc') hpos
            refine ⟨_, _, _, _, _, h, rfl, k1, k2, k3, ?_⟩
            rw [hrun]
            simp
          · have hv0' : vs = .slice (some ⟨g0, 0, none⟩) zs.length cap0 := hvl.trans hv0
            obtain ⟨olds, ho1, ho2, ho3, ho4⟩ : ∃ olds : List Value, olds.length = zs.length * e''.size ∧ (∀ j u, olds[j]? = some u → w.cell? ⟨g0, j, none⟩ = some u) ∧ RowsL cx.eT e'' zs (sit O st loc w).A w olds ∧ Row (sit O st loc w).A w g0 0 olds := by
              rcases (slice_cells hvr).2 with ⟨h1, h2⟩ | ⟨b', o', cap', olds, h1, h2, h3, h4, h5, h6⟩
              · exact ⟨[], by rw [h1]; simp, fun j u hj => by simp at hj, fun i y hy => by rw [h1] at hy; simp at hy, fun j u hj => by simp at hj⟩
              · rw [hv0'] at h1
                cases h1
                exact ⟨olds, h3, fun j u hj => by have := (h4 j u hj).1; rwa [Nat.zero_add] at this, h5, h4⟩
            subst hv0'
            by_cases hroom : zs.length + ys.length ≤ cap0
            · have hmul : (zs.length + ys.length) * e''.size ≤ cap0 * e''.size := Nat.mul_le_mul_right _ hroom
              rw [Nat.add_mul] at hmul
              have hfit : zs.length * ti.size + cs.length ≤ cur.size := by rw [hf.size, hsz0, hcl]; exact hmul
              have hrun := run_append_in (P := P) (ty := ty) hu hf.info hheap0 (a := ⟨b, o, none⟩) (c := cap) (by rw [hcl, hf.size]) hnews hone hroom hfit
              rw [hf.size] at hrun hfit
              generalize hcur' : (cur.toList.take (zs.length * e''.size) ++ cs ++ cur.toList.drop (zs.length * e''.size + cs.length)).toArray = cur' at hrun
              have hget : ∀ k, cur'[k]? = if k < zs.length * e''.size then cur[k]? else if k < zs.length * e''.size + cs.length then cs[k - zs.length * e''.size]? else cur[k]? := by
                intro k
                rw [← hcur', List.getElem?_toArray, splice_get _ _ _ _ (by simpa using hfit)]
                simp
              have hsz' : cur'.size = cur.size := by
                rw [← hcur']; simp only [List.size_toArray, List.length_append, List.length_take, List.length_drop, Array.length_toList]; omega
              have hheap' := setRow_heap w g0 cur cur' T (0, 0) hheap0
              obtain ⟨tr1, g1⟩ := step_set (S := sit O st loc w) (S' := sit O (setObj st n (.tok e'' (zs ++ ys))) (updLoc loc n ⟨.slice (some ⟨g0, 0, none⟩) (zs.length + ys.length) cap0, [g0]⟩) (w.setRow g0 cur')) (n := n)
                (oc := .tok e'' zs) (oc' := .tok e'' (zs ++ ys)) (l' := ⟨.slice (some ⟨g0, 0, none⟩) (zs.length + ys.length) cap0, [g0]⟩) g rfl hO hob
                (fun m => sit_set_ob O st _ _ n _ m) (fun _ => rfl) rfl (fun h => (h e'' zs rfl).elim) ⟨rfl, by simp, fun e1 => by rw [List.length_append] at e1; omega⟩ rfl rfl (by simp [sit, World.setRow])
                (fun b' _ hb' => setRow_other w g0 b' cur' (fun e1 => hb' (by rw [hbs0]; simp [e1])))
                (fun b' o' v' hb' ho' hc' => by
                  rw [hbs0] at hb'
                  simp at hb'
                  subst hb'
                  simp only [sit] at hc' ⊢
                  rw [cell_of_row w b' o' cur T (0, 0) hheap0] at hc'
                  rw [cell_of_row _ b' o' cur' T (0, 0) hheap', hget, if_pos (show o' < zs.length * e''.size from ho')]
                  exact hc')
                (fun b' hb' => .inl (by simp at hb'; subst hb'; exact ⟨by rw [hbs0]; simp, by simp only [OC.lo, List.length_append, Nat.add_mul]; omega⟩))
              have hcur : ∀ (j : Nat) (u : Value), (olds ++ cs)[j]? = some u → cur'[j]? = some u := by
                intro j u hj
                rw [hget]
                rw [List.getElem?_append, ho1] at hj
                by_cases h3 : j < zs.length * e''.size
                · rw [if_pos h3]
                  rw [if_pos h3] at hj
                  have := ho2 j u hj
                  rwa [cell_of_row w g0 j cur T (0, 0) hheap0] at this
                · rw [if_neg h3] at hj
                  have := getElem?_lt hj
                  rw [if_neg h3, if_pos (by omega)]
                  exact hj
              have g1 := g1 (.inr ⟨g0, cur', T, cap0, by rw [List.length_append], rfl, hheap', by rw [hsz', hsz0], by rw [List.length_append]; exact hroom, by rw [List.length_append]; unfold big; omega, fun i y hy => by
                obtain ⟨us, r1, r2⟩ := (ho3.append ho1 hrl).frame tr1.cell i y hy
                exact ⟨us, r1, fun j u hj => hcur _ u (r2 j u hj)⟩⟩)
              refine ⟨_, _, _, _, _, h, rfl, g1, tr1, ⟨?_, hn, fun zs' hy => ?_⟩, hrun⟩
              · have hrows := (ho3.append ho1 hrl).frame tr1.cell
                have := slice_of_cells (eT := cx.eT) (b := g0) (o := 0) (cap := cap0) (by rw [List.length_append]; unfold big; omega) (by rw [List.length_append]; exact hroom) (cs := olds ++ cs) ?_ hrows
                · rw [List.length_append] at this; exact this
                · intro j u hj
                  rw [Nat.zero_add]
                  constructor
                  · show World.cell? (w.setRow g0 cur') _ = _
                    rw [cell_of_row _ g0 j cur' T (0, 0) hheap', hget]
                    rw [List.getElem?_append, ho1] at hj
                    by_cases h3 : j < zs.length * e''.size
                    · rw [if_pos h3]
                      rw [if_pos h3] at hj
                      have := ho2 j u hj
                      rwa [cell_of_row w g0 j cur T (0, 0) hheap0] at this
                    · rw [if_neg h3] at hj
                      have := getElem?_lt hj
                      rw [if_neg h3, if_pos (by omega)]
                      exact hj
                  · have hl := getElem?_lt hj
                    rw [List.length_append, ho1] at hl
                    rintro (hA | ⟨m', oc, h1, h2, h3⟩)
                    · exact g.out n _ g0 j hob (by rw [hbs0]; simp) hA
                    · by_cases e1 : n = m'
                      · rw [sit_set_ob, if_pos e1] at h1
                        cases h1
                        simp only [OC.lo, List.length_append, Nat.add_mul] at h3
                        omega
                      · rw [sit_set_ob, if_neg e1] at h1
                        simp only [sit, updLoc, if_neg e1] at h2
                        exact e1 (g.apart n m' _ _ g0 hob h1 (by rw [hbs0]; simp) h2)
              · rw [sit_set_ob, if_pos rfl] at hy
                cases hy
                exact ⟨Nat.le_refl _, fun _ => by simp [sit, updLoc]⟩
            · have hrun := run_append_grow (P := P) w t ty te ti z hu hf.info hz ⟨g0, 0, none⟩ zs.length cap0 olds (by rw [ho1, hf.size]) (fun j u hj => by rw [Addr.add_lit, Nat.zero_add]; exact ho2 j u hj)
                ⟨b, o, none⟩ ys.length cap cs (by rw [hcl, hf.size]) hnews (by omega) (by omega) (growslice_fits (by omega) hbytes)
              have hc' : zs.length + ys.length ≤ grownCap w (zs.length + ys.length) cap0 te := grownCap_ge w _ _ _
              obtain ⟨k1, k2, k3⟩ := tok_new (te := te) (cap' := grownCap w (zs.length + ys.length) cap0 te) g hO hob hzs ho1 hcl ho3 hrl hle hc' hpos
              exact ⟨_, _, _, _, _, h, rfl, k1, k2, k3, hrun⟩
    · exact h.elim
  · exact h.elim
theorem look_del (l : List (Nat × OC)) (n m : Nat) : look (delObj l n) m = if n = m then none else look l m := by
  induction l with
  | nil => simp [delObj, look]
  | cons p r ih =>
    obtain ⟨k, x⟩ := p
    simp only [delObj]
    by_cases hk : k = n
    · subst hk
      rw [Nat.beq_refl]
      simp only [look]
      rw [ih]
      by_cases h : k = m
      · simp [h]
      · rw [if_neg h, if_neg h]; have : Nat.beq k m = false := beq_ne h
        rw [this]
    · have hkb : Nat.beq k n = false := beq_ne hk
      simp only [hkb, look]
      by_cases h : k = m
      · subst h; simp only [Nat.beq_refl]; rw [if_neg (fun e => hk e.symm)]
      · have : Nat.beq k m = false := beq_ne h
        rw [this]; exact ih
/-- A thing of one's own is let go of. -/
theorem drop_step {O : Avoid} {st : St} {loc : Nat → Loc} {w : World} (g : Good cx.eT X (sit O st loc w)) (n : Nat) :
    Tr (sit O st loc w) (sit O (dropObj st n) loc w) ∧ Good cx.eT X (sit O (dropObj st n) loc w) := by
  have hob : ∀ m oc, look (dropObj st n).objs m = some oc → look st.objs m = some oc := by
    intro m oc h
    simp only [dropObj] at h
    rw [look_del] at h
    split at h
    · cases h
    · exact h
  have hA : ∀ b o, (sit O (dropObj st n) loc w).A b o → (sit O st loc w).A b o := by
    rintro b o (h | ⟨m, oc, h1, h2⟩)
    · exact .inl h
    · exact .inr ⟨m, oc, hob _ _ h1, h2⟩
  have ht : Tr (sit O st loc w) (sit O (dropObj st n) loc w) := {
    O := rfl
    next := Nat.le_refl _
    os := rfl
    output := rfl
    size := Nat.le_refl _
    own := fun b h => by obtain ⟨m, oc, h1, h2⟩ := h; exact .inl ⟨m, oc, hob _ _ h1, h2⟩
    cell := fun b o v h1 h2 => ⟨h2, fun h => h1 (hA b o h)⟩
    block := fun _ _ _ => rfl
    loc := fun _ _ _ => rfl
    kind := fun m oc _ h => ⟨oc, hob _ _ h, by cases oc <;> simp [SameKind, sit]⟩ }
  refine ⟨ht, ⟨fun m oc h => ?_, fun m1 m2 oc1 oc2 b h1 h2 h3 h4 => ?_, fun m oc b off h1 h2 => ?_⟩⟩
  · obtain ⟨h1, h2⟩ := g.obj m oc (hob _ _ h)
    exact ⟨h1, h2.tr ht fun _ _ => rfl⟩
  · exact g.apart m1 m2 oc1 oc2 b (hob _ _ h1) (hob _ _ h2) h3 h4
  · exact g.out m oc b off (hob _ _ h1) h2
/-- A row of its own becomes data. -/
theorem freeze_step {O : Avoid} {st : St} {loc : Nat → Loc} {w : World} (g : Good cx.eT X (sit O st loc w)) {n : Nat} {e : Ty} {zs : List (D e)}
    (hob : look st.objs n = some (.mrow e zs)) {v : Value} (hv : CR cx.eT (sit O st loc w) (.mrow n) v) : CR cx.eT (sit O (dropObj st n) loc w) (.d (.slice e) zs) v := by
  obtain ⟨hn, hor⟩ := g.obj n _ hob
  obtain ⟨td, gd⟩ := drop_step g n
  have hvl := hv.2 _ _ hob
  rcases hor with ⟨rfl, ⟨a, ha⟩, _⟩ | ⟨b, vs, T, cap, h1, h2, h3, h4, h5, h6, he⟩
  · exact VR.of_one rfl ⟨_, rfl, by simp, .inl ⟨rfl, a, 0, hvl.trans ha⟩⟩
  · refine VR.of_one rfl ⟨_, rfl, h6, .inr ⟨b, 0, cap, hvl.trans h1, h5, fun i y hy => ?_⟩⟩
    obtain ⟨us, r1, r2⟩ := he i y hy
    refine ⟨us, r1.frame td.cell, fun j u hj => ⟨?_, ?_⟩⟩
    · show w.cell? _ = _
      rw [Nat.zero_add, cell_of_row w b _ vs T (0, 0) h3]; exact r2 j u hj
    · rintro (hA' | ⟨m, oc, k1, k2, k3⟩)
      · exact g.out n _ b _ hob (by rw [h2]; simp) hA'
      · simp only [sit, dropObj] at k1 k2
        rw [look_del] at k1
        split at k1
        · cases k1
        · rename_i h8; exact h8 (g.apart n m _ _ b hob k1 (by rw [h2]; simp) k2)
/-- A row of its own becomes a list that may be appended to. -/
theorem thaw_step {O : Avoid} {st : St} {loc : Nat → Loc} {w : World} (g : Good cx.eT X (sit O st loc w)) (hO : OIn O w) {n : Nat} {e : Ty} {zs : List (D e)} {v : Value}
    (hob : look st.objs n = some (.mrow e zs)) (hv : CR cx.eT (sit O st loc w) (.mrow n) v) :
    ∃ loc', Tr (sit O st loc w) (sit O (fresh (dropObj st n) (.tok e zs)) loc' w) ∧ Good cx.eT X (sit O (fresh (dropObj st n) (.tok e zs)) loc' w) ∧
      CR cx.eT (sit O (fresh (dropObj st n) (.tok e zs)) loc' w) (.app e zs st.next) v ∧ ∀ b o, (sit O (fresh (dropObj st n) (.tok e zs)) loc' w).A b o → (sit O st loc w).A b o := by
  obtain ⟨hn, hor⟩ := g.obj n _ hob
  obtain ⟨td, gd⟩ := drop_step g n
  have hvl := hv.2 _ _ hob
  have hne : ∀ m oc, look st.objs m = some oc → st.next ≠ m := fun m oc h e => by have := (g.obj m oc h).1; simp [sit] at this; omega
  have hob1 : ∀ m, look (fresh (dropObj st n) (.tok e zs)).objs m = if st.next = m then some (.tok e zs) else if n = m then none else look st.objs m := by
    intro m
    simp only [fresh, look_cons, dropObj, look_del]
  let loc' := updLoc loc st.next (loc n)
  have hl1 : ∀ m, st.next ≠ m → loc' m = loc m := fun m h => by simp [loc', updLoc, h]
  have hlast : loc' st.next = loc n := by simp [loc', updLoc]
  have hA : ∀ b o, (sit O (fresh (dropObj st n) (.tok e zs)) loc' w).A b o → (sit O st loc w).A b o := by
    rintro b o (h | ⟨m, oc, h1, h2, h3⟩)
    · exact .inl h
    · simp only [sit] at h1 h2
      rw [hob1] at h1
      by_cases e1 : st.next = m
      · rw [if_pos e1] at h1; cases h1
        rw [← e1, hlast] at h2
        exact .inr ⟨n, _, hob, h2, Nat.zero_le _⟩
      · rw [if_neg e1] at h1; rw [hl1 m e1] at h2
        split at h1
        · cases h1
        · exact .inr ⟨m, oc, h1, h2, h3⟩
  have ht : Tr (sit O st loc w) (sit O (fresh (dropObj st n) (.tok e zs)) loc' w) := {
    O := rfl
    next := by simp [sit, fresh, dropObj]
    os := rfl
    output := rfl
    size := Nat.le_refl _
    own := fun b h => by
      obtain ⟨m, oc, h1, h2⟩ := h
      simp only [sit] at h1 h2
      rw [hob1] at h1
      by_cases e1 : st.next = m
      · rw [← e1, hlast] at h2; exact .inl ⟨n, _, hob, h2⟩
      · rw [if_neg e1] at h1; rw [hl1 m e1] at h2
        split at h1
        · cases h1
        · exact .inl ⟨m, oc, h1, h2⟩
    cell := fun b o v h1 h2 => ⟨h2, fun h => h1 (hA b o h)⟩
    block := fun _ _ _ => rfl
    loc := fun m hm _ => hl1 m (by simp [sit] at hm; omega)
    kind := fun m oc hm h => by
      simp only [sit] at hm h
      rw [hob1, if_neg (by omega)] at h
      split at h
      · cases h
      · refine ⟨oc, h, ?_⟩
        have := hl1 m (by omega)
        cases oc <;> simp [SameKind, sit, this] }
  have hnw : st.next ≠ n := by simp [sit] at hn; omega
  have key : OR cx.eT X (sit O (fresh (dropObj st n) (.tok e zs)) loc' w) (loc n) (.tok e zs) := by
    rcases hor with h | ⟨b, vs, T, cap, h1, h2, h3, h4, h5, h6, h7⟩
    · exact .inl h
    · exact .inr ⟨b, vs, T, cap, h1, h2, h3, h4, h5, h6, h7.tr ht⟩
  refine ⟨loc', ht, ⟨fun m oc h => ?_, fun m1 m2 oc1 oc2 b h1 h2 h3 h4 => ?_, fun m oc b off h1 h2 => ?_⟩, ?_, hA⟩
  · simp only [sit] at h
    rw [hob1] at h
    by_cases e1 : st.next = m
    · rw [if_pos e1] at h; cases h
      subst e1
      refine ⟨by simp [sit, fresh, dropObj], ?_⟩
      show OR _ _ _ (loc' st.next) _
      rw [hlast]; exact key
    · rw [if_neg e1] at h
      split at h
      · cases h
      · obtain ⟨k1, k2⟩ := g.obj m oc h
        refine ⟨by simp [sit, fresh, dropObj] at k1 ⊢; omega, ?_⟩
        show OR _ _ _ (loc' m) _
        rw [hl1 m e1]; exact k2.tr ht fun _ _ => rfl
  · simp only [sit] at h1 h2 h3 h4
    rw [hob1] at h1 h2
    have one : ∀ m oc, st.next ≠ m → (if n = m then none else look st.objs m) = some oc → b ∈ (loc m).bs → b ∈ (loc n).bs → False := by
      intro m oc e2 h5 h6 h7
      split at h5
      · cases h5
      · rename_i h8; exact h8 (g.apart n m _ _ b hob h5 h7 h6)
    by_cases e1 : st.next = m1
    · rw [← e1, hlast] at h3
      by_cases e2 : st.next = m2
      · omega
      · rw [if_neg e2] at h2; rw [hl1 m2 e2] at h4; exact (one m2 oc2 e2 h2 h4 h3).elim
    · rw [if_neg e1] at h1; rw [hl1 m1 e1] at h3
      by_cases e2 : st.next = m2
      · rw [← e2, hlast] at h4; exact (one m1 oc1 e1 h1 h3 h4).elim
      · rw [if_neg e2] at h2; rw [hl1 m2 e2] at h4
        split at h1
        · cases h1
        · split at h2
          · cases h2
          · exact g.apart m1 m2 oc1 oc2 b h1 h2 h3 h4
  · simp only [sit] at h1 h2
    rw [hob1] at h1
    by_cases e1 : st.next = m
    · rw [← e1, hlast] at h2; exact g.out n _ b off hob h2
    · rw [if_neg e1] at h1; rw [hl1 m e1] at h2
      split at h1
      · cases h1
      · exact g.out m oc b off h1 h2
  · refine ⟨?_, by simp [sit, fresh, dropObj], fun ys hy => ?_⟩
    · rcases hor with ⟨rfl, ⟨a, ha⟩, _⟩ | ⟨b, vs, T, cap, h1, h2, h3, h4, h5, h6, he⟩
      · exact VR.of_one rfl ⟨_, rfl, by simp, .inl ⟨rfl, a, 0, hvl.trans ha⟩⟩
      · refine VR.of_one rfl ⟨_, rfl, h6, .inr ⟨b, 0, cap, hvl.trans h1, h5, fun i y hy => ?_⟩⟩
        obtain ⟨us, r1, r2⟩ := he i y hy
        refine ⟨us, r1.frame ht.cell, fun j u hj => ⟨?_, ?_⟩⟩
        · show w.cell? _ = _
          rw [Nat.zero_add, cell_of_row w b _ vs T (0, 0) h3]; exact r2 j u hj
        · rintro (hA' | ⟨m, oc, k1, k2, k3⟩)
          · exact g.out n _ b _ hob (by rw [h2]; simp) hA'
          · simp only [sit] at k1 k2
            rw [hob1] at k1
            by_cases e1 : st.next = m
            · rw [if_pos e1] at k1; cases k1
              simp only [OC.lo] at k3
              have hi := getElem?_lt hy
              have hjl := getElem?_lt hj
              rw [r1.length] at hjl
              have : (i + 1) * e.size ≤ zs.length * e.size := Nat.mul_le_mul_right _ hi
              rw [Nat.add_mul] at this
              omega
            · rw [if_neg e1] at k1; rw [hl1 m e1] at k2
              split at k1
              · cases k1
              · rename_i h8; exact h8 (g.apart n m _ _ b hob k1 (by rw [h2]; simp) k2)
    · simp only [sit] at hy
      rw [hob1, if_pos rfl] at hy
      cases hy
      refine ⟨Nat.le_refl _, fun _ => ?_⟩
      show v = (loc' st.next).v
      rw [hlast]; exact hvl
theorem Src.frame {eT : TypeId} {e : Ty} {ys : List (D e)} {A A' : Avoid} {w : World} {v : Value} (h : Src eT e ys A w v) (hA : ∀ b o, A' b o → A b o) : Src eT e ys A' w v := by
  rcases h with h | ⟨b, o, cap, cs, h1, h2, h3, h4, h5⟩
  · exact .inl h
  · exact .inr ⟨b, o, cap, cs, h1, h2, h3, h4.frame fun b o v k1 k2 => ⟨k2, fun k3 => k1 (hA b o k3)⟩, h5⟩
/-- A new row. -/
theorem newRow_sound {O : Avoid} {st : St} {loc : Nat → Loc} {w : World} (g : Good cx.eT X (sit O st loc w)) (hO : OIn O w)
    {t ty te : TypeId} {ti : TypeInfo} {td : TypeDesc} {z : Value} {e : Ty} (hu : P.underlying t = some (.slice te)) (hf : Fit P te e ti td) (hz : ti.zero = some z) (hzs : z.cells.size = e.size)
    {ys : List (D e)} {a0 : Option Addr} {vx : Value} (hsrc : Src cx.eT e ys (sit O st loc w).A w vx)
    (hle : ys.length ≤ 1000000000) :
    ∃ v loc' w', Good cx.eT X (sit O (fresh st (.mrow e ys)) loc' w') ∧ Tr (sit O st loc w) (sit O (fresh st (.mrow e ys)) loc' w') ∧ CR cx.eT (sit O (fresh st (.mrow e ys)) loc' w') (.mrow st.next) v ∧
      (Builtin.append_ #[t, t] ty #[.slice a0 0 0, vx]).run P w = .ok v w' := by
  have nothing : ys = [] → (∃ a cap, vx = .slice a 0 cap) → ∃ v loc' w', Good cx.eT X (sit O (fresh st (.mrow e ys)) loc' w') ∧ Tr (sit O st loc w) (sit O (fresh st (.mrow e ys)) loc' w') ∧ CR cx.eT (sit O (fresh st (.mrow e ys)) loc' w') (.mrow st.next) v ∧
      (Builtin.append_ #[t, t] ty #[.slice a0 0 0, vx]).run P w = .ok v w' := by
    intro hy hvx
    subst hy
    obtain ⟨tr1, g1⟩ := fresh_step (oc := .mrow e []) (l := ⟨.slice a0 0 0, []⟩) g hO (Below.refl _ w) (by simp)
    have g1 := g1 (.inl ⟨rfl, ⟨a0, rfl⟩, rfl⟩)
    refine ⟨.slice a0 0 0, _, w, g1, tr1, ?_, run_append_zero hu hf.info rfl (Nat.le_refl _) hvx w⟩
    refine ⟨by simp [sit, fresh], fun t ys hy => ?_⟩
    simp [sit, updLoc]
  rcases hsrc with ⟨rfl, hvx⟩ | ⟨b, o, cap, cs, hvx, hcl, hcc, hrl, hone⟩
  · exact nothing rfl hvx
  · by_cases hm : ys = []
    · exact nothing hm ⟨some ⟨b, o, none⟩, cap, by rw [hvx, hm]; rfl⟩
    · have hpos : 0 < ys.length := by cases ys with | nil => exact (hm rfl).elim | cons => simp
      subst hvx
      have hrun := run_append_emp (P := P) (w := w) (t := t) (ty := ty) hu hf.info hz a0 (a := ⟨b, o, none⟩) (n := ys.length) (c := cap) (news := cs) (by rw [hcl, hf.size]) (fun j u hj => by rw [Addr.add_lit]; exact hcc j u hj) hpos (by omega)
        (by have := Nat.mul_le_mul hle hf.bytes; omega)
      generalize hcapd : grownCap w ys.length 0 te = cap' at hrun
      have hcap' : ys.length ≤ cap' := by rw [← hcapd]; exact grownCap_ge w _ _ _
      have hb : Below w.heap.size w (w.drew.alloc (.cells (cs.toArray ++ Builtin.zeroCells z.cells (cap' - ys.length)) te)) := (Below.refl _ w).drew.alloc (Nat.le_refl _) _
      obtain ⟨tr1, g1⟩ := fresh_step (oc := .mrow e ys) (l := ⟨.slice (some ⟨w.heap.size, 0, none⟩) ys.length cap', [w.heap.size]⟩) g hO hb (by simp)
      have hheap : (w.drew.alloc (.cells (cs.toArray ++ Builtin.zeroCells z.cells (cap' - ys.length)) te)).heap[w.heap.size]? = some (.cells (cs.toArray ++ Builtin.zeroCells z.cells (cap' - ys.length)) te (0, 0)) := heap_alloc_new w.drew _
      have hsz : (cs.toArray ++ Builtin.zeroCells z.cells (cap' - ys.length)).size = cap' * e.size := by
        simp only [Array.size_append, List.size_toArray, size_zeroCells, hzs, hcl, ← Nat.add_mul]
        congr 1; omega
      have g1 := g1 (.inr ⟨w.heap.size, _, te, cap', rfl, rfl, hheap, hsz, hcap', by unfold big; omega, fun i y hy => by
        obtain ⟨us, r1, r2⟩ := (hrl.frame tr1.cell) i y hy
        refine ⟨us, r1, fun j u hj => ?_⟩
        have := r2 j u hj
        rw [Array.getElem?_append, if_pos (by simpa using getElem?_lt this)]
        simpa using this⟩)
      refine ⟨_, _, _, g1, tr1, ⟨by simp [sit, fresh], fun t zs hy => ?_⟩, hrun⟩
      simp [sit, updLoc]
theorem new_sound {O : Avoid} {st : St} {loc : Nat → Loc} {w : World} (g : Good cx.eT X (sit O st loc w)) (hO : OIn O w)
    {t ty te : TypeId} {ti : TypeInfo} {td : TypeDesc} {z : Value} {e : Ty} (hu : P.underlying t = some (.slice te)) (hf : Fit P te e ti td) (hz : ti.zero = some z) (hzs : z.cells.size = e.size)
    {tk : Bool} {ys : List (D e)} {K : SV → St → VC} {a0 : Option Addr} {vx : Value} (hsrc : Src cx.eT e ys (sit O st loc w).A w vx)
    (h : (newVC tk st e ys K).holds) :
    ∃ sv v st' loc' w', (K sv st').holds ∧ st'.env = st.env ∧ Good cx.eT X (sit O st' loc' w') ∧ Tr (sit O st loc w) (sit O st' loc' w') ∧ SVR cx.eT (sit O st' loc' w') sv v ∧
      (Builtin.append_ #[t, t] ty #[.slice a0 0 0, vx]).run P w = .ok v w' := by
  cases tk with
  | false =>
    obtain ⟨hle, h⟩ := h
    obtain ⟨v, loc', w', g1, t1, c1, r1⟩ := newRow_sound (t := t) (ty := ty) (a0 := a0) g hO hu hf hz hzs hsrc hle
    exact ⟨_, v, _, loc', w', h, rfl, g1, t1, c1, r1⟩
  | true =>
    obtain ⟨hle, h⟩ := h
    obtain ⟨v, loc', w', g1, t1, c1, r1⟩ := newRow_sound (t := t) (ty := ty) (a0 := a0) g hO hu hf hz hzs hsrc hle
    obtain ⟨loc2, t2, g2, c2, _⟩ := thaw_step (e := e) (zs := ys) g1 (hO.tr t1.size) (by simp [fresh, look_cons]) c1
    exact ⟨_, v, _, loc2, w', h, rfl, g2, t1.trans t2, c2, r1⟩
theorem appendVC_sound (hok : TyOK P cx) {O : Avoid} {st : St} {loc : Nat → Loc} {w : World} (g : Good cx.eT X (sit O st loc w)) (hO : OIn O w)
    {tk : Bool} {t ty : TypeId} {s x : C} {K : SV → St → VC} {vs vx : Value} (hs : CR cx.eT (sit O st loc w) s vs) (hx : CR cx.eT (sit O st loc w) x vx)
    (h : (appendVC cx tk st t s x K).holds) :
    ∃ sv v st' loc' w', (K sv st').holds ∧ st'.env = st.env ∧ Good cx.eT X (sit O st' loc' w') ∧ Tr (sit O st loc w) (sit O st' loc' w') ∧ SVR cx.eT (sit O st' loc' w') sv v ∧
      (Builtin.append_ #[t, t] ty #[vs, vx]).run P w = .ok v w' := by
  unfold appendVC at h
  split at h
  · rename_i e ht
    obtain ⟨te, ti, td, hu, hf⟩ := und_slice hok ht
    obtain ⟨z, hz, hzr⟩ := hf.zero
    split at h
    · rename_i ys hys
      have hsrc := srcD_rel g hys hx
      have hzs : z.cells.size = e.size := by rw [← Array.length_toList]; exact (zero_rel (S := sit O st loc w) (cx := cx) hzr).length.symm.trans (zeroCs_length e)
      split at h
      · have hvs : vs = .slice none 0 0 := hs
        subst hvs
        exact new_sound g hO hu hf hz hzs hsrc h
      · obtain ⟨a, rfl⟩ := hs
        exact new_sound g hO hu hf hz hzs hsrc h
      · exact appOn_sound g hO hu hf hz hzs hs hsrc h
      · rename_i n
        split at h
        · rename_i e' zs hob
          obtain ⟨loc1, t1, g1, c1, hA⟩ := thaw_step g hO hob hs
          obtain ⟨sv, v, st', loc', w', k1, k2, k3, k4, k5, k6⟩ := appOn_sound (t := t) (ty := ty) g1 hO hu hf hz hzs c1 (hsrc.frame hA) h
          exact ⟨sv, v, st', loc', w', k1, k2, k3, t1.trans k4, k5, k6⟩
        · exact h.elim
      · exact h.elim
    · exact h.elim
  · exact h.elim
end
end Go.Vg
