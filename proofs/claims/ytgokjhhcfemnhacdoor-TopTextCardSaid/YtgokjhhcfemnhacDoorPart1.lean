/- A part of the proof that the law TopTextCard holds of the given program: facts that are used there. -/
import Derived.Test.YtgokjhhcfemnhacDoorPart0
import Derived.Lib.AppendStr
import Derived.Maps.RangeRun
import Derived.Laws.BytesString
set_option linter.unusedSimpArgs false
set_option linter.unusedVariables false
namespace Go.Vg
open Go.RowKit
def srcD (st : St) (e : Ty) (x : C) : Option (List (D e)) :=
  match rowD e x with
  | some ys => some ys
  | none => match x with
    | .mrow m => match look st.objs m with
      | some (.mrow e' ys) => match h : Ty.beq (.slice e') (.slice e) with
        | true => some (castD h (a := .slice e') ys)
        | false => none
      | _ => none
    | _ => none
def delObj (l : List (Nat × OC)) (n : Nat) : List (Nat × OC) :=
  match l with
  | [] => []
  | (m, x) :: r => match Nat.beq m n with
    | true => delObj r n
    | false => (m, x) :: delObj r n
def dropObj (st : St) (n : Nat) : St := { st with objs := delObj st.objs n }
def appOn (st : St) (e : Ty) (ys : List (D e)) (e' : Ty) (xs : List (D e')) (n : Nat) (K : SV → St → VC) : VC :=
  match h : Ty.beq (.slice e') (.slice e), look st.objs n with
  | true, some (.tok e'' zs) => match h2 : Ty.beq (.slice e'') (.slice e) with
    | true => .and (castD h2 (a := .slice e'') zs = castD h (a := .slice e') xs ∧ xs.length + ys.length ≤ 1000000000)
        (K (.s (.one (.app e (castD h (a := .slice e') xs ++ ys) n))) (setObj st n (.tok e (castD h (a := .slice e') xs ++ ys))))
    | false => .ff
  | _, _ => .ff
def newRowVC (st : St) (e : Ty) (ys : List (D e)) (K : SV → St → VC) : VC :=
  .and (ys.length ≤ 1000000000) (K (.s (.one (.mrow st.next))) (fresh st (.mrow e ys)))
def newTokVC (st : St) (e : Ty) (ys : List (D e)) (K : SV → St → VC) : VC :=
  .and (ys.length ≤ 1000000000) (K (.s (.one (.app e ys (st.next + 1)))) (fresh (dropObj (fresh st (.mrow e ys)) st.next) (.tok e ys)))
def newVC (tk : Bool) (st : St) (e : Ty) (ys : List (D e)) (K : SV → St → VC) : VC :=
  match tk with
  | true => newTokVC st e ys K
  | false => newRowVC st e ys K
def appendVC (cx : Cx) (tk : Bool) (st : St) (t : TypeId) (s x : C) (K : SV → St → VC) : VC :=
  match look cx.τ t with
  | some (.slice e) => match srcD st e x with
    | some ys => match s with
      | .nilS => newVC tk st e ys K
      | .emp => newVC tk st e ys K
      | .app e' xs n => appOn st e ys e' xs n K
      | .mrow n => match look st.objs n with
        | some (.mrow e' zs) => appOn (fresh (dropObj st n) (.tok e' zs)) e ys e' zs st.next K
        | _ => .ff
      | _ => .ff
    | none => .ff
  | _ => .ff
section
variable {X : Ext} {P : Program} {cx : Cx}
theorem zeroCs_length : ∀ t : Ty, (zeroCs t).length = t.size := by
  intro t
  induction t with
  | prod a b iha ihb => simp [zeroCs, Ty.size, iha, ihb]
  | _ => rfl
def RowsL (eT : TypeId) (e : Ty) (xs : List (D e)) (A : Avoid) (w : World) (cs : List Value) : Prop :=
  ∀ i y, xs[i]? = some y → ∃ us, R eT e y A w us ∧ ∀ j u, us[j]? = some u → cs[i * e.size + j]? = some u
theorem RowsL.cons {eT : TypeId} {e : Ty} {x : D e} {xs : List (D e)} {A : Avoid} {w : World} {us cs : List Value} (h : R eT e x A w us) (h' : RowsL eT e xs A w cs) : RowsL eT e (x :: xs) A w (us ++ cs) := by
  intro i y hy
  cases i with
  | zero =>
    simp at hy
    subst hy
    refine ⟨us, h, fun j u hj => ?_⟩
    rw [List.getElem?_append_left (by simpa using getElem?_lt hj)]
    simpa using hj
  | succ i =>
    simp at hy
    obtain ⟨us', h1, h2⟩ := h' i y hy
    refine ⟨us', h1, fun j u hj => ?_⟩
    have hl := h.length
    rw [Nat.add_mul, List.getElem?_append_right (by omega), show i * e.size + 1 * e.size + j - us.length = i * e.size + j from by omega]
    exact h2 j u hj
theorem RowsL.append {eT : TypeId} {e : Ty} {xs ys : List (D e)} {A : Avoid} {w : World} {cs ds : List Value} (h : RowsL eT e xs A w cs) (hl : cs.length = xs.length * e.size) (h' : RowsL eT e ys A w ds) :
    RowsL eT e (xs ++ ys) A w (cs ++ ds) := by
  intro i y hy
  rw [List.getElem?_append] at hy
  split at hy
  · rename_i hi
    obtain ⟨us, h1, h2⟩ := h i y hy
    refine ⟨us, h1, fun j u hj => ?_⟩
    have := h2 j u hj
    rw [List.getElem?_append_left (getElem?_lt this)]
    exact this
  · rename_i hi
    obtain ⟨us, h1, h2⟩ := h' _ y hy
    refine ⟨us, h1, fun j u hj => ?_⟩
    have e1 : i * e.size = cs.length + (i - xs.length) * e.size := by
      rw [hl, ← Nat.add_mul, show xs.length + (i - xs.length) = i from by omega]
    rw [List.getElem?_append_right (by omega), show i * e.size + j - cs.length = (i - xs.length) * e.size + j from by omega]
    exact h2 j u hj
theorem RowsL.frame {eT : TypeId} {e : Ty} {xs : List (D e)} {A A' : Avoid} {w w' : World} {cs : List Value} (h : RowsL eT e xs A w cs)
    (hf : ∀ b o v, ¬ A b o → w.cell? ⟨b, o, none⟩ = some v → w'.cell? ⟨b, o, none⟩ = some v ∧ ¬ A' b o) : RowsL eT e xs A' w' cs :=
  fun i y hy => let ⟨us, h1, h2⟩ := h i y hy; ⟨us, h1.frame hf, h2⟩
theorem cells_of_rows {eT : TypeId} {e : Ty} {A : Avoid} {w : World} {b : Nat} : ∀ {xs : List (D e)} {o : Nat}, (∀ i y, xs[i]? = some y → ∃ us, R eT e y A w us ∧ Row A w b (o + i * e.size) us) →
    ∃ cs, cs.length = xs.length * e.size ∧ Row A w b o cs ∧ RowsL eT e xs A w cs ∧ ∀ u ∈ cs, u.oneCell' = true := by
  intro xs
  induction xs with
  | nil => intro o _; exact ⟨[], by simp, fun j u h => by simp at h, fun i y h => by simp at h, by simp⟩
  | cons x xs ih =>
    intro o h
    obtain ⟨us, h1, h2⟩ := h 0 x rfl
    obtain ⟨cs, k1, k2, k3, k4⟩ := ih (o := o + e.size) (fun i y hy => by
      obtain ⟨us, r1, r2⟩ := h (i + 1) y (by simpa using hy)
      refine ⟨us, r1, ?_⟩
      rw [show o + e.size + i * e.size = o + (i + 1) * e.size from by rw [Nat.add_mul]; omega]
      exact r2)
    have hl := h1.length
    refine ⟨us ++ cs, by simp [hl, k1, Nat.add_mul]; omega, fun j u hj => ?_, RowsL.cons h1 k3, fun u hu => ?_⟩
    · rw [List.getElem?_append] at hj
      split at hj
      · have := h2 j u hj
        simpa using this
      · have := k2 _ u hj
        rw [hl, show o + e.size + (j - e.size) = o + j from by omega] at this
        exact this
    · rcases List.mem_append.1 hu with hu | hu
      · exact h1.oneCell u hu
      · exact k4 u hu
theorem rows_of_cells {eT : TypeId} {e : Ty} {A : Avoid} {w : World} {b o : Nat} {xs : List (D e)} {cs : List Value} (h : RowsL eT e xs A w cs) (hr : Row A w b o cs) :
    ∀ i y, xs[i]? = some y → ∃ us, R eT e y A w us ∧ Row A w b (o + i * e.size) us := by
  intro i y hy
  obtain ⟨us, h1, h2⟩ := h i y hy
  refine ⟨us, h1, fun j u hj => ?_⟩
  rw [Nat.add_assoc]
  exact hr _ _ (h2 j u hj)
theorem slice_cells {eT : TypeId} {e : Ty} {xs : List (D e)} {A : Avoid} {w : World} {v : Value} (h : VR eT (.slice e) xs A w v) :
    xs.length ≤ big ∧ ((xs = [] ∧ ∃ a c, v = .slice a 0 c) ∨ ∃ b o cap cs, v = .slice (some ⟨b, o, none⟩) xs.length cap ∧ xs.length ≤ cap ∧ cs.length = xs.length * e.size ∧ Row A w b o cs ∧ RowsL eT e xs A w cs ∧ ∀ u ∈ cs, u.oneCell' = true) := by
  obtain ⟨u, hu, hl, h⟩ := VR.one rfl h
  simp at hu; subst hu
  refine ⟨hl, ?_⟩
  rcases h with h | ⟨b, o, cap, rfl, hc, h⟩
  · exact .inl h
  · obtain ⟨cs, k1, k2, k3, k4⟩ := cells_of_rows h
    exact .inr ⟨b, o, cap, cs, rfl, hc, k1, k2, k3, k4⟩
theorem slice_of_cells {eT : TypeId} {e : Ty} {xs : List (D e)} {A : Avoid} {w : World} {b o cap : Nat} {cs : List Value} (hb : xs.length ≤ big) (hc : xs.length ≤ cap) (hr : Row A w b o cs) (h : RowsL eT e xs A w cs) :
    VR eT (.slice e) xs A w (.slice (some ⟨b, o, none⟩) xs.length cap) :=
  VR.of_one rfl ⟨_, rfl, hb, .inr ⟨b, o, cap, rfl, hc, rows_of_cells h hr⟩⟩
def Src (eT : TypeId) (e : Ty) (ys : List (D e)) (A : Avoid) (w : World) (v : Value) : Prop :=
  (ys = [] ∧ ∃ a c, v = .slice a 0 c) ∨ ∃ b o cap cs, v = .slice (some ⟨b, o, none⟩) ys.length cap ∧ cs.length = ys.length * e.size ∧ (∀ j u, cs[j]? = some u → w.cell? ⟨b, o + j, none⟩ = some u) ∧ RowsL eT e ys A w cs ∧ ∀ u ∈ cs, u.oneCell' = true
theorem Src.of_VR {eT : TypeId} {e : Ty} {ys : List (D e)} {A : Avoid} {w : World} {v : Value} (h : VR eT (.slice e) ys A w v) : Src eT e ys A w v := by
  rcases (slice_cells h).2 with h | ⟨b, o, cap, cs, h1, _, h3, h4, h5, h6⟩
  · exact .inl h
  · exact .inr ⟨b, o, cap, cs, h1, h3, fun j u hj => (h4 j u hj).1, h5, h6⟩
theorem elems_cells {S : Sit} {e : Ty} {ys : List (D e)} {vs : Array Value} (h : Elems cx.eT S e ys vs) (hl : ys.length * e.size ≤ vs.size) :
    ∃ cs, cs = vs.toList.take (ys.length * e.size) ∧ cs.length = ys.length * e.size ∧ RowsL cx.eT e ys S.A S.w cs ∧ ∀ u ∈ cs, u.oneCell' = true := by
  have hlen : (vs.toList.take (ys.length * e.size)).length = ys.length * e.size := by simp; omega
  have hrow : RowsL cx.eT e ys S.A S.w (vs.toList.take (ys.length * e.size)) := by
    intro i y hy
    obtain ⟨us, h1, h2⟩ := h i y hy
    refine ⟨us, h1, fun j u hj => ?_⟩
    have hi := getElem?_lt hy
    have hj' := getElem?_lt hj
    rw [h1.length] at hj'
    have : (i + 1) * e.size ≤ ys.length * e.size := Nat.mul_le_mul_right _ hi
    rw [Nat.add_mul] at this
    rw [List.getElem?_take, if_pos (by omega), Array.getElem?_toList]
    exact h2 j u hj
  refine ⟨_, rfl, hlen, hrow, fun u hu => ?_⟩
  obtain ⟨k, hk, rfl⟩ := List.getElem_of_mem hu
  have hk' : k < ys.length * e.size := by omega
  have hpos : 0 < e.size := by
    rcases Nat.eq_zero_or_pos e.size with h0 | h0
    · rw [h0] at hk'; omega
    · exact h0
  have hi : k / e.size < ys.length := Nat.div_lt_of_lt_mul (by rw [Nat.mul_comm]; exact hk')
  obtain ⟨us, h1, h2⟩ := hrow _ _ (List.getElem?_eq_getElem hi)
  have hjlt : k % e.size < us.length := by rw [h1.length]; exact Nat.mod_lt _ hpos
  have := h2 _ _ (List.getElem?_eq_getElem hjlt)
  rw [show k / e.size * e.size + k % e.size = k from by rw [Nat.mul_comm]; exact Nat.div_add_mod k e.size] at this
  rw [List.getElem?_eq_getElem hk] at this
  rw [Option.some.inj this]
  exact h1.oneCell _ (List.getElem_mem hjlt)
theorem srcD_rel {O : Avoid} {st : St} {loc : Nat → Loc} {w : World} (g : Good cx.eT X (sit O st loc w)) {e : Ty} {x : C} {ys : List (D e)} {v : Value} (h : srcD st e x = some ys)
    (hx : CR cx.eT (sit O st loc w) x v) : Src cx.eT e ys (sit O st loc w).A w v := by
  unfold srcD at h
  split at h
  · rename_i zs hz
    cases h
    exact Src.of_VR (rowD_rel hz hx)
  · split at h
    · rename_i m
      split at h
      · rename_i e' zs hob
        split at h
        · rename_i hb
          cases h
          have hee : e' = e := by have := Ty.eq_of_beq hb; cases this; rfl
          subst hee
          rcases (g.obj _ _ hob).2 with ⟨rfl, ⟨a, ha⟩, _⟩ | ⟨b, vs, T, cap, hl, hbs, hheap, hvs, hcap, _, he⟩
          · exact .inl ⟨rfl, a, 0, (hx.2 _ _ hob).trans ha⟩
          have hle : zs.length * e'.size ≤ vs.size := by rw [hvs]; exact Nat.mul_le_mul_right _ hcap
          obtain ⟨cs, hcs, k1, k2, k3⟩ := elems_cells he hle
          refine .inr ⟨b, 0, cap, cs, (hx.2 _ _ hob).trans hl, k1, fun j u hj => ?_, k2, k3⟩
          rw [Nat.zero_add, cell_of_row w b j vs T (0, 0) hheap]
          subst hcs
          rw [List.getElem?_take] at hj
          split at hj
          · simpa using hj
          · cases hj
        · cases h
      · cases h
    · cases h
theorem run_append_zero {t te : TypeId} {ti : TypeInfo} {ty : TypeId} (ht : P.underlying t = some (.slice te)) (hi : P.info? te = some ti) {s : Value} {base : Option Addr} {n c : Nat} (hs : s = .slice base n c) (hnc : n ≤ c)
    {x : Value} (hx : ∃ a cap, x = .slice a 0 cap) (w : World) : (Builtin.append_ #[t, t] ty #[s, x]).run P w = .ok s w := by
  subst hs
  obtain ⟨a, cap, rfl⟩ := hx
  rcases a with _ | a
  · cases base <;> simp [Builtin.append_, run_underlying ht, sizeOf, typeInfo, hi, Builtin.lenOf, hnc, Builtin.firstCells, storeCells]
  · cases base <;> simp [Builtin.append_, run_underlying ht, sizeOf, typeInfo, hi, Builtin.lenOf, hnc, Builtin.firstCells, loadCells, loadCellsFrom, storeCells]
theorem run_append_in {t te T : TypeId} {ti : TypeInfo} {ty : TypeId} (ht : P.underlying t = some (.slice te)) (hi : P.info? te = some ti) {g sLen sCap : Nat} {cur : Array Value} {w : World}
    (hg : w.heap[g]? = some (.cells cur T (0, 0))) {a : Addr} {m c : Nat} {news : List Value} (hl : news.length = m * ti.size) (hnews : ∀ j u, news[j]? = some u → w.cell? (a.add j) = some u) (h1 : ∀ u ∈ news, u.oneCell' = true)
    (hroom : sLen + m ≤ sCap) (hfit : sLen * ti.size + news.length ≤ cur.size) :
    (Builtin.append_ #[t, t] ty #[.slice (some ⟨g, 0, none⟩) sLen sCap, .slice (some a) m c]).run P w =
      .ok (.slice (some ⟨g, 0, none⟩) (sLen + m) sCap) (w.setRow g (cur.toList.take (sLen * ti.size) ++ news ++ cur.toList.drop (sLen * ti.size + news.length)).toArray) := by
  have hf := run_firstCells_some (P := P) w ti.size m a m c news hl hnews
  have hst := run_storeCells_at P g (sLen * ti.size) T news 0 cur w hg (by simpa using hfit) h1
  simp only [Nat.add_zero] at hst
  simp [Builtin.append_, run_underlying ht, sizeOf, typeInfo, hi, Builtin.lenOf, hroom, hf, Addr.add_lit, hst]
theorem run_append_emp {w : World} {t te ty : TypeId} {ti : TypeInfo} {z : Value} (ht : P.underlying t = some (.slice te)) (hi : P.info? te = some ti) (hz : ti.zero = some z) (a0 : Option Addr)
    {a : Addr} {n c : Nat} {news : List Value} (hl : news.length = n * ti.size) (hnews : ∀ j v, news[j]? = some v → w.cell? (a.add j) = some v)
    (h0 : 0 < n) (h63 : (n : Int) ≤ 9223372036854775807) (h48 : n * ti.bytes ≤ 140737488355328) :
    (Builtin.append_ #[t, t] ty #[.slice a0 0 0, .slice (some a) n c]).run P w =
      .ok (.slice (some ⟨w.heap.size, 0, none⟩) n (grownCap w n 0 te)) (w.drew.alloc (.cells (news.toArray ++ Builtin.zeroCells z.cells (grownCap w n 0 te - n)) te)) := by
  cases a0 with
  | none => exact run_append_nil (P := P) w t ty te ti z ht hi hz a n c news hl hnews h0 h63 (by omega)
  | some b =>
    have := run_append_grow (P := P) w t ty te ti z ht hi hz b 0 0 [] (by simp) (fun j v hj => by simp at hj) a n c news hl hnews (by omega) (by simpa using h63)
      (growslice_fits (by omega) (by simpa using h48))
    simpa using this
structure AppRun (P : Program) (t t' ty te : TypeId) (ti : TypeInfo) (z vx : Value) (m : Nat) (cs : List Value) (w : World) : Prop where
  zero : m = 0 → ∀ base n c, n ≤ c → (Builtin.append_ #[t, t'] ty #[.slice base n c, vx]).run P w = .ok (.slice base n c) w
  emp : 0 < m → m * ti.bytes ≤ 140737488355328 → (m : Int) ≤ 9223372036854775807 → ∀ a0, (Builtin.append_ #[t, t'] ty #[.slice a0 0 0, vx]).run P w =
    .ok (.slice (some ⟨w.heap.size, 0, none⟩) m (grownCap w m 0 te)) (w.drew.alloc (.cells (cs.toArray ++ Builtin.zeroCells z.cells (grownCap w m 0 te - m)) te))
  room : 0 < m → ∀ g sLen sCap cur T, w.heap[g]? = some (.cells cur T (0, 0)) → sLen + m ≤ sCap → sLen * ti.size + cs.length ≤ cur.size →
    (Builtin.append_ #[t, t'] ty #[.slice (some ⟨g, 0, none⟩) sLen sCap, vx]).run P w =
      .ok (.slice (some ⟨g, 0, none⟩) (sLen + m) sCap) (w.setRow g (cur.toList.take (sLen * ti.size) ++ cs ++ cur.toList.drop (sLen * ti.size + cs.length)).toArray)
  grow : 0 < m → ∀ (b : Addr) sLen sCap (olds : List Value), olds.length = sLen * ti.size → (∀ j u, olds[j]? = some u → w.cell? (b.add j) = some u) → sCap < sLen + m →
    ((sLen + m : Nat) : Int) ≤ 9223372036854775807 → (sLen + m) * ti.bytes ≤ 140737488355328 →
    (Builtin.append_ #[t, t'] ty #[.slice (some b) sLen sCap, vx]).run P w = .ok (.slice (some ⟨w.heap.size, 0, none⟩) (sLen + m) (grownCap w (sLen + m) sCap te))
      (w.drew.alloc (.cells (olds.toArray ++ cs.toArray ++ Builtin.zeroCells z.cells (grownCap w (sLen + m) sCap te - (sLen + m))) te))
def SrcR (P : Program) (eT t t' ty te : TypeId) (ti : TypeInfo) (z : Value) (e : Ty) (ys : List (D e)) (A : Avoid) (w : World) (vx : Value) : Prop :=
  ∃ cs, cs.length = ys.length * e.size ∧ RowsL eT e ys A w cs ∧ (∀ u ∈ cs, u.oneCell' = true) ∧ AppRun P t t' ty te ti z vx ys.length cs w
theorem SrcR.of_src {eT t ty te : TypeId} {ti : TypeInfo} {td : TypeDesc} {z : Value} {e : Ty} (hu : P.underlying t = some (.slice te)) (hf : Fit P te e ti td) (hz : ti.zero = some z)
    {ys : List (D e)} {A : Avoid} {w : World} {vx : Value} (h : Src eT e ys A w vx) : SrcR P eT t t ty te ti z e ys A w vx := by
  rcases h with ⟨rfl, hx⟩ | ⟨b, o, cap, cs, rfl, hcl, hcc, hrl, hone⟩
  · exact ⟨[], by simp, fun i y hy => by simp at hy, fun u hu => by simp at hu,
      ⟨fun _ base n c hnc => run_append_zero hu hf.info rfl hnc hx w, fun h => by simp at h, fun h => by simp at h, fun h => by simp at h⟩⟩
  · have hnews : ∀ j u, cs[j]? = some u → w.cell? ((⟨b, o, none⟩ : Addr).add j) = some u := fun j u hj => by rw [Addr.add_lit]; exact hcc j u hj
    exact ⟨cs, hcl, hrl, hone, fun h base n c hnc => run_append_zero hu hf.info rfl hnc ⟨_, _, by rw [h]⟩ w,
      fun h0 hb h63 a0 => run_append_emp hu hf.info hz a0 (by rw [hcl, hf.size]) hnews h0 h63 hb,
      fun _ g sLen sCap cur T hg hroom hfit => run_append_in hu hf.info hg (by rw [hcl, hf.size]) hnews hone hroom hfit,
      fun _ b' sLen sCap olds ho1 ho2 hlt h63 hb => run_append_grow (P := P) w t ty te ti z hu hf.info hz b' sLen sCap olds ho1 ho2 _ _ _ cs (by rw [hcl, hf.size]) hnews hlt h63 (growslice_fits hlt hb)⟩
def bytesIn (s : List UInt8) : List Int := s.map fun b => (b.toNat : Int)
theorem strCells_in (s : List UInt8) : Lib.strCells ⟨s.toArray⟩ = (bytesIn s).map (Value.int .u8) := by simp [Lib.strCells, bytesIn]
theorem SrcR.of_str {eT t t' ty te : TypeId} {ti : TypeInfo} {td : TypeDesc} {z : Value} (hu : P.underlying t = some (.slice te)) (hu' : P.underlying t' = some .string) (hf : Fit P te (.int .u8) ti td) (hz : ti.zero = some z)
    (s : List UInt8) (A : Avoid) (w : World) : SrcR P eT t t' ty te ti z (.int .u8) (bytesIn s) A w (.string ⟨s.toArray⟩) := by
  have hsz : (⟨s.toArray⟩ : ByteArray).size = s.length := by simp [ByteArray.size]
  have hbl : (bytesIn s).length = s.length := by simp [bytesIn]
  have hti : ti.size = 1 := hf.size
  have hcl : (Lib.strCells ⟨s.toArray⟩).length = s.length := by rw [Lib.strCells_length, hsz]
  refine ⟨Lib.strCells ⟨s.toArray⟩, by rw [hcl, hbl]; simp [Ty.size], fun i y hy => ?_, Lib.strCells_oneCell _, ?_⟩
  · refine ⟨[.int .u8 y], ⟨rfl, ?_⟩, fun j u hj => ?_⟩
    · simp only [bytesIn, List.getElem?_map, Option.map_eq_some_iff] at hy
      obtain ⟨b, _, rfl⟩ := hy
      have := b.toNat_lt
      constructor
      · show (0 : Int) ≤ _; omega
      · show _ ≤ (255 : Int); omega
    · cases j with
      | zero =>
        simp at hj
        subst hj
        rw [strCells_in]
        simp only [Ty.size, Nat.mul_one, Nat.add_zero, List.getElem?_map, hy, Option.map_some]
      | succ j => simp at hj
  · rw [hbl]
    refine ⟨fun h base n c hnc => ?_, fun h0 hb h63 a0 => ?_, fun _ g sLen sCap cur T hg hroom hfit => ?_, fun _ b' sLen sCap olds ho1 ho2 hlt h63 hb => ?_⟩
    · have hs0 : s = [] := List.eq_nil_of_length_eq_zero h
      subst hs0
      have hf0 := Lib.run_firstCells_string (P := P) w ti.size ⟨#[]⟩
      have e0 : (Lib.strCells ⟨#[]⟩) = [] := rfl
      rw [e0] at hf0
      have e1 : (⟨#[]⟩ : ByteArray).size = 0 := rfl
      rw [e1] at hf0
      cases base <;> simp [Builtin.append_, run_underlying hu, run_underlying hu', sizeOf, typeInfo, hf.info, Builtin.lenOf, hnc, e1, hf0, storeCells]
    · cases a0 with
      | none =>
        have hr := run_append_nil_string (P := P) w t t' ty te ti z hu hu' hf.info hz ⟨s.toArray⟩ (by rw [hsz]; exact h0) (by rw [hsz]; exact h63) (by rw [hsz]; omega)
        rw [hsz] at hr
        rw [hr]
        simp [Lib.strCells]
      | some b =>
        have hr := Lib.run_append_grow_string (P := P) w t t' ty te ti z hu hu' hf.info hz b 0 0 [] (by simp) (fun j v hj => by simp at hj) ⟨s.toArray⟩ (by rw [hsz]; omega) (by rw [hsz]; simpa using h63)
          (by rw [hsz]; exact growslice_fits (by omega) (by simpa using hb))
        rw [hsz] at hr
        simpa using hr
    · have hf0 := Lib.run_firstCells_string (P := P) w ti.size ⟨s.toArray⟩
      have hst := run_storeCells_at P g (sLen * ti.size) T (Lib.strCells ⟨s.toArray⟩) 0 cur w hg (by simpa using hfit) (Lib.strCells_oneCell _)
      simp only [Nat.add_zero] at hst
      rw [hsz] at hf0
      simp [Builtin.append_, run_underlying hu, run_underlying hu', sizeOf, typeInfo, hf.info, Builtin.lenOf, hsz, hroom, hf0, Addr.add_lit, hst]
    · have hr := Lib.run_append_grow_string (P := P) w t t' ty te ti z hu hu' hf.info hz b' sLen sCap olds ho1 ho2 ⟨s.toArray⟩ (by rw [hsz]; exact hlt) (by rw [hsz]; exact h63)
        (by rw [hsz]; exact growslice_fits hlt hb)
      rw [hsz] at hr
      exact hr
theorem castD_self {a : Ty} (h : Ty.beq a a = true) (x : D a) : castD h x = x := rfl
theorem castL_self {a : Ty} (h : Ty.beq (.slice a) (.slice a) = true) (x : List (D a)) : castD h (a := .slice a) (b := .slice a) x = x := rfl
theorem sit_set_ob (O : Avoid) (st : St) (loc : Nat → Loc) (w : World) (n : Nat) (oc : OC) (m : Nat) : (sit O (setObj st n oc) loc w).ob m = if n = m then some oc else look st.objs m := look_set st n m oc
theorem tok_new {O : Avoid} {st : St} {loc : Nat → Loc} {w : World} (g : Good cx.eT X (sit O st loc w)) (hO : OIn O w) {e : Ty} {xs ys : List (D e)} {n : Nat} {te : TypeId} {z : Array Value} {cap' : Nat} {olds news : List Value}
    (hob : look st.objs n = some (.tok e xs)) (hz : z.size = e.size) (hlo : olds.length = xs.length * e.size) (hln : news.length = ys.length * e.size) (hro : RowsL cx.eT e xs (sit O st loc w).A w olds) (hrn : RowsL cx.eT e ys (sit O st loc w).A w news)
    (hle : xs.length + ys.length ≤ 1000000000) (hcap : xs.length + ys.length ≤ cap') (hpos : 0 < ys.length) :
    let w' := w.drew.alloc (.cells (olds.toArray ++ news.toArray ++ Builtin.zeroCells z (cap' - (xs.length + ys.length))) te)
    let v := Value.slice (some ⟨w.heap.size, 0, none⟩) (xs.length + ys.length) cap'
    let loc' := updLoc loc n ⟨v, [w.heap.size]⟩
    Good cx.eT X (sit O (setObj st n (.tok e (xs ++ ys))) loc' w') ∧ Tr (sit O st loc w) (sit O (setObj st n (.tok e (xs ++ ys))) loc' w') ∧
      SVR cx.eT (sit O (setObj st n (.tok e (xs ++ ys))) loc' w') (.s (.one (.app e (xs ++ ys) n))) v := by
  intro w' v loc'
  have hb : Below w.heap.size w w' := (Below.refl _ w).drew.alloc (Nat.le_refl _) _
  have hheap : w'.heap[w.heap.size]? = some (.cells (olds.toArray ++ news.toArray ++ Builtin.zeroCells z (cap' - (xs.length + ys.length))) te (0, 0)) := heap_alloc_new w.drew _
  have hsz : (olds.toArray ++ news.toArray ++ Builtin.zeroCells z (cap' - (xs.length + ys.length))).size = cap' * e.size := by
    simp only [Array.size_append, List.size_toArray, size_zeroCells, hz, hlo, hln, ← Nat.add_mul]
    congr 1; omega
  have hn := (g.obj n _ hob).1
  obtain ⟨tr1, g1⟩ := step_set (S := sit O st loc w) (S' := sit O (setObj st n (.tok e (xs ++ ys))) loc' w') (n := n) (oc := .tok e xs) (oc' := .tok e (xs ++ ys)) (l' := ⟨v, [w.heap.size]⟩) g rfl hO hob
    (fun m => sit_set_ob O st loc' w' n _ m) (fun _ => rfl) rfl (fun h => (h e xs rfl).elim)
    ⟨rfl, by simp, fun e1 => by rw [List.length_append] at e1; omega⟩ hb.os hb.output hb.size (fun b hlt _ => hb.block b hlt)
    (fun b o v _ _ hc => below_cell hb hc) (fun b hb' => .inr (by simp at hb'; subst hb'; exact Nat.le_refl _))
  have hcell : ∀ j u, (olds ++ news)[j]? = some u → w'.cell? ⟨w.heap.size, j, none⟩ = some u := by
    intro j u hj
    rw [cell_of_row _ w.heap.size j _ te (0, 0) hheap]
    have hl := getElem?_lt hj
    rw [Array.getElem?_append, if_pos (by simpa using hl)]
    simpa using hj
  have g1 := g1 (.inr ⟨w.heap.size, _, te, cap', by rw [List.length_append], rfl, hheap, hsz, by rw [List.length_append]; exact hcap, by rw [List.length_append]; unfold big; omega, fun i y hy => by
    obtain ⟨us, r1, r2⟩ := (hro.append hlo hrn).frame tr1.cell i y hy
    refine ⟨us, r1, fun j u hj => ?_⟩
    have := r2 j u hj
    have hl := getElem?_lt this
    rw [Array.getElem?_append, if_pos (by simpa using hl)]
    simpa using this⟩)
  refine ⟨g1, tr1, ?_, hn, fun zs hy => ?_⟩
  · have hrows := (hro.append hlo hrn).frame tr1.cell
    have := slice_of_cells (eT := cx.eT) (b := w.heap.size) (o := 0) (cap := cap') (by rw [List.length_append]; unfold big; omega) (by rw [List.length_append]; exact hcap) (cs := olds ++ news) ?_ hrows
    · rw [List.length_append] at this; exact this
    · intro j u hj
      rw [Nat.zero_add]
      refine ⟨hcell j u hj, ?_⟩
      rintro (hA | ⟨m, oc, h1, h2, h3⟩)
      · have := hO _ _ hA; omega
      · by_cases e1 : n = m
        · rw [sit_set_ob, if_pos e1] at h1
          cases h1
          have hl := getElem?_lt hj
          simp only [OC.lo, List.length_append, Nat.add_mul] at h3
          rw [List.length_append, hlo, hln] at hl
          omega
        · rw [sit_set_ob, if_neg e1] at h1
          simp only [sit, loc', updLoc, if_neg e1] at h2
          have := (g.obj m oc h1).2.inside _ h2
          simp [sit] at this
  · rw [sit_set_ob, if_pos rfl] at hy
    cases hy
    exact ⟨Nat.le_refl _, fun _ => by simp [sit, loc', updLoc]⟩
theorem appOn_sound {O : Avoid} {st : St} {loc : Nat → Loc} {w : World} (g : Good cx.eT X (sit O st loc w)) (hO : OIn O w)
    {t t' ty te : TypeId} {ti : TypeInfo} {td : TypeDesc} {z : Value} {e e' : Ty} (hu : P.underlying t = some (.slice te)) (hf : Fit P te e ti td) (hz : ti.zero = some z) (hzs : z.cells.size = e.size)
    {ys : List (D e)} {xs : List (D e')} {n : Nat} {K : SV → St → VC} {vs vx : Value} (hs : CR cx.eT (sit O st loc w) (.app e' xs n) vs) (hsrc : SrcR P cx.eT t t' ty te ti z e ys (sit O st loc w).A w vx)
    (h : (appOn st e ys e' xs n K).holds) :
    ∃ sv v st' loc' w', (K sv st').holds ∧ st'.env = st.env ∧ Good cx.eT X (sit O st' loc' w') ∧ Tr (sit O st loc w) (sit O st' loc' w') ∧ SVR cx.eT (sit O st' loc' w') sv v ∧
      (Builtin.append_ #[t, t'] ty #[vs, vx]).run P w = .ok v w' := by
  unfold appOn at h
  split at h
  · rename_i e'' zs hb hob
    split at h
    · rename_i hb2
      have h1 : e' = e := by have := Ty.eq_of_beq hb; cases this; rfl
      subst h1
      have h2 : e'' = e' := by have := Ty.eq_of_beq hb2; cases this; rfl
      subst h2
      rw [castL_self, castL_self] at h
      obtain ⟨⟨heq, hle⟩, h⟩ := h
      subst heq
      obtain ⟨hvr, hn, htok⟩ := hs
      have hvl := (htok _ hob).2 rfl
      obtain ⟨cs, hcl, hrl, hone, hR⟩ := hsrc
      have zero : ys = [] → ∃ sv v st' loc' w', (K sv st').holds ∧ st'.env = st.env ∧ Good cx.eT X (sit O st' loc' w') ∧ Tr (sit O st loc w) (sit O st' loc' w') ∧ SVR cx.eT (sit O st' loc' w') sv v ∧
          (Builtin.append_ #[t, t'] ty #[vs, vx]).run P w = .ok v w' := by
        intro hy
        subst hy
        rw [List.append_nil] at h
        have hst : sit O (setObj st n (.tok e'' zs)) loc w = sit O st loc w := by
          have : look (setObj st n (.tok e'' zs)).objs = look st.objs := by
            funext m
            rw [look_set]
            by_cases e1 : n = m
            · rw [if_pos e1, ← e1, hob]
            · rw [if_neg e1]
          simp only [sit, this]; rfl
        obtain ⟨a, c, hvs, hcl⟩ := len_rel hvr
        have hnc : zs.length ≤ c := by
          rcases (slice_cells hvr).2 with ⟨h1, h2⟩ | ⟨b, o, cap, cs, h1, h2, _⟩
          · rw [h1]; simp
          · rw [hvs] at h1; cases h1; exact h2
        refine ⟨_, vs, _, loc, w, h, rfl, by rw [hst]; exact g, by rw [hst]; exact Tr.refl _, ?_, by rw [hvs]; exact hR.zero rfl _ _ _ hnc⟩
        rw [hst]
        exact ⟨hvr, hn, htok⟩
      · by_cases hm : ys = []
        · exact zero hm
        · have hpos : 0 < ys.length := by cases ys with | nil => exact (hm rfl).elim | cons => simp
          have hbytes : (zs.length + ys.length) * ti.bytes ≤ 140737488355328 := by have := Nat.mul_le_mul hle hf.bytes; omega
          rcases (g.obj n _ hob).2 with ⟨hx0, ⟨a0, hv0⟩, hbs0⟩ | ⟨g0, cur, T, cap0, hv0, hbs0, hheap0, hsz0, hcap0, _, _⟩
          · have hv0' : vs = .slice a0 0 0 := hvl.trans hv0
            subst hx0
            subst hv0'
            have hrun := hR.emp hpos (by have := hbytes; simp only [List.length_nil, Nat.zero_add] at this; omega) (by omega) a0
            have hc' : ys.length ≤ grownCap w ys.length 0 te := grownCap_ge w _ _ _
            obtain ⟨k1, k2, k3⟩ := tok_new (te := te) (cap' := grownCap w ys.length 0 te) (olds := []) g hO hob hzs (by simp) hcl (fun i y hy => by simp at hy) hrl hle (by simpa using hc') hpos
            refine ⟨_, _, _, _, _, h, rfl, k1, k2, k3, ?_⟩
            rw [hrun]
            simp
          · have hv0' : vs = .slice (some ⟨g0, 0, none⟩) zs.length cap0 := hvl.trans hv0
            obtain ⟨olds, ho1, ho2, ho3, ho4⟩ : ∃ olds : List Value, olds.length = zs.length * e''.size ∧ (∀ j u, olds[j]? = some u → w.cell? ⟨g0, j, none⟩ = some u) ∧ RowsL cx.eT e'' zs (sit O st loc w).A w olds ∧ Row (sit O st loc w).A w g0 0 olds := by
              rcases (slice_cells hvr).2 with ⟨h1, h2⟩ | ⟨b', o', cap', olds, h1, h2, h3, h4, h5, h6⟩
              · exact ⟨[], by rw [h1]; simp, fun j u hj => by simp at hj, fun i y hy => by rw [h1] at hy; simp at hy, fun j u hj => by simp at hj⟩
              · rw [hv0'] at h1
                cases h1
                exact ⟨olds, h3, fun j u hj => by have := (h4 j u hj).1; rwa [Nat.zero_add] at this, h5, h4⟩
            subst hv0'
            by_cases hroom : zs.length + ys.length ≤ cap0
            · have hmul : (zs.length + ys.length) * e''.size ≤ cap0 * e''.size := Nat.mul_le_mul_right _ hroom
              rw [Nat.add_mul] at hmul
              have hfit : zs.length * ti.size + cs.length ≤ cur.size := by rw [hf.size, hsz0, hcl]; exact hmul
              have hrun := hR.room hpos _ _ _ _ _ hheap0 hroom hfit
              rw [hf.size] at hrun hfit
              generalize hcur' : (cur.toList.take (zs.length * e''.size) ++ cs ++ cur.toList.drop (zs.length * e''.size + cs.length)).toArray = cur' at hrun
              have hget : ∀ k, cur'[k]? = if k < zs.length * e''.size then cur[k]? else if k < zs.length * e''.size + cs.length then cs[k - zs.length * e''.size]? else cur[k]? := by
                intro k
                rw [← hcur', List.getElem?_toArray, splice_get _ _ _ _ (by simpa using hfit)]
                simp
              have hsz' : cur'.size = cur.size := by
                rw [← hcur']; simp only [List.size_toArray, List.length_append, List.length_take, List.length_drop, Array.length_toList]; omega
              have hheap' := setRow_heap w g0 cur cur' T (0, 0) hheap0
              obtain ⟨tr1, g1⟩ := step_set (S := sit O st loc w) (S' := sit O (setObj st n (.tok e'' (zs ++ ys))) (updLoc loc n ⟨.slice (some ⟨g0, 0, none⟩) (zs.length + ys.length) cap0, [g0]⟩) (w.setRow g0 cur')) (n := n)
                (oc := .tok e'' zs) (oc' := .tok e'' (zs ++ ys)) (l' := ⟨.slice (some ⟨g0, 0, none⟩) (zs.length + ys.length) cap0, [g0]⟩) g rfl hO hob
                (fun m => sit_set_ob O st _ _ n _ m) (fun _ => rfl) rfl (fun h => (h e'' zs rfl).elim) ⟨rfl, by simp, fun e1 => by rw [List.length_append] at e1; omega⟩ rfl rfl (by simp [sit, World.setRow])
                (fun b' _ hb' => setRow_other w g0 b' cur' (fun e1 => hb' (by rw [hbs0]; simp [e1])))
                (fun b' o' v' hb' ho' hc' => by
                  rw [hbs0] at hb'
                  simp at hb'
                  subst hb'
                  simp only [sit] at hc' ⊢
                  rw [cell_of_row w b' o' cur T (0, 0) hheap0] at hc'
                  rw [cell_of_row _ b' o' cur' T (0, 0) hheap', hget, if_pos (show o' < zs.length * e''.size from ho')]
                  exact hc')
                (fun b' hb' => .inl (by simp at hb'; subst hb'; exact ⟨by rw [hbs0]; simp, by simp only [OC.lo, List.length_append, Nat.add_mul]; omega⟩))
              have hcur : ∀ (j : Nat) (u : Value), (olds ++ cs)[j]? = some u → cur'[j]? = some u := by
                intro j u hj
                rw [hget]
                rw [List.getElem?_append, ho1] at hj
                by_cases h3 : j < zs.length * e''.size
                · rw [if_pos h3]
                  rw [if_pos h3] at hj
                  have := ho2 j u hj
                  rwa [cell_of_row w g0 j cur T (0, 0) hheap0] at this
                · rw [if_neg h3] at hj
                  have := getElem?_lt hj
                  rw [if_neg h3, if_pos (by omega)]
                  exact hj
              have g1 := g1 (.inr ⟨g0, cur', T, cap0, by rw [List.length_append], rfl, hheap', by rw [hsz', hsz0], by rw [List.length_append]; exact hroom, by rw [List.length_append]; unfold big; omega, fun i y hy => by
                obtain ⟨us, r1, r2⟩ := (ho3.append ho1 hrl).frame tr1.cell i y hy
                exact ⟨us, r1, fun j u hj => hcur _ u (r2 j u hj)⟩⟩)
              refine ⟨_, _, _, _, _, h, rfl, g1, tr1, ⟨?_, hn, fun zs' hy => ?_⟩, hrun⟩
              · have hrows := (ho3.append ho1 hrl).frame tr1.cell
                have := slice_of_cells (eT := cx.eT) (b := g0) (o := 0) (cap := cap0) (by rw [List.length_append]; unfold big; omega) (by rw [List.length_append]; exact hroom) (cs := olds ++ cs) ?_ hrows
                · rw [List.length_append] at this; exact this
                · intro j u hj
                  rw [Nat.zero_add]
                  constructor
                  · show World.cell? (w.setRow g0 cur') _ = _
                    rw [cell_of_row _ g0 j cur' T (0, 0) hheap', hget]
                    rw [List.getElem?_append, ho1] at hj
                    by_cases h3 : j < zs.length * e''.size
                    · rw [if_pos h3]
                      rw [if_pos h3] at hj
                      have := ho2 j u hj
                      rwa [cell_of_row w g0 j cur T (0, 0) hheap0] at this
                    · rw [if_neg h3] at hj
                      have := getElem?_lt hj
                      rw [if_neg h3, if_pos (by omega)]
                      exact hj
                  · have hl := getElem?_lt hj
                    rw [List.length_append, ho1] at hl
                    rintro (hA | ⟨m', oc, h1, h2, h3⟩)
                    · exact g.out n _ g0 j hob (by rw [hbs0]; simp) hA
                    · by_cases e1 : n = m'
                      · rw [sit_set_ob, if_pos e1] at h1
                        cases h1
                        simp only [OC.lo, List.length_append, Nat.add_mul] at h3
                        omega
                      · rw [sit_set_ob, if_neg e1] at h1
                        simp only [sit, updLoc, if_neg e1] at h2
                        exact e1 (g.apart n m' _ _ g0 hob h1 (by rw [hbs0]; simp) h2)
              · rw [sit_set_ob, if_pos rfl] at hy
                cases hy
                exact ⟨Nat.le_refl _, fun _ => by simp [sit, updLoc]⟩
            · have hrun := hR.grow hpos ⟨g0, 0, none⟩ zs.length cap0 olds (by rw [ho1, hf.size]) (fun j u hj => by rw [Addr.add_lit, Nat.zero_add]; exact ho2 j u hj) (by omega) (by omega) hbytes
              have hc' : zs.length + ys.length ≤ grownCap w (zs.length + ys.length) cap0 te := grownCap_ge w _ _ _
              obtain ⟨k1, k2, k3⟩ := tok_new (te := te) (cap' := grownCap w (zs.length + ys.length) cap0 te) g hO hob hzs ho1 hcl ho3 hrl hle hc' hpos
              exact ⟨_, _, _, _, _, h, rfl, k1, k2, k3, hrun⟩
    · exact h.elim
  · exact h.elim
theorem look_del (l : List (Nat × OC)) (n m : Nat) : look (delObj l n) m = if n = m then none else look l m := by
  induction l with
  | nil => simp [delObj, look]
  | cons p r ih =>
    obtain ⟨k, x⟩ := p
    simp only [delObj]
    by_cases hk : k = n
    · subst hk
      rw [Nat.beq_refl]
      simp only [look]
      rw [ih]
      by_cases h : k = m
      · simp [h]
      · rw [if_neg h, if_neg h]; have : Nat.beq k m = false := beq_ne h
        rw [this]
    · have hkb : Nat.beq k n = false := beq_ne hk
      simp only [hkb, look]
      by_cases h : k = m
      · subst h; simp only [Nat.beq_refl]; rw [if_neg (fun e => hk e.symm)]
      · have : Nat.beq k m = false := beq_ne h
        rw [this]; exact ih
theorem drop_step {O : Avoid} {st : St} {loc : Nat → Loc} {w : World} (g : Good cx.eT X (sit O st loc w)) (n : Nat) :
    Tr (sit O st loc w) (sit O (dropObj st n) loc w) ∧ Good cx.eT X (sit O (dropObj st n) loc w) := by
  have hob : ∀ m oc, look (dropObj st n).objs m = some oc → look st.objs m = some oc := by
    intro m oc h
    simp only [dropObj] at h
    rw [look_del] at h
    split at h
    · cases h
    · exact h
  have hA : ∀ b o, (sit O (dropObj st n) loc w).A b o → (sit O st loc w).A b o := by
    rintro b o (h | ⟨m, oc, h1, h2⟩)
    · exact .inl h
    · exact .inr ⟨m, oc, hob _ _ h1, h2⟩
  have ht : Tr (sit O st loc w) (sit O (dropObj st n) loc w) := {
    O := rfl
    next := Nat.le_refl _
    os := rfl
    output := rfl
    size := Nat.le_refl _
    own := fun b h => by obtain ⟨m, oc, h1, h2⟩ := h; exact .inl ⟨m, oc, hob _ _ h1, h2⟩
    cell := fun b o v h1 h2 => ⟨h2, fun h => h1 (hA b o h)⟩
    block := fun _ _ _ => rfl
    loc := fun _ _ _ => locEq rfl
    kind := fun m oc _ h => ⟨oc, hob _ _ h, by cases oc <;> simp [SameKind, sit]⟩ }
  refine ⟨ht, ⟨fun m oc h => ?_, fun m1 m2 oc1 oc2 b h1 h2 h3 h4 => ?_, fun m oc b off h1 h2 => ?_, g.glob.tr ht⟩⟩
  · obtain ⟨h1, h2⟩ := g.obj m oc (hob _ _ h)
    exact ⟨h1, h2.tr ht fun _ _ => rfl⟩
  · exact g.apart m1 m2 oc1 oc2 b (hob _ _ h1) (hob _ _ h2) h3 h4
  · exact g.out m oc b off (hob _ _ h1) h2
theorem freeze_step {O : Avoid} {st : St} {loc : Nat → Loc} {w : World} (g : Good cx.eT X (sit O st loc w)) {n : Nat} {e : Ty} {zs : List (D e)}
    (hob : look st.objs n = some (.mrow e zs)) {v : Value} (hv : CR cx.eT (sit O st loc w) (.mrow n) v) : CR cx.eT (sit O (dropObj st n) loc w) (.d (.slice e) zs) v := by
  obtain ⟨hn, hor⟩ := g.obj n _ hob
  obtain ⟨td, gd⟩ := drop_step g n
  have hvl := hv.2 _ _ hob
  rcases hor with ⟨rfl, ⟨a, ha⟩, _⟩ | ⟨b, vs, T, cap, h1, h2, h3, h4, h5, h6, he⟩
  · exact VR.of_one rfl ⟨_, rfl, by simp, .inl ⟨rfl, a, 0, hvl.trans ha⟩⟩
  · refine VR.of_one rfl ⟨_, rfl, h6, .inr ⟨b, 0, cap, hvl.trans h1, h5, fun i y hy => ?_⟩⟩
    obtain ⟨us, r1, r2⟩ := he i y hy
    refine ⟨us, r1.frame td.cell, fun j u hj => ⟨?_, ?_⟩⟩
    · show w.cell? _ = _
      rw [Nat.zero_add, cell_of_row w b _ vs T (0, 0) h3]; exact r2 j u hj
    · rintro (hA' | ⟨m, oc, k1, k2, k3⟩)
      · exact g.out n _ b _ hob (by rw [h2]; simp) hA'
      · simp only [sit, dropObj] at k1 k2
        rw [look_del] at k1
        split at k1
        · cases k1
        · rename_i h8; exact h8 (g.apart n m _ _ b hob k1 (by rw [h2]; simp) k2)
theorem thaw_step {O : Avoid} {st : St} {loc : Nat → Loc} {w : World} (g : Good cx.eT X (sit O st loc w)) (_hO : OIn O w) {n : Nat} {e : Ty} {zs : List (D e)} {v : Value}
    (hob : look st.objs n = some (.mrow e zs)) (hv : CR cx.eT (sit O st loc w) (.mrow n) v) :
    ∃ loc', Tr (sit O st loc w) (sit O (fresh (dropObj st n) (.tok e zs)) loc' w) ∧ Good cx.eT X (sit O (fresh (dropObj st n) (.tok e zs)) loc' w) ∧
      CR cx.eT (sit O (fresh (dropObj st n) (.tok e zs)) loc' w) (.app e zs st.next) v ∧ ∀ b o, (sit O (fresh (dropObj st n) (.tok e zs)) loc' w).A b o → (sit O st loc w).A b o := by
  obtain ⟨hn, hor⟩ := g.obj n _ hob
  obtain ⟨td, gd⟩ := drop_step g n
  have hvl := hv.2 _ _ hob
  have hne : ∀ m oc, look st.objs m = some oc → st.next ≠ m := fun m oc h e => by have := (g.obj m oc h).1; simp [sit] at this; omega
  have hob1 : ∀ m, look (fresh (dropObj st n) (.tok e zs)).objs m = if st.next = m then some (.tok e zs) else if n = m then none else look st.objs m := by
    intro m
    simp only [fresh, look_cons, dropObj, look_del]
  let loc' := updLoc loc st.next (loc n)
  have hl1 : ∀ m, st.next ≠ m → loc' m = loc m := fun m h => by simp [loc', updLoc, h]
  have hlast : loc' st.next = loc n := by simp [loc', updLoc]
  have hA : ∀ b o, (sit O (fresh (dropObj st n) (.tok e zs)) loc' w).A b o → (sit O st loc w).A b o := by
    rintro b o (h | ⟨m, oc, h1, h2, h3⟩)
    · exact .inl h
    · simp only [sit] at h1 h2
      rw [hob1] at h1
      by_cases e1 : st.next = m
      · rw [if_pos e1] at h1; cases h1
        rw [← e1, hlast] at h2
        exact .inr ⟨n, _, hob, h2, Nat.zero_le _⟩
      · rw [if_neg e1] at h1; rw [hl1 m e1] at h2
        split at h1
        · cases h1
        · exact .inr ⟨m, oc, h1, h2, h3⟩
  have ht : Tr (sit O st loc w) (sit O (fresh (dropObj st n) (.tok e zs)) loc' w) := {
    O := rfl
    next := by simp [sit, fresh, dropObj]
    os := rfl
    output := rfl
    size := Nat.le_refl _
    own := fun b h => by
      obtain ⟨m, oc, h1, h2⟩ := h
      simp only [sit] at h1 h2
      rw [hob1] at h1
      by_cases e1 : st.next = m
      · rw [← e1, hlast] at h2; exact .inl ⟨n, _, hob, h2⟩
      · rw [if_neg e1] at h1; rw [hl1 m e1] at h2
        split at h1
        · cases h1
        · exact .inl ⟨m, oc, h1, h2⟩
    cell := fun b o v h1 h2 => ⟨h2, fun h => h1 (hA b o h)⟩
    block := fun _ _ _ => rfl
    loc := fun m hm _ => locEq (hl1 m (by simp [sit] at hm; omega))
    kind := fun m oc hm h => by
      simp only [sit] at hm h
      rw [hob1, if_neg (by omega)] at h
      split at h
      · cases h
      · refine ⟨oc, h, ?_⟩
        have := hl1 m (by omega)
        cases oc <;> simp [SameKind, sit, this] }
  have hnw : st.next ≠ n := by simp [sit] at hn; omega
  have key : OR cx.eT X (sit O (fresh (dropObj st n) (.tok e zs)) loc' w) (loc n) (.tok e zs) := by
    rcases hor with h | ⟨b, vs, T, cap, h1, h2, h3, h4, h5, h6, h7⟩
    · exact .inl h
    · exact .inr ⟨b, vs, T, cap, h1, h2, h3, h4, h5, h6, h7.tr ht⟩
  refine ⟨loc', ht, ⟨fun m oc h => ?_, fun m1 m2 oc1 oc2 b h1 h2 h3 h4 => ?_, fun m oc b off h1 h2 => ?_, g.glob.tr ht⟩, ?_, hA⟩
  · simp only [sit] at h
    rw [hob1] at h
    by_cases e1 : st.next = m
    · rw [if_pos e1] at h; cases h
      subst e1
      refine ⟨by simp [sit, fresh, dropObj], ?_⟩
      show OR _ _ _ (loc' st.next) _
      rw [hlast]; exact key
    · rw [if_neg e1] at h
      split at h
      · cases h
      · obtain ⟨k1, k2⟩ := g.obj m oc h
        refine ⟨by simp [sit, fresh, dropObj] at k1 ⊢; omega, ?_⟩
        show OR _ _ _ (loc' m) _
        rw [hl1 m e1]; exact k2.tr ht fun _ _ => rfl
  · simp only [sit] at h1 h2 h3 h4
    rw [hob1] at h1 h2
    have one : ∀ m oc, st.next ≠ m → (if n = m then none else look st.objs m) = some oc → b ∈ (loc m).bs → b ∈ (loc n).bs → False := by
      intro m oc e2 h5 h6 h7
      split at h5
      · cases h5
      · rename_i h8; exact h8 (g.apart n m _ _ b hob h5 h7 h6)
    by_cases e1 : st.next = m1
    · rw [← e1, hlast] at h3
      by_cases e2 : st.next = m2
      · omega
      · rw [if_neg e2] at h2; rw [hl1 m2 e2] at h4; exact (one m2 oc2 e2 h2 h4 h3).elim
    · rw [if_neg e1] at h1; rw [hl1 m1 e1] at h3
      by_cases e2 : st.next = m2
      · rw [← e2, hlast] at h4; exact (one m1 oc1 e1 h1 h3 h4).elim
      · rw [if_neg e2] at h2; rw [hl1 m2 e2] at h4
        split at h1
        · cases h1
        · split at h2
          · cases h2
          · exact g.apart m1 m2 oc1 oc2 b h1 h2 h3 h4
  · simp only [sit] at h1 h2
    rw [hob1] at h1
    by_cases e1 : st.next = m
    · rw [← e1, hlast] at h2; exact g.out n _ b off hob h2
    · rw [if_neg e1] at h1; rw [hl1 m e1] at h2
      split at h1
      · cases h1
      · exact g.out m oc b off h1 h2
  · refine ⟨?_, by simp [sit, fresh, dropObj], fun ys hy => ?_⟩
    · rcases hor with ⟨rfl, ⟨a, ha⟩, _⟩ | ⟨b, vs, T, cap, h1, h2, h3, h4, h5, h6, he⟩
      · exact VR.of_one rfl ⟨_, rfl, by simp, .inl ⟨rfl, a, 0, hvl.trans ha⟩⟩
      · refine VR.of_one rfl ⟨_, rfl, h6, .inr ⟨b, 0, cap, hvl.trans h1, h5, fun i y hy => ?_⟩⟩
        obtain ⟨us, r1, r2⟩ := he i y hy
        refine ⟨us, r1.frame ht.cell, fun j u hj => ⟨?_, ?_⟩⟩
        · show w.cell? _ = _
          rw [Nat.zero_add, cell_of_row w b _ vs T (0, 0) h3]; exact r2 j u hj
        · rintro (hA' | ⟨m, oc, k1, k2, k3⟩)
          · exact g.out n _ b _ hob (by rw [h2]; simp) hA'
          · simp only [sit] at k1 k2
            rw [hob1] at k1
            by_cases e1 : st.next = m
            · rw [if_pos e1] at k1; cases k1
              simp only [OC.lo] at k3
              have hi := getElem?_lt hy
              have hjl := getElem?_lt hj
              rw [r1.length] at hjl
              have : (i + 1) * e.size ≤ zs.length * e.size := Nat.mul_le_mul_right _ hi
              rw [Nat.add_mul] at this
              omega
            · rw [if_neg e1] at k1; rw [hl1 m e1] at k2
              split at k1
              · cases k1
              · rename_i h8; exact h8 (g.apart n m _ _ b hob k1 (by rw [h2]; simp) k2)
    · simp only [sit] at hy
      rw [hob1, if_pos rfl] at hy
      cases hy
      refine ⟨Nat.le_refl _, fun _ => ?_⟩
      show v = (loc' st.next).v
      rw [hlast]; exact hvl
theorem Src.frame {eT : TypeId} {e : Ty} {ys : List (D e)} {A A' : Avoid} {w : World} {v : Value} (h : Src eT e ys A w v) (hA : ∀ b o, A' b o → A b o) : Src eT e ys A' w v := by
  rcases h with h | ⟨b, o, cap, cs, h1, h2, h3, h4, h5⟩
  · exact .inl h
  · exact .inr ⟨b, o, cap, cs, h1, h2, h3, h4.frame fun b o v k1 k2 => ⟨k2, fun k3 => k1 (hA b o k3)⟩, h5⟩
theorem newRow_sound {O : Avoid} {st : St} {loc : Nat → Loc} {w : World} (g : Good cx.eT X (sit O st loc w)) (hO : OIn O w)
    {t ty te : TypeId} {ti : TypeInfo} {td : TypeDesc} {z : Value} {e : Ty} (hu : P.underlying t = some (.slice te)) (hf : Fit P te e ti td) (hz : ti.zero = some z) (hzs : z.cells.size = e.size)
    {ys : List (D e)} {a0 : Option Addr} {vx : Value} (hsrc : Src cx.eT e ys (sit O st loc w).A w vx)
    (hle : ys.length ≤ 1000000000) :
    ∃ v loc' w', Good cx.eT X (sit O (fresh st (.mrow e ys)) loc' w') ∧ Tr (sit O st loc w) (sit O (fresh st (.mrow e ys)) loc' w') ∧ CR cx.eT (sit O (fresh st (.mrow e ys)) loc' w') (.mrow st.next) v ∧
      (Builtin.append_ #[t, t] ty #[.slice a0 0 0, vx]).run P w = .ok v w' := by
  have nothing : ys = [] → (∃ a cap, vx = .slice a 0 cap) → ∃ v loc' w', Good cx.eT X (sit O (fresh st (.mrow e ys)) loc' w') ∧ Tr (sit O st loc w) (sit O (fresh st (.mrow e ys)) loc' w') ∧ CR cx.eT (sit O (fresh st (.mrow e ys)) loc' w') (.mrow st.next) v ∧
      (Builtin.append_ #[t, t] ty #[.slice a0 0 0, vx]).run P w = .ok v w' := by
    intro hy hvx
    subst hy
    obtain ⟨tr1, g1⟩ := fresh_step (oc := .mrow e []) (l := ⟨.slice a0 0 0, []⟩) g hO (Below.refl _ w) (by simp)
    have g1 := g1 (.inl ⟨rfl, ⟨a0, rfl⟩, rfl⟩)
    refine ⟨.slice a0 0 0, _, w, g1, tr1, ?_, run_append_zero hu hf.info rfl (Nat.le_refl _) hvx w⟩
    refine ⟨by simp [sit, fresh], fun t ys hy => ?_⟩
    simp [sit, updLoc]
  rcases hsrc with ⟨rfl, hvx⟩ | ⟨b, o, cap, cs, hvx, hcl, hcc, hrl, hone⟩
  · exact nothing rfl hvx
  · by_cases hm : ys = []
    · exact nothing hm ⟨some ⟨b, o, none⟩, cap, by rw [hvx, hm]; rfl⟩
    · have hpos : 0 < ys.length := by cases ys with | nil => exact (hm rfl).elim | cons => simp
      subst hvx
      have hrun := run_append_emp (P := P) (w := w) (t := t) (ty := ty) hu hf.info hz a0 (a := ⟨b, o, none⟩) (n := ys.length) (c := cap) (news := cs) (by rw [hcl, hf.size]) (fun j u hj => by rw [Addr.add_lit]; exact hcc j u hj) hpos (by omega)
        (by have := Nat.mul_le_mul hle hf.bytes; omega)
      generalize hcapd : grownCap w ys.length 0 te = cap' at hrun
      have hcap' : ys.length ≤ cap' := by rw [← hcapd]; exact grownCap_ge w _ _ _
      have hb : Below w.heap.size w (w.drew.alloc (.cells (cs.toArray ++ Builtin.zeroCells z.cells (cap' - ys.length)) te)) := (Below.refl _ w).drew.alloc (Nat.le_refl _) _
      obtain ⟨tr1, g1⟩ := fresh_step (oc := .mrow e ys) (l := ⟨.slice (some ⟨w.heap.size, 0, none⟩) ys.length cap', [w.heap.size]⟩) g hO hb (by simp)
      have hheap : (w.drew.alloc (.cells (cs.toArray ++ Builtin.zeroCells z.cells (cap' - ys.length)) te)).heap[w.heap.size]? = some (.cells (cs.toArray ++ Builtin.zeroCells z.cells (cap' - ys.length)) te (0, 0)) := heap_alloc_new w.drew _
      have hsz : (cs.toArray ++ Builtin.zeroCells z.cells (cap' - ys.length)).size = cap' * e.size := by
        simp only [Array.size_append, List.size_toArray, size_zeroCells, hzs, hcl, ← Nat.add_mul]
        congr 1; omega
      have g1 := g1 (.inr ⟨w.heap.size, _, te, cap', rfl, rfl, hheap, hsz, hcap', by unfold big; omega, fun i y hy => by
        obtain ⟨us, r1, r2⟩ := (hrl.frame tr1.cell) i y hy
        refine ⟨us, r1, fun j u hj => ?_⟩
        have := r2 j u hj
        rw [Array.getElem?_append, if_pos (by simpa using getElem?_lt this)]
        simpa using this⟩)
      refine ⟨_, _, _, g1, tr1, ⟨by simp [sit, fresh], fun t zs hy => ?_⟩, hrun⟩
      simp [sit, updLoc]
theorem new_sound {O : Avoid} {st : St} {loc : Nat → Loc} {w : World} (g : Good cx.eT X (sit O st loc w)) (hO : OIn O w)
    {t ty te : TypeId} {ti : TypeInfo} {td : TypeDesc} {z : Value} {e : Ty} (hu : P.underlying t = some (.slice te)) (hf : Fit P te e ti td) (hz : ti.zero = some z) (hzs : z.cells.size = e.size)
    {tk : Bool} {ys : List (D e)} {K : SV → St → VC} {a0 : Option Addr} {vx : Value} (hsrc : Src cx.eT e ys (sit O st loc w).A w vx)
    (h : (newVC tk st e ys K).holds) :
    ∃ sv v st' loc' w', (K sv st').holds ∧ st'.env = st.env ∧ Good cx.eT X (sit O st' loc' w') ∧ Tr (sit O st loc w) (sit O st' loc' w') ∧ SVR cx.eT (sit O st' loc' w') sv v ∧
      (Builtin.append_ #[t, t] ty #[.slice a0 0 0, vx]).run P w = .ok v w' := by
  cases tk with
  | false =>
    obtain ⟨hle, h⟩ := h
    obtain ⟨v, loc', w', g1, t1, c1, r1⟩ := newRow_sound (t := t) (ty := ty) (a0 := a0) g hO hu hf hz hzs hsrc hle
    exact ⟨_, v, _, loc', w', h, rfl, g1, t1, c1, r1⟩
  | true =>
    obtain ⟨hle, h⟩ := h
    obtain ⟨v, loc', w', g1, t1, c1, r1⟩ := newRow_sound (t := t) (ty := ty) (a0 := a0) g hO hu hf hz hzs hsrc hle
    obtain ⟨loc2, t2, g2, c2, _⟩ := thaw_step (e := e) (zs := ys) g1 (hO.tr t1.size) (by simp [fresh, look_cons]) c1
    exact ⟨_, v, _, loc2, w', h, rfl, g2, t1.trans t2, c2, r1⟩
theorem appendVC_sound (hok : TyOK P cx) {O : Avoid} {st : St} {loc : Nat → Loc} {w : World} (g : Good cx.eT X (sit O st loc w)) (hO : OIn O w)
    {tk : Bool} {t ty : TypeId} {s x : C} {K : SV → St → VC} {vs vx : Value} (hs : CR cx.eT (sit O st loc w) s vs) (hx : CR cx.eT (sit O st loc w) x vx)
    (h : (appendVC cx tk st t s x K).holds) :
    ∃ sv v st' loc' w', (K sv st').holds ∧ st'.env = st.env ∧ Good cx.eT X (sit O st' loc' w') ∧ Tr (sit O st loc w) (sit O st' loc' w') ∧ SVR cx.eT (sit O st' loc' w') sv v ∧
      (Builtin.append_ #[t, t] ty #[vs, vx]).run P w = .ok v w' := by
  unfold appendVC at h
  split at h
  · rename_i e ht
    obtain ⟨te, ti, td, hu, hf⟩ := und_slice hok ht
    obtain ⟨z, hz, hzr⟩ := hf.zero
    split at h
    · rename_i ys hys
      have hsrc := srcD_rel g hys hx
      have hzs : z.cells.size = e.size := by rw [← Array.length_toList]; exact (zero_rel (S := sit O st loc w) (cx := cx) hzr).length.symm.trans (zeroCs_length e)
      split at h
      · have hvs : vs = .slice none 0 0 := hs
        subst hvs
        exact new_sound g hO hu hf hz hzs hsrc h
      · obtain ⟨a, rfl⟩ := hs
        exact new_sound g hO hu hf hz hzs hsrc h
      · exact appOn_sound g hO hu hf hz hzs hs (SrcR.of_src hu hf hz hsrc) h
      · rename_i n
        split at h
        · rename_i e' zs hob
          obtain ⟨loc1, t1, g1, c1, hA⟩ := thaw_step g hO hob hs
          obtain ⟨sv, v, st', loc', w', k1, k2, k3, k4, k5, k6⟩ := appOn_sound (t := t) (t' := t) (ty := ty) g1 hO hu hf hz hzs c1 (SrcR.of_src hu hf hz (hsrc.frame hA)) h
          exact ⟨sv, v, st', loc', w', k1, k2, k3, t1.trans k4, k5, k6⟩
        · exact h.elim
      · exact h.elim
    · exact h.elim
  · exact h.elim
end
end Go.Vg

namespace Go.Vg
open Go.RowKit
def emptyC (n : Nat) (e : Ty) (xs : List (D e)) : C :=
  match n with
  | 0 => .emp
  | _ => .d (.slice e) xs
def buildSliceVC (cx : Cx) (st : St) (t : TypeId) (n : Nat) (parts : List (Nat × Operand)) (K : C → VC) : VC :=
  match look cx.τ t with
  | some (.slice e) => match inOrder 0 parts && (Nat.beq parts.length n && (Nat.ble (n * e.size) 16777216 && Nat.ble n 1000000)), dataList e (parts.map fun p => ev0 st.env p.2) with
    | true, some xs => K (emptyC n e xs)
    | _, _ => .ff
  | _ => .ff
def makeSliceVC (cx : Cx) (st : St) (t : TypeId) (l c : C) (K : SV → St → VC) : VC :=
  match look cx.τ t, asIntC l, asIntC c with
  | some (.slice e), some n, some m => match noOpq e with
    | true => .and (0 ≤ n ∧ m = n ∧ n ≤ 1000000000) (K (.s (.one (.mrow st.next))) (fresh st (.mrow e (List.replicate n.toNat (zeroD e)))))
    | false => .ff
  | _, _, _ => .ff
section
variable {X : Ext} {P : Program} {cx : Cx}
theorem zero_R {eT : TypeId} {A : Avoid} {w : World} : ∀ {ty : Ty} {vs : List Value}, zeroRow ty vs = true → noOpq ty = true → R eT ty (zeroD ty) A w vs := by
  intro ty
  induction ty with
  | prod a b iha ihb =>
    intro vs h hn
    simp only [zeroRow, Bool.and_eq_true] at h
    simp only [noOpq, Bool.and_eq_true] at hn
    exact ⟨_, _, (List.take_append_drop a.size vs).symm, iha h.1 hn.1, ihb h.2 hn.2⟩
  | unit => intro vs h _; cases vs <;> simp [zeroRow] at h; rfl
  | bool =>
    intro vs h _
    match vs, h with
    | [v], h => cases v <;> simp [zeroRow, Ty.one, zeroCell] at h; subst h; rfl
  | int k =>
    intro vs h _
    match vs, h with
    | [v], h =>
      cases v <;> simp [zeroRow, Ty.one, zeroCell] at h
      obtain ⟨rfl, rfl⟩ := h
      exact ⟨rfl, by cases k <;> simp [zeroD, IntKind.min, IntKind.max, IntKind.signed, IntKind.bits]⟩
  | str =>
    intro vs h _
    match vs, h with
    | [v], h => cases v <;> simp [zeroRow, Ty.one, zeroCell] at h; subst h; exact ⟨rfl, by simp [zeroD]⟩
  | err =>
    intro vs h _
    match vs, h with
    | [v], h => cases v <;> simp [zeroRow, Ty.one, zeroCell] at h; exact ⟨_, rfl, rfl⟩
  | opq => intro vs h hn; simp [noOpq] at hn
  | slice e _ =>
    intro vs h _
    match vs, h with
    | [v], h =>
      cases v <;> simp [zeroRow, Ty.one, zeroCell] at h
      rename_i a l c
      cases a <;> simp at h
      obtain ⟨rfl, rfl⟩ := h
      exact R.slice_nil
theorem zeroRows_rel {eT : TypeId} {A : Avoid} {w : World} {e : Ty} (hno : noOpq e = true) : ∀ {n : Nat} {vs : List Value}, zeroRows e n vs = true →
    vs.length = n * e.size ∧ ∀ (i : Nat) (y : D e), (List.replicate n (zeroD e))[i]? = some y → ∃ us, R eT e y A w us ∧ ∀ j u, us[j]? = some u → vs[i * e.size + j]? = some u := by
  intro n
  induction n with
  | zero =>
    intro vs h
    simp only [zeroRows, List.isEmpty_iff] at h
    subst h
    exact ⟨by simp, fun i y hy => by simp at hy⟩
  | succ n ih =>
    intro vs h
    simp only [zeroRows, Bool.and_eq_true] at h
    obtain ⟨h1, h2⟩ := h
    have r0 := zero_R (eT := eT) (A := A) (w := w) h1 hno
    have hl0 := r0.length
    obtain ⟨hl, hel⟩ := ih h2
    have hle : e.size ≤ vs.length := by rw [List.length_take] at hl0; omega
    refine ⟨by rw [List.length_drop] at hl; rw [Nat.succ_mul]; omega, fun i y hy => ?_⟩
    cases i with
    | zero =>
      simp only [List.replicate_succ, List.getElem?_cons_zero, Option.some.injEq] at hy
      subst hy
      refine ⟨_, r0, fun j u hj => ?_⟩
      rw [List.getElem?_take] at hj
      split at hj
      · simpa using hj
      · cases hj
    | succ i =>
      simp only [List.replicate_succ, List.getElem?_cons_succ] at hy
      obtain ⟨us, k1, k2⟩ := hel i y hy
      refine ⟨us, k1, fun j u hj => ?_⟩
      have := k2 j u hj
      rw [List.getElem?_drop] at this
      rw [← this]
      congr 1
      rw [Nat.succ_mul]; omega
theorem fill_row (size : Nat) : ∀ (pv : List (Nat × Value)) (k : Nat) (cells : Array Value), (∀ i p, pv[i]? = some p → p.1 = k + i) → (∀ p ∈ pv, p.2.cells.size = size) → k * size + pv.length * size = cells.size →
    Instr.fill (fun i => some (i * size, size)) cells pv = some (cells.toList.take (k * size) ++ (pv.map fun p => p.2.cells.toList).flatten).toArray := by
  intro pv
  induction pv with
  | nil =>
    intro k cells _ _ h
    simp only [Instr.fill, List.map_nil, List.flatten_nil, List.append_nil]
    rw [List.take_of_length_le (by simp at h ⊢; omega), Array.toArray_toList]
  | cons p pv ih =>
    intro k cells hi hs h
    obtain ⟨i, v⟩ := p
    have h0 : i = k := by simpa using hi 0 (i, v) rfl
    subst h0
    have hv := hs (i, v) (by simp)
    simp only at hv
    simp only [List.length_cons, Nat.add_mul] at h
    rw [fill_step _ cells i (i * size) size v pv rfl hv (by omega)]
    have hvl : v.cells.toList.length = size := by simpa using hv
    have e1 : (cells.toList.take (i * size) ++ v.cells.toList ++ cells.toList.drop (i * size + v.cells.toList.length)).toArray.size = cells.size := by
      simp only [List.size_toArray, List.length_append, List.length_take, List.length_drop, Array.length_toList, hvl]
      omega
    rw [ih (i + 1) _ (fun j p hp => by have := hi (j + 1) p (by simpa using hp); omega) (fun p hp => hs p (by simp [hp])) (by rw [e1, Nat.add_mul]; omega)]
    congr 2
    rw [List.map_cons, List.flatten_cons, ← List.append_assoc]
    congr 1
    have hl : (cells.toList.take (i * size) ++ v.cells.toList).length = (i + 1) * size := by
      simp only [List.length_append, List.length_take, Array.length_toList, hvl, Nat.add_mul]; omega
    rw [List.take_append_of_le_length (by omega), List.take_of_length_le (by omega)]
theorem dataList_rel {S : Sit} {e : Ty} : ∀ {l : List SV0} {us : List Value} {xs : List (D e)}, dataList e l = some xs → SV0Rs cx.eT S l us →
    xs.length = l.length ∧ (∀ u ∈ us, u.cells.size = e.size) ∧ RowsL cx.eT e xs S.A S.w (us.map fun u => u.cells.toList).flatten := by
  intro l
  induction l with
  | nil => intro us xs h hr; cases hr; simp [dataList] at h; subst h; exact ⟨rfl, by simp, fun i y hy => by simp at hy⟩
  | cons v l ih =>
    intro us xs h hr
    cases hr with
    | cons h1 h2 =>
      rename_i u us
      simp only [dataList] at h
      split at h
      · rename_i x xs' hx hxs
        cases h
        obtain ⟨k1, k2, k3⟩ := ih hxs h2
        have hvr := VR.cells (asD0_rel hx h1)
        refine ⟨by simp [k1], fun u' hu' => ?_, ?_⟩
        · rcases List.mem_cons.1 hu' with rfl | hu'
          · rw [← Array.length_toList, hvr.length]
          · exact k2 _ hu'
        · rw [List.map_cons, List.flatten_cons]
          exact RowsL.cons hvr k3
      · cases h
theorem evs_rel {S : Sit} {env : List (Nat × SV)} {a : Act} (he : EnvR cx.eT S env a) : ∀ (ps : List (Nat × Operand)), SV0Rs cx.eT S (ps.map fun p => ev0 env p.2) (ps.map fun p => a.eval p.2)
  | [] => .nil
  | p :: ps => .cons (ev0_rel he p.2) (evs_rel he ps)
theorem inOrder_get : ∀ {ps : List (Nat × Operand)} {k : Nat}, inOrder k ps = true → ∀ i p, ps[i]? = some p → p.1 = k + i := by
  intro ps
  induction ps with
  | nil => intro k _ i p h; simp at h
  | cons q ps ih =>
    intro k h i p hp
    obtain ⟨j, x⟩ := q
    simp only [inOrder, Bool.and_eq_true] at h
    cases i with
    | zero => simp at hp; subst hp; exact Nat.eq_of_beq_eq_true h.1
    | succ i => have := ih h.2 i p (by simpa using hp); omega
theorem buildSliceVC_sound (hok : TyOK P cx) {O : Avoid} {st : St} {loc : Nat → Loc} {w : World} {a : Act} (g : Good cx.eT X (sit O st loc w)) (hO : OIn O w) (he : EnvR cx.eT (sit O st loc w) st.env a)
    {t : TypeId} {n : Nat} {parts : Array (Nat × Operand)} {K : C → VC} (h : (buildSliceVC cx st t n parts.toList K).holds) :
    ∃ c v w', (K c).holds ∧ Below w.heap.size w w' ∧ Good cx.eT X (sit O st loc w') ∧ Tr (sit O st loc w) (sit O st loc w') ∧ CR cx.eT (sit O st loc w') c v ∧ (Instr.buildSlice t n (parts.map fun (i, x) => (i, a.eval x))).run P w = .ok v w' := by
  unfold buildSliceVC at h
  split at h
  · rename_i e ht
    obtain ⟨te, ti, td, hu, hf⟩ := und_slice hok ht
    obtain ⟨z, hz, hzr⟩ := hf.zero
    split at h
    · rename_i xs hc hd
      simp only [Bool.and_eq_true] at hc
      obtain ⟨hio, hn, hsz, hbig⟩ := hc
      have hn := Nat.eq_of_beq_eq_true hn
      have hsz := Nat.le_of_ble_eq_true hsz
      have hbig := Nat.le_of_ble_eq_true hbig
      obtain ⟨k1, k2, k3⟩ := dataList_rel (cx := cx) hd (evs_rel he parts.toList)
      have hxl : xs.length = n := by rw [k1, List.length_map, hn]
      have hpl : (parts.map fun (i, x) => (i, a.eval x)).toList = parts.toList.map fun p => (p.1, a.eval p.2) := by simp
      have hzs : z.cells.size = e.size := by rw [← Array.length_toList]; exact (zero_rel (S := sit O st loc w) (cx := cx) hzr).length.symm.trans (zeroCs_length e)
      generalize hflat : ((parts.toList.map fun p => a.eval p.2).map fun u => u.cells.toList).flatten = flat at k3
      have hflen : flat.length = n * e.size := by
        rw [← hflat, ← hn]
        generalize parts.toList = l at k2
        clear hflat hpl hn hio hd k1 k3 h
        induction l with
        | nil => simp
        | cons p l ih =>
          simp only [List.map_cons, List.flatten_cons, List.length_append, Array.length_toList, List.length_cons, Nat.add_mul]
          rw [ih (fun u hu => k2 u (by simp only [List.map_cons, List.mem_cons]; exact .inr hu)), k2 (a.eval p.2) (by simp)]
          omega
      have hfill : ∀ cells : Array Value, cells.size = n * e.size → Instr.fill (fun i => some (i * e.size, e.size)) cells (parts.toList.map fun p => (p.1, a.eval p.2)) = some flat.toArray := by
        intro cells hcs
        rw [fill_row e.size _ 0 cells (fun i p hp => by
            rw [List.getElem?_map] at hp
            cases hq : parts.toList[i]? with
            | none => rw [hq] at hp; cases hp
            | some q => rw [hq] at hp; cases hp; exact inOrder_get hio i q hq)
          (fun p hp => by
            obtain ⟨q, hq, rfl⟩ := List.mem_map.1 hp
            exact k2 _ (List.mem_map.2 ⟨q, hq, rfl⟩))
          (by simp [hn, hcs])]
        simp only [Nat.zero_mul, List.take_zero, List.nil_append]
        rw [← hflat]
        simp [List.map_map, Function.comp_def]
      have hw : Below w.heap.size w (w.alloc (.cells flat.toArray te)) := (Below.refl _ w).alloc (Nat.le_refl _) _
      obtain ⟨tr, g'⟩ := step_world (S := sit O st loc w) (S' := sit O st loc (w.alloc (.cells flat.toArray te))) g rfl rfl rfl rfl hw
      have hheap : (w.alloc (.cells flat.toArray te)).heap[w.heap.size]? = some (.cells flat.toArray te (0, 0)) := heap_alloc_new w _
      refine ⟨_, .slice (some ⟨w.heap.size, 0, none⟩) n n, _, h, hw, g', tr, ?_, ?_⟩
      · have mk : ∀ v, (n = 0 → ∃ a, v = Value.slice a 0 0) → CR cx.eT (sit O st loc (w.alloc (.cells flat.toArray te))) (.d (.slice e) xs) v → CR cx.eT (sit O st loc (w.alloc (.cells flat.toArray te))) (emptyC n e xs) v := by
          intro v h1 h2
          cases n with
          | zero => exact h1 rfl
          | succ n => exact h2
        refine mk _ (fun h0 => ⟨some ⟨w.heap.size, 0, none⟩, by rw [h0]⟩) ?_
        show VR cx.eT (.slice e) xs _ _ _
        have := slice_of_cells (eT := cx.eT) (xs := xs) (A := (sit O st loc (w.alloc (.cells flat.toArray te))).A) (w := w.alloc (.cells flat.toArray te)) (b := w.heap.size) (o := 0) (cap := n) (cs := flat)
          (by rw [hxl]; unfold big; omega) (by omega) ?_ (k3.frame tr.cell)
        · rw [hxl] at this; exact this
        · intro j u hj
          rw [Nat.zero_add, cell_of_row _ w.heap.size j _ te (0, 0) hheap]
          refine ⟨by simpa using hj, ?_⟩
          rintro (hA | ⟨m, oc, h1, h2, _⟩)
          · have := hO _ _ hA; omega
          · have := (g.obj m oc h1).2.inside _ h2
            simp [sit] at this
      · have hsz' : ¬ (n * e.size > 2 ^ 24) := by omega
        by_cases h0 : n * e.size = 0
        · simp [Instr.buildSlice, run_underlying hu, fit_sizeOf hf, h0, newRow]
          rw [hfill _ (by rw [h0]; simp)]
          simp
        · have := hfill ((Array.range (n * e.size)).map fun k => z.cells[k % z.cells.size]!) (by simp)
          simp [Instr.buildSlice, run_underlying hu, fit_sizeOf hf, h0, hsz', newRow, zeroValue, typeInfo, hf.info, hz]
          rw [this]
          simp
    · exact h.elim
  · exact h.elim
theorem makeSliceVC_sound (hok : TyOK P cx) {O : Avoid} {st : St} {loc : Nat → Loc} {w : World} (g : Good cx.eT X (sit O st loc w)) (hO : OIn O w)
    {t : TypeId} {l c : C} {vl vc : Value} {K : SV → St → VC} (hl : CR cx.eT (sit O st loc w) l vl) (hc : CR cx.eT (sit O st loc w) c vc) (h : (makeSliceVC cx st t l c K).holds) :
    ∃ sv v st' loc' w', (K sv st').holds ∧ Below w.heap.size w w' ∧ st'.env = st.env ∧ Good cx.eT X (sit O st' loc' w') ∧ Tr (sit O st loc w) (sit O st' loc' w') ∧ SVR cx.eT (sit O st' loc' w') sv v ∧ (Instr.makeSlice t vl vc).run P w = .ok v w' := by
  unfold makeSliceVC at h
  split at h
  · rename_i e n m ht hn hm
    obtain ⟨te, ti, td, hu, hf⟩ := und_slice hok ht
    obtain ⟨z, hz, hzr⟩ := hf.zero
    split at h
    · rename_i hno
      obtain ⟨⟨h0, hmn, hbig⟩, h⟩ := h
      subst hmn
      obtain ⟨kl, rfl, _⟩ := asIntC_rel hn hl
      obtain ⟨kc, rfl, _⟩ := asIntC_rel hm hc
      have hbytes : (ti.bytes : Int) * m ≤ 281474976710656 := by
        have h1 := hf.bytes
        have h2 : (ti.bytes : Int) * m ≤ 4096 * 1000000000 := Int.mul_le_mul (by omega) hbig h0 (by omega)
        omega
      have hrun := run_make (P := P) w t te ti z hu hf.info hz kl kc m m h0 (Int.le_refl _) hbytes (by omega)
      have hzs : z.cells.size = e.size := by rw [← Array.length_toList]; exact (zero_rel (S := sit O st loc w) (cx := cx) hzr).length.symm.trans (zeroCs_length e)
      have hw : Below w.heap.size w (w.alloc (.cells (madeCells z.cells (m.toNat * ti.size)) te)) := (Below.refl _ w).alloc (Nat.le_refl _) _
      obtain ⟨tr, g'⟩ := fresh_step (oc := .mrow e (List.replicate m.toNat (zeroD e))) (l := ⟨.slice (some ⟨w.heap.size, 0, none⟩) m.toNat m.toNat, [w.heap.size]⟩) g hO hw (by simp)
      have hg := g' (.inr ⟨w.heap.size, madeCells z.cells (m.toNat * ti.size), te, m.toNat, by simp, rfl, heap_alloc_new w _, by rw [size_madeCells, hf.size], by simp, by simp; unfold big; omega, ?_⟩)
      · refine ⟨_, _, _, _, _, h, hw, rfl, hg, tr, ⟨by simp [sit, fresh], fun t' xs' hy => ?_⟩, hrun⟩
        simp [sit, updLoc]
      · intro i y hy
        have hi := getElem?_lt hy
        rw [List.length_replicate] at hi
        rw [List.getElem?_replicate, if_pos hi] at hy
        cases hy
        refine ⟨z.cells.toList, zero_R hzr hno, fun j u hj => ?_⟩
        have hjl := getElem?_lt hj
        rw [Array.length_toList] at hjl
        have hlt : i * e.size + j < m.toNat * ti.size := by
          have : (i + 1) * e.size ≤ m.toNat * e.size := Nat.mul_le_mul_right _ hi
          rw [Nat.add_mul] at this
          rw [hf.size]
          omega
        have hmod : (i * e.size + j) % z.cells.size = j := by
          rw [hzs, Nat.add_comm, Nat.add_mul_mod_self_right, Nat.mod_eq_of_lt (by omega)]
        simp only [madeCells, Array.getElem?_map, Array.getElem?_range, hlt, if_true, Option.map_some, hmod]
        rw [getElem!_pos z.cells j hjl]
        rw [Array.getElem?_toList, Array.getElem?_eq_getElem hjl] at hj
        exact hj
    · exact h.elim
  · exact h.elim
def copyTo (st : St) (e : Ty) (d : C) : Option (Nat × (List (D e) × (Nat × Nat))) :=
  match d with
  | .mrow n => match look st.objs n with
    | some (.mrow e' xs) => match h : Ty.beq (.slice e') (.slice e) with
      | true => some (n, (castD h (a := .slice e') (b := .slice e) xs, (0, xs.length)))
      | false => none
    | _ => none
  | .msub n u lo len => match look st.objs n with
    | some (.mrow e' xs) => match h : Ty.beq (.slice e') (.slice e), Ty.beq u e' with
      | true, true => some (n, (castD h (a := .slice e') (b := .slice e) xs, (lo, len)))
      | _, _ => none
    | _ => none
  | _ => none
def copyFrom (st : St) (e : Ty) (s : C) : Option (List (D e) × Prop) :=
  match srcD st e s with
  | some ys => some (ys, True)
  | none => match s with
    | .msub _ _ _ _ => match copyTo st e s with
      | some (_, (zs, (lo, len))) => some ((zs.drop lo).take len, lo + len ≤ zs.length)
      | none => none
    | _ => none
def copyVC (cx : Cx) (st : St) (t : TypeId) (d s : C) (K : SV → St → VC) : VC :=
  match look cx.τ t with
  | some (.slice e) => match e.one, copyTo st e d, copyFrom st e s with
    | true, some (n, (xs, (lo, len))), some (ys, p) => .and (p ∧ lo + len ≤ xs.length)
        (K (.s (.one (.d (.int .i64) (min ys.length len : Nat)))) (setObj st n (.mrow e (xs.take lo ++ ys.take (min ys.length len) ++ xs.drop (lo + min ys.length len)))))
    | _, _, _ => .ff
  | _ => .ff
theorem copyTo_rel {O : Avoid} {st : St} {loc : Nat → Loc} {w : World} {e : Ty} {d : C} {n lo len : Nat} {xs : List (D e)} {v : Value} (h : copyTo st e d = some (n, (xs, (lo, len)))) (hd : CR cx.eT (sit O st loc w) d v) :
    look st.objs n = some (.mrow e xs) ∧ ((OR cx.eT X (sit O st loc w) (loc n) (.mrow e xs)) → (len = 0 ∧ ∃ a c, v = .slice a 0 c) ∨ ∃ b c, (loc n).bs = [b] ∧ v = .slice (some ⟨b, lo * e.size, none⟩) len c) := by
  unfold copyTo at h
  split at h
  · rename_i n'
    split at h
    · rename_i e' xs' hob
      split at h
      · rename_i hb
        have : e' = e := by have := Ty.eq_of_beq hb; cases this; rfl
        subst this
        rw [castL_self] at h
        cases h
        refine ⟨hob, fun hor => ?_⟩
        have hv := hd.2 _ _ hob
        rcases hor with ⟨rfl, ⟨a, ha⟩, _⟩ | ⟨b, vs, T, cap, h1, h2, _⟩
        · exact .inl ⟨rfl, a, 0, hv.trans ha⟩
        · exact .inr ⟨b, cap, h2, by rw [Nat.zero_mul]; exact hv.trans h1⟩
      · cases h
    · cases h
  · rename_i n' u lo' len'
    split at h
    · rename_i e' xs' hob
      split at h
      · rename_i hb hu
        have : e' = e := by have := Ty.eq_of_beq hb; cases this; rfl
        subst this
        have := Ty.eq_of_beq hu
        subst this
        rw [castL_self] at h
        cases h
        exact ⟨hob, fun _ => hd.2 _ hob⟩
      · cases h
    · cases h
  · cases h
theorem R_sub {eT : TypeId} {e : Ty} {xs : List (D e)} {A : Avoid} {w : World} {cs : List Value} (h : RowsL eT e xs A w cs) (lo len : Nat) : RowsL eT e ((xs.drop lo).take len) A w ((cs.drop (lo * e.size)).take (len * e.size)) := by
  intro i y hy
  rw [List.getElem?_take] at hy
  split at hy
  · rename_i hi
    rw [List.getElem?_drop] at hy
    obtain ⟨us, h1, h2⟩ := h _ y hy
    refine ⟨us, h1, fun j u hj => ?_⟩
    have hjl := getElem?_lt hj
    rw [h1.length] at hjl
    have h3 := h2 j u hj
    have : (i + 1) * e.size ≤ len * e.size := Nat.mul_le_mul_right _ hi
    rw [Nat.add_mul] at this
    rw [List.getElem?_take, if_pos (by omega), List.getElem?_drop]
    rw [show lo * e.size + (i * e.size + j) = (lo + i) * e.size + j by rw [Nat.add_mul]; omega]
    exact h3
  · cases hy
theorem copyFrom_rel {O : Avoid} {st : St} {loc : Nat → Loc} {w : World} (g : Good cx.eT X (sit O st loc w)) {e : Ty} {s : C} {ys : List (D e)} {p : Prop} {v : Value} (h : copyFrom st e s = some (ys, p)) (hp : p)
    (hs : CR cx.eT (sit O st loc w) s v) : Src cx.eT e ys (sit O st loc w).A w v := by
  unfold copyFrom at h
  split at h
  · rename_i ys' hsrc
    cases h
    exact srcD_rel g hsrc hs
  · split at h
    · split at h
      · rename_i n zs lo len hct
        cases h
        obtain ⟨hob, hr⟩ := copyTo_rel (X := X) hct hs
        have hor := (g.obj _ _ hob).2
        have hyl : ((zs.drop lo).take len).length = len := by rw [List.length_take, List.length_drop]; omega
        rcases hr hor with ⟨h0, a, c, hv⟩ | ⟨b, c, h1, hv⟩
        · subst h0
          exact .inl ⟨by simp, a, c, hv⟩
        · rcases hor with ⟨_, _, h2⟩ | ⟨b', vs, T, cap, h2, h3, hheap, hvs, hcap, _, he⟩
          · exact absurd (h1.symm.trans h2) (by simp)
          · have hbb : b = b' := by have h4 : (loc n).bs = [b'] := h3; rw [h1] at h4; cases h4; rfl
            subst hbb
            have hle : zs.length * e.size ≤ vs.size := by rw [hvs]; exact Nat.mul_le_mul_right _ hcap
            obtain ⟨cs, hcs, k1, k2, k3⟩ := elems_cells he hle
            refine .inr ⟨b, lo * e.size, c, (cs.drop (lo * e.size)).take (len * e.size), by rw [hyl]; exact hv, ?_, fun j u hj => ?_, R_sub k2 lo len, fun u hu => k3 u (List.mem_of_mem_drop (List.mem_of_mem_take hu))⟩
            · rw [hyl, List.length_take, List.length_drop, k1]
              have : (lo + len) * e.size ≤ zs.length * e.size := Nat.mul_le_mul_right _ hp
              rw [Nat.add_mul] at this
              omega
            · rw [cell_of_row w b _ vs T (0, 0) hheap]
              rw [List.getElem?_take] at hj
              split at hj
              · rw [List.getElem?_drop, hcs, List.getElem?_take] at hj
                split at hj
                · simpa using hj
                · cases hj
              · cases hj
      · cases h
    · cases h
theorem copyVC_sound (hok : TyOK P cx) {O : Avoid} {st : St} {loc : Nat → Loc} {w : World} (g : Good cx.eT X (sit O st loc w)) (hO : OIn O w)
    {t t' ty : TypeId} {d s : C} {K : SV → St → VC} {vd vx : Value} (hd : CR cx.eT (sit O st loc w) d vd) (hs : CR cx.eT (sit O st loc w) s vx) (h : (copyVC cx st t d s K).holds) :
    ∃ sv v st' loc' w', (K sv st').holds ∧ st'.env = st.env ∧ Good cx.eT X (sit O st' loc' w') ∧ Tr (sit O st loc w) (sit O st' loc' w') ∧ SVR cx.eT (sit O st' loc' w') sv v ∧
      (Builtin.copy_ #[t, t'] ty #[vd, vx]).run P w = .ok v w' := by
  unfold copyVC at h
  split at h
  case h_2 => exact h.elim
  rename_i e ht
  obtain ⟨te, ti, td, hu, hf⟩ := und_slice hok ht
  split at h
  case h_2 => exact h.elim
  rename_i n xs lo len ys p hone hct hcf
  obtain ⟨⟨hp, hle⟩, h⟩ := h
  have hsz := Ty.size_one hone
  obtain ⟨hob, hdst⟩ := copyTo_rel (X := X) hct hd
  have hn := (g.obj n _ hob).1
  have hor := (g.obj n _ hob).2
  have hsrc := copyFrom_rel g hcf hp hs
  have his : (P.info? te).map (·.size) = some 1 := by rw [hf.info]; simp [hf.size, hsz]
  have hbig : xs.length ≤ big := by
    rcases hor with ⟨rfl, _, _⟩ | ⟨_, _, _, _, _, _, _, _, _, h1, _⟩
    · simp
    · exact h1
  generalize hk : min ys.length len = k at h
  have hkr : IntKind.i64.min ≤ (k : Int) ∧ (k : Int) ≤ IntKind.i64.max := big_range (by omega)
  have none0 : k = 0 → ∀ dp dc sp sl sc, vd = .slice dp len dc → vx = .slice sp sl sc → sl = ys.length → ∃ sv v st' loc' w', (K sv st').holds ∧ st'.env = st.env ∧ Good cx.eT X (sit O st' loc' w') ∧ Tr (sit O st loc w) (sit O st' loc' w') ∧ SVR cx.eT (sit O st' loc' w') sv v ∧
      (Builtin.copy_ #[t, t'] ty #[vd, vx]).run P w = .ok v w' := by
    intro hk0 dp dc sp sl sc e1 e2 e3
    subst hk0
    have hst : sit O (setObj st n (.mrow e (xs.take lo ++ ys.take 0 ++ xs.drop (lo + 0)))) loc w = sit O st loc w := by
      have : look (setObj st n (.mrow e (xs.take lo ++ ys.take 0 ++ xs.drop (lo + 0)))).objs = look st.objs := by
        funext m
        rw [look_set]
        by_cases e1 : n = m
        · rw [if_pos e1, ← e1, hob]; simp
        · rw [if_neg e1]
      simp only [sit, this]; rfl
    have hrun := run_copy_none (P := P) w t t' ty te dp sp len dc sl sc hu his (by rw [e3]; exact hk)
    have hI : ∀ S : Sit, CR cx.eT S (.d (.int .i64) ((0 : Nat) : Int)) (goInt 0) := fun S => int_rel.2 ⟨rfl, hkr⟩
    refine ⟨.s (.one (.d (.int .i64) ((0 : Nat) : Int))), goInt 0, _, loc, w, h, rfl, by rw [hst]; exact g, by rw [hst]; exact Tr.refl _, hI (sit O (setObj st n (.mrow e (xs.take lo ++ ys.take 0 ++ xs.drop (lo + 0)))) loc w), ?_⟩
    rw [e1, e2]; exact hrun
  have hsl : ∃ sp sc, vx = .slice sp ys.length sc := by
    rcases hsrc with ⟨rfl, a, c, hv⟩ | ⟨b, o, cap, cs, hv, _⟩
    · exact ⟨a, c, by simpa using hv⟩
    · exact ⟨_, _, hv⟩
  obtain ⟨sp, sc, hvx⟩ := hsl
  have hdl : ∃ dp dc, vd = .slice dp len dc := by
    rcases hdst hor with ⟨rfl, a, c, hv⟩ | ⟨b, c, _, hv⟩
    · exact ⟨a, c, hv⟩
    · exact ⟨_, _, hv⟩
  obtain ⟨dp, dc, hvd⟩ := hdl
  by_cases hk0 : k = 0
  · exact none0 hk0 dp dc sp _ sc hvd hvx rfl
  · rcases hdst hor with ⟨h0, _⟩ | ⟨b, c, hb, hv⟩
    · omega
    · rcases hsrc with ⟨rfl, _⟩ | ⟨b2, o2, cap2, cs, hv2, hcl, hcc, hrl, hone'⟩
      · simp at hk; omega
      · rcases hor with ⟨_, _, h2⟩ | ⟨b', vs, T, cap, h2, h3, hheap, hvs, hcap, _, he⟩
        · exact absurd (hb.symm.trans h2) (by simp)
        · have hbb : b = b' := by have h4 : (loc n).bs = [b'] := h3; rw [hb] at h4; cases h4; rfl
          subst hbb
          rw [hsz, Nat.mul_one] at hv hvs
          rw [hsz, Nat.mul_one] at hcl
          have hkl : (cs.take k).length = k := by rw [List.length_take]; omega
          have hfit : lo + (cs.take k).length ≤ vs.size := by rw [hkl, hvs]; omega
          have hrun := run_copy_row (P := P) w t t' ty te b lo len c ⟨b2, o2, none⟩ ys.length cap2 vs T (cs.take k) hu his hheap (by rw [hkl]; exact hk.symm)
            (fun j u hj => by
              rw [Addr.add_lit]
              rw [List.getElem?_take] at hj
              split at hj
              · exact hcc j u hj
              · cases hj) hfit (fun u hu => hone' u (List.mem_of_mem_take hu))
          rw [hkl] at hrun
          have hst := set_step (X := X) (cx := cx) (oc' := .mrow e (xs.take lo ++ ys.take k ++ xs.drop (lo + k))) (cs' := (vs.toList.take lo ++ cs.take k ++ vs.toList.drop (lo + k)).toArray) g hO hob h3 (by simp [SameKind]) rfl rfl
          have hxl : (xs.take lo ++ ys.take k ++ xs.drop (lo + k)).length = xs.length := by
            simp only [List.length_append, List.length_take, List.length_drop]; omega
          have hI : ∀ S : Sit, CR cx.eT S (.d (.int .i64) (k : Int)) (goInt k) := fun S => int_rel.2 ⟨rfl, hkr⟩
          refine ⟨.s (.one (.d (.int .i64) (k : Int))), goInt k, _, loc, _, h, rfl, hst.2 (.inr ⟨b, _, T, cap, by rw [hxl]; exact h2, h3, setRow_heap w b vs _ T (0, 0) hheap, ?_, by rw [hxl]; exact hcap, by rw [hxl]; exact hbig, ?_⟩), hst.1, hI (sit O (setObj st n (.mrow e (xs.take lo ++ ys.take k ++ xs.drop (lo + k)))) loc (w.setRow b (vs.toList.take lo ++ cs.take k ++ vs.toList.drop (lo + k)).toArray)), ?_⟩
          · rw [hsz, Nat.mul_one]
            simp only [List.size_toArray, List.length_append, List.length_take, List.length_drop, Array.length_toList]
            rw [hkl] at hfit
            omega
          · intro i y hy
            have hone1 : ∀ {z : D e} {us : List Value} {A : Avoid} {w : World}, R cx.eT e z A w us → ∃ u, us = [u] := fun hr => List.length_eq_one_iff.1 (by rw [hr.length, hsz])
            have old : ∀ i', xs[i']? = some y → (i < lo ∨ lo + k ≤ i) → i' = i → ∃ us, R cx.eT e y (sit O (setObj st n (.mrow e (xs.take lo ++ ys.take k ++ xs.drop (lo + k)))) loc (w.setRow b (vs.toList.take lo ++ cs.take k ++ vs.toList.drop (lo + k)).toArray)).A (w.setRow b (vs.toList.take lo ++ cs.take k ++ vs.toList.drop (lo + k)).toArray) us ∧
                ∀ j u, us[j]? = some u → (vs.toList.take lo ++ cs.take k ++ vs.toList.drop (lo + k)).toArray[i * e.size + j]? = some u := by
              intro i' hx hr hi
              subst hi
              obtain ⟨us, r1, r2⟩ := he i' y hx
              refine ⟨us, r1.frame hst.1.cell, fun j u hj => ?_⟩
              obtain ⟨u0, rfl⟩ := hone1 r1
              have hj0 : j = 0 := by have := getElem?_lt hj; simp at this; exact this
              subst hj0
              have := r2 0 u hj
              rw [hsz, Nat.mul_one] at this ⊢
              have hsp := splice_get vs.toList (cs.take k) lo i' (by rw [Array.length_toList]; exact hfit)
              rw [hkl] at hsp
              rw [List.getElem?_toArray, Nat.add_zero, hsp]
              rw [Nat.add_zero] at this
              rcases hr with hr | hr
              · rw [if_pos hr, Array.getElem?_toList]; exact this
              · rw [if_neg (by omega), if_neg (by omega), Array.getElem?_toList]; exact this
            by_cases c1 : i < lo
            · rw [List.append_assoc, List.getElem?_append, if_pos (by rw [List.length_take]; omega), List.getElem?_take, if_pos c1] at hy
              exact old i hy (.inl c1) rfl
            · by_cases c2 : i < lo + k
              · rw [List.append_assoc, List.getElem?_append, if_neg (by rw [List.length_take]; omega), List.getElem?_append, if_pos (by simp only [List.length_take]; omega), List.getElem?_take] at hy
                simp only [List.length_take] at hy
                rw [show min lo xs.length = lo by omega] at hy
                rw [if_pos (by omega)] at hy
                obtain ⟨us, r1, r2⟩ := hrl _ y hy
                refine ⟨us, r1.frame hst.1.cell, fun j u hj => ?_⟩
                obtain ⟨u0, rfl⟩ := hone1 r1
                have hj0 : j = 0 := by have := getElem?_lt hj; simp at this; exact this
                subst hj0
                have := r2 0 u hj
                rw [hsz, Nat.mul_one, Nat.add_zero] at this ⊢
                have hsp := splice_get vs.toList (cs.take k) lo i (by rw [Array.length_toList]; exact hfit)
                rw [hkl] at hsp
                rw [List.getElem?_toArray, hsp, if_neg c1, if_pos c2, List.getElem?_take, if_pos (by omega)]
                exact this
              · rw [List.append_assoc, List.getElem?_append, if_neg (by rw [List.length_take]; omega), List.getElem?_append, if_neg (by simp only [List.length_take]; omega), List.getElem?_drop] at hy
                simp only [List.length_take] at hy
                rw [show lo + k + (i - min lo xs.length - min k ys.length) = i by omega] at hy
                exact old i hy (.inr (by omega)) rfl
          · rw [hv, hv2]; exact hrun
end
end Go.Vg

namespace Go.Vg
open Go.RowKit
def deepNilVC (cx : Cx) (st : St) (x : Operand) (ty : TypeId) (K : SV → St → VC) : VC :=
  match ev st.env x, look cx.τ ty with
  | .s (.one .nilS), some (.slice e) => match spot e with
    | some _ => K (.s (.one (.xd st.next .top))) (fresh st (.ext 0 (.slice e) []))
    | none => .ff
  | _, _ => .ff
def deepBuild (cx : Cx) (st : St) (t : TypeId) (v : SV0) (K : SV → St → VC) : VC :=
  match look cx.τ t with
  | some (.slice e) => match spot e, flat0 st e v, Nat.ble e.size 1000 with
    | some s, some cs, true => match cs[s.off]?, packD e (cs.set s.off .nilS) with
      | some (.mrow m), some (y0, []) => match look st.objs m with
        | some (.mrow t' zs) => match h : Ty.beq (.slice t') (.slice s.t) with
          | true => K (.s (.one (.xd st.next .top))) (fresh (dropObj (dropObj st m) m) (.ext 0 (.slice e) [s.put y0 (castD h (a := .slice t') zs)]))
          | false => .ff
        | _ => .ff
      | _, _ => .ff
    | _, _, _ => .ff
  | _ => .ff
def deepApp (cx : Cx) (st : St) (t : TypeId) (n m : Nat) (K : SV → St → VC) : VC :=
  match look cx.τ t, look st.objs n, look st.objs m with
  | some (.slice e), some (.ext 0 (.slice e1) xs), some (.ext 0 (.slice e2) ys) => match h1 : Ty.beq (.slice e1) (.slice e), h2 : Ty.beq (.slice e2) (.slice e), Nat.beq n m with
    | true, true, false => .and (0 < List.length ys ∧ List.length xs + List.length ys ≤ 1000000000)
        (K (.s (.one (.xd st.next .top))) (fresh (dropObj (dropObj st n) m) (.ext 0 (.slice e) (castD h1 (a := .slice e1) xs ++ castD h2 (a := .slice e2) ys))))
    | _, _, _ => .ff
  | _, _, _ => .ff
def deepStore (st : St) (n : Nat) (i j : Nat) (ty : Ty) (v : SV0) (K : SV → St → VC) : VC :=
  match look st.objs n with
  | some (.ext 0 (.slice e) xs) => match spot e with
    | some s => match asD0 s.t v, Ty.beq s.t ty with
      | some z, true => .and (i < List.length xs ∧ j < (s.get (nth e xs i)).length) (K (.s (.one .any)) (setObj st n (.ext 0 (.slice e) (List.set xs i (s.put (nth e xs i) ((s.get (nth e xs i)).set j z))))))
      | _, _ => .ff
    | none => .ff
  | _ => .ff
section
variable {X : Ext} {P : Program} {cx : Cx}
theorem drop2_ob (st : St) (n m k : Nat) (oc : OC) (h : look (dropObj (dropObj st n) m).objs k = some oc) : k ≠ n ∧ k ≠ m ∧ look st.objs k = some oc := by
  simp only [dropObj] at h
  rw [look_del] at h
  split at h
  · cases h
  · rename_i h1
    rw [look_del] at h
    split at h
    · cases h
    · rename_i h2; exact ⟨fun e => h2 e.symm, fun e => h1 e.symm, h⟩
theorem merge_step {O : Avoid} {st : St} {loc : Nat → Loc} {w w' : World} (g : Good cx.eT X (sit O st loc w)) (hO : OIn O w) (n m : Nat) {oc : OC} {l : Loc}
    (hos : w'.os = w.os) (hout : w'.output = w.output) (hsize : w.heap.size ≤ w'.heap.size)
    (hlo : ∀ k oc', (k = n ∨ k = m) → look st.objs k = some oc' → oc'.lo = 0)
    (hb : ∀ b, b < w.heap.size → (∀ k oc', (k = n ∨ k = m) → look st.objs k = some oc' → b ∉ (loc k).bs) → w'.heap[b]? = w.heap[b]?)
    (hl : ∀ b ∈ l.bs, (∃ k oc', (k = n ∨ k = m) ∧ look st.objs k = some oc' ∧ b ∈ (loc k).bs) ∨ w.heap.size ≤ b) :
    Tr (sit O st loc w) (sit O (fresh (dropObj (dropObj st n) m) oc) (updLoc loc st.next l) w') ∧
      (OR cx.eT X (sit O (fresh (dropObj (dropObj st n) m) oc) (updLoc loc st.next l) w') l oc → Good cx.eT X (sit O (fresh (dropObj (dropObj st n) m) oc) (updLoc loc st.next l) w')) := by
  have hob : ∀ k oc', (sit O (fresh (dropObj (dropObj st n) m) oc) (updLoc loc st.next l) w').ob k = some oc' → (k = st.next ∧ oc' = oc) ∨ (k ≠ st.next ∧ k ≠ n ∧ k ≠ m ∧ look st.objs k = some oc') := by
    intro k oc' h
    rw [sit_fresh_ob] at h
    split at h
    · rename_i e; cases h; exact .inl ⟨e.symm, rfl⟩
    · rename_i e; obtain ⟨h1, h2, h3⟩ := drop2_ob st n m k oc' h; exact .inr ⟨fun e' => e e'.symm, h1, h2, h3⟩
  have hloc : ∀ k, k ≠ st.next → (updLoc loc st.next l) k = loc k := fun k h => by simp only [updLoc]; rw [if_neg (fun e => h e.symm)]
  have hlocn : (updLoc loc st.next l) st.next = l := by simp [updLoc]
  have hkeep : ∀ k oc', k ≠ n → k ≠ m → look st.objs k = some oc' → ∀ b ∈ (loc k).bs, w'.heap[b]? = w.heap[b]? := by
    intro k oc' h1 h2 h3 b hbk
    refine hb b ((g.obj k oc' h3).2.inside b hbk) fun k' oc'' hk' hk'' hbk' => ?_
    have := g.apart k k' oc' oc'' b h3 hk'' hbk hbk'
    rcases hk' with rfl | rfl <;> contradiction
  have hnewA : ∀ b o, b < w.heap.size → b ∈ l.bs → (sit O st loc w).A b o := by
    intro b o hlt hbl
    rcases hl b hbl with ⟨k, oc', hk, h1, h2⟩ | h
    · exact .inr ⟨k, oc', h1, h2, by rw [hlo k oc' hk h1]; exact Nat.zero_le _⟩
    · omega
  have ht : Tr (sit O st loc w) (sit O (fresh (dropObj (dropObj st n) m) oc) (updLoc loc st.next l) w') := {
    O := rfl
    next := by show st.next ≤ st.next + 1; omega
    os := hos
    output := hout
    size := hsize
    own := fun b h => by
      obtain ⟨k, oc', h1, h2⟩ := h
      rcases hob k oc' h1 with ⟨rfl, rfl⟩ | ⟨e, e1, e2, h3⟩
      · rw [show (sit O _ (updLoc loc st.next l) w').loc st.next = l from hlocn] at h2
        rcases hl b h2 with ⟨k', oc'', _, h4, h5⟩ | h
        · exact .inl ⟨k', oc'', h4, h5⟩
        · exact .inr h
      · rw [show (sit O _ (updLoc loc st.next l) w').loc k = loc k from hloc k e] at h2
        exact .inl ⟨k, oc', h3, h2⟩
    cell := fun b o v ha hcell => by
      have hlt := World.block_lt_of_cell? w _ hcell
      simp only at hlt
      constructor
      · have : w'.heap[b]? = w.heap[b]? := hb b hlt fun k oc' hk h1 h2 => ha (.inr ⟨k, oc', h1, h2, by rw [hlo k oc' hk h1]; exact Nat.zero_le _⟩)
        show w'.cell? _ = _
        rw [World.cell?_of_block (w := w) (w' := w') (a := ⟨b, o, none⟩) this]; exact hcell
      · rintro (h | ⟨k, oc', h1, h2, h3⟩)
        · exact ha (.inl h)
        · rcases hob k oc' h1 with ⟨rfl, rfl⟩ | ⟨e, e1, e2, h4⟩
          · rw [show (sit O _ (updLoc loc st.next l) w').loc st.next = l from hlocn] at h2
            exact ha (hnewA b o hlt h2)
          · rw [show (sit O _ (updLoc loc st.next l) w').loc k = loc k from hloc k e] at h2
            exact ha (.inr ⟨k, oc', h4, h2, h3⟩)
    block := fun b hlt ho => hb b hlt fun k oc' _ h1 h2 => ho ⟨k, oc', h1, h2⟩
    loc := fun k hlt _ => locEq (hloc k (by simp [sit] at hlt; omega))
    kind := fun k oc' hlt h => by
      rcases hob k oc' h with ⟨rfl, rfl⟩ | ⟨e, e1, e2, h3⟩
      · simp [sit] at hlt
      · refine ⟨oc', h3, ?_⟩
        have : (sit O (fresh (dropObj (dropObj st n) m) oc) (updLoc loc st.next l) w').loc k = (sit O st loc w).loc k := hloc k e
        rw [this]
        cases oc' <;> simp [SameKind] }
  refine ⟨ht, fun hor => ⟨fun k oc' h => ?_, fun m1 m2 oc1 oc2 b h1 h2 h3 h4 => ?_, fun k oc' b off h1 h2 => ?_, g.glob.tr ht⟩⟩
  · rcases hob k oc' h with ⟨rfl, rfl⟩ | ⟨e, e1, e2, h3⟩
    · exact ⟨by simp [sit, fresh, dropObj], by rw [show (sit O _ (updLoc loc st.next l) w').loc st.next = l from hlocn]; exact hor⟩
    · obtain ⟨k1, k2⟩ := g.obj k oc' h3
      refine ⟨by simp only [sit, fresh, dropObj] at k1 ⊢; omega, ?_⟩
      rw [show (sit O _ (updLoc loc st.next l) w').loc k = (sit O st loc w).loc k from hloc k e]
      exact k2.tr ht (hkeep k oc' e1 e2 h3)
  · have key : ∀ k oc', k ≠ n → k ≠ m → look st.objs k = some oc' → b ∈ l.bs → b ∈ (loc k).bs → False := by
      intro k oc' e1 e2 hk hbl hbk
      rcases hl b hbl with ⟨k', oc'', hk', h5, h6⟩ | h
      · have := g.apart k k' oc' oc'' b hk h5 hbk h6
        rcases hk' with rfl | rfl <;> contradiction
      · have := (g.obj k oc' hk).2.inside b hbk
        simp only [sit] at this; omega
    rcases hob m1 oc1 h1 with ⟨rfl, rfl⟩ | ⟨e, e1, e2, h5⟩ <;> rcases hob m2 oc2 h2 with ⟨rfl, rfl⟩ | ⟨e', e1', e2', h6⟩
    · rfl
    · rw [show (sit O _ (updLoc loc st.next l) w').loc st.next = l from hlocn] at h3
      rw [show (sit O _ (updLoc loc st.next l) w').loc m2 = loc m2 from hloc m2 e'] at h4
      exact (key m2 oc2 e1' e2' h6 h3 h4).elim
    · rw [show (sit O _ (updLoc loc st.next l) w').loc st.next = l from hlocn] at h4
      rw [show (sit O _ (updLoc loc st.next l) w').loc m1 = loc m1 from hloc m1 e] at h3
      exact (key m1 oc1 e1 e2 h5 h4 h3).elim
    · rw [show (sit O _ (updLoc loc st.next l) w').loc m1 = loc m1 from hloc m1 e] at h3
      rw [show (sit O _ (updLoc loc st.next l) w').loc m2 = loc m2 from hloc m2 e'] at h4
      exact g.apart m1 m2 oc1 oc2 b h5 h6 h3 h4
  · rcases hob k oc' h1 with ⟨rfl, rfl⟩ | ⟨e, e1, e2, h3⟩
    · rw [show (sit O _ (updLoc loc st.next l) w').loc st.next = l from hlocn] at h2
      rcases hl b h2 with ⟨k', oc'', _, h5, h6⟩ | h
      · exact g.out k' oc'' b off h5 h6
      · intro hA; have := hO _ _ hA; omega
    · rw [show (sit O _ (updLoc loc st.next l) w').loc k = loc k from hloc k e] at h2
      exact g.out k oc' b off h3 h2
theorem deepNil_sound {O : Avoid} {st : St} {loc : Nat → Loc} {w : World} {a : Act} (g : Good cx.eT X (sit O st loc w)) (hO : OIn O w) (he : EnvR cx.eT (sit O st loc w) st.env a)
    {x : Operand} {ty : TypeId} {K : SV → St → VC} (h : (deepNilVC cx st x ty K).holds) :
    ∃ sv st' loc', (K sv st').holds ∧ st'.env = st.env ∧ Good cx.eT X (sit O st' loc' w) ∧ Tr (sit O st loc w) (sit O st' loc' w) ∧ SVR cx.eT (sit O st' loc' w) sv (a.eval x) := by
  have hx := ev_rel he x
  unfold deepNilVC at h
  split at h
  · rename_i e hl _
    rw [hl] at hx
    split at h
    · rename_i s hs
      obtain ⟨tr1, g1⟩ := fresh_step (oc := .ext 0 (.slice e) []) (l := ⟨.tuple #[.slice none 0 0], []⟩) g hO (Below.refl _ w) (by simp)
      have g1 := g1 (X.deep.2 ⟨s, hs, .slice none 0 0, [], rfl, .inl ⟨rfl, rfl, ⟨none, rfl⟩, rfl⟩⟩)
      refine ⟨_, _, _, h, rfl, g1, tr1, ?_⟩
      rw [show a.eval x = _ from hx]
      refine ⟨by simp [sit, fresh], fun t' x' hy => ?_⟩
      exact ⟨[], by simp [sit, updLoc]⟩
    · exact h.elim
  · exact h.elim
theorem spot_put_set : ∀ {e : Ty} {s : Spot e} {y : D e} {ys : List (D s.t)} {A A' : Avoid} {w w' : World} {us : List Value} {h h0 : Value} {eT : TypeId}, spot e = some s → R eT e y A w (us.set s.off h0) →
    R eT (.slice s.t) ys A' w' [h] → us[s.off]? = some h → R eT e (s.put y ys) A' w' us := by
  intro e
  induction e with
  | slice t _ =>
    intro s y ys A A' w w' us h h0 eT hs hr hy hu
    obtain ⟨_, _, rfl⟩ := spot_slice hs
    obtain ⟨v, hv, h2⟩ := hr
    have hl : us.length = 1 := by have := congrArg List.length hv; simpa using this
    match us, hl with
    | [u], _ => simp at hu; subst hu; exact hy
  | prod a b iha ihb =>
    intro s y ys A A' w w' us h h0 eT hs hr hy hu
    obtain ⟨u1, u2, hv, r1, r2⟩ := hr
    have hl1 := r1.length
    rcases spot_prod hs with ⟨s', h1, hb, rfl⟩ | ⟨s', ha, h1, rfl⟩
    · have hlt := spot_lt h1
      simp only at hv hu
      have e1 : us.set s'.off h0 = (us.take a.size).set s'.off h0 ++ us.drop a.size := by
        conv => lhs; rw [← List.take_append_drop a.size us]
        have hul : s'.off < us.length := getElem?_lt hu
        rw [List.set_append_left _ _ (by rw [List.length_take]; omega)]
      have hlen : us.length = a.size + u2.length := by have := congrArg List.length hv; simp only [List.length_set, List.length_append] at this; omega
      rw [e1] at hv
      obtain ⟨k1, k2⟩ := List.append_inj hv (by rw [List.length_set, List.length_take]; omega)
      subst k1 k2
      refine ⟨us.take a.size, us.drop a.size, (List.take_append_drop _ _).symm, iha h1 r1 hy ?_, r2.of_flat (plain_flat hb)⟩
      rw [List.getElem?_take, if_pos hlt]; exact hu
    · have hlt := spot_lt h1
      simp only at hv hu
      have hul := getElem?_lt hu
      have e1 : us.set (a.size + s'.off) h0 = us.take a.size ++ (us.drop a.size).set s'.off h0 := by
        conv => lhs; rw [← List.take_append_drop a.size us]
        rw [List.set_append_right _ _ (by rw [List.length_take]; omega)]
        congr 2
        rw [List.length_take]; omega
      rw [e1] at hv
      obtain ⟨k1, k2⟩ := List.append_inj hv (by rw [List.length_take]; omega)
      subst k1 k2
      refine ⟨us.take a.size, us.drop a.size, (List.take_append_drop _ _).symm, r1.of_flat (plain_flat ha), ihb h1 r2 hy ?_⟩
      rw [List.getElem?_drop]; exact hu
  | _ => intro s y ys A A' w w' us h h0 eT hs; cases hs
theorem run_buildOne (cx : Cx) {t te : TypeId} {e : Ty} {ti : TypeInfo} {td : TypeDesc} (hu : P.underlying t = some (.slice te)) (hf : Fit P te e ti td) {v : Value} (hv : v.cells.toList.length = e.size) (hp : 0 < e.size) (hbig : e.size ≤ 16777216) (w : World) :
    (Instr.buildSlice t 1 #[(0, v)]).run P w = .ok (.slice (some ⟨w.heap.size, 0, none⟩) 1 1) (w.alloc (.cells v.cells te)) := by
  obtain ⟨z, hz, hzr⟩ := hf.zero
  have hzs : z.cells.size = e.size := by
    rw [← Array.length_toList]
    exact (zero_rel (S := ⟨fun _ _ => False, fun _ => none, fun _ => default, 0, w⟩) (cx := cx) hzr).length.symm.trans (zeroCs_length e)
  have hfill : ∀ cells : Array Value, cells.size = e.size → Instr.fill (fun i => some (i * e.size, e.size)) cells [(0, v)] = some v.cells := by
    intro cells hcs
    rw [fill_row e.size [(0, v)] 0 cells (fun i p hp => by
        cases i with
        | zero => simp at hp; subst hp; rfl
        | succ i => simp at hp)
      (fun p hp => by simp at hp; subst hp; rw [← Array.length_toList]; exact hv)
      (by simp [hcs])]
    simp
  have hfl := hfill ((Array.range (1 * e.size)).map fun k => z.cells[k % z.cells.size]!) (by simp)
  have h0 : e.size ≠ 0 := by omega
  have hsz' : ¬ (e.size > 2 ^ 24) := by omega
  have hfl' := hfill ((Array.range (e.size)).map fun k => z.cells[k % z.cells.size]!) (by simp)
  simp [Instr.buildSlice, run_underlying hu, fit_sizeOf hf, h0, hsz', newRow, zeroValue, typeInfo, hf.info, hz]
  rw [hfl']
  simp
theorem CRs.set {eT : TypeId} {S : Sit} {cs : List C} {vs : List Value} (h : CRs eT S cs vs) : ∀ {k : Nat} {c : C} {v : Value}, CR eT S c v → v.oneCell' = true → CRs eT S (cs.set k c) (vs.set k v) := by
  induction h with
  | nil => intro k c v _ _; exact .nil
  | cons h1 h2 h3 ih =>
    intro k c v hc hv
    cases k with
    | zero => exact .cons hc hv h3
    | succ k => exact .cons h1 h2 (ih hc hv)
theorem deepBuild_sound (hok : TyOK P cx) {O : Avoid} {st : St} {loc : Nat → Loc} {w : World} (g : Good cx.eT X (sit O st loc w)) (hO : OIn O w)
    {t : TypeId} {v : SV0} {u : Value} {K : SV → St → VC} (hv : SV0R cx.eT (sit O st loc w) v u) (h : (deepBuild cx st t v K).holds) :
    ∃ sv val st' loc' w', (K sv st').holds ∧ st'.env = st.env ∧ Below w.heap.size w w' ∧ Good cx.eT X (sit O st' loc' w') ∧ Tr (sit O st loc w) (sit O st' loc' w') ∧ SVR cx.eT (sit O st' loc' w') sv val ∧
      (Instr.buildSlice t 1 #[(0, u)]).run P w = .ok val w' := by
  unfold deepBuild at h
  split at h
  case h_2 => exact h.elim
  rename_i e ht
  obtain ⟨te, ti, td, hu, hf⟩ := und_slice hok ht
  split at h
  case h_2 => exact h.elim
  rename_i s cs hs hfl hsm
  have hsm := Nat.le_of_ble_eq_true hsm
  obtain ⟨us, hus, hcr, hul⟩ := flat0_rel g hfl hv
  split at h
  case h_2 => exact h.elim
  rename_i m y0 hm hp
  split at h
  case h_2 => exact h.elim
  rename_i t' zs hob
  split at h
  case h_2 => exact h.elim
  rename_i hb
  have htt : t' = s.t := by have := Ty.eq_of_beq hb; cases this; rfl
  subst htt
  rw [castL_self] at h
  obtain ⟨hd, hget, hch, _⟩ := hcr.get hm
  have hdv := hch.2 _ _ hob
  have hset := hcr.set (k := s.off) (c := .nilS) (v := .slice none 0 0) rfl rfl
  obtain ⟨us1, us2, he12, hr0, hnil⟩ := packD_rel hp hset
  cases hnil
  rw [List.append_nil] at he12
  subst he12
  have hoff := spot_lt hs
  have hrun := run_buildOne (P := P) cx hu hf (v := u) (by rw [hus]; exact hul) (by omega) (by omega) w
  have hbel : Below w.heap.size w (w.alloc (.cells u.cells te)) := (Below.refl _ w).alloc (Nat.le_refl _) _
  have hheap : (w.alloc (.cells u.cells te)).heap[w.heap.size]? = some (.cells u.cells te (0, 0)) := heap_alloc_new w _
  have hlo : ∀ k oc', (k = m ∨ k = m) → look st.objs k = some oc' → oc'.lo = 0 := by
    intro k oc' hk hl
    have : k = m := by rcases hk with h | h <;> exact h
    subst this; rw [hob] at hl; cases hl; rfl
  have fin : ∀ (co : Option Nat), (∀ c, co = some c → c ∈ (loc m).bs) → (∀ c, co = some c → c ≠ w.heap.size ∧ ∃ vs T, (w.alloc (.cells u.cells te)).heap[c]? = some (.cells vs T (0, 0))) →
      R 0 (.slice s.t) zs (Only co) (w.alloc (.cells u.cells te)) [hd] →
      ∃ sv val st' loc' w', (K sv st').holds ∧ st'.env = st.env ∧ Below w.heap.size w w' ∧ Good cx.eT X (sit O st' loc' w') ∧ Tr (sit O st loc w) (sit O st' loc' w') ∧ SVR cx.eT (sit O st' loc' w') sv val ∧
        (Instr.buildSlice t 1 #[(0, u)]).run P w = .ok val w' := by
    intro co hco1 hco2 hr
    obtain ⟨tr, gd⟩ := merge_step (w' := w.alloc (.cells u.cells te)) (oc := .ext 0 (.slice e) [s.put y0 zs]) (l := ⟨.tuple #[.slice (some ⟨w.heap.size, 0, none⟩) 1 1, hd], w.heap.size :: [co].filterMap id⟩) g hO m m hbel.os hbel.output hbel.size hlo
      (fun b hlt _ => hbel.block b hlt) (fun b hbm => by
        rcases List.mem_cons.1 hbm with rfl | hbm
        · exact .inr (Nat.le_refl _)
        · obtain ⟨i, hi⟩ := mem_filterMap_id.1 hbm
          cases i with
          | zero => simp at hi; exact .inl ⟨m, _, .inl rfl, hob, hco1 b hi⟩
          | succ i => simp at hi)
    have gd := gd (X.deep.2 ⟨s, hs, _, [hd], rfl, .inr ⟨w.heap.size, u.cells, te, 1, [co], rfl, rfl, hheap, by rw [← Array.length_toList, hus, hul]; omega, Nat.le_refl _, by unfold big; simp, {
        hl := rfl
        cl := rfl
        inj := fun i j c hi hj => by
          have := getElem?_lt hi; have := getElem?_lt hj
          simp at *; omega
        blk := fun i c hi => by
          cases i with
          | zero => simp at hi; exact hco2 c hi
          | succ i => simp at hi
        row := fun i y hy => by
          cases i with
          | succ i => simp at hy
          | zero =>
            simp at hy
            subst hy
            refine ⟨co, hd, us, rfl, rfl, hget, spot_put_set hs (spot_eT hs hr0) hr hget, fun j x hj => ?_⟩
            rw [Nat.zero_mul, Nat.zero_add, ← Array.getElem?_toList, hus]; exact hj }⟩⟩)
    refine ⟨_, _, _, _, _, h, rfl, hbel, gd, tr, ⟨by simp [sit, fresh, dropObj], fun t' x' hy => ⟨[hd], by simp [sit, updLoc]⟩⟩, hrun⟩
  rcases (g.obj m _ hob).2 with ⟨rfl, ⟨a, ha⟩, _⟩ | ⟨c, vs, T, cap, h1, h2, h3, h4, h5, h6, h7⟩
  · refine fin none (fun c hc => by cases hc) (fun c hc => by cases hc) ⟨hd, rfl, by simp, .inl ⟨rfl, a, 0, hdv.trans ha⟩⟩
  · have hclt : c < w.heap.size := (g.obj m _ hob).2.inside c (by rw [h2]; simp)
    have hch : (w.alloc (.cells u.cells te)).heap[c]? = some (.cells vs T (0, 0)) := (hbel.block c hclt).trans h3
    refine fin (some c) (fun c' hc => by cases hc; show c ∈ (loc m).bs; rw [show (loc m).bs = [c] from h2]; simp) (fun c' hc => by cases hc; exact ⟨by omega, vs, T, hch⟩) ⟨hd, rfl, h6, .inr ⟨c, 0, cap, hdv.trans h1, h5, fun i y hy => ?_⟩⟩
    obtain ⟨us', r1, r2⟩ := h7 i y hy
    refine ⟨us', plain_eT (spot_t hs).1 r1, fun j x hj => ⟨?_, by simp [Only]⟩⟩
    rw [cell_of_row _ c _ vs T (0, 0) hch, Nat.zero_add]; exact r2 j x hj
theorem deep_news {e : Ty} {s : Spot e} {ys : List (D e)} {w : World} {b : Nat} {cs : List (Option Nat)} {hs : List Value} {vs : Array Value} (h : DeepRows e s ys w b cs hs vs) (hl : ys.length * e.size ≤ vs.size) :
    ∃ news : List Value, news.length = ys.length * e.size ∧ (∀ (k : Nat) (u : Value), news[k]? = some u → vs[k]? = some u) ∧ (∀ (k : Nat) (u : Value), k < ys.length * e.size → vs[k]? = some u → news[k]? = some u) ∧ ∀ u ∈ news, u.oneCell' = true := by
  refine ⟨vs.toList.take (ys.length * e.size), by simp; omega, fun k u hk => ?_, fun k u hk hu => ?_, fun u hu => ?_⟩
  · rw [List.getElem?_take] at hk
    split at hk
    · simpa using hk
    · cases hk
  · rw [List.getElem?_take, if_pos hk]; simpa using hu
  · obtain ⟨k, hk, rfl⟩ := List.getElem_of_mem hu
    have hlen : (vs.toList.take (ys.length * e.size)).length = ys.length * e.size := by simp; omega
    have hk' : k < ys.length * e.size := by omega
    have hpos : 0 < e.size := by
      rcases Nat.eq_zero_or_pos e.size with h0 | h0
      · rw [h0] at hk'; omega
      · exact h0
    have hi : k / e.size < ys.length := Nat.div_lt_of_lt_mul (by rw [Nat.mul_comm]; exact hk')
    obtain ⟨c, hh, us, _, _, _, h1, h2⟩ := h.row _ _ (List.getElem?_eq_getElem hi)
    have hjlt : k % e.size < us.length := by rw [h1.length]; exact Nat.mod_lt _ hpos
    have := h2 _ _ (List.getElem?_eq_getElem hjlt)
    rw [show k / e.size * e.size + k % e.size = k from by rw [Nat.mul_comm]; exact Nat.div_add_mod k e.size] at this
    have h3 : (vs.toList.take (ys.length * e.size))[k]? = some us[k % e.size] := by rw [List.getElem?_take, if_pos hk']; simpa using this
    rw [List.getElem?_eq_getElem hk] at h3
    rw [Option.some.inj h3]
    exact h1.oneCell _ (List.getElem_mem hjlt)
theorem DeepRows.join {e : Ty} {s : Spot e} {xs ys : List (D e)} {w w' : World} {b1 b2 b' : Nat} {cs1 cs2 : List (Option Nat)} {hs1 hs2 : List Value} {vs1 vs2 vs' : Array Value}
    (h1 : DeepRows e s xs w b1 cs1 hs1 vs1) (h2 : DeepRows e s ys w b2 cs2 hs2 vs2)
    (hd : ∀ c : Nat, (∃ i : Nat, cs1[i]? = some (some c)) → (∃ j : Nat, cs2[j]? = some (some c)) → False)
    (hb : ∀ c : Nat, ((∃ i : Nat, cs1[i]? = some (some c)) ∨ (∃ j : Nat, cs2[j]? = some (some c))) → c ≠ b' ∧ w'.heap[c]? = w.heap[c]?)
    (hv1 : ∀ k u, k < xs.length * e.size → vs1[k]? = some u → vs'[k]? = some u)
    (hv2 : ∀ k u, k < ys.length * e.size → vs2[k]? = some u → vs'[xs.length * e.size + k]? = some u) :
    DeepRows e s (xs ++ ys) w' b' (cs1 ++ cs2) (hs1 ++ hs2) vs' := by
  have get : ∀ (i : Nat) (c : Nat), (cs1 ++ cs2)[i]? = some (some c) → (i < xs.length ∧ cs1[i]? = some (some c)) ∨ (xs.length ≤ i ∧ cs2[i - xs.length]? = some (some c)) := by
    intro i c hi
    rw [List.getElem?_append, h1.cl] at hi
    split at hi
    · rename_i hlt; exact .inl ⟨hlt, hi⟩
    · rename_i hlt; exact .inr ⟨by omega, hi⟩
  refine ⟨by simp [h1.hl, h2.hl], by simp [h1.cl, h2.cl], fun i j c hi hj => ?_, fun i c hi => ?_, fun i y hy => ?_⟩
  · rcases get i c hi with ⟨a1, a2⟩ | ⟨a1, a2⟩ <;> rcases get j c hj with ⟨b1, b2⟩ | ⟨b1, b2⟩
    · exact h1.inj i j c a2 b2
    · exact (hd c ⟨_, a2⟩ ⟨_, b2⟩).elim
    · exact (hd c ⟨_, b2⟩ ⟨_, a2⟩).elim
    · have := h2.inj _ _ c a2 b2; omega
  · rcases get i c hi with ⟨a1, a2⟩ | ⟨a1, a2⟩
    · obtain ⟨k1, k2⟩ := hb c (.inl ⟨_, a2⟩)
      rw [k2]; exact ⟨k1, (h1.blk _ c a2).2⟩
    · obtain ⟨k1, k2⟩ := hb c (.inr ⟨_, a2⟩)
      rw [k2]; exact ⟨k1, (h2.blk _ c a2).2⟩
  · rw [List.getElem?_append] at hy
    split at hy
    · rename_i hlt
      obtain ⟨c, k, us, k1, k2, k3, k4, k5⟩ := h1.row i y hy
      refine ⟨c, k, us, by rw [List.getElem?_append, h1.cl, if_pos hlt]; exact k1, by rw [List.getElem?_append, h1.hl, if_pos hlt]; exact k2, k3, k4.frame (only_cell fun b e' => (hb b (.inl ⟨i, by rw [k1, e']⟩)).2), fun j u hj => ?_⟩
      refine hv1 _ u ?_ (k5 j u hj)
      have := getElem?_lt hj
      rw [k4.length] at this
      have : (i + 1) * e.size ≤ xs.length * e.size := Nat.mul_le_mul_right _ hlt
      rw [Nat.add_mul] at this
      omega
    · rename_i hlt
      have hil := getElem?_lt hy
      obtain ⟨c, k, us, k1, k2, k3, k4, k5⟩ := h2.row _ y hy
      refine ⟨c, k, us, by rw [List.getElem?_append, h1.cl, if_neg hlt]; exact k1, by rw [List.getElem?_append, h1.hl, if_neg hlt]; exact k2, k3, k4.frame (only_cell fun b e' => (hb b (.inr ⟨_, by rw [k1, e']⟩)).2), fun j u hj => ?_⟩
      have e1 : i * e.size + j = xs.length * e.size + ((i - xs.length) * e.size + j) := by
        rw [← Nat.add_assoc, ← Nat.add_mul, show xs.length + (i - xs.length) = i from by omega]
      rw [e1]
      refine hv2 _ u ?_ (k5 j u hj)
      have := getElem?_lt hj
      rw [k4.length] at this
      have : (i - xs.length + 1) * e.size ≤ ys.length * e.size := Nat.mul_le_mul_right _ hil
      rw [Nat.add_mul] at this
      omega
theorem deepApp_sound (hok : TyOK P cx) {O : Avoid} {st : St} {loc : Nat → Loc} {w : World} (g : Good cx.eT X (sit O st loc w)) (hO : OIn O w)
    {t ty : TypeId} {n m : Nat} {K : SV → St → VC} {vs vx : Value} (hs : CR cx.eT (sit O st loc w) (.xd n .top) vs) (hx : CR cx.eT (sit O st loc w) (.xd m .top) vx) (h : (deepApp cx st t n m K).holds) :
    ∃ sv v st' loc' w', (K sv st').holds ∧ st'.env = st.env ∧ Good cx.eT X (sit O st' loc' w') ∧ Tr (sit O st loc w) (sit O st' loc' w') ∧ SVR cx.eT (sit O st' loc' w') sv v ∧
      (Builtin.append_ #[t, t] ty #[vs, vx]).run P w = .ok v w' := by
  unfold deepApp at h
  split at h
  case h_2 => exact h.elim
  rename_i e e1 xs e2 ys ht hob1 hob2
  obtain ⟨te, ti, td, hu, hf⟩ := und_slice hok ht
  obtain ⟨z, hz, hzr⟩ := hf.zero
  have hzs : z.cells.size = e.size := by
    rw [← Array.length_toList]
    exact (zero_rel (S := sit O st loc w) (cx := cx) hzr).length.symm.trans (zeroCs_length e)
  split at h
  case h_2 => exact h.elim
  rename_i hb1 hb2 hnm
  have hnm : n ≠ m := fun e' => by subst e'; rw [Nat.beq_refl] at hnm; cases hnm
  have he1 : e1 = e := by have := Ty.eq_of_beq hb1; cases this; rfl
  subst he1
  have he2 : e2 = e1 := by have := Ty.eq_of_beq hb2; cases this; rfl
  subst he2
  rw [castL_self, castL_self] at h
  obtain ⟨⟨hpos, hle⟩, h⟩ := h
  have hd1 := X.deep.1 (g.obj n _ hob1).2
  have hd2 := X.deep.1 (g.obj m _ hob2).2
  obtain ⟨_, s, hee, hsp⟩ := deep_spot hd1
  cases hee
  obtain ⟨d2⟩ := deep_at hsp hd2 hpos
  have hvx : vx = d2.top := by
    obtain ⟨hs', hl⟩ := hx.2 _ _ hob2
    have hl := d2.lv.symm.trans hl
    simp at hl
    exact hl.1.symm
  have hvx : vx = .slice (some ⟨d2.b, 0, none⟩) (List.length ys) d2.cap := hvx.trans d2.tv
  have hys : List.length ys * e2.size ≤ d2.vs.size := by rw [d2.size]; exact Nat.mul_le_mul_right _ d2.fit
  obtain ⟨news, hn1, hn2, hn3, hn4⟩ := deep_news d2.rows hys
  have hnews : ∀ j u, news[j]? = some u → w.cell? ((⟨d2.b, 0, none⟩ : Addr).add j) = some u := fun j u hj => by
    rw [Addr.add_lit, Nat.zero_add, cell_of_row w d2.b _ d2.vs d2.T (0, 0) d2.heap]; exact hn2 j u hj
  have hbytes : (List.length xs + List.length ys) * ti.bytes ≤ 140737488355328 := by have := Nat.mul_le_mul hle hf.bytes; omega
  have hm2 : ∀ c : Nat, (∃ j : Nat, d2.cs[j]? = some (some c)) → c ∈ (loc m).bs := fun c hc => by
    rw [show (loc m).bs = _ from d2.lb]; exact List.mem_cons_of_mem _ (mem_filterMap_id.2 hc)
  have hlo : ∀ k oc', (k = n ∨ k = m) → look st.objs k = some oc' → oc'.lo = 0 := by
    intro k oc' hk hl
    rcases hk with rfl | rfl
    · rw [hob1] at hl; cases hl; rfl
    · rw [hob2] at hl; cases hl; rfl
  have fin : ∀ (w' : World) (b' cap' b1 : Nat) (vs' vs1 : Array Value) (T' : TypeId) (cs1 : List (Option Nat)) (hs1 : List Value), DeepRows e2 s xs w b1 cs1 hs1 vs1 →
      w'.os = w.os → w'.output = w.output → w.heap.size ≤ w'.heap.size → (∀ c : Nat, (∃ i : Nat, cs1[i]? = some (some c)) → c ∈ (loc n).bs) →
      ((b' ∈ (loc n).bs ∧ ∀ c : Nat, (∃ i : Nat, cs1[i]? = some (some c)) → c ≠ b') ∨ w.heap.size ≤ b') → (∀ b, b < w.heap.size → b ≠ b' → w'.heap[b]? = w.heap[b]?) →
      w'.heap[b']? = some (.cells vs' T' (0, 0)) → vs'.size = cap' * e2.size → List.length xs + List.length ys ≤ cap' →
      (∀ k u, k < List.length xs * e2.size → vs1[k]? = some u → vs'[k]? = some u) → (∀ k u, k < List.length ys * e2.size → d2.vs[k]? = some u → vs'[List.length xs * e2.size + k]? = some u) →
      (Builtin.append_ #[t, t] ty #[vs, vx]).run P w = .ok (.slice (some ⟨b', 0, none⟩) (List.length xs + List.length ys) cap') w' →
      ∃ sv v st' loc' w', (K sv st').holds ∧ st'.env = st.env ∧ Good cx.eT X (sit O st' loc' w') ∧ Tr (sit O st loc w) (sit O st' loc' w') ∧ SVR cx.eT (sit O st' loc' w') sv v ∧
        (Builtin.append_ #[t, t] ty #[vs, vx]).run P w = .ok v w' := by
    intro w' b' cap' b1 vs' vs1 T' cs1 hs1 hrows hos hout hsize hin1 hb' hoth hheap' hsz' hcap' hv1 hv2 hrun
    have hin1' : ∀ c : Nat, (∃ i : Nat, cs1[i]? = some (some c)) → c < w.heap.size := fun c hc => (g.obj n _ hob1).2.inside c (hin1 c hc)
    have hin2' : ∀ c : Nat, (∃ i : Nat, d2.cs[i]? = some (some c)) → c < w.heap.size := fun c hc => (g.obj m _ hob2).2.inside c (hm2 c hc)
    have hne : ∀ c : Nat, ((∃ i : Nat, cs1[i]? = some (some c)) ∨ (∃ j : Nat, d2.cs[j]? = some (some c))) → c ≠ b' ∧ w'.heap[c]? = w.heap[c]? := by
      intro c hc
      have hclt : c < w.heap.size := hc.elim (hin1' c) (hin2' c)
      have hcb : c ≠ b' := by
        rcases hb' with ⟨k1, k2⟩ | k1
        · rcases hc with hc | hc
          · exact k2 c hc
          · intro e'
            subst e'
            exact hnm (g.apart n m _ _ c hob1 hob2 k1 (hm2 c hc))
        · omega
      exact ⟨hcb, hoth c hclt hcb⟩
    have hj := hrows.join d2.rows (w' := w') (b' := b') (vs' := vs') (fun c h1 h2 => hnm (g.apart n m _ _ c hob1 hob2 (hin1 c h1) (hm2 c h2))) hne hv1 hv2
    obtain ⟨tr, gd⟩ := merge_step (w' := w') (oc := .ext 0 (.slice e2) (xs ++ ys)) (l := ⟨.tuple (Value.slice (some ⟨b', 0, none⟩) (List.length xs + List.length ys) cap' :: (hs1 ++ d2.hs)).toArray, b' :: (cs1 ++ d2.cs).filterMap id⟩) g hO n m hos hout hsize hlo
      (fun b hlt hb => by
        refine hoth b hlt fun e' => ?_
        subst e'
        rcases hb' with ⟨k1, _⟩ | k1
        · exact hb n _ (.inl rfl) hob1 k1
        · omega)
      (fun b hbm => by
        rcases List.mem_cons.1 hbm with rfl | hbm
        · rcases hb' with ⟨k1, _⟩ | k1
          · exact .inl ⟨n, _, .inl rfl, hob1, k1⟩
          · exact .inr k1
        · rw [List.filterMap_append] at hbm
          rcases List.mem_append.1 hbm with hbm | hbm
          · exact .inl ⟨n, _, .inl rfl, hob1, hin1 b (mem_filterMap_id.1 hbm)⟩
          · exact .inl ⟨m, _, .inr rfl, hob2, hm2 b (mem_filterMap_id.1 hbm)⟩)
    have gd := gd (X.deep.2 ⟨s, hsp, _, _, rfl, .inr ⟨b', vs', T', cap', cs1 ++ d2.cs, by rw [List.length_append], rfl, hheap', hsz', by rw [List.length_append]; exact hcap', by rw [List.length_append]; unfold big; omega, hj⟩⟩)
    exact ⟨_, _, _, _, _, h, rfl, gd, tr, ⟨by simp [sit, fresh, dropObj], fun t' x' hy => ⟨hs1 ++ d2.hs, by simp [sit, updLoc]⟩⟩, hrun⟩
  subst hvx
  obtain ⟨s', hsp', top, hs', hl1, hcase⟩ := hd1
  rw [hsp] at hsp'
  cases hsp'
  have hvs : vs = top := by
    obtain ⟨hs'', hl⟩ := hs.2 _ _ hob1
    have hl := hl1.symm.trans hl
    simp at hl
    exact hl.1.symm
  have hbel : ∀ (cells : Array Value), Below w.heap.size w (w.drew.alloc (.cells cells te)) := fun _ => (Below.refl _ w).drew.alloc (Nat.le_refl _) _
  rcases hcase with ⟨hx0, hh0, ⟨a0, ha0⟩, hbs0⟩ | ⟨b1, vs1, T1, cap1, cs1, ht1, hbs1, hheap1, hsz1, hfit1, hbig1, hrows1⟩
  · have hvs0 : vs = .slice a0 0 0 := hvs.trans ha0
    subst hvs0
    subst hx0
    have hrun := run_append_emp (P := P) (w := w) (t := t) (ty := ty) hu hf.info hz a0 (a := ⟨d2.b, 0, none⟩) (n := List.length ys) (c := d2.cap) (news := news) (by rw [hn1, hf.size]) hnews hpos (by simp at hle; omega)
      (by have := hbytes; simp only [List.length_nil, Nat.zero_add] at this; omega)
    have hc' : List.length ys ≤ grownCap w (List.length ys) 0 te := grownCap_ge w _ _ _
    have hB := hbel (news.toArray ++ Builtin.zeroCells z.cells (grownCap w (List.length ys) 0 te - List.length ys))
    refine fin _ w.heap.size (grownCap w (List.length ys) 0 te) 0 _ #[] te [] [] ⟨rfl, rfl, fun i j c hi => by simp at hi, fun i c hi => by simp at hi, fun i y hy => by simp at hy⟩ hB.os hB.output hB.size (fun c ⟨i, hi⟩ => by simp at hi)
      (.inr (Nat.le_refl _)) (fun b hlt _ => hB.block b hlt) (heap_alloc_new w.drew _) ?_ (by simpa using hc') (fun k u hk => by simp at hk) (fun k u hk hu => ?_) (by rw [hrun]; simp)
    · simp only [Array.size_append, List.size_toArray, size_zeroCells, hzs, hn1, ← Nat.add_mul]
      congr 1; omega
    · have := hn3 k u hk hu
      simp only [List.length_nil, Nat.zero_mul, Nat.zero_add]
      rw [Array.getElem?_append, if_pos (by simpa using getElem?_lt this)]
      simpa using this
  · have hvs0 : vs = .slice (some ⟨b1, 0, none⟩) (List.length xs) cap1 := hvs.trans ht1
    subst hvs0
    have hxs : List.length xs * e2.size ≤ vs1.size := by rw [hsz1]; exact Nat.mul_le_mul_right _ hfit1
    obtain ⟨olds, ho1, ho2, ho3, _⟩ := deep_news hrows1 hxs
    have hmem1 : ∀ c : Nat, (∃ i : Nat, cs1[i]? = some (some c)) → c ∈ (loc n).bs := fun c hc => by
      rw [show (loc n).bs = _ from hbs1]; exact List.mem_cons_of_mem _ (mem_filterMap_id.2 hc)
    by_cases hroom : List.length xs + List.length ys ≤ cap1
    · have hmul : (List.length xs + List.length ys) * e2.size ≤ cap1 * e2.size := Nat.mul_le_mul_right _ hroom
      rw [Nat.add_mul] at hmul
      have hfit : List.length xs * ti.size + news.length ≤ vs1.size := by rw [hf.size, hsz1, hn1]; exact hmul
      have hrun := run_append_in (P := P) (ty := ty) hu hf.info hheap1 (a := ⟨d2.b, 0, none⟩) (c := d2.cap) (by rw [hn1, hf.size]) hnews hn4 hroom hfit
      rw [hf.size] at hrun hfit
      generalize hcur' : (vs1.toList.take (List.length xs * e2.size) ++ news ++ vs1.toList.drop (List.length xs * e2.size + news.length)).toArray = cur' at hrun
      have hget : ∀ k : Nat, cur'[k]? = if k < List.length xs * e2.size then vs1[k]? else if k < List.length xs * e2.size + news.length then news[k - List.length xs * e2.size]? else vs1[k]? := by
        intro k
        rw [← hcur', List.getElem?_toArray, splice_get _ _ _ _ (by simpa using hfit)]
        simp
      have hsz' : cur'.size = vs1.size := by
        rw [← hcur']; simp only [List.size_toArray, List.length_append, List.length_take, List.length_drop, Array.length_toList]; omega
      refine fin (w.setRow b1 cur') b1 cap1 b1 cur' vs1 T1 cs1 hs' hrows1 rfl rfl (by simp [World.setRow]) hmem1 (.inl ⟨by rw [show (loc n).bs = _ from hbs1]; simp, fun c ⟨i, hi⟩ => (hrows1.blk i c hi).1⟩)
        (fun b _ hne => setRow_other w b1 b cur' (fun e' => hne e')) (setRow_heap w b1 vs1 cur' T1 (0, 0) hheap1) (by rw [hsz', hsz1]) hroom (fun k u hk hu => ?_) (fun k u hk hu => ?_) hrun
      · rw [hget, if_pos hk]; exact hu
      · rw [hget, if_neg (by omega), if_pos (by rw [hn1]; omega), Nat.add_sub_cancel_left]; exact hn3 k u hk hu
    · have hrun := run_append_grow (P := P) w t ty te ti z hu hf.info hz ⟨b1, 0, none⟩ (List.length xs) cap1 olds (by rw [ho1, hf.size])
        (fun j u hj => by rw [Addr.add_lit, Nat.zero_add, cell_of_row w b1 _ vs1 T1 (0, 0) hheap1]; exact ho2 j u hj)
        ⟨d2.b, 0, none⟩ (List.length ys) d2.cap news (by rw [hn1, hf.size]) hnews (by omega) (by omega) (growslice_fits (by omega) hbytes)
      have hc' : List.length xs + List.length ys ≤ grownCap w (List.length xs + List.length ys) cap1 te := grownCap_ge w _ _ _
      have hB := hbel (olds.toArray ++ news.toArray ++ Builtin.zeroCells z.cells (grownCap w (List.length xs + List.length ys) cap1 te - (List.length xs + List.length ys)))
      refine fin _ w.heap.size (grownCap w (List.length xs + List.length ys) cap1 te) b1 _ vs1 te cs1 hs' hrows1 hB.os hB.output hB.size hmem1 (.inr (Nat.le_refl _)) (fun b hlt _ => hB.block b hlt) (heap_alloc_new w.drew _) ?_ hc'
        (fun k u hk hu => ?_) (fun k u hk hu => ?_) hrun
      · simp only [Array.size_append, List.size_toArray, size_zeroCells, hzs, hn1, ho1, ← Nat.add_mul]
        congr 1; omega
      · have := ho3 k u hk hu
        rw [Array.getElem?_append, if_pos (by simp; have := getElem?_lt this; omega), Array.getElem?_append, if_pos (by simpa using getElem?_lt this)]
        simpa using this
      · have := hn3 k u hk hu
        have hlt := getElem?_lt this
        rw [Array.getElem?_append, if_pos (by simp [ho1]; omega), Array.getElem?_append, if_neg (by simp [ho1])]
        simp only [List.size_toArray, ho1, Nat.add_sub_cancel_left]
        simpa using this
theorem set_step' {O : Avoid} {st : St} {loc : Nat → Loc} {w : World} {n b : Nat} {oc oc' : OC} {cs' : Array Value} (g : Good cx.eT X (sit O st loc w)) (hO : OIn O w)
    (hob : look st.objs n = some oc) (hbs : b ∈ (loc n).bs) (hk : SameKind (loc n) (loc n) oc oc') (h0 : oc.lo = 0) (h0' : oc'.lo = 0) :
    Tr (sit O st loc w) (sit O (setObj st n oc') loc (w.setRow b cs')) ∧
      (OR cx.eT X (sit O (setObj st n oc') loc (w.setRow b cs')) (loc n) oc' → Good cx.eT X (sit O (setObj st n oc') loc (w.setRow b cs'))) := by
  have hsz : (w.setRow b cs').heap.size = w.heap.size := by simp [World.setRow]
  refine step_set (S := sit O st loc w) (S' := sit O (setObj st n oc') loc (w.setRow b cs')) (n := n) (oc := oc) (oc' := oc') (l' := loc n) g rfl hO hob
    (fun m => look_set st n m oc') (fun m => ?_) rfl (fun _ => locEq rfl) hk rfl rfl (by simp [sit, hsz]) ?_ ?_ ?_
  · show loc m = _
    by_cases e : n = m
    · rw [if_pos e, e]
    · rw [if_neg e]; rfl
  · intro b' _ hb'
    exact setRow_other w b b' cs' (fun e => hb' (by simp only [sit]; rw [e]; exact hbs))
  · intro b' o v _ ho; rw [h0] at ho; omega
  · intro b' hb'; exact .inl ⟨hb', by omega⟩
theorem deepStore_sound {O : Avoid} {st : St} {loc : Nat → Loc} {w : World} (g : Good cx.eT X (sit O st loc w)) (hO : OIn O w)
    {t : TypeId} {ty : Ty} {ti : TypeInfo} {td : TypeDesc} (hf : Fit P t ty ti td) {n i j : Nat} {v : SV0} {K : SV → St → VC} {vx vv : Value} (hx : CR cx.eT (sit O st loc w) (.xd n (.cell i j)) vx) (hv : SV0R cx.eT (sit O st loc w) v vv)
    (h : (deepStore st n i j ty v K).holds) :
    ∃ st' loc' w', (K (.s (.one .any)) st').holds ∧ st'.env = st.env ∧ Good cx.eT X (sit O st' loc' w') ∧ Tr (sit O st loc w) (sit O st' loc' w') ∧ (Instr.storeAt t vx vv).run P w = .ok () w' := by
  unfold deepStore at h
  split at h
  case h_2 => exact h.elim
  rename_i e xs hob
  split at h
  case h_2 => exact h.elim
  rename_i s hsp
  split at h
  case h_2 => exact h.elim
  rename_i z hz hb
  have := Ty.eq_of_beq hb
  subst this
  obtain ⟨⟨hi, hj⟩, h⟩ := h
  obtain ⟨hpl, hsz1⟩ := spot_t hsp
  have hgi := List.getElem?_eq_getElem hi
  rw [nth_eq hgi] at h hj
  have hd := X.deep.1 (g.obj n _ hob).2
  obtain ⟨d⟩ := deep_at hsp hd (by omega)
  obtain ⟨top, hs', b, o, k0, c0, hl, hget, hvx⟩ := hx.2 _ _ hob
  have hl := d.lv.symm.trans hl
  simp at hl
  obtain ⟨_, rfl⟩ := hl
  obtain ⟨c, hh, us, k1, k2, k3, k4, k5⟩ := d.rows.row i _ hgi
  rw [hget] at k2
  cases k2
  have hsl := spot_get hsp k4 k3
  obtain ⟨v1, hv1, hbig, hsl2⟩ := hsl
  simp at hv1
  subst hv1
  rcases hsl2 with ⟨h0, _⟩ | ⟨b2, o2, cap, hv2, hcap, hrow⟩
  · rw [h0] at hj; simp at hj
  simp at hv2
  obtain ⟨⟨rfl, rfl⟩, rfl, rfl⟩ := hv2
  have hgj := List.getElem?_eq_getElem hj
  obtain ⟨u1, hu1, hr1⟩ := hrow j _ hgj
  rw [hsz1, Nat.mul_one] at hr1
  have hu1l : u1.length = 1 := by rw [hu1.length, hsz1]
  have hcb : c = some b := by
    match u1, hu1l with
    | [x], _ => have := (hr1 0 x rfl).2; unfold Only at this; exact (Classical.not_not.1 this).symm
  subst hcb
  obtain ⟨hbb, vc, Tc, hheap⟩ := d.rows.blk i b k1
  have hvr := VR.cells (asD0_rel hz hv)
  have hul : vv.cells.toList.length = 1 := by rw [hvr.length, hsz1]
  have cellAt : ∀ i' y, (s.get xs[i])[i']? = some y → ∃ us', R 0 s.t y (Only (some b)) w us' ∧ us'.length = 1 ∧ ∀ u, us'[0]? = some u → vc[o + i']? = some u := by
    intro i' y hy
    obtain ⟨us', r1, r2⟩ := hrow i' y hy
    refine ⟨us', r1, by rw [r1.length, hsz1], fun u hu => ?_⟩
    have : w.cell? ⟨b, o + i' * s.t.size + 0, none⟩ = some u := (r2 0 u hu).1
    rw [hsz1, Nat.mul_one, Nat.add_zero, cell_of_row w b _ vc Tc (0, 0) hheap] at this
    exact this
  have hfit : o + j + vv.cells.toList.length ≤ vc.size := by
    obtain ⟨us', _, r2, r3⟩ := cellAt j _ hgj
    have := (Array.getElem?_eq_some_iff.1 (r3 _ (List.getElem?_eq_getElem (show 0 < us'.length by omega)))).1
    omega
  have hbs : b ∈ (loc n).bs := by rw [show (loc n).bs = _ from d.lb]; exact List.mem_cons_of_mem _ (mem_filterMap_id.2 ⟨i, k1⟩)
  subst hvx
  have hrun := run_store hf (b := b) (o := o + j) rfl hvr.length hvr.oneCell hheap hfit
  generalize hvc' : (vc.toList.take (o + j) ++ vv.cells.toList ++ vc.toList.drop (o + j + vv.cells.toList.length)).toArray = vc' at hrun
  have hget' : ∀ k : Nat, vc'[k]? = if k < o + j then vc[k]? else if k < o + j + vv.cells.toList.length then vv.cells.toList[k - (o + j)]? else vc[k]? := by
    intro k
    rw [← hvc', List.getElem?_toArray, splice_get _ _ _ _ (by simpa using hfit)]
    simp
  have hheap' := setRow_heap w b vc vc' Tc (0, 0) hheap
  have hst := set_step' (oc' := .ext 0 (.slice e) (List.set xs i (s.put xs[i] ((s.get xs[i]).set j z)))) (cs' := vc') g hO hob hbs (by simp [SameKind]) rfl rfl
  have hother : ∀ b', b' ≠ b → (w.setRow b vc').heap[b']? = w.heap[b']? := fun b' hne => setRow_other w b b' vc' hne
  have hnewrow : R 0 (.slice s.t) ((s.get xs[i]).set j z) (Only (some b)) (w.setRow b vc') [.slice (some ⟨b, o, none⟩) (s.get xs[i]).length c0] := by
    refine ⟨_, rfl, by rw [List.length_set]; exact hbig, .inr ⟨b, o, c0, by rw [List.length_set], by rw [List.length_set]; exact hcap, fun i' y hy => ?_⟩⟩
    by_cases e' : j = i'
    · subst e'
      rw [List.getElem?_set_self hj] at hy
      cases hy
      refine ⟨vv.cells.toList, plain_eT hpl hvr, fun q u hq => ⟨?_, by simp [Only]⟩⟩
      have hq' := getElem?_lt hq
      rw [hsz1, Nat.mul_one, cell_of_row _ b _ vc' Tc (0, 0) hheap', hget', if_neg (by omega), if_pos (by omega), show o + j + q - (o + j) = q from by omega]
      exact hq
    · rw [List.getElem?_set_ne e'] at hy
      obtain ⟨us', r1, r2, r3⟩ := cellAt i' y hy
      refine ⟨us', plain_eT hpl r1, fun q u hq => ⟨?_, by simp [Only]⟩⟩
      have hq' := getElem?_lt hq
      have hq0 : q = 0 := by omega
      subst hq0
      rw [hsz1, Nat.mul_one, Nat.add_zero, cell_of_row _ b _ vc' Tc (0, 0) hheap', hget']
      rw [hul]
      have := r3 u hq
      by_cases h1 : o + i' < o + j
      · rw [if_pos h1]; exact this
      · rw [if_neg h1, if_neg (by omega)]; exact this
  refine ⟨_, _, _, h, rfl, hst.2 (X.deep.2 ⟨s, hsp, d.top, d.hs, d.lv, .inr ⟨d.b, d.vs, d.T, d.cap, d.cs, by rw [List.length_set]; exact d.tv, d.lb, ?_, d.size, by rw [List.length_set]; exact d.fit, by rw [List.length_set]; exact d.big, ?_⟩⟩), hst.1, hrun⟩
  · exact (hother d.b (fun e' => hbb e'.symm)).trans d.heap
  · refine ⟨by rw [List.length_set]; exact d.rows.hl, by rw [List.length_set]; exact d.rows.cl, d.rows.inj, fun i' c' hi' => ?_, fun i' y hy => ?_⟩
    · refine ⟨(d.rows.blk i' c' hi').1, ?_⟩
      by_cases e' : c' = b
      · subst e'; exact ⟨vc', Tc, hheap'⟩
      · obtain ⟨vs', T', hh'⟩ := (d.rows.blk i' c' hi').2
        exact ⟨vs', T', (hother c' e').trans hh'⟩
    · by_cases e' : i = i'
      · subst e'
        rw [List.getElem?_set_self hi] at hy
        cases hy
        exact ⟨some b, _, us, k1, hget, k3, spot_put hsp k4 k3 hnewrow, k5⟩
      · rw [List.getElem?_set_ne e'] at hy
        obtain ⟨c', h', us', q1, q2, q3, q4, q5⟩ := d.rows.row i' y hy
        refine ⟨c', h', us', q1, q2, q3, q4.frame (only_cell fun b' eb => hother b' fun eb' => ?_), q5⟩
        subst eb'
        exact e' (d.rows.inj i i' b' k1 (by rw [q1, eb]))
end
end Go.Vg

namespace Go.Vg
open Go.RowKit
def hasE (e : Ty) : List (D (mapE e)) → List UInt8 → Bool
  | [], _ => false
  | y :: r, k => if y.1 = k then true else hasE e r k
def getE (e : Ty) : List (D (mapE e)) → List UInt8 → D e
  | [], _ => zeroD e
  | y :: r, k => if y.1 = k then y.2.1 else getE e r k
def putE (e : Ty) : List (D (mapE e)) → List UInt8 → D e → Int → List (D (mapE e))
  | [], k, v, c => [(k, v, c, ())]
  | y :: r, k, v, c => if y.1 = k then (k, v, y.2.2) :: r else y :: putE e r k v c
def delE (e : Ty) : List (D (mapE e)) → List UInt8 → List (D (mapE e))
  | [], _ => []
  | y :: r, k => if y.1 = k then r else y :: delE e r k
def clkE (e : Ty) (es : List (D (mapE e))) (k : List UInt8) (c : Int) : Int := if hasE e es k = true then c else c + 1
def atE (e : Ty) : List (D (mapE e)) → Int → D (mapE e)
  | [], _ => zeroD (mapE e)
  | y :: r, s => if y.2.2.1 = s then y else atE e r s
def bornE (e : Ty) : List (D (mapE e)) → Int → Bool
  | [], _ => false
  | y :: r, s => if y.2.2.1 = s then true else bornE e r s
def leftE (e : Ty) (es : List (D (mapE e))) (seen : List Int) : List (D (mapE e)) := es.filter fun y => !(seen.contains y.2.2.1)
def lastI (l : List Int) : Int := l.getLastD 0
def mapVC1 (cx : Cx) (st : St) (t : TypeId) (c : C) (K : (e : Ty) → Nat → D (mapT e) → VC) : VC :=
  match c with
  | .xref n => match look cx.mps t with
    | some (_, te) => match look cx.τ te, look st.objs n with
      | some e, some (.ext 1 t' x) => match h : Ty.beq t' (mapT e), e.one with
        | true, false => K e n (castD h x)
        | _, _ => .ff
      | _, _ => .ff
    | none => .ff
  | _ => .ff
def unMap : Ty → Option Ty
  | .prod (.slice (.prod _ (.prod e _))) _ => some e
  | _ => none
def iterVC (st : St) (c : C) (K : (e : Ty) → Nat → List C → List Int → Int → D (mapT e) → VC) : VC :=
  match c with
  | .xref k => match look st.objs k with
    | some (.iter [.xref n] seen cl) => match look st.objs n with
      | some (.ext 1 t' x) => match unMap t' with
        | some e => match h : Ty.beq t' (mapT e) with
          | true => K e k [.xref n] seen cl (castD h x)
          | false => .ff
        | none => .ff
      | _ => .ff
    | _ => .ff
  | _ => .ff
def nextVC (st : St) (c : C) (K : SV → St → VC) : VC :=
  iterVC st c fun e k cs seen cl d => .and (d.2.1 = cl) (.both
    (.imp (leftE e d.1 seen = []) (K (.tup [.one (.lit false)]) st))
    (.all (D (mapE e)) fun y => .imp (y ∈ leftE e d.1 seen) (K (.tup [.one (.lit true), .one (.d .str y.1), .one (.d e y.2.1)]) (setObj st k (.iter cs (seen ++ [y.2.2.1]) cl)))))
def mapVC (cx : Cx) (st : St) (o : Oper) (K : SV → St → VC) : Option VC :=
  match o.op with
  | .makeMap t none => some (match look cx.mps t with
    | some (_, te) => match look cx.τ te with
      | some e => match e.scal with
        | true => K (.s (.one (.xref st.next))) (fresh st (.ext 1 (mapT e) ([], 0, ())))
        | false => .ff
      | none => .ff
    | none => .ff)
  | .lookup t m x true => some (mapVC1 cx st t (ev1 st.env m) fun e _ d => match asD .str (ev1 st.env x) with
    | some k => K (.tup [.one (.d e (getE e d.1 k)), .one (.d .bool (hasE e d.1 k))]) st
    | none => .ff)
  | .mapUpdate t m x v => some (mapVC1 cx st t (ev1 st.env m) fun e n d => match asD .str (ev1 st.env x), asD0 e (ev0 st.env v) with
    | some k, some y => .and (d.1.length < big) (K (.s (.one .any)) (setObj st n (.ext 1 (mapT e) (putE e d.1 k y d.2.1, clkE e d.1 k d.2.1, ()))))
    | _, _ => .ff)
  | .range t m => some (mapVC1 cx st t (ev1 st.env m) fun _ n d => K (.s (.one (.xref st.next))) (fresh st (.iter [.xref n] [] d.2.1)))
  | .next it false => some (nextVC st (ev1 st.env it) K)
  | .entry it => some (iterVC st (ev1 st.env it) fun e _ _ seen cl d => .and (d.2.1 = cl) (.and (seen ≠ []) (.and (bornE e d.1 (lastI seen) = true)
      (K (.tup [.one (.d .str (atE e d.1 (lastI seen)).1), .one (.d e (atE e d.1 (lastI seen)).2.1)]) st))))
  | .call c => match c.callee with
    | .builtin .delete => match c.args.toList, c.argTypes.toList with
      | [m, x], t :: _ => some (mapVC1 cx st t (ev1 st.env m) fun e n d => match asD .str (ev1 st.env x) with
        | some k => K (.s (.one .any)) (setObj st n (.ext 1 (mapT e) (delE e d.1 k, d.2.1, ())))
        | none => .ff)
      | _, _ => some .ff
    | .builtin .len => match c.args.toList, c.argTypes.toList with
      | [x], [t] => match look cx.mps t with
        | some _ => some (mapVC1 cx st t (ev1 st.env x) fun _ _ d => K (.s (.one (.d (.int .i64) (d.1.length : Int)))) st)
        | none => none
      | _, _ => none
    | _ => none
  | _ => none
theorem scal_vr {e : Ty} {e1 e2 : TypeId} {x : D e} {A A' : Avoid} {w w' : World} {v : Value} (hs : e.scal = true) (h : VR e1 e x A w v) : VR e2 e x A' w' v := by
  unfold VR at h ⊢
  by_cases c : e.one = true
  · rw [if_pos c] at h ⊢; exact plain_eT hs h
  · rw [if_neg c] at h ⊢; obtain ⟨cs, h1, h2⟩ := h; exact ⟨cs, h1, plain_eT hs h2⟩
theorem EntR.to {e : Ty} (hs : e.scal = true) {y : D (mapE e)} {m : MapEntry} {w w' : World} (h : EntR e y m w) : EntR e y m w' := ⟨h.key, scal_vr hs h.val, h.born⟩
theorem EntsR.to {e : Ty} (hs : e.scal = true) {w w' : World} : ∀ {x : List (D (mapE e))} {ms : List MapEntry}, EntsR e x ms w → EntsR e x ms w'
  | [], [], _ => trivial
  | _ :: _, _ :: _, ⟨h1, h2⟩ => ⟨h1.to hs, h2.to hs⟩
  | [], _ :: _, h => h.elim
  | _ :: _, [], h => h.elim
theorem EntsR.len {e : Ty} {w : World} : ∀ {x : List (D (mapE e))} {ms : List MapEntry}, EntsR e x ms w → x.length = ms.length
  | [], [], _ => rfl
  | _ :: _, _ :: _, ⟨_, h2⟩ => by simp [h2.len]
  | [], _ :: _, h => h.elim
  | _ :: _, [], h => h.elim
theorem MapR.inside {t : Ty} {x : D t} {l : Loc} {w : World} (h : MapR t x l w) : ∀ b ∈ l.bs, b < w.heap.size := by
  obtain ⟨e, _, b, es, clk, hm⟩ := h
  intro b' hb'
  rw [hm.bs] at hb'
  simp at hb'
  subst hb'
  exact (Array.getElem?_eq_some_iff.1 hm.heap).1
theorem MapR.frame {t : Ty} {x : D t} {l : Loc} {w w' : World} (h : MapR t x l w) (hb : ∀ b ∈ l.bs, w'.heap[b]? = w.heap[b]?) : MapR t x l w' := by
  obtain ⟨e, ht, b, es, clk, hm⟩ := h
  exact ⟨e, ht, b, es, clk, hm.scal, hm.lv, hm.bs, by rw [hb b (by rw [hm.bs]; simp)]; exact hm.heap, hm.clk, hm.ents.to hm.scal, hm.big, hm.old⟩
theorem key_beq (a b : List UInt8) : ((⟨a.toArray⟩ : ByteArray) == ⟨b.toArray⟩) = decide (a = b) := by
  rw [Bool.eq_iff_iff, Go.MapKept.bytes_beq]
  simp
theorem find_ents {e : Ty} {w : World} {k : List UInt8} (hk : k.length ≤ big) : ∀ {x : List (D (mapE e))} {ms : List MapEntry} (i : Nat), EntsR e x ms w →
    (hasE e x k = false ∧ getE e x k = zeroD e ∧ Instr.findNow .string (.string ⟨k.toArray⟩) ms i = some none ∧ (∀ v c, putE e x k v c = x ++ [(k, v, c, ())]) ∧ delE e x k = x) ∨
    (hasE e x k = true ∧ ∃ j m, ms[j]? = some m ∧ Instr.findNow .string (.string ⟨k.toArray⟩) ms i = some (some (i + j, m.val)) ∧ VR 0 e (getE e x k) NoA w m.val ∧ m.key = .string ⟨k.toArray⟩ ∧
      (∀ v u c, VR 0 e v NoA w u → EntsR e (putE e x k v c) (ms.set j { m with key := .string ⟨k.toArray⟩, val := u }) w) ∧ (∀ v c, (putE e x k v c).length = x.length) ∧ (∀ v c, ∀ y ∈ putE e x k v c, ∃ y' ∈ x, y.2.2.1 = y'.2.2.1) ∧
      EntsR e (delE e x k) (ms.eraseIdx j) w ∧ (∀ y ∈ delE e x k, y ∈ x) ∧ (delE e x k).length ≤ x.length)
  | [], [], i, _ => .inl ⟨rfl, rfl, rfl, fun _ _ => rfl, rfl⟩
  | y :: r, m :: ms, i, ⟨h1, h2⟩ => by
    have hkey : Instr.sameNow .string (.string ⟨k.toArray⟩) m.key = some (decide (y.1 = k)) := by
      rw [h1.key.1]
      show some _ = _
      rw [key_beq]
      congr 1
      rw [Bool.eq_iff_iff]; simp [eq_comm]
    by_cases c : y.1 = k
    · right
      refine ⟨by simp [hasE, c], 0, m, rfl, by simp [Instr.findNow, hkey, c], by simp [getE, c]; exact h1.val, by rw [h1.key.1, c], fun v u cc hv => ?_, fun v cc => ?_, fun v cc y' hy' => ?_, ?_, fun y' hy' => ?_, ?_⟩
      · rw [putE, if_pos c]; exact ⟨⟨⟨rfl, hk⟩, hv, h1.born⟩, h2⟩
      · rw [putE, if_pos c]; rfl
      · rw [putE, if_pos c] at hy'
        rcases List.mem_cons.1 hy' with rfl | hy'
        · exact ⟨y, by simp, rfl⟩
        · exact ⟨y', by simp [hy'], rfl⟩
      · rw [delE, if_pos c]; exact h2
      · rw [delE, if_pos c] at hy'; simp [hy']
      · rw [delE, if_pos c]; simp
    · rcases find_ents hk (i + 1) h2 with ⟨k1, k2, k3, k4, k5⟩ | ⟨k1, j, m', k2, k3, k4, k5, k6, k7, k8, k9, k10, k11⟩
      · left
        refine ⟨by simp [hasE, c, k1], by simp [getE, c, k2], by simp [Instr.findNow, hkey, c, k3], fun v cc => by simp [putE, c, k4], by simp [delE, c, k5]⟩
      · right
        refine ⟨by simp [hasE, c, k1], j + 1, m', by simpa using k2, by simp [Instr.findNow, hkey, c, k3]; omega, by simpa [getE, c] using k4, k5, fun v u cc hv => ?_, fun v cc => ?_, fun v cc y' hy' => ?_, ?_, fun y' hy' => ?_, ?_⟩
        · rw [putE, if_neg c]; exact ⟨h1, k6 v u cc hv⟩
        · rw [putE, if_neg c]; simp [k7]
        · rw [putE, if_neg c] at hy'
          rcases List.mem_cons.1 hy' with rfl | hy'
          · exact ⟨y', by simp, rfl⟩
          · obtain ⟨y2, h3, h4⟩ := k8 v cc y' hy'
            exact ⟨y2, by simp [h3], h4⟩
        · rw [delE, if_neg c]; exact ⟨h1, k9⟩
        · rw [delE, if_neg c] at hy'
          rcases List.mem_cons.1 hy' with rfl | hy'
          · simp
          · simp [k10 y' hy']
        · rw [delE, if_neg c]; simp; omega
  | [], _ :: _, _, h => h.elim
  | _ :: _, [], _, h => h.elim
theorem EntsR.snoc {e : Ty} {w : World} {y : D (mapE e)} {m : MapEntry} (hy : EntR e y m w) : ∀ {x : List (D (mapE e))} {ms : List MapEntry}, EntsR e x ms w → EntsR e (x ++ [y]) (ms ++ [m]) w
  | [], [], _ => ⟨hy, trivial⟩
  | _ :: _, _ :: _, ⟨h1, h2⟩ => ⟨h1, h2.snoc hy⟩
  | [], _ :: _, h => h.elim
  | _ :: _, [], h => h.elim
section
variable {X : Ext} {P : Program} {cx : Cx}
theorem set_step2 {O : Avoid} {st : St} {loc : Nat → Loc} {w w' : World} {n b : Nat} {oc oc' : OC} (g : Good cx.eT X (sit O st loc w)) (hO : OIn O w)
    (hob : look st.objs n = some oc) (hbs : (loc n).bs = [b]) (hk : SameKind (loc n) (loc n) oc oc') (h0 : oc.lo = 0) (h0' : oc'.lo = 0) (hos : w'.os = w.os) (hout : w'.output = w.output) (hsz : w'.heap.size = w.heap.size)
    (hoth : ∀ b', b' ≠ b → w'.heap[b']? = w.heap[b']?) :
    Tr (sit O st loc w) (sit O (setObj st n oc') loc w') ∧
      (OR cx.eT X (sit O (setObj st n oc') loc w') (loc n) oc' → Good cx.eT X (sit O (setObj st n oc') loc w')) := by
  refine step_set (S := sit O st loc w) (S' := sit O (setObj st n oc') loc w') (n := n) (oc := oc) (oc' := oc') (l' := loc n) g rfl hO hob
    (fun m => look_set st n m oc') (fun m => ?_) rfl (fun _ => locEq rfl) hk hos hout (by simp [sit, hsz]) ?_ ?_ ?_
  · show loc m = _
    by_cases e : n = m
    · rw [if_pos e, e]
    · rw [if_neg e]; rfl
  · intro b' _ hb'
    exact hoth b' (fun e => hb' (by simp only [sit]; rw [hbs, e]; simp))
  · intro b' o v _ ho; rw [h0] at ho; omega
  · intro b' hb'; exact .inl ⟨hb', by omega⟩
structure MapAt (cx : Cx) (P : Program) (S : Sit) (st : St) (t : TypeId) (v : Value) (e : Ty) (n : Nat) (d : D (mapT e)) where
  kt : TypeId
  te : TypeId
  b : Nat
  es : Array MapEntry
  clk : Nat
  und : P.underlying t = some (.map kt te)
  key : P.underlying kt = some .string
  fit : look cx.τ te = some e
  one : e.one = false
  ob : S.ob n = some (.ext 1 (mapT e) d)
  val : v = .map (some b)
  md : MapD e d (S.loc n) S.w b es clk
  zero : ∃ i cs, P.info? te = some i ∧ i.zero = some (.agg cs)
theorem mapR_of {e : Ty} {x : D (mapT e)} {l : Loc} {w : World} (h : MapR (mapT e) x l w) : ∃ b es clk, MapD e x l w b es clk := by
  obtain ⟨e', he, h⟩ := h
  have : e = e' := by injection he with h1 _; injection h1 with h1; injection h1 with _ h1; injection h1
  subst this
  exact h
theorem mapVC1_out (hok : TyOK P cx) {O : Avoid} {st : St} {loc : Nat → Loc} {w : World} (g : Good cx.eT X (sit O st loc w)) {t : TypeId} {c : C} {v : Value} {K : (e : Ty) → Nat → D (mapT e) → VC} (hc : CR cx.eT (sit O st loc w) c v)
    (h : (mapVC1 cx st t c K).holds) : ∃ e n d, (K e n d).holds ∧ Nonempty (MapAt cx P (sit O st loc w) st t v e n d) := by
  unfold mapVC1 at h
  split at h
  case h_2 => exact h.elim
  rename_i n
  split at h
  case h_2 => exact h.elim
  rename_i kt te hm
  obtain ⟨h1, h2, h3⟩ := hok.mps _ _ _ hm
  split at h
  case h_2 => exact h.elim
  rename_i e t' x hte hob
  split at h
  case h_2 => exact h.elim
  rename_i hb ho
  have := Ty.eq_of_beq hb
  subst this
  obtain ⟨b, es, clk, hd⟩ := mapR_of (X.map.1 (g.obj _ _ hob).2)
  exact ⟨e, n, _, h, ⟨⟨kt, te, b, es, clk, h1, h2, hte, ho, by rw [castD_self]; exact hob, (hc.2 _ hob rfl).trans hd.lv, by rw [castD_self]; exact hd, h3⟩⟩⟩
theorem str_val {S : Sit} {c : C} {k : List UInt8} {v : Value} (h : asD .str c = some k) (hc : CR cx.eT S c v) : v = .string ⟨k.toArray⟩ ∧ k.length ≤ big := by
  have := VR.one rfl (asD_rel h hc)
  obtain ⟨h1, h2⟩ := this
  exact ⟨by simpa using h1, h2⟩
theorem run_check {kt : TypeId} (hk : P.underlying kt = some .string) (em : Bool) (s : ByteArray) (w : World) : (Instr.checkKey em 10000 kt (.string s)).run P w = .ok () w :=
  Go.MapKept.run_checkKey (d := .string) hk (by simp [Go.MapKept.IsKey]) em 9999
theorem run_lookup_ents {t kt te : TypeId} (hu : P.underlying t = some (.map kt te)) (hk : P.underlying kt = some .string) {w : World} {b clk : Nat} {es : Array MapEntry} (hb : w.heap[b]? = some (.map es clk)) {s : ByteArray} {r : Option (Nat × Value)}
    (hr : Instr.findNow .string (.string s) es.toList 0 = some r) {z : Value} (hz : (zeroValue te).run P w = .ok z w) :
    (Instr.lookup t (.map (some b)) (.string s) true).run P w = .ok (.tuple #[match r with | some (_, v) => v | none => z, .bool r.isSome]) w := by
  unfold Instr.lookup
  simp only [Sem.run_bind, run_underlying hu, Result.andThen_ok, Go.MapKept.run_getObj_map hb, run_check hk, Sem.run_pure, Go.MapKept.run_findKey hk hr]
  cases r with
  | none => simp [hz]
  | some p => rfl
theorem scal_noOpq : ∀ {e : Ty}, e.scal = true → noOpq e = true := by
  intro e
  induction e with
  | prod a b iha ihb => intro h; simp [Ty.scal] at h; simp [noOpq, iha h.1, ihb h.2]
  | slice e _ => intro h; simp [Ty.scal] at h
  | opq => intro h; simp [Ty.scal] at h
  | err => intro h; simp [Ty.scal] at h
  | _ => intro _; rfl
theorem zero_val (hok : TyOK P cx) {S : Sit} {st : St} {t : TypeId} {v : Value} {e : Ty} {n : Nat} {d : D (mapT e)} (m : MapAt cx P S st t v e n d) (w : World) : ∃ z, (zeroValue m.te).run P w = .ok z w ∧ ∀ eT A w', VR eT e (zeroD e) A w' z := by
  obtain ⟨_, ti, _, hf, _⟩ := shape_of hok m.fit
  obtain ⟨z, hz, hzr⟩ := hf.zero
  obtain ⟨i, cs, hi, hc⟩ := m.zero
  rw [hf.info] at hi
  cases hi
  rw [hz] at hc
  cases hc
  have hno := scal_noOpq m.md.scal
  refine ⟨.agg cs, by simp [zeroValue, typeInfo, hf.info, hz], fun eT A w' => ?_⟩
  unfold VR
  rw [if_neg (by rw [m.one]; simp)]
  exact ⟨cs, rfl, zero_R hzr hno⟩
theorem modify_toList {es : Array MapEntry} {j : Nat} {m : MapEntry} (f : MapEntry → MapEntry) (h : es.toList[j]? = some m) : (es.modify j f).toList = es.toList.set j (f m) := by
  have h' : es[j]? = some m := by rw [← Array.getElem?_toList]; exact h
  rw [Array.toList_modify]
  exact Go.ChangeMaps.modify_eq_set f es.toList j m h
theorem run_update_ents {t kt te : TypeId} (hu : P.underlying t = some (.map kt te)) (hk : P.underlying kt = some .string) {w : World} {b clk : Nat} {es : Array MapEntry} (hb : w.heap[b]? = some (.map es clk)) {s : ByteArray} {v : Value}
    {es' : Array MapEntry} {clk' : Nat} (h : (Instr.findNow .string (.string s) es.toList 0 = some none ∧ es' = es.push { key := .string s, val := v, born := clk } ∧ clk' = clk + 1) ∨
      ∃ j m, Instr.findNow .string (.string s) es.toList 0 = some (some (0 + j, m.val)) ∧ es.toList[j]? = some m ∧ m.key = .string s ∧ es' = es.modify j (fun e => { e with key := .string s, val := v }) ∧ clk' = clk) :
    (Instr.mapUpdate t (.map (some b)) (.string s) v).run P w = .ok () { w with heap := w.heap.setIfInBounds b (.map es' clk') } := by
  unfold Instr.mapUpdate
  simp only [Sem.run_bind, run_underlying hu, Result.andThen_ok, Go.MapKept.run_getObj_map hb, run_check hk]
  rcases h with ⟨h1, rfl, rfl⟩ | ⟨j, m, h1, h2, h3, rfl, rfl⟩
  · rw [Go.MapKept.run_findKey hk h1]
    simp only [Result.andThen_ok]
    exact Go.MapKept.run_setObj_map _ hb
  · rw [Go.MapKept.run_findKey hk h1]
    have hm : es[j]? = some m := by rw [← Array.getElem?_toList]; exact h2
    have hs : (Instr.keyThatStays (.string s) (.string s)).run P w = .ok (.string s) w := by
      unfold Instr.keyThatStays
      rw [if_pos (by simp only [Instr.sameBits]; exact (Go.MapKept.bytes_beq s s).2 rfl)]
      rfl
    simp only [Result.andThen_ok, Nat.zero_add, hm, Option.map_some, Option.getD_some, h3, Sem.run_bind, hs]
    exact Go.MapKept.run_setObj_map _ hb
theorem run_delete_ents {t kt te ty : TypeId} {ats : Array TypeId} (hat : ats[0]? = some t) (hu : P.underlying t = some (.map kt te)) (hk : P.underlying kt = some .string) {w : World} {b clk : Nat} {es : Array MapEntry} (hb : w.heap[b]? = some (.map es clk)) {s : ByteArray}
    {es' : Array MapEntry} (h : (Instr.findNow .string (.string s) es.toList 0 = some none ∧ es' = es) ∨ ∃ j v, Instr.findNow .string (.string s) es.toList 0 = some (some (0 + j, v)) ∧ es' = es.eraseIdxIfInBounds j) :
    (Builtin.delete_ ats ty #[.map (some b), .string s]).run P w = .ok (.tuple #[]) { w with heap := w.heap.setIfInBounds b (.map es' clk) } := by
  unfold Builtin.delete_
  simp only [hat, List.getElem?_toArray, List.getElem?_cons_zero, List.getElem?_cons_succ, Sem.run_bind, run_underlying hu, Result.andThen_ok, Go.MapKept.run_getObj_map hb, run_check hk]
  rcases h with ⟨h1, rfl⟩ | ⟨j, v, h1, rfl⟩
  · rw [Go.MapKept.run_findKey hk h1]
    simp only [Result.andThen_ok, Sem.run_bind, Go.MapKept.run_setObj_map _ hb, Sem.run_pure]
  · rw [Go.MapKept.run_findKey hk h1]
    simp only [Result.andThen_ok, Nat.zero_add, Sem.run_bind, Go.MapKept.run_setObj_map _ hb, Sem.run_pure]
theorem set_heap {w : World} {b : Nat} {o : Obj} (hb : b < w.heap.size) : ({ w with heap := w.heap.setIfInBounds b o } : World).heap[b]? = some o := by
  simp [hb]
theorem set_heap_ne {w : World} {b b' : Nat} {o : Obj} (h : b' ≠ b) : ({ w with heap := w.heap.setIfInBounds b o } : World).heap[b']? = w.heap[b']? := by
  simp only [Array.getElem?_setIfInBounds]
  rw [if_neg (fun e => h e.symm)]
theorem map_set {O : Avoid} {st : St} {loc : Nat → Loc} {w : World} (g : Good cx.eT X (sit O st loc w)) (hO : OIn O w) {e : Ty} {n b clk clk' : Nat} {es es' : Array MapEntry} {d : D (mapT e)}
    (hob : look st.objs n = some (.ext 1 (mapT e) d)) (hm : MapD e d (loc n) w b es clk) {xs : List (D (mapE e))} {c' : Int} (hc : c' = (clk' : Int)) (hents : EntsR e xs es'.toList w) (hbig : xs.length ≤ big) (hold : ∀ y ∈ xs, y.2.2.1 < c') :
    Tr (sit O st loc w) (sit O (setObj st n (.ext 1 (mapT e) (xs, c', ()))) loc { w with heap := w.heap.setIfInBounds b (.map es' clk') }) ∧
      Good cx.eT X (sit O (setObj st n (.ext 1 (mapT e) (xs, c', ()))) loc { w with heap := w.heap.setIfInBounds b (.map es' clk') }) := by
  have hlt : b < w.heap.size := (Array.getElem?_eq_some_iff.1 hm.heap).1
  obtain ⟨t1, g1⟩ := set_step2 (w' := { w with heap := w.heap.setIfInBounds b (.map es' clk') }) (oc' := .ext 1 (mapT e) (xs, c', ())) g hO hob hm.bs ⟨rfl, rfl⟩ rfl rfl rfl rfl (by simp) (fun b' hb' => set_heap_ne hb')
  exact ⟨t1, g1 (X.map.2 ⟨e, rfl, b, es', clk', hm.scal, hm.lv, hm.bs, set_heap hlt, hc, hents.to hm.scal, hbig, hold⟩)⟩
theorem putE_old {e : Ty} {xs : List (D (mapE e))} {k : List UInt8} {v : D e} {c : Int} (h1 : hasE e xs k = false) (h2 : ∀ v c, putE e xs k v c = xs ++ [(k, v, c, ())]) (hold : ∀ y ∈ xs, y.2.2.1 < c) : ∀ y ∈ putE e xs k v c, y.2.2.1 < clkE e xs k c := by
  intro y hy
  rw [h2] at hy
  unfold clkE
  rw [h1]
  simp only [Bool.false_eq_true, if_false]
  rcases List.mem_append.1 hy with hy | hy
  · have h3 : (y.2.2.1 : Int) < c := hold y hy
    exact Int.lt_add_one_of_le (Int.le_of_lt h3)
  · simp at hy; subst hy; exact Int.lt_add_one_of_le (Int.le_refl _)
theorem at_ents {e : Ty} {w : World} : ∀ {x : List (D (mapE e))} {ms : List MapEntry} {s : Nat}, EntsR e x ms w → bornE e x (s : Int) = true → ∃ m, ms.find? (fun m => m.born == s) = some m ∧ EntR e (atE e x (s : Int)) m w
  | y :: r, m :: ms, s, ⟨h1, h2⟩, hb => by
    by_cases c : m.born = s
    · have c' : y.2.2.1 = (s : Int) := by rw [h1.born, c]
      exact ⟨m, by simp [c], by rw [atE, if_pos c']; exact h1⟩
    · have c' : ¬ y.2.2.1 = (s : Int) := fun h => c (Int.ofNat.inj (h1.born.symm.trans h))
      rw [bornE, if_neg c'] at hb
      obtain ⟨m', h3, h4⟩ := at_ents h2 hb
      exact ⟨m', by simp [c, h3], by rw [atE, if_neg c']; exact h4⟩
  | [], [], _, _, hb => by simp [bornE] at hb
theorem left_ents {e : Ty} {w : World} {sn : Array Nat} : ∀ {x : List (D (mapE e))} {ms : List MapEntry}, EntsR e x ms w → EntsR e (leftE e x (sn.toList.map fun (n : Nat) => (n : Int))) (ms.filter fun m => !sn.contains m.born) w
  | [], [], _ => trivial
  | y :: r, m :: ms, ⟨h1, h2⟩ => by
    have hc : (sn.toList.map fun (n : Nat) => (n : Int)).contains y.2.2.1 = sn.contains m.born := by
      rw [Bool.eq_iff_iff, h1.born]
      simp only [List.contains_iff_mem, List.mem_map, Array.mem_toList_iff, Array.contains_iff_mem]
      exact ⟨fun ⟨a, h3, h4⟩ => by rw [← Int.ofNat.inj h4]; exact h3, fun h => ⟨_, h, rfl⟩⟩
    have ih := left_ents (sn := sn) h2
    unfold leftE at ih ⊢
    rw [List.filter_cons, List.filter_cons, hc]
    cases sn.contains m.born with
    | true => simp only [Bool.not_true, Bool.false_eq_true, if_false]; exact ih
    | false => simp only [Bool.not_false, if_true]; exact ⟨h1, ih⟩
  | [], _ :: _, h => h.elim
  | _ :: _, [], h => h.elim
theorem ents_mem {e : Ty} {w : World} : ∀ {x : List (D (mapE e))} {ms : List MapEntry} {m : MapEntry}, EntsR e x ms w → m ∈ ms → ∃ y ∈ x, EntR e y m w
  | y :: _, _ :: _, m, ⟨h1, h2⟩, hm => by
    rcases List.mem_cons.1 hm with rfl | hm
    · exact ⟨y, by simp, h1⟩
    · obtain ⟨y', h3, h4⟩ := ents_mem h2 hm
      exact ⟨y', by simp [h3], h4⟩
  | [], [], _, _, hm => by simp at hm
structure IterAt (S : Sit) (v : Value) (e : Ty) (k : Nat) (cs : List C) (seen : List Int) (cl : Int) (d : D (mapT e)) where
  n : Nat
  b : Nat
  r : Nat
  es : Array MapEntry
  clk : Nat
  c : Nat
  sn : Array Nat
  ob : S.ob n = some (.ext 1 (mapT e) d)
  it : S.ob k = some (.iter cs seen cl)
  val : v = .pointer (some ⟨r, 0, none⟩)
  md : MapD e d (S.loc n) S.w b es clk
  hr : S.w.heap[r]? = some (.mapIter (some b) c sn c)
  hcl : cl = (c : Int)
  hsn : seen = sn.toList.map fun (n : Nat) => (n : Int)
  hbs : (S.loc k).bs = [r]
  hlv : (S.loc k).v = .pointer (some ⟨r, 0, none⟩)
theorem iterVC_out {O : Avoid} {st : St} {loc : Nat → Loc} {w : World} (g : Good cx.eT X (sit O st loc w)) {c : C} {v : Value} {K : (e : Ty) → Nat → List C → List Int → Int → D (mapT e) → VC} (hc : CR cx.eT (sit O st loc w) c v)
    (h : (iterVC st c K).holds) : ∃ e k cs seen cl d, (K e k cs seen cl d).holds ∧ (∃ m, cs = [.xref m]) ∧ Nonempty (IterAt (sit O st loc w) v e k cs seen cl d) := by
  unfold iterVC at h
  split at h
  case h_2 => exact h.elim
  rename_i k
  split at h
  case h_2 => exact h.elim
  rename_i n seen cl hk
  split at h
  case h_2 => exact h.elim
  rename_i t' x hob
  split at h
  case h_2 => exact h.elim
  rename_i e hun
  split at h
  case h_2 => exact h.elim
  rename_i hb
  have := Ty.eq_of_beq hb
  subst this
  obtain ⟨b, es, clk, hd⟩ := mapR_of (X.map.1 (g.obj _ _ hob).2)
  obtain ⟨r, m, c, sn, h1, h2, h3, h4, h5, h6⟩ := (g.obj _ _ hk).2
  have hmb : m = b := by
    cases h4 with
    | cons h7 _ _ =>
      have := (h7.2 _ hob rfl).trans hd.lv
      cases this; rfl
  subst hmb
  exact ⟨e, k, _, seen, cl, _, h, ⟨n, rfl⟩, ⟨⟨n, m, r, es, clk, c, sn, by rw [castD_self]; exact hob, hk, (hc.2 _ hk rfl).trans h1, by rw [castD_self]; exact hd, h3, h5, h6, h2, h1⟩⟩⟩
theorem keyV_rel {S : Sit} {eT : TypeId} {y : List UInt8} {v : Value} (h : v = .string ⟨y.toArray⟩ ∧ y.length ≤ big) : SV0R eT S (.one (.d .str y)) v := by
  show VR eT .str y S.A S.w v
  rw [h.1]
  exact VR.of_one rfl ⟨rfl, h.2⟩
theorem nat_rel {S : Sit} {eT : TypeId} {n : Nat} (h : n ≤ big) : SVR eT S (.s (.one (.d (.int .i64) (n : Int)))) (.int .i64 (n : Int)) := by
  show VR eT (.int .i64) (n : Int) S.A S.w _
  refine VR.of_one rfl ⟨rfl, ?_⟩
  rw [big_eq] at h
  show (-9223372036854775808 : Int) ≤ (n : Int) ∧ (n : Int) ≤ 9223372036854775807
  omega
theorem bool_val {S : Sit} {eT : TypeId} {x b : Bool} (h : x = b) : SV0R eT S (.one (.d .bool x)) (.bool b) := by
  subst h
  show VR eT .bool x S.A S.w (.bool x)
  exact VR.of_one rfl rfl
theorem mapVC_sound (hok : TyOK P cx) {O : Avoid} {st : St} {loc : Nat → Loc} {w : World} {a : Act} (g : Good cx.eT X (sit O st loc w)) (hO : OIn O w) (he : EnvR cx.eT (sit O st loc w) st.env a)
    {o : Oper} {K : SV → St → VC} {vc : VC} (hm : mapVC cx st o K = some vc) (h : vc.holds) :
    ∃ sv v st' loc' w', (K sv st').holds ∧ st'.env = st.env ∧ Good cx.eT X (sit O st' loc' w') ∧ Tr (sit O st loc w) (sit O st' loc' w') ∧ SVR cx.eT (sit O st' loc' w') sv v ∧
      ((execOp a.eval o).run P w = .ok (.value v) w' ∨ ((execOp a.eval o).run P w = .ok .skip w' ∧ sv = .s (.one .any))) := by
  unfold mapVC at hm
  split at hm
  · rename_i t hop
    cases hm
    split at h
    case h_2 => exact h.elim
    rename_i k te hmp
    split at h
    case h_2 => exact h.elim
    rename_i e hte
    split at h
    case h_2 => exact h.elim
    rename_i hs
    have hb : Below w.heap.size w (w.alloc (.map #[] 0)) := (Below.refl _ w).alloc (Nat.le_refl _) _
    obtain ⟨tr1, g1⟩ := fresh_step (oc := .ext 1 (mapT e) ([], 0, ())) (l := ⟨.map (some w.heap.size), [w.heap.size]⟩) g hO hb (by simp)
    have g1 := g1 (X.map.2 ⟨e, rfl, w.heap.size, #[], 0, hs, rfl, rfl, heap_alloc_new w _, rfl, trivial, by simp, fun y hy => by simp at hy⟩)
    refine ⟨_, .map (some w.heap.size), _, _, _, h, rfl, g1, tr1, ⟨by show st.next < st.next + 1; omega, fun oc hoc _ => by simp [sit, updLoc]⟩, .inl ?_⟩
    simp [execOp, hop, Instr.makeMap]
  · rename_i t m x hop
    cases hm
    obtain ⟨e, n, d, h1, ⟨M⟩⟩ := mapVC1_out (P := P) hok g (ev1_rel he m) h
    split at h1
    case h_2 => exact h1.elim
    rename_i k hk
    obtain ⟨hv, hl⟩ := str_val hk (ev1_rel he x)
    obtain ⟨z, hz, hzr⟩ := zero_val hok M w
    rcases find_ents hl 0 M.md.ents with ⟨k1, k2, k3, k4, k5⟩ | ⟨k1, j, m', k2, k3, k4, k5, _⟩
    · refine ⟨_, .tuple #[z, .bool false], st, loc, w, h1, rfl, g, Tr.refl _, ⟨[z, .bool false], rfl, .cons (by rw [k2]; exact hzr _ _ _) (.cons (bool_val k1) .nil)⟩, .inl ?_⟩
      have hrun := run_lookup_ents (w := w) M.und M.key M.md.heap k3 hz
      simp only [execOp, hop, Sem.run_bind, M.val, hv]
      rw [hrun]
      rfl
    · refine ⟨_, .tuple #[m'.val, .bool true], st, loc, w, h1, rfl, g, Tr.refl _, ⟨[m'.val, .bool true], rfl, .cons (scal_vr M.md.scal k4) (.cons (bool_val k1) .nil)⟩, .inl ?_⟩
      have hrun := run_lookup_ents (w := w) M.und M.key M.md.heap k3 hz
      simp only [execOp, hop, Sem.run_bind, M.val, hv]
      rw [hrun]
      rfl
  · rename_i t m x v hop
    cases hm
    obtain ⟨e, n, d, h1, ⟨M⟩⟩ := mapVC1_out (P := P) hok g (ev1_rel he m) h
    split at h1
    case h_2 => exact h1.elim
    rename_i k y hk hy
    obtain ⟨hbig, h1⟩ := h1
    obtain ⟨hv, hl⟩ := str_val hk (ev1_rel he x)
    have hvy : VR 0 e y NoA w (a.eval v) := scal_vr M.md.scal (asD0_rel hy (ev0_rel he v))
    rcases find_ents hl 0 M.md.ents with ⟨k1, k2, k3, k4, k5⟩ | ⟨k1, j, m', k2, k3, k4, k5, k6, k7, k8, _⟩
    · obtain ⟨t1, g1⟩ := map_set (es' := M.es.push { key := .string ⟨k.toArray⟩, val := a.eval v, born := M.clk }) (clk' := M.clk + 1) g hO M.ob M.md (xs := putE e d.1 k y d.2.1) (c' := clkE e d.1 k d.2.1)
        (by unfold clkE; rw [k1, M.md.clk]; rfl) (by rw [k4, Array.toList_push]; exact EntsR.snoc ⟨⟨rfl, hl⟩, hvy, M.md.clk⟩ M.md.ents) (by rw [k4]; simp; omega) (putE_old k1 k4 M.md.old)
      refine ⟨_, .nilFunc, _, loc, _, h1, rfl, g1, t1, trivial, .inr ⟨?_, rfl⟩⟩
      have hrun := run_update_ents (w := w) M.und M.key M.md.heap (v := a.eval v) (.inl ⟨k3, rfl, rfl⟩)
      simp only [execOp, hop, Sem.run_bind, M.val, hv]
      rw [hrun]
      rfl
    · obtain ⟨t1, g1⟩ := map_set (es' := M.es.modify j (fun e => { e with key := .string ⟨k.toArray⟩, val := a.eval v })) (clk' := M.clk) g hO M.ob M.md (xs := putE e d.1 k y d.2.1) (c' := clkE e d.1 k d.2.1)
        (by unfold clkE; rw [k1, M.md.clk]; rfl) (by rw [modify_toList _ k2]; exact k6 y (a.eval v) _ hvy) (by rw [k7]; exact M.md.big) (fun y' hy' => by
          obtain ⟨y2, h3, h4⟩ := k8 _ _ y' hy'
          rw [h4]; unfold clkE; rw [k1]; exact M.md.old y2 h3)
      refine ⟨_, .nilFunc, _, loc, _, h1, rfl, g1, t1, trivial, .inr ⟨?_, rfl⟩⟩
      have hrun := run_update_ents (w := w) M.und M.key M.md.heap (v := a.eval v) (.inr ⟨j, m', k3, k2, k5, rfl, rfl⟩)
      simp only [execOp, hop, Sem.run_bind, M.val, hv]
      rw [hrun]
      rfl
  · rename_i t m hop
    cases hm
    have hc0 := ev1_rel he m
    obtain ⟨e, n, d, h1, ⟨M⟩⟩ := mapVC1_out (P := P) hok g hc0 h
    have hb : Below w.heap.size w (w.alloc (.mapIter (some M.b) M.clk #[] M.clk)) := (Below.refl _ w).alloc (Nat.le_refl _) _
    obtain ⟨tr1, g1⟩ := fresh_step (oc := .iter [.xref n] [] d.2.1) (l := ⟨.pointer (some ⟨w.heap.size, 0, none⟩), [w.heap.size]⟩) g hO hb (by simp)
    have hx : CR cx.eT (sit O st loc w) (.xref n) (.map (some M.b)) := ⟨(g.obj _ _ M.ob).1, fun oc hoc _ => M.md.lv.symm⟩
    have g1 := g1 ⟨w.heap.size, M.b, M.clk, #[], rfl, rfl, heap_alloc_new w _, .cons (hx.tr tr1) rfl .nil, M.md.clk, rfl⟩
    refine ⟨_, .pointer (some ⟨w.heap.size, 0, none⟩), _, _, _, h1, rfl, g1, tr1, ⟨by show st.next < st.next + 1; omega, fun oc hoc _ => by simp [sit, updLoc]⟩, .inl ?_⟩
    have hu := M.und
    have hh : w.heap[M.b]? = some (.map M.es M.clk) := M.md.heap
    have hgo : (getObj M.b).run P w = .ok (.map M.es M.clk) w := Go.MapKept.run_getObj_map hh
    simp only [execOp, hop, M.val, Instr.range, Sem.run_bind, run_underlying hu, Result.andThen_ok, hgo, Sem.run_pure]
    rfl
  · rename_i it hop
    cases hm
    unfold nextVC at h
    obtain ⟨e, k, cs, seen, cl, d, h1, ⟨n0, rfl⟩, ⟨M⟩⟩ := iterVC_out g (ev1_rel he it) h
    obtain ⟨hcl, h1, h2⟩ := h1
    have hcc : M.clk = M.c := Int.ofNat.inj (M.md.clk.symm.trans (hcl.trans M.hcl))
    have hold : ∀ x ∈ M.es.toList, x.born < M.c := fun x hx => by
      obtain ⟨y, hy, hyr⟩ := ents_mem M.md.ents hx
      have h3 := M.md.old y hy
      rw [hyr.born, M.md.clk, hcc] at h3
      exact Int.ofNat_lt.1 h3
    have hleft : EntsR e (leftE e d.1 seen) (leftOf M.es M.sn).toList w := by
      have := left_ents (sn := M.sn) M.md.ents
      rw [← M.hsn] at this
      unfold leftOf
      rw [Array.toList_filter]
      exact this
    have hrl : M.r < w.heap.size := (Array.getElem?_eq_some_iff.1 M.hr).1
    rcases Go.run_next_at (P := P) w o.type M.r M.b M.c M.c M.sn M.es M.clk M.hr M.md.heap hold (Nat.le_refl _) with ⟨h3, h4⟩ | ⟨m, hm, w1, hw1, h4⟩
    · have hnil : leftE e d.1 seen = [] := List.length_eq_zero_iff.1 (by rw [hleft.len]; simpa using h3)
      refine ⟨_, .tuple #[.bool false], st, loc, w, h1 hnil, rfl, g, Tr.refl _, ⟨[.bool false], rfl, .cons rfl .nil⟩, .inl ?_⟩
      simp only [execOp, hop, M.val, Sem.run_bind, h4, Result.andThen_ok, Sem.run_pure]
    · obtain ⟨y, hy, hyr⟩ := ents_mem hleft hm
      have hK := h2 y hy
      have e1 : w1.heap = w.heap ∧ w1.os = w.os ∧ w1.output = w.output := by rcases hw1 with rfl | rfl <;> exact ⟨rfl, rfl, rfl⟩
      obtain ⟨t1, g1⟩ := set_step2 (w' := Go.ChangeMaps.setBlock w1 M.r (.mapIter (some M.b) M.c (M.sn.push m.born) M.clk)) (oc' := .iter [.xref n0] (seen ++ [y.2.2.1]) cl) g hO M.it M.hbs trivial rfl rfl e1.2.1 e1.2.2
        (by simp [Go.ChangeMaps.setBlock, e1.1]) (fun b' hb' => by simp only [Go.ChangeMaps.setBlock, Array.getElem?_setIfInBounds, e1.1]; rw [if_neg (fun e => hb' e.symm)])
      have hor := (g.obj _ _ M.it).2
      have hg1 := g1 (by
        obtain ⟨r', m0, c0, sn0, q1, q2, q3, q4, q5, q6⟩ := hor
        have hmb : m0 = M.b := by
          have hr' : r' = M.r := by have := M.hlv.symm.trans q1; cases this; rfl
          subst hr'
          have := M.hr.symm.trans q3
          cases this; rfl
        refine ⟨M.r, m0, M.c, M.sn.push m.born, M.hlv, M.hbs, ?_, q4.tr t1, M.hcl, ?_⟩
        · show (Go.ChangeMaps.setBlock w1 M.r _).heap[M.r]? = _
          rw [hmb, hcc]
          simp only [Go.ChangeMaps.setBlock, Array.getElem?_setIfInBounds, e1.1]
          simp [hrl]
        · rw [Array.toList_push, List.map_append, ← M.hsn, hyr.born]; rfl)
      refine ⟨_, .tuple #[.bool true, m.key, m.val], _, loc, _, hK, rfl, hg1, t1, ⟨[.bool true, m.key, m.val], rfl, .cons rfl (.cons (keyV_rel hyr.key) (.cons (scal_vr M.md.scal hyr.val) .nil))⟩, .inl ?_⟩
      simp only [execOp, hop, M.val, Sem.run_bind, h4, Result.andThen_ok, Sem.run_pure]
  · rename_i it hop
    cases hm
    obtain ⟨e, k, cs, seen, cl, d, h1, ⟨n0, rfl⟩, ⟨M⟩⟩ := iterVC_out g (ev1_rel he it) h
    obtain ⟨hcl, hne, hbo, h1⟩ := h1
    have hcc : M.clk = M.c := Int.ofNat.inj (M.md.clk.symm.trans (hcl.trans M.hcl))
    have hsn : M.sn.toList ≠ [] := fun e0 => hne (by rw [M.hsn, e0]; rfl)
    have hlast : ∃ s, M.sn.back? = some s ∧ lastI seen = (s : Int) := by
      refine ⟨M.sn.toList.getLast hsn, ?_, ?_⟩
      · rw [← Array.getLast?_toList]; exact List.getLast?_eq_some_getLast hsn
      · refine (congrArg lastI M.hsn).trans ?_
        unfold lastI
        rw [List.getLastD_eq_getLast?, List.getLast?_map, List.getLast?_eq_some_getLast hsn]
        rfl
    obtain ⟨s, hs1, hs2⟩ := hlast
    rw [hs2] at hbo h1
    obtain ⟨m, hm1, hm2⟩ := at_ents M.md.ents hbo
    refine ⟨_, .tuple #[m.key, m.val], st, loc, w, h1, rfl, g, Tr.refl _, ⟨[m.key, m.val], rfl, .cons (keyV_rel hm2.key) (.cons (scal_vr M.md.scal hm2.val) .nil)⟩, .inl ?_⟩
    have hf : M.es.find? (fun m => m.born == s) = some m := by rw [← Array.find?_toList]; exact hm1
    have hr := M.hr
    have hb := M.md.heap
    simp only [sit] at hr hb
    simp only [execOp, hop, M.val, Instr.entry, getObj, Sem.run_bind, Sem.run, hr, hb, Result.andThen, hs1, hcc, bne_self_eq_false, Bool.false_eq_true, if_false, hf]
    rfl
  · rename_i c hop
    split at hm
    · rename_i hcal
      split at hm
      · rename_i m x t ts harg hty
        cases hm
        obtain ⟨e, n, d, h1, ⟨M⟩⟩ := mapVC1_out (P := P) hok g (ev1_rel he m) h
        split at h1
        case h_2 => exact h1.elim
        rename_i k hk
        obtain ⟨hv, hl⟩ := str_val hk (ev1_rel he x)
        have ha : c.args = #[m, x] := Array.toList_inj.1 harg
        have hat : c.argTypes[0]? = some t := by rw [← Array.getElem?_toList, hty]; rfl
        have fin : ∀ es' : Array MapEntry, EntsR e (delE e d.1 k) es'.toList w → (delE e d.1 k).length ≤ big → (∀ y ∈ delE e d.1 k, y ∈ d.1) →
            (∀ ty, (Builtin.delete_ c.argTypes ty #[.map (some M.b), .string ⟨k.toArray⟩]).run P w = .ok (.tuple #[]) { w with heap := w.heap.setIfInBounds M.b (.map es' M.clk) }) →
            ∃ sv v st' loc' w', (K sv st').holds ∧ st'.env = st.env ∧ Good cx.eT X (sit O st' loc' w') ∧ Tr (sit O st loc w) (sit O st' loc' w') ∧ SVR cx.eT (sit O st' loc' w') sv v ∧
              ((execOp a.eval o).run P w = .ok (.value v) w' ∨ ((execOp a.eval o).run P w = .ok .skip w' ∧ sv = .s (.one .any))) := by
          intro es' h3 h4 h5 h6
          obtain ⟨t1, g1⟩ := map_set (es' := es') (clk' := M.clk) g hO M.ob M.md (xs := delE e d.1 k) (c' := d.2.1) M.md.clk h3 h4 (fun y hy => M.md.old y (h5 y hy))
          refine ⟨_, .tuple #[], _, loc, _, h1, rfl, g1, t1, trivial, .inl ?_⟩
          simp [execOp, hop, resolve, hcal, ha, invoke, builtin, M.val, hv, h6]
        rcases find_ents hl 0 M.md.ents with ⟨k1, k2, k3, k4, k5⟩ | ⟨k1, j, m', k2, k3, k4, k5, k6, k7, k8, k9, k10, k11⟩
        · exact fin M.es (by rw [k5]; exact M.md.ents) (by rw [k5]; exact M.md.big) (fun y hy => by rw [k5] at hy; exact hy) fun ty => run_delete_ents hat M.und M.key M.md.heap (.inl ⟨k3, rfl⟩)
        · have hj : j < M.es.size := by
            rcases Nat.lt_or_ge j M.es.toList.length with h' | h'
            · simpa using h'
            · rw [List.getElem?_eq_none h'] at k2; cases k2
          refine fin (M.es.eraseIdxIfInBounds j) ?_ (Nat.le_trans k11 M.md.big) k10 fun ty => run_delete_ents hat M.und M.key M.md.heap (.inr ⟨j, _, k3, rfl⟩)
          unfold Array.eraseIdxIfInBounds
          rw [dif_pos hj, Array.toList_eraseIdx]
          exact k9
      · cases hm; exact h.elim
    · rename_i hcal
      split at hm
      · rename_i x t harg hty
        split at hm
        · cases hm
          obtain ⟨e, n, d, h1, ⟨M⟩⟩ := mapVC1_out (P := P) hok g (ev1_rel he x) h
          have ha : c.args = #[x] := Array.toList_inj.1 harg
          have ht : c.argTypes = #[t] := Array.toList_inj.1 hty
          have hsz : d.1.length = M.es.size := by rw [M.md.ents.len]; simp
          refine ⟨_, .int .i64 (d.1.length : Int), st, loc, w, h1, rfl, g, Tr.refl _, nat_rel M.md.big, .inl ?_⟩
          have hgo : (getObj M.b).run P w = .ok (.map M.es M.clk) w := Go.MapKept.run_getObj_map M.md.heap
          simp [execOp, hop, resolve, hcal, ha, ht, invoke, builtin, Builtin.len_, run_underlying M.und, hgo, goInt, M.val, hsz]
        · cases hm
      · cases hm
    · cases hm
  · cases hm
end
end Go.Vg

namespace Go.Vg
open Go.RowKit
def rowNilVC (cx : Cx) (st : St) (x : Operand) (ty : TypeId) (K : SV → St → VC) : VC :=
  match ev st.env x, look cx.τ ty with
  | .s (.one .nilS), some (.slice e) => match e.scal with
    | true => K (.s (.one (.mrow st.next))) (fresh st (.mrow e []))
    | false => deepNilVC cx st x ty K
  | _, _ => .ff
def rowAppVC (cx : Cx) (st : St) (t : TypeId) (n : Nat) (x : C) (K : SV → St → VC) : VC :=
  match look cx.τ t with
  | some (.slice e) => match e.scal, srcD st e x, look st.objs n with
    | true, some ys, some (.mrow e' zs) => match h : Ty.beq (.slice e') (.slice e) with
      | true => .and (0 < List.length ys ∧ List.length zs + List.length ys ≤ 1000000000) (K (.s (.one (.mrow st.next))) (fresh (dropObj (dropObj st n) n) (.mrow e (castD h (a := .slice e') zs ++ ys))))
      | false => .ff
    | _, _, _ => .ff
  | _ => .ff
section
variable {X : Ext} {P : Program} {cx : Cx}
theorem rowNil_sound {O : Avoid} {st : St} {loc : Nat → Loc} {w : World} {a : Act} (g : Good cx.eT X (sit O st loc w)) (hO : OIn O w) (he : EnvR cx.eT (sit O st loc w) st.env a)
    {x : Operand} {ty : TypeId} {K : SV → St → VC} (h : (rowNilVC cx st x ty K).holds) :
    ∃ sv st' loc', (K sv st').holds ∧ st'.env = st.env ∧ Good cx.eT X (sit O st' loc' w) ∧ Tr (sit O st loc w) (sit O st' loc' w) ∧ SVR cx.eT (sit O st' loc' w) sv (a.eval x) := by
  have hx := ev_rel he x
  unfold rowNilVC at h
  split at h
  case h_2 => exact h.elim
  rename_i e hl _
  rw [hl] at hx
  split at h
  · obtain ⟨tr1, g1⟩ := fresh_step (oc := .mrow e []) (l := ⟨.slice none 0 0, []⟩) g hO (Below.refl _ w) (by simp)
    have g1 := g1 (.inl ⟨rfl, ⟨none, rfl⟩, rfl⟩)
    refine ⟨_, _, _, h, rfl, g1, tr1, ?_⟩
    rw [show a.eval x = _ from hx]
    exact ⟨by simp [sit, fresh], fun t ys hy => by simp [sit, updLoc]⟩
  · exact deepNil_sound g hO he h
theorem rowApp_sound (hok : TyOK P cx) {O : Avoid} {st : St} {loc : Nat → Loc} {w : World} (g : Good cx.eT X (sit O st loc w)) (hO : OIn O w)
    {t ty : TypeId} {n : Nat} {x : C} {K : SV → St → VC} {vs vx : Value} (hs : CR cx.eT (sit O st loc w) (.mrow n) vs) (hx : CR cx.eT (sit O st loc w) x vx) (h : (rowAppVC cx st t n x K).holds) :
    ∃ sv v st' loc' w', (K sv st').holds ∧ st'.env = st.env ∧ Good cx.eT X (sit O st' loc' w') ∧ Tr (sit O st loc w) (sit O st' loc' w') ∧ SVR cx.eT (sit O st' loc' w') sv v ∧
      (Builtin.append_ #[t, t] ty #[vs, vx]).run P w = .ok v w' := by
  unfold rowAppVC at h
  split at h
  case h_2 => exact h.elim
  rename_i e ht
  obtain ⟨te, ti, td, hu, hf⟩ := und_slice hok ht
  obtain ⟨z, hz, hzr⟩ := hf.zero
  have hzs : z.cells.size = e.size := by
    rw [← Array.length_toList]
    exact (zero_rel (S := sit O st loc w) (cx := cx) hzr).length.symm.trans (zeroCs_length e)
  split at h
  case h_2 => exact h.elim
  rename_i ys e' zs hsc hys hob
  split at h
  case h_2 => exact h.elim
  rename_i hb1
  have he1 : e' = e := by have := Ty.eq_of_beq hb1; cases this; rfl
  subst he1
  rw [castL_self] at h
  obtain ⟨⟨hpos, hle⟩, h⟩ := h
  have hvl := hs.2 _ _ hob
  have hbytes : (List.length zs + List.length ys) * ti.bytes ≤ 140737488355328 := by have := Nat.mul_le_mul hle hf.bytes; omega
  rcases srcD_rel g hys hx with ⟨rfl, _⟩ | ⟨b, o, cap, cs, hvx, hcl, hcc, hrl, hone⟩
  · simp at hpos
  have hnews : ∀ j u, cs[j]? = some u → w.cell? ((⟨b, o, none⟩ : Addr).add j) = some u := fun j u hj => by rw [Addr.add_lit]; exact hcc j u hj
  subst hvx
  have fin : ∀ (w' : World) (b' cap' : Nat) (vs' : Array Value) (T' : TypeId) (olds : List Value), olds.length = List.length zs * e'.size → RowsL cx.eT e' zs (sit O st loc w).A w olds →
      w'.os = w.os → w'.output = w.output → w.heap.size ≤ w'.heap.size → (b' ∈ (loc n).bs ∨ w.heap.size ≤ b') → (∀ b, b < w.heap.size → b ≠ b' → w'.heap[b]? = w.heap[b]?) →
      w'.heap[b']? = some (.cells vs' T' (0, 0)) → vs'.size = cap' * e'.size → List.length zs + List.length ys ≤ cap' → (∀ (j : Nat) u, (olds ++ cs)[j]? = some u → vs'[j]? = some u) →
      (Builtin.append_ #[t, t] ty #[vs, .slice (some ⟨b, o, none⟩) ys.length cap]).run P w = .ok (.slice (some ⟨b', 0, none⟩) (List.length zs + List.length ys) cap') w' →
      ∃ sv v st' loc' w', (K sv st').holds ∧ st'.env = st.env ∧ Good cx.eT X (sit O st' loc' w') ∧ Tr (sit O st loc w) (sit O st' loc' w') ∧ SVR cx.eT (sit O st' loc' w') sv v ∧
        (Builtin.append_ #[t, t] ty #[vs, .slice (some ⟨b, o, none⟩) ys.length cap]).run P w = .ok v w' := by
    intro w' b' cap' vs' T' olds ho1 ho3 hos hout hsize hb' hoth hheap' hsz' hcap' hv hrun
    obtain ⟨tr, gd⟩ := merge_step (w' := w') (oc := .mrow e' (zs ++ ys)) (l := ⟨.slice (some ⟨b', 0, none⟩) (List.length zs + List.length ys) cap', [b']⟩) g hO n n hos hout hsize
      (fun k oc' hk hl => by
        have : k = n := by rcases hk with h | h <;> exact h
        subst this; rw [hob] at hl; cases hl; rfl)
      (fun b hlt hb => by
        refine hoth b hlt fun e' => ?_
        subst e'
        rcases hb' with k1 | k1
        · exact hb n _ (.inl rfl) hob k1
        · omega)
      (fun b hbm => by
        simp at hbm
        subst hbm
        rcases hb' with k1 | k1
        · exact .inl ⟨n, _, .inl rfl, hob, k1⟩
        · exact .inr k1)
    have gd := gd (.inr ⟨b', vs', T', cap', by rw [List.length_append], rfl, hheap', hsz', by rw [List.length_append]; exact hcap', by rw [List.length_append]; unfold big; omega, fun i y hy => by
      obtain ⟨us, r1, r2⟩ := (ho3.append ho1 hrl) i y hy
      exact ⟨us, plain_eT hsc r1, fun j u hj => hv _ u (r2 j u hj)⟩⟩)
    exact ⟨_, _, _, _, _, h, rfl, gd, tr, ⟨by simp [sit, fresh, dropObj], fun t xs hy => by simp [sit, updLoc]⟩, hrun⟩
  rcases (g.obj n _ hob).2 with ⟨rfl, ⟨a0, ha0⟩, hbs0⟩ | ⟨b1, vs1, T1, cap1, hl1, hbs1, hheap1, hsz1, hfit1, hbig1, he1⟩
  · have hvs0 : vs = .slice a0 0 0 := hvl.trans ha0
    subst hvs0
    have hrun := run_append_emp (P := P) (w := w) (t := t) (ty := ty) hu hf.info hz a0 (a := ⟨b, o, none⟩) (n := List.length ys) (c := cap) (news := cs) (by rw [hcl, hf.size]) hnews hpos (by simp at hle; omega)
      (by have := hbytes; simp only [List.length_nil, Nat.zero_add] at this; omega)
    have hc' : List.length ys ≤ grownCap w (List.length ys) 0 te := grownCap_ge w _ _ _
    have hB : Below w.heap.size w (w.drew.alloc (.cells (cs.toArray ++ Builtin.zeroCells z.cells (grownCap w (List.length ys) 0 te - List.length ys)) te)) := (Below.refl _ w).drew.alloc (Nat.le_refl _) _
    refine fin _ w.heap.size (grownCap w (List.length ys) 0 te) _ te [] (by simp) (fun i y hy => by simp at hy) hB.os hB.output hB.size (.inr (Nat.le_refl _)) (fun b hlt _ => hB.block b hlt) (heap_alloc_new w.drew _) ?_ (by simpa using hc')
      (fun j u hj => ?_) (by rw [hrun]; simp)
    · simp only [Array.size_append, List.size_toArray, size_zeroCells, hzs, hcl, ← Nat.add_mul]
      congr 1; omega
    · rw [List.nil_append] at hj
      rw [Array.getElem?_append, if_pos (by simpa using getElem?_lt hj)]
      simpa using hj
  · have hvs0 : vs = .slice (some ⟨b1, 0, none⟩) (List.length zs) cap1 := hvl.trans hl1
    subst hvs0
    have hxs : List.length zs * e'.size ≤ vs1.size := by rw [hsz1]; exact Nat.mul_le_mul_right _ hfit1
    obtain ⟨olds, ho, ho1, ho3, _⟩ := elems_cells he1 hxs
    have ho2 : ∀ j u, olds[j]? = some u → vs1[j]? = some u := fun j u hj => by
      rw [ho, List.getElem?_take] at hj
      split at hj
      · rwa [Array.getElem?_toList] at hj
      · cases hj
    by_cases hroom : List.length zs + List.length ys ≤ cap1
    · have hmul : (List.length zs + List.length ys) * e'.size ≤ cap1 * e'.size := Nat.mul_le_mul_right _ hroom
      rw [Nat.add_mul] at hmul
      have hfit : List.length zs * ti.size + cs.length ≤ vs1.size := by rw [hf.size, hsz1, hcl]; exact hmul
      have hrun := run_append_in (P := P) (ty := ty) hu hf.info hheap1 (a := ⟨b, o, none⟩) (c := cap) (by rw [hcl, hf.size]) hnews hone hroom hfit
      rw [hf.size] at hrun hfit
      generalize hcur' : (vs1.toList.take (List.length zs * e'.size) ++ cs ++ vs1.toList.drop (List.length zs * e'.size + cs.length)).toArray = cur' at hrun
      have hget : ∀ k : Nat, cur'[k]? = if k < List.length zs * e'.size then vs1[k]? else if k < List.length zs * e'.size + cs.length then cs[k - List.length zs * e'.size]? else vs1[k]? := by
        intro k
        rw [← hcur', List.getElem?_toArray, splice_get _ _ _ _ (by simpa using hfit)]
        simp
      have hsz' : cur'.size = vs1.size := by
        rw [← hcur']; simp only [List.size_toArray, List.length_append, List.length_take, List.length_drop, Array.length_toList]; omega
      refine fin (w.setRow b1 cur') b1 cap1 cur' T1 olds ho1 ho3 rfl rfl (by simp [World.setRow]) (.inl (by rw [show (loc n).bs = _ from hbs1]; simp))
        (fun b _ hne => setRow_other w b1 b cur' (fun e' => hne e')) (setRow_heap w b1 vs1 cur' T1 (0, 0) hheap1) (by rw [hsz', hsz1]) hroom (fun j u hj => ?_) hrun
      rw [List.getElem?_append, ho1] at hj
      rw [hget]
      by_cases h3 : j < List.length zs * e'.size
      · rw [if_pos h3] at hj ⊢; exact ho2 j u hj
      · rw [if_neg h3] at hj
        have := getElem?_lt hj
        rw [if_neg h3, if_pos (by omega)]; exact hj
    · have hrun := run_append_grow (P := P) w t ty te ti z hu hf.info hz ⟨b1, 0, none⟩ (List.length zs) cap1 olds (by rw [ho1, hf.size])
        (fun j u hj => by rw [Addr.add_lit, Nat.zero_add, cell_of_row w b1 _ vs1 T1 (0, 0) hheap1]; exact ho2 j u hj)
        ⟨b, o, none⟩ (List.length ys) cap cs (by rw [hcl, hf.size]) hnews (by omega) (by omega) (growslice_fits (by omega) hbytes)
      have hc' : List.length zs + List.length ys ≤ grownCap w (List.length zs + List.length ys) cap1 te := grownCap_ge w _ _ _
      have hB : Below w.heap.size w (w.drew.alloc (.cells (olds.toArray ++ cs.toArray ++ Builtin.zeroCells z.cells (grownCap w (List.length zs + List.length ys) cap1 te - (List.length zs + List.length ys))) te)) := (Below.refl _ w).drew.alloc (Nat.le_refl _) _
      refine fin _ w.heap.size (grownCap w (List.length zs + List.length ys) cap1 te) _ te olds ho1 ho3 hB.os hB.output hB.size (.inr (Nat.le_refl _)) (fun b hlt _ => hB.block b hlt) (heap_alloc_new w.drew _) ?_ hc' (fun j u hj => ?_) hrun
      · simp only [Array.size_append, List.size_toArray, size_zeroCells, hzs, hcl, ho1, ← Nat.add_mul]
        congr 1; omega
      · have hj' : (olds.toArray ++ cs.toArray)[j]? = some u := by
          rw [← Array.getElem?_toList]; simpa using hj
        rw [Array.getElem?_append, if_pos (by have := (Array.getElem?_eq_some_iff.1 hj').1; exact this)]
        exact hj'
end
end Go.Vg

namespace Go.Vg
open Go.RowKit
def minI (a b : Int) : Int := if b < a then b else a
def maxI (a b : Int) : Int := if b > a then b else a
def mmVC (mx : Bool) (x y : C) (K : C → VC) : VC :=
  match x, y with
  | .d (.int k) a, .d (.int k') b => match decide (k = k'), mx with
    | true, true => K (.d (.int k) (maxI a b))
    | true, false => K (.d (.int k) (minI a b))
    | _, _ => .ff
  | _, _ => .ff
def capNames (st : St) (env : List (Nat × SV)) : List Operand → Option (List Nat)
  | [] => some []
  | x :: xs => match ev1 env x, capNames st env xs with
    | .ref n 0, some ns => match look st.objs n with
      | some (.cells _ _) => some (n :: ns)
      | _ => none
    | _, _ => none
def callVC (cx : Cx) (st : St) (still : Bool) (f : C) (args : List SV0) (K : SV → St → VC) : VC :=
  match f with
  | .fn k caps => match look cx.Γ k with
    | some (q, sp) => match still && !q with
      | true => .ff
      | false => sp (args ++ caps.map fun n => .one (.ref n 0)) st K
    | none => .ff
  | _ => .ff
def hinted (cx : Cx) (d : Option Tmp) : Bool :=
  match d with
  | some d => memN d cx.hint
  | none => false
def callOpVC (cx : Cx) (st : St) (o : Oper) (c : Call) (K : SV → St → VC) : VC :=
  match c.callee with
  | .value f => callVC cx st (hinted cx o.dst) (ev1 st.env f) (c.args.toList.map fun x => ev0 st.env x) K
  | .builtin .append => match c.args.toList, c.argTypes.toList with
    | [s, x], [t, t'] => match Nat.beq t t' with
      | true => match ev1 st.env s, ev1 st.env x with
        | .xd n .top, .xd m .top => deepApp cx st t n m K
        | .mrow n, x => match hinted cx o.dst with
          | true => rowAppVC cx st t n x K
          | false => appendVC cx false st t (.mrow n) x K
        | s, x => appendVC cx (hinted cx o.dst) st t s x K
      | false => match look cx.τ t, look cx.τ t', ev1 st.env s, ev1 st.env x with
        | some (.slice (.int .u8)), some .str, .app e' xs n, .d .str ys => appOn st (.int .u8) (bytesIn ys) e' xs n K
        | _, _, _, _ => .ff
    | _, _ => .ff
  | .builtin .copy => match c.args.toList, c.argTypes.toList with
    | [d, s], [t, _] => copyVC cx st t (ev1 st.env d) (ev1 st.env s) K
    | _, _ => .ff
  | .builtin .max => match c.args.toList with
    | [x, y] => mmVC true (ev1 st.env x) (ev1 st.env y) fun c => K (.s (.one c)) st
    | _ => .ff
  | .builtin .min => match c.args.toList with
    | [x, y] => mmVC false (ev1 st.env x) (ev1 st.env y) fun c => K (.s (.one c)) st
    | _ => .ff
  | _ => readVC cx st o.op fun sv => K sv st
def bytesOf (ys : List Int) : List UInt8 := ys.map fun n => UInt8.ofNat n.toNat
def bytesStrVC (st : St) (x : C) (K : C → VC) : VC :=
  match srcD st (.int .u8) x with
  | some ys => .and (ys.length ≤ big) (K (.d .str (bytesOf ys)))
  | none => .ff
def convOpVC (cx : Cx) (st : St) (o : Oper) (s t : TypeId) (x : Operand) (K : SV → St → VC) : VC :=
  match look cx.τ s, look cx.τ t with
  | some (.slice (.int .u8)), some .str => bytesStrVC st (ev1 st.env x) fun c => K (.s (.one c)) st
  | _, some (.int _) => readVC cx st o.op fun sv => K sv st
  | _, _ => .ff
def isRow : C → Bool
  | .mrow _ => true
  | _ => false
def ownPart (st : St) (n : Nat) (ps : List (Nat × Operand)) : Option SV0 :=
  match n, ps with
  | 1, [(0, x)] => match ev0 st.env x with
    | .one (.mrow m) => some (.one (.mrow m))
    | .agg cs => match cs.any isRow with
      | true => some (.agg cs)
      | false => none
    | _ => none
  | _, _ => none
def asgVC (cx : Cx) (st : St) (o : Oper) (x : Operand) (K : SV → St → VC) : VC :=
  match hinted cx o.dst, ev st.env x with
  | true, .s (.one .nilS) => rowNilVC cx st x o.type K
  | _, _ => movVC cx st x o.type K
def buildSlVC (cx : Cx) (st : St) (t : TypeId) (n : Nat) (ps : List (Nat × Operand)) (K : SV → St → VC) : VC :=
  match ownPart st n ps with
  | some v => deepBuild cx st t v K
  | none => buildSliceVC cx st t n ps fun c => K (.s (.one c)) st
def stVC (cx : Cx) (st : St) (t : TypeId) (x : C) (v : SV0) (K : SV → St → VC) : VC :=
  match x with
  | .xd n (.cell i j) => match look cx.τ t with
    | some ty => deepStore st n i j ty v K
    | none => .ff
  | x => storeVC cx st t x v K
def opVC0 (cx : Cx) (st : St) (o : Oper) (K : SV → St → VC) : VC :=
  match o.op with
  | .convert s t x => convOpVC cx st o s t x K
  | .move x => movVC cx st x o.type K
  | .assign x => asgVC cx st o x K
  | .alloc t => match look cx.slf t with
    | some e => K (.s (.one (.xref st.next))) (fresh st (.ext 2 bldT ([], (t : Int), (e : Int), ())))
    | none => allocVC cx st t K
  | .box t x => boxVC cx st t (ev0 st.env x) K
  | .build t ps => buildVC cx st t ps.toList fun sv => K sv st
  | .buildSlice t n ps => buildSlVC cx st t n ps.toList K
  | .makeSlice t l c => makeSliceVC cx st t (ev1 st.env l) (ev1 st.env c) K
  | .store t x v => stVC cx st t (ev1 st.env x) (ev0 st.env v) K
  | .makeFunc fn first caps => match fn, first.toList, capNames st st.env caps.toList with
    | .func f, [], some ns => K (.s (.one (.fn f ns))) st
    | _, _, _ => .ff
  | .call c => callOpVC cx st o c K
  | op => readVC cx st op fun sv => K sv st
def opVC (cx : Cx) (st : St) (o : Oper) (K : SV → St → VC) : VC :=
  match mapVC cx st o K with
  | some vc => vc
  | none => opVC0 cx st o K
def kindOf (cx : Cx) (o : Oper) : Nat :=
  match o.op with
  | .move _ | .assign _ => 0
  | .convert _ t _ => match look cx.τ t with
    | some (.int _) => 0
    | _ => 3
  | .pick _ _ _ | .unOp _ _ _ | .extract _ _ | .binOp _ _ _ _ _ | .makeInterface _ _ | .typeAssert _ _ _ _ | .index _ _ _ | .build _ _ | .nilCheck _ | .indexAddr _ _ _ | .fieldAddr _ _ _ | .slice _ _ _ _ _ | .makeFunc _ _ _ => 0
  | .load _ _ => 1
  | .alloc _ | .box _ _ | .buildSlice _ _ _ | .makeSlice _ _ _ => 2
  | .call c => match c.callee with
    | .builtin .len => match c.argTypes.toList with
      | [t] => match look cx.mps t with
        | some _ => 3
        | none => 0
      | _ => 0
    | .builtin .max => 0
    | .builtin .min => 0
    | .value (.func f) => match look cx.Γ f with
      | some (true, _) => 2
      | _ => 3
    | .value _ => match hinted cx o.dst with
      | true => 2
      | false => 3
    | _ => 3
  | _ => 3
section
variable {X : Ext} {P : Program} {cx : Cx}
def After (cx : Cx) (X : Ext) (O : Avoid) (K : SV → St → VC) (st : St) (S : Sit) (loud : Bool) (a : Act) (dst : Option Tmp) : Act → World → Prop :=
  fun a' w' => ∃ v sv st' loc', a' = a.put dst v ∧ (K sv st').holds ∧ st'.env = st.env ∧ (loud = false → Below S.w.heap.size S.w w') ∧ Good cx.eT X (sit O st' loc' w') ∧ Tr S (sit O st' loc' w') ∧ SVR cx.eT (sit O st' loc' w') sv v
structure CallOK (P : Program) (eT : TypeId) (X : Ext) (f : FuncId) (quiet : Bool) (sp : CSpec) : Prop where
  fn : ∃ fn, P.funcs[f]? = some fn ∧ fn.body.isNone = false ∧ (fn.name == "runtime.NumGoroutine") = false
  ok : ∀ O st loc w args vs K, (sp args st K).holds → Good eT X (sit O st loc w) → OIn O w → SV0Rs eT (sit O st loc w) args vs →
    Calls P f vs.toArray w fun e w' => ∃ v sv st' loc', e = .returned v ∧ (K sv st').holds ∧ st'.env = st.env ∧ (quiet = true → Below w.heap.size w w') ∧ Good eT X (sit O st' loc' w') ∧
      Tr (sit O st loc w) (sit O st' loc' w') ∧ SVR eT (sit O st' loc' w') sv v
structure CxOK (P : Program) (cx : Cx) (X : Ext) : Prop extends TyOK P cx where
  calls : ∀ f q sp, look cx.Γ f = some (q, sp) → CallOK P cx.eT X f q sp
variable {Q : Exit → Act → World → Prop}
theorem wp_value {o : Oper} {a : Act} {w w' : World} {v : Value} {Kw : Act → World → Prop} (h : (execOp a.eval o).run P w = .ok (.value v) w') (hk : Kw (a.put o.dst v) w') : o.wp P a w Kw Q := by
  unfold Oper.wp; rw [h]; exact hk
theorem run_callFunc {f : FuncId} {fn : Func} (hfn : P.funcs[f]? = some fn) (hbody : fn.body.isNone = false) (hname : (fn.name == "runtime.NumGoroutine") = false) (args : Array Value) (w : World) :
    (callFunc f args).run P w = .ok (.enter f args) w := by
  unfold callFunc
  simp only [Sem.run_bind, run_program, Result.andThen_ok, hfn, hname, hbody, Bool.false_eq_true, if_false, Sem.run_pure]
theorem capNames_rel {O : Avoid} {st : St} {loc : Nat → Loc} {w : World} {a : Act} (he : EnvR cx.eT (sit O st loc w) st.env a) : ∀ {xs : List Operand} {ns : List Nat}, capNames st st.env xs = some ns →
    xs.map a.eval = ns.map (fun n => (loc n).v) ∧ ∀ n ∈ ns, n < st.next ∧ (sit O st loc w).fixed n := by
  intro xs
  induction xs with
  | nil => intro ns h; simp [capNames] at h; subst h; simp
  | cons x xs ih =>
    intro ns h
    simp only [capNames] at h
    split at h
    · rename_i n ns' hx hxs
      split at h
      · rename_i T cs hob
        cases h
        obtain ⟨k1, k2⟩ := ih hxs
        have hr := ev1_rel he x
        rw [hx] at hr
        obtain ⟨b, h1, h2⟩ := hr.2 _ _ hob
        refine ⟨by simp only [List.map_cons, k1]; congr 1; rw [h2]; exact h1.symm, fun m hm => ?_⟩
        rcases List.mem_cons.1 hm with rfl | hm
        · exact ⟨hr.1, fun t ys e => by simp only [sit] at e; rw [hob] at e; cases e⟩
        · exact k2 m hm
      · cases h
    · cases h
theorem SV0Rs.append {eT : TypeId} {S : Sit} {xs ys : List SV0} {us vs : List Value} (h : SV0Rs eT S xs us) (h' : SV0Rs eT S ys vs) : SV0Rs eT S (xs ++ ys) (us ++ vs) := by
  induction h with
  | nil => exact h'
  | cons h1 _ ih => exact .cons h1 ih
theorem caps_rel {O : Avoid} {st : St} {loc : Nat → Loc} {w : World} (g : Good cx.eT X (sit O st loc w)) : ∀ {ns : List Nat}, (∀ n ∈ ns, n < st.next) → SV0Rs cx.eT (sit O st loc w) (ns.map fun n => .one (.ref n 0)) (ns.map fun n => (loc n).v) := by
  intro ns
  induction ns with
  | nil => intro _; exact .nil
  | cons n ns ih =>
    intro h
    refine .cons ⟨h n (by simp), fun T cs hob => ?_⟩ (ih fun m hm => h m (by simp [hm]))
    obtain ⟨_, b, vs, hl, _⟩ := g.obj _ _ hob
    exact ⟨b, hl, hl⟩
theorem args_rel {S : Sit} {env : List (Nat × SV)} {a : Act} (he : EnvR cx.eT S env a) : ∀ (xs : List Operand), SV0Rs cx.eT S (xs.map fun x => ev0 env x) (xs.map a.eval)
  | [] => .nil
  | x :: xs => .cons (ev0_rel he x) (args_rel he xs)
theorem mmVC_rel {S : Sit} {mx : Bool} {x y : C} {K : C → VC} {v1 v2 : Value} (hx : CR cx.eT S x v1) (hy : CR cx.eT S y v2) (h : (mmVC mx x y K).holds) :
    ∃ c v, (K c).holds ∧ CR cx.eT S c v ∧ ∀ w, (if mx then Builtin.max2 v1 v2 else Builtin.min2 v1 v2).run P w = .ok v w := by
  unfold mmVC at h
  split at h
  · rename_i k a k' b
    obtain ⟨rfl, ha⟩ := int_rel.1 hx
    obtain ⟨rfl, hb⟩ := int_rel.1 hy
    split at h
    · rename_i hk
      simp at hk
      subst hk
      refine ⟨_, _, h, int_rel.2 ⟨rfl, ?_⟩, fun w => by simp [Builtin.max2, maxI]⟩
      unfold maxI; split <;> assumption
    · rename_i hk
      simp at hk
      subst hk
      refine ⟨_, _, h, int_rel.2 ⟨rfl, ?_⟩, fun w => by simp [Builtin.min2, minI]⟩
      unfold minI; split <;> assumption
    · exact h.elim
  · exact h.elim
theorem foldl_push (ns : List Int) : ∀ s : ByteArray, ns.foldl (fun r n => r.push (UInt8.ofNat n.toNat)) s = ⟨s.data ++ (bytesOf ns).toArray⟩ := by
  induction ns with
  | nil => intro s; simp [bytesOf]
  | cons n ns ih =>
    intro s
    rw [List.foldl_cons, ih]
    simp [bytesOf, ByteArray.push]
theorem rows_u8 {eT : TypeId} {A : Avoid} {w : World} {ys : List Int} {cs : List Value} (hl : cs.length = ys.length) (h : RowsL eT (.int .u8) ys A w cs) : cs = ys.map (Value.int .u8) := by
  apply List.ext_getElem?
  intro i
  cases hy : ys[i]? with
  | none =>
    have : ys.length ≤ i := List.getElem?_eq_none_iff.1 hy
    rw [List.getElem?_eq_none (by omega), List.getElem?_eq_none (by simpa using this)]
  | some y =>
    obtain ⟨us, h1, h2⟩ := h i y hy
    obtain ⟨rfl, _⟩ := h1
    have := h2 0 _ rfl
    simp only [Ty.size, Nat.mul_one, Nat.add_zero] at this
    rw [this, List.getElem?_map, hy]
    rfl
theorem bytesStr_sound (hok : TyOK P cx) {O : Avoid} {st : St} {loc : Nat → Loc} {w : World} (g : Good cx.eT X (sit O st loc w)) {s t : TypeId} (hs : look cx.τ s = some (.slice (.int .u8))) (ht : look cx.τ t = some .str)
    {x : C} {v0 : Value} (hx : CR cx.eT (sit O st loc w) x v0) {K : C → VC} (h : (bytesStrVC st x K).holds) :
    ∃ c v, (K c).holds ∧ CR cx.eT (sit O st loc w) c v ∧ (convert s t v0).run P w = .ok v w := by
  obtain ⟨_, i1, d1, hf1, hs1⟩ := shape_of hok hs
  cases d1 <;> simp [shapeFit] at hs1
  rename_i te
  have hu := hf1.und
  obtain ⟨_, _, d3, _, hf3, hs3⟩ := fits_out hs1
  have hte : P.underlying te = some (.int .u8) := by
    cases d3 <;> simp [shapeFit] at hs3
    subst hs3; exact hf3.und
  obtain ⟨_, i2, d2, hf2, hs2⟩ := shape_of hok ht
  have hd2 : d2 = .string := by cases d2 <;> simp [shapeFit] at hs2; rfl
  subst hd2
  unfold bytesStrVC at h
  split at h
  · rename_i ys hys
    obtain ⟨hlen, h⟩ := h
    refine ⟨_, .string ⟨(bytesOf ys).toArray⟩, h, str_rel.2 ⟨rfl, by simpa [bytesOf] using hlen⟩, ?_⟩
    rcases srcD_rel g hys hx with ⟨rfl, a0, c0, rfl⟩ | ⟨b, o, cap, cs, rfl, h1, h2, h3, _⟩
    · rcases a0 with _ | a0
      · rw [run_convert_bytes_string w s t te none 0 c0 hu hte hf2.und]
        rfl
      · rw [run_convert_bytes_string w s t te _ _ _ hu hte hf2.und]
        rw [run_bytesToString w a0 0 c0 [], foldl_push]
        · simp
        · have := run_loadCells_list (P := P) w a0 [] (fun j u hj => by simp at hj)
          simpa using this
    · rw [run_convert_bytes_string w s t te _ _ _ hu hte hf2.und]
      simp only [Ty.size, Nat.mul_one] at h1
      have hcs := rows_u8 h1 h3
      rw [run_bytesToString w ⟨b, o, none⟩ ys.length cap ys, foldl_push]
      · simp
      · rw [← h1, run_loadCells_list w _ cs (fun j u hj => by rw [Addr.add_lit]; exact h2 j u hj), hcs]
  · exact h.elim
theorem op_sound0 (hok : CxOK P cx X) {O : Avoid} {st : St} {loc : Nat → Loc} {w : World} {a : Act} (g : Good cx.eT X (sit O st loc w)) (hO : OIn O w) (he : EnvR cx.eT (sit O st loc w) st.env a)
    {o : Oper} {K : SV → St → VC} (h : (opVC0 cx st o K).holds) : o.wp P a w (After cx X O K st (sit O st loc w) (Nat.beq (kindOf cx o) 3) a o.dst) Q := by
  have read : (readVC cx st o.op fun sv => K sv st).holds → o.wp P a w (After cx X O K st (sit O st loc w) (Nat.beq (kindOf cx o) 3) a o.dst) Q := by
    intro h
    obtain ⟨sv, v, h1, h2, h3⟩ := readVC_sound hok.toTyOK g he h
    exact wp_value h3 ⟨v, sv, st, loc, rfl, h1, rfl, fun _ => Below.refl _ _, g, Tr.refl _, h2⟩
  have mov : ∀ x ty, (execOp a.eval o).run P w = .ok (.value (a.eval x)) w → (movVC cx st x ty K).holds → o.wp P a w (After cx X O K st (sit O st loc w) (Nat.beq (kindOf cx o) 3) a o.dst) Q := by
    intro x ty hrun h
    obtain ⟨sv, st', loc', h1, h2, h3, h4, h5⟩ := movVC_sound g hO he h
    exact wp_value hrun ⟨_, sv, st', loc', rfl, h1, h2, fun _ => Below.refl _ _, h3, h4, h5⟩
  unfold opVC0 at h
  split at h
  · rename_i s t x hop
    unfold convOpVC at h
    split at h
    · rename_i hs ht
      obtain ⟨c, v, h1, h2, h3⟩ := bytesStr_sound hok.toTyOK g hs ht (ev1_rel he x) h
      exact wp_value (w' := w) (by simp only [execOp, hop, Sem.run_bind, Sem.run_pure]; rw [h3]; rfl) ⟨v, _, st, loc, rfl, h1, rfl, fun _ => Below.refl _ _, g, Tr.refl _, h2⟩
    · exact read h
    · exact h.elim
  · rename_i x hop
    exact mov x _ (by simp [execOp, hop]) h
  · rename_i x hop
    unfold asgVC at h
    split at h
    · obtain ⟨sv, st', loc', h1, h2, h3, h4, h5⟩ := rowNil_sound g hO he h
      exact wp_value (w' := w) (v := a.eval x) (by simp [execOp, hop]) ⟨_, sv, st', loc', rfl, h1, h2, fun _ => Below.refl _ _, h3, h4, h5⟩
    · exact mov x _ (by simp [execOp, hop]) h
  · rename_i t hop
    split at h
    · rename_i e hslf
      obtain ⟨i, hi, hz⟩ := hok.slf t e hslf
      have hb : Below w.heap.size w (w.alloc (.cells #[.pointer none, .slice none 0 0] t)) := (Below.refl _ w).alloc (Nat.le_refl _) _
      obtain ⟨tr1, g1⟩ := fresh_step (oc := .ext 2 bldT ([], (t : Int), (e : Int), ())) (l := ⟨.pointer (some ⟨w.heap.size, 0, none⟩), [w.heap.size]⟩) g hO hb (by simp)
      have g1 := g1 (X.bld.2 ⟨rfl, w.heap.size, .pointer none, .slice none 0 0, rfl, .inl rfl, heap_alloc_new w _, ⟨by simp, .inl ⟨rfl, rfl⟩⟩, rfl, by simp [Value.ownBlock], (fun y hy => by simp at hy), (fun a n c hh => by cases hh)⟩)
      refine wp_value (w' := w.alloc (.cells #[.pointer none, .slice none 0 0] t)) (v := .pointer (some ⟨w.heap.size, 0, none⟩)) (by simp [execOp, hop, Instr.alloc, zeroValue, typeInfo, hi, hz, newVar, newRow, Value.cells])
        ⟨_, _, _, _, rfl, h, rfl, fun _ => hb, g1, tr1, ⟨by simp [sit, fresh], fun oc hy hx => ?_⟩⟩
      simp [sit, updLoc]
    unfold allocVC at h
    split at h
    · rename_i ty ht
      obtain ⟨m, ti, d, hf, hs⟩ := shape_of hok.toTyOK ht
      obtain ⟨z, hz, hzr⟩ := hf.zero
      obtain ⟨sv, st', loc', h1, h2, h3, h4, h5⟩ := newBox (t := t) (ts := cellTys ty) g hO (zero_rel hzr) h
      refine wp_value (w' := w.alloc (.cells z.cells.toList.toArray t)) ?_ ⟨_, sv, st', loc', rfl, h1, h2, fun _ => (Below.refl _ w).alloc (Nat.le_refl _) _, h3, h4, h5⟩
      simp [execOp, hop, Instr.alloc, zeroValue, typeInfo, hf.info, hz, newVar, newRow]
    · split at h
      case h_2 => exact h.elim
      rename_i n te hn
      split at h
      case h_2 => exact h.elim
      rename_i e he
      split at h
      case h_2 => exact h.elim
      rename_i hno
      obtain ⟨i, z, hi, hz, hzr⟩ := hok.arr0 t n te e hn he
      have hb : Below w.heap.size w (w.alloc (.cells z.cells.toList.toArray t)) := (Below.refl _ w).alloc (Nat.le_refl _) _
      obtain ⟨tr1, g1⟩ := fresh_step (oc := .arr e (List.replicate n (zeroD e))) (l := ⟨.pointer (some ⟨w.heap.size, 0, none⟩), [w.heap.size]⟩) g hO hb (by simp)
      obtain ⟨hl, hel⟩ := zeroRows_rel (eT := cx.eT) (A := (sit O (fresh st (.arr e (List.replicate n (zeroD e)))) (updLoc loc st.next ⟨.pointer (some ⟨w.heap.size, 0, none⟩), [w.heap.size]⟩) (w.alloc (.cells z.cells.toList.toArray t))).A) (w := w.alloc (.cells z.cells.toList.toArray t)) hno hzr
      have g1 := g1 ⟨w.heap.size, z.cells.toList.toArray, t, rfl, rfl, heap_alloc_new w _, by simp only [List.size_toArray, List.length_replicate]; exact hl, fun j y hy => by
        obtain ⟨us, k1, k2⟩ := hel j y hy
        exact ⟨us, k1, fun q u hq => by simpa using k2 q u hq⟩⟩
      refine wp_value (w' := w.alloc (.cells z.cells.toList.toArray t)) ?_ ⟨.pointer (some ⟨w.heap.size, 0, none⟩), _, _, _, rfl, h, rfl, fun _ => hb, g1, tr1, ?_⟩
      · simp [execOp, hop, Instr.alloc, zeroValue, typeInfo, hi, hz, newVar, newRow]
      · show st.next < st.next + 1 ∧ _
        refine ⟨by omega, fun t' xs' hx => ?_⟩
        simp [sit, updLoc]
  · rename_i t x hop
    unfold boxVC at h
    split at h
    · rename_i ty ht
      split at h
      · rename_i cs0 hfl
        obtain ⟨us, hus, hcr, _⟩ := flat0_rel g hfl (ev0_rel he x)
        obtain ⟨sv, st', loc', h1, h2, h3, h4, h5⟩ := newBox (t := t) (ts := cellTys ty) g hO hcr h
        refine wp_value (w' := w.alloc (.cells us.toArray t)) ?_ ⟨_, sv, st', loc', rfl, h1, h2, fun _ => (Below.refl _ w).alloc (Nat.le_refl _) _, h3, h4, h5⟩
        subst hus
        simp [execOp, hop, Instr.box, newVar, newRow]
      · exact h.elim
    · exact h.elim
  · rename_i t ps hop
    obtain ⟨sv, v, h1, h2, h3⟩ := buildVC_sound hok.toTyOK g he h
    exact wp_value (by have := h3 w; simp only [execOp, hop, Sem.run_bind, Sem.run_pure]; rw [this]; rfl) ⟨v, sv, st, loc, rfl, h1, rfl, fun _ => Below.refl _ _, g, Tr.refl _, h2⟩
  · rename_i t n ps hop
    unfold buildSlVC at h
    split at h
    · rename_i sv0 hown
      have hp : ∃ x, n = 1 ∧ ps.toList = [(0, x)] ∧ SV0R cx.eT (sit O st loc w) sv0 (a.eval x) := by
        unfold ownPart at hown
        split at hown
        · rename_i x hps
          have hr := ev0_rel he x
          split at hown
          · rename_i m hm; cases hown; exact ⟨x, rfl, hps, by rw [← hm]; exact hr⟩
          · rename_i cs hm
            split at hown
            · cases hown; exact ⟨x, rfl, hps, by rw [← hm]; exact hr⟩
            · cases hown
          · cases hown
        · cases hown
      obtain ⟨x, rfl, hps, hr⟩ := hp
      obtain ⟨sv, v, st', loc', w', h1, h2, h3, h4, h5, h6, h7⟩ := deepBuild_sound hok.toTyOK g hO hr h
      have hps' : ps = #[(0, x)] := Array.toList_inj.1 hps
      exact wp_value (w' := w') (v := v) (by simp only [execOp, hop, Sem.run_bind, Sem.run_pure, hps']; rw [show (#[(0, x)] : Array (Nat × Operand)).map (fun (i, x) => (i, a.eval x)) = #[(0, a.eval x)] from by simp, h7]; rfl) ⟨v, sv, st', loc', rfl, h1, h2, fun _ => h3, h4, h5, h6⟩
    obtain ⟨c, v, w', h1, h2, h3, h4, h5, h6⟩ := buildSliceVC_sound hok.toTyOK g hO he h
    exact wp_value (by simp only [execOp, hop, Sem.run_bind, Sem.run_pure]; rw [h6]; rfl) ⟨v, _, st, loc, rfl, h1, rfl, fun _ => h2, h3, h4, h5⟩
  · rename_i t l c hop
    obtain ⟨sv, v, st', loc', w', h1, h2, h3, h4, h5, h6, h7⟩ := makeSliceVC_sound hok.toTyOK g hO (ev1_rel he l) (ev1_rel he c) h
    exact wp_value (by simp only [execOp, hop, Sem.run_bind, Sem.run_pure]; rw [h7]; rfl) ⟨v, sv, st', loc', rfl, h1, h3, fun _ => h2, h4, h5, h6⟩
  · rename_i t x v hop
    have hst : ∃ st' loc' w', (K (.s (.one .any)) st').holds ∧ st'.env = st.env ∧ Good cx.eT X (sit O st' loc' w') ∧ Tr (sit O st loc w) (sit O st' loc' w') ∧ (Instr.storeAt t (a.eval x) (a.eval v)).run P w = .ok () w' := by
      have hx := ev1_rel he x
      unfold stVC at h
      split at h
      · rename_i n i j hl
        rw [hl] at hx
        split at h
        · rename_i ty ht
          obtain ⟨_, _, _, hf, _⟩ := shape_of hok.toTyOK ht
          exact deepStore_sound g hO hf hx (ev0_rel he v) h
        · exact h.elim
      · exact storeVC_sound hok.toTyOK g hO hx (ev0_rel he v) h
    obtain ⟨st', loc', w', h1, h2, h3, h4, h5⟩ := hst
    have hrun : (execOp a.eval o).run P w = .ok .skip w' := by
      simp only [execOp, hop, Sem.run_bind, Sem.run_pure]; rw [h5]; rfl
    unfold Oper.wp
    rw [hrun]
    have hk : Nat.beq (kindOf cx o) 3 = true := by simp [kindOf, hop]
    exact ⟨undef, _, st', loc', rfl, h1, h2, fun e => (by rw [hk] at e; cases e), h3, h4, trivial⟩
  · rename_i fn first caps hop
    split at h
    · rename_i f ns hfi hcn
      obtain ⟨k1, k2⟩ := capNames_rel he hcn
      have hfi' : first = #[] := Array.toList_inj.1 hfi
      have hca : caps.map a.eval = (ns.map fun n => (loc n).v).toArray := by
        apply Array.toList_inj.1
        rw [Array.toList_map, k1]
      refine wp_value (w' := w) (v := .func (.func f) #[] (ns.map fun n => (loc n).v).toArray) ?_ ⟨_, _, st, loc, rfl, h, rfl, fun _ => Below.refl _ _, g, Tr.refl _, ⟨rfl, k2⟩⟩
      simp [execOp, hop, Instr.makeFunc, hfi', hca]
    · exact h.elim
  · rename_i c hop
    unfold callOpVC at h
    split at h
    · rename_i f hcal
      unfold callVC at h
      split at h
      · rename_i k caps hf
        split at h
        · rename_i q sp hsp
          split at h
          · exact h.elim
          rename_i hstill
          obtain ⟨⟨fn, hfn, hbody, hname⟩, hcall⟩ := hok.calls k q sp hsp
          have hr := ev1_rel he f
          rw [hf] at hr
          obtain ⟨hfv, hcaps⟩ := hr
          have hargs := (args_rel he c.args.toList).append (caps_rel g (ns := caps) fun n hn => (hcaps n hn).1)
          have := hcall O st loc w _ _ K h g hO hargs
          have hrun : (execOp a.eval o).run P w = .ok (.enter k (c.args.toList.map a.eval ++ caps.map fun n => (loc n).v).toArray) w := by
            have e1 : (c.args.map a.eval) ++ (caps.map fun n => ((sit O st loc w).loc n).v).toArray = (c.args.toList.map a.eval ++ caps.map fun n => (loc n).v).toArray := by
              apply Array.toList_inj.1
              simp [sit]
            have e2 : resolve a.eval c o.type = pure { target := .fn (.func k) (caps.map fun n => ((sit O st loc w).loc n).v).toArray, args := c.args.map a.eval } := by
              simp [resolve, hcal, hfv, Deferred.ofValue]
            simp only [execOp, hop, e2, pure_bind, invoke, e1]
            exact run_callFunc hfn hbody hname _ w
          unfold Oper.wp
          rw [hrun]
          refine Calls.mono this ?_
          rintro e w' ⟨v, sv, st', loc', rfl, k1, k2, k3, k4, k5, k6⟩
          refine ⟨v, sv, st', loc', rfl, k1, k2, fun hl => ?_, k4, k5, k6⟩
          cases q with
          | true => exact k3 rfl
          | false =>
            exfalso
            have : kindOf cx o = 3 := by
              unfold kindOf
              simp only [hop, hcal]
              split
              · rename_i heq; cases heq
              · rename_i heq; cases heq
              · rename_i heq; cases heq
              · rename_i f' heq
                have hfe : f = .func f' := by cases heq; rfl
                subst hfe
                simp only [ev1, ev] at hf
                cases hf
                rw [hsp]
              · rw [show hinted cx o.dst = false by simpa using hstill]
              · rfl
            rw [this] at hl
            cases hl
        · exact h.elim
      · exact h.elim
    · rename_i hcal
      split at h
      · rename_i s x t t' harg hty
        split at h
        · rename_i htt
          have htt := Nat.eq_of_beq_eq_true htt
          subst htt
          have h1 : c.args = #[s, x] := Array.toList_inj.1 harg
          have h2 : c.argTypes = #[t, t] := Array.toList_inj.1 hty
          have happ : ∃ sv v st' loc' w', (K sv st').holds ∧ st'.env = st.env ∧ Good cx.eT X (sit O st' loc' w') ∧ Tr (sit O st loc w) (sit O st' loc' w') ∧ SVR cx.eT (sit O st' loc' w') sv v ∧
              (Builtin.append_ #[t, t] o.type #[a.eval s, a.eval x]).run P w = .ok v w' := by
            have hs := ev1_rel he s
            have hx := ev1_rel he x
            split at h
            · rename_i n m hl1 hl2
              rw [hl1] at hs
              rw [hl2] at hx
              exact deepApp_sound hok.toTyOK g hO hs hx h
            · rename_i n hl1
              rw [hl1] at hs
              split at h
              · exact rowApp_sound hok.toTyOK g hO hs hx h
              · exact appendVC_sound (P := P) (ty := o.type) hok.toTyOK g hO hs hx h
            · exact appendVC_sound (P := P) (ty := o.type) hok.toTyOK g hO hs hx h
          obtain ⟨sv, v, st', loc', w', k1, k2, k3, k4, k5, k6⟩ := happ
          have hk : Nat.beq (kindOf cx o) 3 = true := by simp [kindOf, hop, hcal]
          refine wp_value (w' := w') (v := v) ?_ ⟨v, sv, st', loc', rfl, k1, k2, fun e => (by rw [hk] at e; cases e), k3, k4, k5⟩
          simp [execOp, hop, resolve, hcal, h1, h2, invoke, builtin, k6]
        · split at h
          case h_2 => exact h.elim
          rename_i e' xs n ys ht1 ht2 hs1 hx1
          have h1 : c.args = #[s, x] := Array.toList_inj.1 harg
          have h2 : c.argTypes = #[t, t'] := Array.toList_inj.1 hty
          obtain ⟨te, ti, td, hu, hf⟩ := und_slice hok.toTyOK ht1
          obtain ⟨z, hz, hzr⟩ := hf.zero
          have hzs : z.cells.size = (Ty.int .u8).size := by rw [← Array.length_toList]; exact (zero_rel (S := sit O st loc w) (cx := cx) hzr).length.symm.trans (zeroCs_length _)
          have hs := ev1_rel he s
          have hx := ev1_rel he x
          rw [hs1] at hs
          rw [hx1] at hx
          obtain ⟨hx, hxl⟩ := str_rel.1 hx
          have hu' : P.underlying t' = some .string := und_str hok.toTyOK ht2
          obtain ⟨sv, v, st', loc', w', k1, k2, k3, k4, k5, k6⟩ := appOn_sound (t := t) (t' := t') (ty := o.type) g hO hu hf hz hzs hs (SrcR.of_str hu hu' hf hz ys _ _) h
          have hk : Nat.beq (kindOf cx o) 3 = true := by simp [kindOf, hop, hcal]
          refine wp_value (w' := w') (v := v) ?_ ⟨v, sv, st', loc', rfl, k1, k2, fun e => (by rw [hk] at e; cases e), k3, k4, k5⟩
          simp [execOp, hop, resolve, hcal, h1, h2, invoke, builtin, hx, k6]
      · exact h.elim
    · rename_i hcal
      split at h
      · rename_i d s t t' harg hty
        have h1 : c.args = #[d, s] := Array.toList_inj.1 harg
        have h2 : c.argTypes = #[t, t'] := Array.toList_inj.1 hty
        obtain ⟨sv, v, st', loc', w', k1, k2, k3, k4, k5, k6⟩ := copyVC_sound (P := P) (t' := t') (ty := o.type) hok.toTyOK g hO (ev1_rel he d) (ev1_rel he s) h
        have hk : Nat.beq (kindOf cx o) 3 = true := by simp [kindOf, hop, hcal]
        refine wp_value (w' := w') (v := v) ?_ ⟨v, sv, st', loc', rfl, k1, k2, fun e => (by rw [hk] at e; cases e), k3, k4, k5⟩
        simp [execOp, hop, resolve, hcal, h1, h2, invoke, builtin, k6]
      · exact h.elim
    · rename_i hcal
      split at h
      · rename_i x y harg
        have h1 : c.args = #[x, y] := Array.toList_inj.1 harg
        obtain ⟨c', v, k1, k2, k3⟩ := mmVC_rel (P := P) (ev1_rel he x) (ev1_rel he y) h
        refine wp_value (w' := w) (v := v) ?_ ⟨v, _, st, loc, rfl, k1, rfl, fun _ => Below.refl _ _, g, Tr.refl _, k2⟩
        have k3 := k3 w
        simp only [if_true] at k3
        simp [execOp, hop, resolve, hcal, h1, invoke, builtin, Builtin.max_, k3]
      · exact h.elim
    · rename_i hcal
      split at h
      · rename_i x y harg
        have h1 : c.args = #[x, y] := Array.toList_inj.1 harg
        obtain ⟨c', v, k1, k2, k3⟩ := mmVC_rel (P := P) (ev1_rel he x) (ev1_rel he y) h
        refine wp_value (w' := w) (v := v) ?_ ⟨v, _, st, loc, rfl, k1, rfl, fun _ => Below.refl _ _, g, Tr.refl _, k2⟩
        have k3 := k3 w
        simp only [Bool.false_eq_true, if_false] at k3
        simp [execOp, hop, resolve, hcal, h1, invoke, builtin, Builtin.min_, k3]
      · exact h.elim
    · exact read h
  · exact read h
theorem mapVC_kind {st : St} {o : Oper} {K : SV → St → VC} {vc : VC} (h : mapVC cx st o K = some vc) : kindOf cx o = 3 := by
  unfold mapVC at h
  split at h
  · rename_i hop; simp [kindOf, hop]
  · rename_i hop; simp [kindOf, hop]
  · rename_i hop; simp [kindOf, hop]
  · rename_i hop; simp [kindOf, hop]
  · rename_i hop; simp [kindOf, hop]
  · rename_i hop; simp [kindOf, hop]
  · rename_i c hop
    split at h
    · rename_i hcal; simp [kindOf, hop, hcal]
    · rename_i hcal
      split at h
      · rename_i x t harg hty
        split at h
        · rename_i p hp; simp [kindOf, hop, hcal, hty, hp]
        · cases h
      · cases h
    · cases h
  · cases h
theorem op_sound (hok : CxOK P cx X) {O : Avoid} {st : St} {loc : Nat → Loc} {w : World} {a : Act} (g : Good cx.eT X (sit O st loc w)) (hO : OIn O w) (he : EnvR cx.eT (sit O st loc w) st.env a)
    {o : Oper} {K : SV → St → VC} (h : (opVC cx st o K).holds) : o.wp P a w (After cx X O K st (sit O st loc w) (Nat.beq (kindOf cx o) 3) a o.dst) Q := by
  unfold opVC at h
  split at h
  · rename_i vc hm
    have hk : Nat.beq (kindOf cx o) 3 = true := by rw [mapVC_kind hm]; rfl
    obtain ⟨sv, v, st', loc', w', h1, h2, h3, h4, h5, h6⟩ := mapVC_sound hok.toTyOK g hO he hm h
    rcases h6 with h6 | ⟨h6, rfl⟩
    · exact wp_value h6 ⟨v, sv, st', loc', rfl, h1, h2, fun e => (by rw [hk] at e; cases e), h3, h4, h5⟩
    · unfold Oper.wp
      rw [h6]
      exact ⟨undef, _, st', loc', rfl, h1, h2, fun e => (by rw [hk] at e; cases e), h3, h4, trivial⟩
  · exact op_sound0 hok g hO he h
end
end Go.Vg

namespace Go.Vg
open Go.RowKit
inductive Anc (ops : Array Oper) (i : Nat) : Nat → Prop
  | dir {j o e} : ops[j]? = some o → e ∈ o.after → Region.binds .any e = true → e.on = i → Anc ops i j
  | step {j o e} : ops[j]? = some o → e ∈ o.after → Region.binds .any e = true → Anc ops i e.on → Anc ops i j
def ClosedL (ops : Array Oper) (listed : Array Bool) : Prop :=
  ∀ j o, ops[j]? = some o → listed.getD j false = true → ∀ e ∈ o.after, Region.binds .any e = true → listed.getD e.on false = true
theorem Anc.listed {ops : Array Oper} {listed : Array Bool} {i j : Nat} (h : Anc ops i j) (hc : ClosedL ops listed) : (∀ o, ops[j]? = some o → ∀ e ∈ o.after, Region.binds .any e = true → listed.getD e.on false = true) → listed.getD i false = true := by
  induction h with
  | dir ho he hb hi => intro hj; rw [← hi]; exact hj _ ho _ he hb
  | step ho he hb _ ih => intro hj; exact ih fun o' ho' => hc _ o' ho' (hj _ ho _ he hb)
def maskOf (ms : List Nat) (o : Oper) : Nat :=
  o.after.toList.foldl (fun s e => match Region.binds .any e with
    | true => s ||| (1 <<< e.on) ||| ms.getD e.on 0
    | false => s) 0
def masksGo : List Oper → List Nat → List Nat
  | [], ms => ms
  | o :: r, ms => masksGo r (ms ++ [maskOf ms o])
theorem testBit_one_shl {k i : Nat} (h : (1 <<< k).testBit i = true) : k = i := by
  rw [Nat.one_shiftLeft, Nat.testBit_two_pow] at h
  simpa using h
theorem maskOf_anc {ops : Array Oper} {ms : List Nat} (hms : ∀ j, j < ms.length → ∀ i, (ms.getD j 0).testBit i = true → Anc ops i j) {j : Nat} {o : Oper} (ho : ops[j]? = some o) :
    ∀ i, (maskOf ms o).testBit i = true → Anc ops i j := by
  intro i hi
  unfold maskOf at hi
  have key : ∀ (l : List Edge) (s : Nat), (∀ e ∈ l, e ∈ o.after) → (s.testBit i = true → Anc ops i j) →
      (l.foldl (fun s e => match Region.binds .any e with | true => s ||| (1 <<< e.on) ||| ms.getD e.on 0 | false => s) s).testBit i = true → Anc ops i j := by
    intro l
    induction l with
    | nil => intro s _ hs h; exact hs h
    | cons e l ih =>
      intro s hl hs h
      simp only [List.foldl_cons] at h
      refine ih _ (fun e' he' => hl e' (by simp [he'])) ?_ h
      intro hb
      split at hb
      · rename_i hbind
        rw [Nat.testBit_or, Nat.testBit_or] at hb
        simp only [Bool.or_eq_true] at hb
        rcases hb with (hb | hb) | hb
        · exact hs hb
        · exact .dir ho (hl e (by simp)) hbind (testBit_one_shl hb)
        · by_cases hlt : e.on < ms.length
          · exact .step ho (hl e (by simp)) hbind (hms _ hlt i hb)
          · rw [List.getD_eq_getElem?_getD, List.getElem?_eq_none (by omega)] at hb
            simp at hb
      · exact hs hb
  exact key o.after.toList 0 (fun e he => by simpa using he) (by simp) hi
theorem masksGo_anc {ops : Array Oper} : ∀ (r : List Oper) (ms : List Nat), (∀ j, j < ms.length → ∀ i, (ms.getD j 0).testBit i = true → Anc ops i j) → (∀ k o, r[k]? = some o → ops[ms.length + k]? = some o) →
    ∀ j i, ((masksGo r ms).getD j 0).testBit i = true → Anc ops i j := by
  intro r
  induction r with
  | nil =>
    intro ms hms _ j i h
    by_cases hlt : j < ms.length
    · exact hms j hlt i h
    · simp only [masksGo] at h
      rw [List.getD_eq_getElem?_getD, List.getElem?_eq_none (by omega)] at h
      simp at h
  | cons o r ih =>
    intro ms hms hr
    refine ih _ ?_ ?_
    · intro j hj i h
      rw [List.length_append, List.length_singleton] at hj
      by_cases hlt : j < ms.length
      · rw [List.getD_eq_getElem?_getD, List.getElem?_append_left hlt, ← List.getD_eq_getElem?_getD] at h
        exact hms j hlt i h
      · have e : j = ms.length := by omega
        subst e
        rw [List.getD_eq_getElem?_getD, List.getElem?_append_right (Nat.le_refl _)] at h
        simp only [Nat.sub_self, List.getElem?_cons_zero, Option.getD_some] at h
        exact maskOf_anc hms (by simpa using hr 0 o rfl) i h
    · intro k o' hk
      have := hr (k + 1) o' (by simpa using hk)
      rw [List.length_append, List.length_singleton, show ms.length + 1 + k = ms.length + (k + 1) from by omega]
      exact this
def masks (ops : List Oper) : List Nat := masksGo ops []
theorem masks_anc {ops : Array Oper} {i j : Nat} (h : ((masks ops.toList).getD j 0).testBit i = true) : Anc ops i j :=
  masksGo_anc ops.toList [] (fun j hj => by simp at hj) (fun k o hk => by simpa using hk) j i h
def DataFr (w : World) (A : Avoid) (w' : World) (A' : Avoid) : Prop := ∀ b o v, ¬ A b o → w.cell? ⟨b, o, none⟩ = some v → w'.cell? ⟨b, o, none⟩ = some v ∧ ¬ A' b o
theorem DataFr.refl (w : World) (A : Avoid) : DataFr w A w A := fun _ _ _ h h' => ⟨h', h⟩
theorem DataFr.trans {w1 w2 w3 : World} {A1 A2 A3 : Avoid} (h : DataFr w1 A1 w2 A2) (h' : DataFr w2 A2 w3 A3) : DataFr w1 A1 w3 A3 := fun b o v h1 h2 => have k := h b o v h1 h2; h' b o v k.2 k.1
abbrev Link := World → Avoid → World → Avoid → Prop
section
variable {P : Program} {ops : Array Oper} {Q : Exit → Act → World → Prop} {loud : Nat → Bool}
def wpS (P : Program) (ops : Array Oper) (loud : Nat → Bool) (Q : Exit → Act → World → Prop) : Nat → Array Bool → Act → World → Avoid → Prop
  | 0, listed, a, w, _ => Region.ready .any ops listed = [] ∧ Q .normal a w
  | n + 1, listed, a, w, A => (Region.ready .any ops listed = [] → Q .normal a w) ∧
    ∀ i ∈ Region.ready .any ops listed, wpOp P ops Q i (fun a' w' => (loud i = false → Below w.heap.size w w') ∧ ∃ A', DataFr w A w' A' ∧ wpS P ops loud Q n (listed.setIfInBounds i true) a' w' A') a w
theorem wpS_any : ∀ (n : Nat) (listed : Array Bool) (a : Act) (w : World) (A : Avoid), wpS P ops loud Q n listed a w A → wpAny P .any ops Q n listed a w
  | 0, _, _, _, _, h => h
  | n + 1, _, _, _, _, h => ⟨h.1, fun i hi => wpOp_mono (fun a' w' h' => let ⟨A', _, h2⟩ := h'.2; wpS_any n _ a' w' A' h2) (h.2 i hi)⟩
def YieldsC (P : Program) (ops : Array Oper) (C : Link) (o : Oper) (v : Value) (a : Act) (w : World) (A : Avoid) : Prop :=
  (Region.wanted o (yielded ops a.tmps) = true ∧ ∀ w' A', C w A w' A' → (execOp a.eval o).run P w' = .ok (.value v) w') ∨
  (Region.wanted o (yielded ops a.tmps) = false ∧ v = undef)
theorem YieldsC.of_same {C : Link} (ht : ∀ a A b B c D, C a A b B → C b B c D → C a A c D) {o : Oper} {v : Value} {a a' : Act} {w w' : World} {A A' : Avoid} (hy : YieldsC P ops C o v a w A) (hc : C w A w' A') (he : execOp a'.eval o = execOp a.eval o)
    (hw : Region.wanted o (yielded ops a'.tmps) = Region.wanted o (yielded ops a.tmps)) : YieldsC P ops C o v a' w' A' := by
  unfold YieldsC at *
  rw [he, hw]
  rcases hy with ⟨h1, h2⟩ | h
  · exact .inl ⟨h1, fun w'' A'' hc' => h2 w'' A'' (ht _ _ _ _ _ _ hc hc')⟩
  · exact .inr h
theorem wpOp_putC {C : Link} (ht : ∀ a A b B c D, C a A b B → C b B c D → C a A c D) {j : Nat} {oi oj : Oper} {v : Value} (hj : ops[j]? = some oj) (hap : oi.apart ops oj = true)
    (hsi : ∀ cs b, oi.op ≠ .select cs b) (hsj : ∀ cs b, oj.op ≠ .select cs b)
    (hQ : ∀ c a w, Q (.panic c) (a.put oi.dst v) w → Q (.panic c) a w) {K : Act → World → Avoid → Prop} {a : Act} {w : World} {A : Avoid} (hCw : ∀ w' A', (loud j = false → Below w.heap.size w w') → DataFr w A w' A' → C w A w' A')
    (hy : YieldsC P ops C oi v a w A) (h : wpOp P ops Q j (fun a' w' => (loud j = false → Below w.heap.size w w') ∧ ∃ A', DataFr w A w' A' ∧ K a' w' A') (a.put oi.dst v) w) :
    wpOp P ops Q j (fun a' w' => (loud j = false → Below w.heap.size w w') ∧ ∃ A', DataFr w A w' A' ∧ YieldsC P ops C oi v a' w' A' ∧ K (a'.put oi.dst v) w' A') a w := by
  obtain ⟨h1, h2, h3⟩ := Oper.apart_spec hap
  have keep : ∀ (a : Act) (w' : World) (A' : Avoid), YieldsC P ops C oi v a w A → C w A w' A' → ∀ u, YieldsC P ops C oi v (a.put oj.dst u) w' A' := fun a w' A' hy hc u =>
    hy.of_same ht hc (execOp_put oi hsi a oj.dst u h3) (wanted_put oi a oj.dst u h3)
  have keepD : ∀ d, YieldsC P ops C oi v { a with defers := d :: a.defers } w A := fun d => by
    unfold YieldsC at *; exact hy
  have fin : ∀ (u : Value) (w' : World), ((loud j = false → Below w.heap.size w w') ∧ ∃ A', DataFr w A w' A' ∧ K ((a.put oi.dst v).put oj.dst u) w' A') →
      (loud j = false → Below w.heap.size w w') ∧ ∃ A', DataFr w A w' A' ∧ YieldsC P ops C oi v (a.put oj.dst u) w' A' ∧ K ((a.put oj.dst u).put oi.dst v) w' A' := by
    rintro u w' ⟨k1, A', k2, k3⟩
    exact ⟨k1, A', k2, keep a w' A' hy (hCw _ _ k1 k2) u, by rw [← Act.put_comm a v u h2]; exact k3⟩
  unfold wpOp at *
  simp only [hj] at *
  rw [wanted_put oj a oi.dst v h1] at h
  split
  · rename_i hw
    simp only [hw, if_true] at h
    rcases h with h | ⟨hasks, hlets⟩
    case inr => exact .inr ⟨by unfold Oper.asks at *; rw [execOp_put oj hsj a oi.dst v h1] at hasks; exact hasks, hlets⟩
    refine .inl ?_
    unfold Oper.wp at *
    rw [execOp_put oj hsj a oi.dst v h1] at h
    generalize (execOp a.eval oj).run P w = r at *
    cases r with
    | ok n w' =>
      cases n <;> simp only [Oper.upon] at h ⊢
      case value u => exact fin u w' h
      case skip => exact fin _ w' h
      case defer d =>
        obtain ⟨k1, A', k2, k3⟩ := h
        refine ⟨k1, A', k2, keep _ w' A' (keepD d) (hCw _ _ k1 k2) _, ?_⟩
        rw [← Act.put_comm _ v undef h2, ← Act.put_defers]
        exact k3
      case enter f args =>
        refine Calls.mono h fun e w'' he => ?_
        cases e with
        | returned u => exact fin u w'' he
        | panicked c => exact hQ _ _ _ he
        | outgrown => exact he
      case row row args => exact Rows.mono h fun u w'' he => fin u w'' he
    | halt x w' =>
      cases x <;> simp only [Oper.upon] at h ⊢
      case panic u => exact hQ _ _ _ h
  · rename_i hw
    simp only [hw] at h
    exact fin _ w h
theorem YieldsC.wpOp {C : Link} (hr : ∀ w A, C w A w A) {i : Nat} {o : Oper} {v : Value} {a : Act} {w : World} {A : Avoid} (hi : ops[i]? = some o) (hy : YieldsC P ops C o v a w A)
    {K : Act → World → Avoid → Prop} (h : K (a.put o.dst v) w A) : wpOp P ops Q i (fun a' w' => (loud i = false → Below w.heap.size w w') ∧ ∃ A', DataFr w A w' A' ∧ K a' w' A') a w := by
  unfold Go.wpOp
  simp only [hi]
  rcases hy with ⟨hw, hv⟩ | ⟨hw, rfl⟩
  · simp only [hw, if_true, Oper.wp, hv w A (hr w A), Oper.upon]; exact .inl ⟨fun _ => Below.refl _ _, A, DataFr.refl _ _, h⟩
  · simp only [hw, Bool.false_eq_true, if_false]; exact ⟨fun _ => Below.refl _ _, A, DataFr.refl _ _, h⟩
theorem closed_set {listed : Array Bool} {i : Nat} (hc : ClosedL ops listed) (hr : i ∈ Region.ready .any ops listed) : ClosedL ops (listed.setIfInBounds i true) := by
  intro j o ho hj e he hb
  by_cases hij : i = j
  · subst hij
    obtain ⟨_, o', ho', hall⟩ := mem_ready.1 hr
    rw [ho] at ho'
    cases ho'
    exact getD_set_true (hall e he hb)
  · rw [getD_set_ne false hij] at hj
    exact getD_set_true (hc j o ho hj e he hb)
theorem wpS_first {C : Link} (hrefl : ∀ w A, C w A w A) (ht : ∀ a A b B c D, C a A b B → C b B c D → C a A c D) {i : Nat} {oi : Oper} {v : Value} (hi : ops[i]? = some oi)
    (hsel : ∀ (j : Nat) (o : Oper) cs b, ops[j]? = some o → o.op ≠ .select cs b)
    (hQ : ∀ c a w, Q (.panic c) (a.put oi.dst v) w → Q (.panic c) a w) :
    ∀ (fuel : Nat) (listed : Array Bool) (a : Act) (w : World) (A : Avoid), ClosedL ops listed →
      (∀ j oj, ops[j]? = some oj → j ≠ i → listed.getD j true = false → (∀ e ∈ oj.after, Region.binds .any e = true → e.on ≠ i) → oi.apart ops oj = true) →
      ((∀ w A w' A', DataFr w A w' A' → C w A w' A') ∨ ((∀ w A w' A', Below w.heap.size w w' → C w A w' A') ∧ ∀ j, listed.getD j true = false → j ≠ i → loud j = true → Anc ops i j)) →
      i ∈ Region.ready .any ops listed → YieldsC P ops C oi v a w A →
      wpS P ops loud Q fuel (listed.setIfInBounds i true) (a.put oi.dst v) w A → wpS P ops loud Q (fuel + 1) listed a w A := by
  intro fuel
  induction fuel with
  | zero =>
    intro listed a w A _ _ _ hr hy H
    refine ⟨fun h => (by rw [h] at hr; cases hr), fun j hj => ?_⟩
    by_cases hji : j = i
    · subst hji; exact hy.wpOp hrefl hi H
    · have := ready_mono hj hji
      rw [H.1] at this
      cases this
  | succ fuel ih =>
    intro listed a w A hcl hfree hC hr hy H
    refine ⟨fun h => (by rw [h] at hr; cases hr), fun j hj => ?_⟩
    by_cases hji : j = i
    · subst hji; exact hy.wpOp hrefl hi H
    · have h1 := H.2 j (ready_mono hj hji)
      obtain ⟨hjun, oj, hoj, hall⟩ := mem_ready.1 hj
      have hiun : listed.getD i false ≠ true := by
        have h0 := (mem_ready.1 hr).1
        rcases Nat.lt_or_ge i listed.size with h' | h'
        · simp [h'] at h0 ⊢; exact h0
        · simp [Array.getElem?_eq_none h']
      have hnot : ∀ e ∈ oj.after, Region.binds .any e = true → e.on ≠ i := fun e he hb heq => hiun (heq ▸ hall e he hb)
      have hCw : ∀ w' A', (loud j = false → Below w.heap.size w w') → DataFr w A w' A' → C w A w' A' := by
        intro w' A' hb hd
        rcases hC with hC | ⟨hC1, hC2⟩
        · exact hC w A w' A' hd
        · refine hC1 w A w' A' (hb ?_)
          cases hl : loud j
          · rfl
          · exact absurd ((hC2 j hjun hji hl).listed hcl (fun o ho => by rw [hoj] at ho; cases ho; exact hall)) hiun
      have h2 := wpOp_putC ht hoj (hfree j oj hoj hji hjun hnot) (fun cs b => hsel i oi cs b hi) (fun cs b => hsel j oj cs b hoj) hQ hCw hy h1
      have hfree' : ∀ k ok, ops[k]? = some ok → k ≠ i → (listed.setIfInBounds j true).getD k true = false →
          (∀ e ∈ ok.after, Region.binds .any e = true → e.on ≠ i) → oi.apart ops ok = true := fun k ok hk hki hun hno => by
        refine hfree k ok hk hki ?_ hno
        by_cases hjk : j = k
        · subst hjk; exact hjun
        · rw [getD_set_ne true hjk] at hun; exact hun
      have hC' : (∀ w A w' A', DataFr w A w' A' → C w A w' A') ∨ ((∀ w A w' A', Below w.heap.size w w' → C w A w' A') ∧ ∀ k, (listed.setIfInBounds j true).getD k true = false → k ≠ i → loud k = true → Anc ops i k) := by
        rcases hC with hC | ⟨hC1, hC2⟩
        · exact .inl hC
        · refine .inr ⟨hC1, fun k hk => hC2 k ?_⟩
          by_cases hjk : j = k
          · subst hjk; exact hjun
          · rw [getD_set_ne true hjk] at hk; exact hk
      refine wpOp_mono (fun a' w' h3 => ?_) h2
      obtain ⟨k1, A', k2, k3, k4⟩ := h3
      refine ⟨k1, A', k2, ih (listed.setIfInBounds j true) a' w' A' (closed_set hcl hj) hfree' hC' (ready_mono hr (Ne.symm hji)) k3 ?_⟩
      rw [Array.setIfInBounds_comm _ _ hji]
      exact k4
end
end Go.Vg

