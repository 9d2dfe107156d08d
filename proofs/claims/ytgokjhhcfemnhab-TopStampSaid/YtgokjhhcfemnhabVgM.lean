/- A part of the proof that the law TopStamp holds of the given program: facts that are used there. -/
import Derived.Test.YtgokjhhcfemnhabVgE
import Derived.Maps.RangeRun
namespace Go.Vg
open Go.RowKit
/-! Maps by strings. -/
def hasE (e : Ty) : List (D (mapE e)) → List UInt8 → Bool
  | [], _ => false
  | y :: r, k => if y.1 = k then true else hasE e r k
def getE (e : Ty) : List (D (mapE e)) → List UInt8 → D e
  | [], _ => zeroD e
  | y :: r, k => if y.1 = k then y.2.1 else getE e r k
def putE (e : Ty) : List (D (mapE e)) → List UInt8 → D e → Int → List (D (mapE e))
  | [], k, v, c => [(k, v, c, ())]
  | y :: r, k, v, c => if y.1 = k then (k, v, y.2.2) :: r else y :: putE e r k v c
def delE (e : Ty) : List (D (mapE e)) → List UInt8 → List (D (mapE e))
  | [], _ => []
  | y :: r, k => if y.1 = k then r else y :: delE e r k
def clkE (e : Ty) (es : List (D (mapE e))) (k : List UInt8) (c : Int) : Int := if hasE e es k = true then c else c + 1
def atE (e : Ty) : List (D (mapE e)) → Int → D (mapE e)
  | [], _ => zeroD (mapE e)
  | y :: r, s => if y.2.2.1 = s then y else atE e r s
def bornE (e : Ty) : List (D (mapE e)) → Int → Bool
  | [], _ => false
  | y :: r, s => if y.2.2.1 = s then true else bornE e r s
def leftE (e : Ty) (es : List (D (mapE e))) (seen : List Int) : List (D (mapE e)) := es.filter fun y => !(seen.contains y.2.2.1)
def lastI (l : List Int) : Int := l.getLastD 0
def mapVC1 (cx : Cx) (st : St) (t : TypeId) (c : C) (K : (e : Ty) → Nat → D (mapT e) → VC) : VC :=
  match c with
  | .xref n => match look cx.mps t with
    | some (_, te) => match look cx.τ te, look st.objs n with
      | some e, some (.ext 1 t' x) => match h : Ty.beq t' (mapT e), e.one with
        | true, false => K e n (castD h x)
        | _, _ => .ff
      | _, _ => .ff
    | none => .ff
  | _ => .ff
def unMap : Ty → Option Ty
  | .prod (.slice (.prod _ (.prod e _))) _ => some e
  | _ => none
def iterVC (st : St) (c : C) (K : (e : Ty) → Nat → List C → List Int → Int → D (mapT e) → VC) : VC :=
  match c with
  | .xref k => match look st.objs k with
    | some (.iter [.xref n] seen cl) => match look st.objs n with
      | some (.ext 1 t' x) => match unMap t' with
        | some e => match h : Ty.beq t' (mapT e) with
          | true => K e k [.xref n] seen cl (castD h x)
          | false => .ff
        | none => .ff
      | _ => .ff
    | _ => .ff
  | _ => .ff
def nextVC (st : St) (c : C) (K : SV → St → VC) : VC :=
  iterVC st c fun e k cs seen cl d => .and (d.2.1 = cl) (.both
    (.imp (leftE e d.1 seen = []) (K (.tup [.one (.lit false)]) st))
    (.all (D (mapE e)) fun y => .imp (y ∈ leftE e d.1 seen) (K (.tup [.one (.lit true), .one (.d .str y.1), .one (.d e y.2.1)]) (setObj st k (.iter cs (seen ++ [y.2.2.1]) cl)))))
def mapVC (cx : Cx) (st : St) (o : Oper) (K : SV → St → VC) : Option VC :=
  match o.op with
  | .makeMap t none => some (match look cx.mps t with
    | some (_, te) => match look cx.τ te with
      | some e => match e.scal with
        | true => K (.s (.one (.xref st.next))) (fresh st (.ext 1 (mapT e) ([], 0, ())))
        | false => .ff
      | none => .ff
    | none => .ff)
  | .lookup t m x true => some (mapVC1 cx st t (ev1 st.env m) fun e _ d => match asD .str (ev1 st.env x) with
    | some k => K (.tup [.one (.d e (getE e d.1 k)), .one (.d .bool (hasE e d.1 k))]) st
    | none => .ff)
  | .mapUpdate t m x v => some (mapVC1 cx st t (ev1 st.env m) fun e n d => match asD .str (ev1 st.env x), asD0 e (ev0 st.env v) with
    | some k, some y => .and (d.1.length < big) (K (.s (.one .any)) (setObj st n (.ext 1 (mapT e) (putE e d.1 k y d.2.1, clkE e d.1 k d.2.1, ()))))
    | _, _ => .ff)
  | .range t m => some (mapVC1 cx st t (ev1 st.env m) fun _ n d => K (.s (.one (.xref st.next))) (fresh st (.iter [.xref n] [] d.2.1)))
  | .next it false => some (nextVC st (ev1 st.env it) K)
  | .entry it => some (iterVC st (ev1 st.env it) fun e _ _ seen cl d => .and (d.2.1 = cl) (.and (seen ≠ []) (.and (bornE e d.1 (lastI seen) = true)
      (K (.tup [.one (.d .str (atE e d.1 (lastI seen)).1), .one (.d e (atE e d.1 (lastI seen)).2.1)]) st))))
  | .call c => match c.callee with
    | .builtin .delete => match c.args.toList, c.argTypes.toList with
      | [m, x], t :: _ => some (mapVC1 cx st t (ev1 st.env m) fun e n d => match asD .str (ev1 st.env x) with
        | some k => K (.s (.one .any)) (setObj st n (.ext 1 (mapT e) (delE e d.1 k, d.2.1, ())))
        | none => .ff)
      | _, _ => some .ff
    | .builtin .len => match c.args.toList, c.argTypes.toList with
      | [x], [t] => match look cx.mps t with
        | some _ => some (mapVC1 cx st t (ev1 st.env x) fun _ _ d => K (.s (.one (.d (.int .i64) (d.1.length : Int)))) st)
        | none => none
      | _, _ => none
    | _ => none
  | _ => none
/-! What they do. -/
theorem scal_vr {e : Ty} {e1 e2 : TypeId} {x : D e} {A A' : Avoid} {w w' : World} {v : Value} (hs : e.scal = true) (h : VR e1 e x A w v) : VR e2 e x A' w' v := by
  unfold VR at h ⊢
  by_cases c : e.one = true
  · rw [if_pos c] at h ⊢; exact plain_eT hs h
  · rw [if_neg c] at h ⊢; obtain ⟨cs, h1, h2⟩ := h; exact ⟨cs, h1, plain_eT hs h2⟩
theorem EntR.to {e : Ty} (hs : e.scal = true) {y : D (mapE e)} {m : MapEntry} {w w' : World} (h : EntR e y m w) : EntR e y m w' := ⟨h.key, scal_vr hs h.val, h.born⟩
theorem EntsR.to {e : Ty} (hs : e.scal = true) {w w' : World} : ∀ {x : List (D (mapE e))} {ms : List MapEntry}, EntsR e x ms w → EntsR e x ms w'
  | [], [], _ => trivial
  | _ :: _, _ :: _, ⟨h1, h2⟩ => ⟨h1.to hs, h2.to hs⟩
  | [], _ :: _, h => h.elim
  | _ :: _, [], h => h.elim
theorem EntsR.len {e : Ty} {w : World} : ∀ {x : List (D (mapE e))} {ms : List MapEntry}, EntsR e x ms w → x.length = ms.length
  | [], [], _ => rfl
  | _ :: _, _ :: _, ⟨_, h2⟩ => by simp [h2.len]
  | [], _ :: _, h => h.elim
  | _ :: _, [], h => h.elim
theorem MapR.inside {t : Ty} {x : D t} {l : Loc} {w : World} (h : MapR t x l w) : ∀ b ∈ l.bs, b < w.heap.size := by
  obtain ⟨e, _, b, es, clk, hm⟩ := h
  intro b' hb'
  rw [hm.bs] at hb'
  simp at hb'
  subst hb'
  exact (Array.getElem?_eq_some_iff.1 hm.heap).1
theorem MapR.frame {t : Ty} {x : D t} {l : Loc} {w w' : World} (h : MapR t x l w) (hb : ∀ b ∈ l.bs, w'.heap[b]? = w.heap[b]?) : MapR t x l w' := by
  obtain ⟨e, ht, b, es, clk, hm⟩ := h
  exact ⟨e, ht, b, es, clk, hm.scal, hm.lv, hm.bs, by rw [hb b (by rw [hm.bs]; simp)]; exact hm.heap, hm.clk, hm.ents.to hm.scal, hm.big, hm.old⟩
theorem key_beq (a b : List UInt8) : ((⟨a.toArray⟩ : ByteArray) == ⟨b.toArray⟩) = decide (a = b) := by
  rw [Bool.eq_iff_iff, Go.MapKept.bytes_beq]
  simp
/-- The first of a key. -/
theorem find_ents {e : Ty} {w : World} {k : List UInt8} (hk : k.length ≤ big) : ∀ {x : List (D (mapE e))} {ms : List MapEntry} (i : Nat), EntsR e x ms w →
    (hasE e x k = false ∧ getE e x k = zeroD e ∧ Instr.findNow .string (.string ⟨k.toArray⟩) ms i = some none ∧ (∀ v c, putE e x k v c = x ++ [(k, v, c, ())]) ∧ delE e x k = x) ∨
    (hasE e x k = true ∧ ∃ j m, ms[j]? = some m ∧ Instr.findNow .string (.string ⟨k.toArray⟩) ms i = some (some (i + j, m.val)) ∧ VR 0 e (getE e x k) NoA w m.val ∧ m.key = .string ⟨k.toArray⟩ ∧
      (∀ v u c, VR 0 e v NoA w u → EntsR e (putE e x k v c) (ms.set j { m with key := .string ⟨k.toArray⟩, val := u }) w) ∧ (∀ v c, (putE e x k v c).length = x.length) ∧ (∀ v c, ∀ y ∈ putE e x k v c, ∃ y' ∈ x, y.2.2.1 = y'.2.2.1) ∧
      EntsR e (delE e x k) (ms.eraseIdx j) w ∧ (∀ y ∈ delE e x k, y ∈ x) ∧ (delE e x k).length ≤ x.length)
  | [], [], i, _ => .inl ⟨rfl, rfl, rfl, fun _ _ => rfl, rfl⟩
  | y :: r, m :: ms, i, ⟨h1, h2⟩ => by
    have hkey : Instr.sameNow .string (.string ⟨k.toArray⟩) m.key = some (decide (y.1 = k)) := by
      rw [h1.key.1]
      show some _ = _
      rw [key_beq]
      congr 1
      rw [Bool.eq_iff_iff]; simp [eq_comm]
    by_cases c : y.1 = k
    · right
      refine ⟨by simp [hasE, c], 0, m, rfl, by simp [Instr.findNow, hkey, c], by simp [getE, c]; exact h1.val, by rw [h1.key.1, c], fun v u cc hv => ?_, fun v cc => ?_, fun v cc y' hy' => ?_, ?_, fun y' hy' => ?_, ?_⟩
      · rw [putE, if_pos c]; exact ⟨⟨⟨rfl, hk⟩, hv, h1.born⟩, h2⟩
      · rw [putE, if_pos c]; rfl
      · rw [putE, if_pos c] at hy'
        rcases List.mem_cons.1 hy' with rfl | hy'
        · exact ⟨y, by simp, rfl⟩
        · exact ⟨y', by simp [hy'], rfl⟩
      · rw [delE, if_pos c]; exact h2
      · rw [delE, if_pos c] at hy'; simp [hy']
      · rw [delE, if_pos c]; simp
    · rcases find_ents hk (i + 1) h2 with ⟨k1, k2, k3, k4, k5⟩ | ⟨k1, j, m', k2, k3, k4, k5, k6, k7, k8, k9, k10, k11⟩
      · left
        refine ⟨by simp [hasE, c, k1], by simp [getE, c, k2], by simp [Instr.findNow, hkey, c, k3], fun v cc => by simp [putE, c, k4], by simp [delE, c, k5]⟩
      · right
        refine ⟨by simp [hasE, c, k1], j + 1, m', by simpa using k2, by simp [Instr.findNow, hkey, c, k3]; omega, by simpa [getE, c] using k4, k5, fun v u cc hv => ?_, fun v cc => ?_, fun v cc y' hy' => ?_, ?_, fun y' hy' => ?_, ?_⟩
        · rw [putE, if_neg c]; exact ⟨h1, k6 v u cc hv⟩
        · rw [putE, if_neg c]; simp [k7]
        · rw [putE, if_neg c] at hy'
          rcases List.mem_cons.1 hy' with rfl | hy'
          · exact ⟨y', by simp, rfl⟩
          · obtain ⟨y2, h3, h4⟩ := k8 v cc y' hy'
            exact ⟨y2, by simp [h3], h4⟩
        · rw [delE, if_neg c]; exact ⟨h1, k9⟩
        · rw [delE, if_neg c] at hy'
          rcases List.mem_cons.1 hy' with rfl | hy'
          · simp
          · simp [k10 y' hy']
        · rw [delE, if_neg c]; simp; omega
  | [], _ :: _, _, h => h.elim
  | _ :: _, [], _, h => h.elim
theorem EntsR.snoc {e : Ty} {w : World} {y : D (mapE e)} {m : MapEntry} (hy : EntR e y m w) : ∀ {x : List (D (mapE e))} {ms : List MapEntry}, EntsR e x ms w → EntsR e (x ++ [y]) (ms ++ [m]) w
  | [], [], _ => ⟨hy, trivial⟩
  | _ :: _, _ :: _, ⟨h1, h2⟩ => ⟨h1, h2.snoc hy⟩
  | [], _ :: _, h => h.elim
  | _ :: _, [], h => h.elim
section
variable {X : Ext} {P : Program} {cx : Cx}
theorem set_step2 {O : Avoid} {st : St} {loc : Nat → Loc} {w w' : World} {n b : Nat} {oc oc' : OC} (g : Good cx.eT X (sit O st loc w)) (hO : OIn O w)
    (hob : look st.objs n = some oc) (hbs : (loc n).bs = [b]) (hk : SameKind (loc n) (loc n) oc oc') (h0 : oc.lo = 0) (h0' : oc'.lo = 0) (hos : w'.os = w.os) (hout : w'.output = w.output) (hsz : w'.heap.size = w.heap.size)
    (hoth : ∀ b', b' ≠ b → w'.heap[b']? = w.heap[b']?) :
    Tr (sit O st loc w) (sit O (setObj st n oc') loc w') ∧
      (OR cx.eT X (sit O (setObj st n oc') loc w') (loc n) oc' → Good cx.eT X (sit O (setObj st n oc') loc w')) := by
  refine step_set (S := sit O st loc w) (S' := sit O (setObj st n oc') loc w') (n := n) (oc := oc) (oc' := oc') (l' := loc n) g rfl hO hob
    (fun m => look_set st n m oc') (fun m => ?_) rfl (fun _ => rfl) hk hos hout (by simp [sit, hsz]) ?_ ?_ ?_
  · show loc m = _
    by_cases e : n = m
    · rw [if_pos e, e]
    · rw [if_neg e]; rfl
  · intro b' _ hb'
    exact hoth b' (fun e => hb' (by simp only [sit]; rw [hbs, e]; simp))
  · intro b' o v _ ho; rw [h0] at ho; omega
  · intro b' hb'; exact .inl ⟨hb', by omega⟩
/-- What is known of a map that is reached. -/
structure MapAt (cx : Cx) (P : Program) (S : Sit) (st : St) (t : TypeId) (v : Value) (e : Ty) (n : Nat) (d : D (mapT e)) where
  kt : TypeId
  te : TypeId
  b : Nat
  es : Array MapEntry
  clk : Nat
  und : P.underlying t = some (.map kt te)
  key : P.underlying kt = some .string
  fit : look cx.τ te = some e
  one : e.one = false
  ob : S.ob n = some (.ext 1 (mapT e) d)
  val : v = .map (some b)
  md : MapD e d (S.loc n) S.w b es clk
  zero : ∃ i cs, P.info? te = some i ∧ i.zero = some (.agg cs)
theorem castD_rfl {t : Ty} {h : Ty.beq t t = true} {x : D t} : castD h x = x := by rw [castD_self]
theorem mapR_of {e : Ty} {x : D (mapT e)} {l : Loc} {w : World} (h : MapR (mapT e) x l w) : ∃ b es clk, MapD e x l w b es clk := by
  obtain ⟨e', he, h⟩ := h
  have : e = e' := by injection he with h1 _; injection h1 with h1; injection h1 with _ h1; injection h1
  subst this
  exact h
theorem mapVC1_out (hok : TyOK P cx) {O : Avoid} {st : St} {loc : Nat → Loc} {w : World} (g : Good cx.eT X (sit O st loc w)) {t : TypeId} {c : C} {v : Value} {K : (e : Ty) → Nat → D (mapT e) → VC} (hc : CR cx.eT (sit O st loc w) c v)
    (h : (mapVC1 cx st t c K).holds) : ∃ e n d, (K e n d).holds ∧ Nonempty (MapAt cx P (sit O st loc w) st t v e n d) := by
  unfold mapVC1 at h
  split at h
  case h_2 => exact h.elim
  rename_i n
  split at h
  case h_2 => exact h.elim
  rename_i kt te hm
  obtain ⟨h1, h2, h3⟩ := hok.mps _ _ _ hm
  split at h
  case h_2 => exact h.elim
  rename_i e t' x hte hob
  split at h
  case h_2 => exact h.elim
  rename_i hb ho
  have := Ty.eq_of_beq hb
  subst this
  obtain ⟨b, es, clk, hd⟩ := mapR_of (X.map.1 (g.obj _ _ hob).2)
  exact ⟨e, n, _, h, ⟨⟨kt, te, b, es, clk, h1, h2, hte, ho, by rw [castD_self]; exact hob, (hc.2 _ hob rfl).trans hd.lv, by rw [castD_self]; exact hd, h3⟩⟩⟩
theorem str_val {S : Sit} {c : C} {k : List UInt8} {v : Value} (h : asD .str c = some k) (hc : CR cx.eT S c v) : v = .string ⟨k.toArray⟩ ∧ k.length ≤ big := by
  have := VR.one rfl (asD_rel h hc)
  obtain ⟨h1, h2⟩ := this
  exact ⟨by simpa using h1, h2⟩
theorem run_check {kt : TypeId} (hk : P.underlying kt = some .string) (em : Bool) (s : ByteArray) (w : World) : (Instr.checkKey em 10000 kt (.string s)).run P w = .ok () w :=
  Go.MapKept.run_checkKey (d := .string) hk (by simp [Go.MapKept.IsKey]) em 9999
theorem run_lookup_ents {t kt te : TypeId} (hu : P.underlying t = some (.map kt te)) (hk : P.underlying kt = some .string) {w : World} {b clk : Nat} {es : Array MapEntry} (hb : w.heap[b]? = some (.map es clk)) {s : ByteArray} {r : Option (Nat × Value)}
    (hr : Instr.findNow .string (.string s) es.toList 0 = some r) {z : Value} (hz : (zeroValue te).run P w = .ok z w) :
    (Instr.lookup t (.map (some b)) (.string s) true).run P w = .ok (.tuple #[match r with | some (_, v) => v | none => z, .bool r.isSome]) w := by
  unfold Instr.lookup
  simp only [Sem.run_bind, run_underlying hu, Result.andThen_ok, Go.MapKept.run_getObj_map hb, run_check hk, Sem.run_pure, Go.MapKept.run_findKey hk hr]
  cases r with
  | none => simp [hz]
  | some p => rfl
theorem scal_noOpq : ∀ {e : Ty}, e.scal = true → noOpq e = true := by
  intro e
  induction e with
  | prod a b iha ihb => intro h; simp [Ty.scal] at h; simp [noOpq, iha h.1, ihb h.2]
  | slice e _ => intro h; simp [Ty.scal] at h
  | opq => intro h; simp [Ty.scal] at h
  | err => intro h; simp [Ty.scal] at h
  | _ => intro _; rfl
theorem zero_val (hok : TyOK P cx) {S : Sit} {st : St} {t : TypeId} {v : Value} {e : Ty} {n : Nat} {d : D (mapT e)} (m : MapAt cx P S st t v e n d) (w : World) : ∃ z, (zeroValue m.te).run P w = .ok z w ∧ ∀ eT A w', VR eT e (zeroD e) A w' z := by
  obtain ⟨_, ti, _, hf, _⟩ := shape_of hok m.fit
  obtain ⟨z, hz, hzr⟩ := hf.zero
  obtain ⟨i, cs, hi, hc⟩ := m.zero
  rw [hf.info] at hi
  cases hi
  rw [hz] at hc
  cases hc
  have hno := scal_noOpq m.md.scal
  refine ⟨.agg cs, by simp [zeroValue, typeInfo, hf.info, hz], fun eT A w' => ?_⟩
  unfold VR
  rw [if_neg (by rw [m.one]; simp)]
  exact ⟨cs, rfl, zero_R hzr hno⟩
theorem modify_toList {es : Array MapEntry} {j : Nat} {m : MapEntry} (f : MapEntry → MapEntry) (h : es.toList[j]? = some m) : (es.modify j f).toList = es.toList.set j (f m) := by
  have h' : es[j]? = some m := by rw [← Array.getElem?_toList]; exact h
  rw [Array.toList_modify]
  exact Go.ChangeMaps.modify_eq_set f es.toList j m h
theorem run_update_ents {t kt te : TypeId} (hu : P.underlying t = some (.map kt te)) (hk : P.underlying kt = some .string) {w : World} {b clk : Nat} {es : Array MapEntry} (hb : w.heap[b]? = some (.map es clk)) {s : ByteArray} {v : Value}
    {es' : Array MapEntry} {clk' : Nat} (h : (Instr.findNow .string (.string s) es.toList 0 = some none ∧ es' = es.push { key := .string s, val := v, born := clk } ∧ clk' = clk + 1) ∨
      ∃ j m, Instr.findNow .string (.string s) es.toList 0 = some (some (0 + j, m.val)) ∧ es.toList[j]? = some m ∧ m.key = .string s ∧ es' = es.modify j (fun e => { e with key := .string s, val := v }) ∧ clk' = clk) :
    (Instr.mapUpdate t (.map (some b)) (.string s) v).run P w = .ok () { w with heap := w.heap.setIfInBounds b (.map es' clk') } := by
  unfold Instr.mapUpdate
  simp only [Sem.run_bind, run_underlying hu, Result.andThen_ok, Go.MapKept.run_getObj_map hb, run_check hk]
  rcases h with ⟨h1, rfl, rfl⟩ | ⟨j, m, h1, h2, h3, rfl, rfl⟩
  · rw [Go.MapKept.run_findKey hk h1]
    simp only [Result.andThen_ok]
    exact Go.MapKept.run_setObj_map _ hb
  · rw [Go.MapKept.run_findKey hk h1]
    have hm : es[j]? = some m := by rw [← Array.getElem?_toList]; exact h2
    have hs : (Instr.keyThatStays (.string s) (.string s)).run P w = .ok (.string s) w := by
      unfold Instr.keyThatStays
      rw [if_pos (by simp only [Instr.sameBits]; exact (Go.MapKept.bytes_beq s s).2 rfl)]
      rfl
    simp only [Result.andThen_ok, Nat.zero_add, hm, Option.map_some, Option.getD_some, h3, Sem.run_bind, hs]
    exact Go.MapKept.run_setObj_map _ hb
theorem run_delete_ents {t kt te ty : TypeId} {ats : Array TypeId} (hat : ats[0]? = some t) (hu : P.underlying t = some (.map kt te)) (hk : P.underlying kt = some .string) {w : World} {b clk : Nat} {es : Array MapEntry} (hb : w.heap[b]? = some (.map es clk)) {s : ByteArray}
    {es' : Array MapEntry} (h : (Instr.findNow .string (.string s) es.toList 0 = some none ∧ es' = es) ∨ ∃ j v, Instr.findNow .string (.string s) es.toList 0 = some (some (0 + j, v)) ∧ es' = es.eraseIdxIfInBounds j) :
    (Builtin.delete_ ats ty #[.map (some b), .string s]).run P w = .ok (.tuple #[]) { w with heap := w.heap.setIfInBounds b (.map es' clk) } := by
  unfold Builtin.delete_
  simp only [hat, List.getElem?_toArray, List.getElem?_cons_zero, List.getElem?_cons_succ, Sem.run_bind, run_underlying hu, Result.andThen_ok, Go.MapKept.run_getObj_map hb, run_check hk]
  rcases h with ⟨h1, rfl⟩ | ⟨j, v, h1, rfl⟩
  · rw [Go.MapKept.run_findKey hk h1]
    simp only [Result.andThen_ok, Sem.run_bind, Go.MapKept.run_setObj_map _ hb, Sem.run_pure]
  · rw [Go.MapKept.run_findKey hk h1]
    simp only [Result.andThen_ok, Nat.zero_add, Sem.run_bind, Go.MapKept.run_setObj_map _ hb, Sem.run_pure]
theorem set_heap {w : World} {b : Nat} {o : Obj} (hb : b < w.heap.size) : ({ w with heap := w.heap.setIfInBounds b o } : World).heap[b]? = some o := by
  simp [hb]
theorem set_heap_ne {w : World} {b b' : Nat} {o : Obj} (h : b' ≠ b) : ({ w with heap := w.heap.setIfInBounds b o } : World).heap[b']? = w.heap[b']? := by
  simp only [Array.getElem?_setIfInBounds]
  rw [if_neg (fun e => h e.symm)]
/-- A map that has become another. -/
theorem map_set {O : Avoid} {st : St} {loc : Nat → Loc} {w : World} (g : Good cx.eT X (sit O st loc w)) (hO : OIn O w) {e : Ty} {n b clk clk' : Nat} {es es' : Array MapEntry} {d : D (mapT e)}
    (hob : look st.objs n = some (.ext 1 (mapT e) d)) (hm : MapD e d (loc n) w b es clk) {xs : List (D (mapE e))} {c' : Int} (hc : c' = (clk' : Int)) (hents : EntsR e xs es'.toList w) (hbig : xs.length ≤ big) (hold : ∀ y ∈ xs, y.2.2.1 < c') :
    Tr (sit O st loc w) (sit O (setObj st n (.ext 1 (mapT e) (xs, c', ()))) loc { w with heap := w.heap.setIfInBounds b (.map es' clk') }) ∧
      Good cx.eT X (sit O (setObj st n (.ext 1 (mapT e) (xs, c', ()))) loc { w with heap := w.heap.setIfInBounds b (.map es' clk') }) := by
  have hlt : b < w.heap.size := (Array.getElem?_eq_some_iff.1 hm.heap).1
  obtain ⟨t1, g1⟩ := set_step2 (w' := { w with heap := w.heap.setIfInBounds b (.map es' clk') }) (oc' := .ext 1 (mapT e) (xs, c', ())) g hO hob hm.bs ⟨rfl, rfl⟩ rfl rfl rfl rfl (by simp) (fun b' hb' => set_heap_ne hb')
  exact ⟨t1, g1 (X.map.2 ⟨e, rfl, b, es', clk', hm.scal, hm.lv, hm.bs, set_heap hlt, hc, hents.to hm.scal, hbig, hold⟩)⟩
theorem putE_old {e : Ty} {xs : List (D (mapE e))} {k : List UInt8} {v : D e} {c : Int} (h1 : hasE e xs k = false) (h2 : ∀ v c, putE e xs k v c = xs ++ [(k, v, c, ())]) (hold : ∀ y ∈ xs, y.2.2.1 < c) : ∀ y ∈ putE e xs k v c, y.2.2.1 < clkE e xs k c := by
  intro y hy
  rw [h2] at hy
  unfold clkE
  rw [h1]
  simp only [Bool.false_eq_true, if_false]
  rcases List.mem_append.1 hy with hy | hy
  · have h3 : (y.2.2.1 : Int) < c := hold y hy
    exact Int.lt_add_one_of_le (Int.le_of_lt h3)
  · simp at hy; subst hy; exact Int.lt_add_one_of_le (Int.le_refl _)
theorem at_ents {e : Ty} {w : World} : ∀ {x : List (D (mapE e))} {ms : List MapEntry} {s : Nat}, EntsR e x ms w → bornE e x (s : Int) = true → ∃ m, ms.find? (fun m => m.born == s) = some m ∧ EntR e (atE e x (s : Int)) m w
  | y :: r, m :: ms, s, ⟨h1, h2⟩, hb => by
    by_cases c : m.born = s
    · have c' : y.2.2.1 = (s : Int) := by rw [h1.born, c]
      exact ⟨m, by simp [c], by rw [atE, if_pos c']; exact h1⟩
    · have c' : ¬ y.2.2.1 = (s : Int) := fun h => c (Int.ofNat.inj (h1.born.symm.trans h))
      rw [bornE, if_neg c'] at hb
      obtain ⟨m', h3, h4⟩ := at_ents h2 hb
      exact ⟨m', by simp [c, h3], by rw [atE, if_neg c']; exact h4⟩
  | [], [], _, _, hb => by simp [bornE] at hb
theorem left_ents {e : Ty} {w : World} {sn : Array Nat} : ∀ {x : List (D (mapE e))} {ms : List MapEntry}, EntsR e x ms w → EntsR e (leftE e x (sn.toList.map fun (n : Nat) => (n : Int))) (ms.filter fun m => !sn.contains m.born) w
  | [], [], _ => trivial
  | y :: r, m :: ms, ⟨h1, h2⟩ => by
    have hc : (sn.toList.map fun (n : Nat) => (n : Int)).contains y.2.2.1 = sn.contains m.born := by
      rw [Bool.eq_iff_iff, h1.born]
      simp only [List.contains_iff_mem, List.mem_map, Array.mem_toList_iff, Array.contains_iff_mem]
      exact ⟨fun ⟨a, h3, h4⟩ => by rw [← Int.ofNat.inj h4]; exact h3, fun h => ⟨_, h, rfl⟩⟩
    have ih := left_ents (sn := sn) h2
    unfold leftE at ih ⊢
    rw [List.filter_cons, List.filter_cons, hc]
    cases sn.contains m.born with
    | true => simp only [Bool.not_true, Bool.false_eq_true, if_false]; exact ih
    | false => simp only [Bool.not_false, if_true]; exact ⟨h1, ih⟩
  | [], _ :: _, h => h.elim
  | _ :: _, [], h => h.elim
theorem ents_mem {e : Ty} {w : World} : ∀ {x : List (D (mapE e))} {ms : List MapEntry} {m : MapEntry}, EntsR e x ms w → m ∈ ms → ∃ y ∈ x, EntR e y m w
  | y :: _, _ :: _, m, ⟨h1, h2⟩, hm => by
    rcases List.mem_cons.1 hm with rfl | hm
    · exact ⟨y, by simp, h1⟩
    · obtain ⟨y', h3, h4⟩ := ents_mem h2 hm
      exact ⟨y', by simp [h3], h4⟩
  | [], [], _, _, hm => by simp at hm
/-- What is known of a walk through a map. -/
structure IterAt (S : Sit) (v : Value) (e : Ty) (k : Nat) (cs : List C) (seen : List Int) (cl : Int) (d : D (mapT e)) where
  n : Nat
  b : Nat
  r : Nat
  es : Array MapEntry
  clk : Nat
  c : Nat
  sn : Array Nat
  ob : S.ob n = some (.ext 1 (mapT e) d)
  it : S.ob k = some (.iter cs seen cl)
  val : v = .pointer (some ⟨r, 0, none⟩)
  md : MapD e d (S.loc n) S.w b es clk
  hr : S.w.heap[r]? = some (.mapIter (some b) c sn c)
  hcl : cl = (c : Int)
  hsn : seen = sn.toList.map fun (n : Nat) => (n : Int)
  hbs : (S.loc k).bs = [r]
  hlv : (S.loc k).v = .pointer (some ⟨r, 0, none⟩)
theorem iterVC_out {O : Avoid} {st : St} {loc : Nat → Loc} {w : World} (g : Good cx.eT X (sit O st loc w)) {c : C} {v : Value} {K : (e : Ty) → Nat → List C → List Int → Int → D (mapT e) → VC} (hc : CR cx.eT (sit O st loc w) c v)
    (h : (iterVC st c K).holds) : ∃ e k cs seen cl d, (K e k cs seen cl d).holds ∧ (∃ m, cs = [.xref m]) ∧ Nonempty (IterAt (sit O st loc w) v e k cs seen cl d) := by
  unfold iterVC at h
  split at h
  case h_2 => exact h.elim
  rename_i k
  split at h
  case h_2 => exact h.elim
  rename_i n seen cl hk
  split at h
  case h_2 => exact h.elim
  rename_i t' x hob
  split at h
  case h_2 => exact h.elim
  rename_i e hun
  split at h
  case h_2 => exact h.elim
  rename_i hb
  have := Ty.eq_of_beq hb
  subst this
  obtain ⟨b, es, clk, hd⟩ := mapR_of (X.map.1 (g.obj _ _ hob).2)
  obtain ⟨r, m, c, sn, h1, h2, h3, h4, h5, h6⟩ := (g.obj _ _ hk).2
  have hmb : m = b := by
    cases h4 with
    | cons h7 _ _ =>
      have := (h7.2 _ hob rfl).trans hd.lv
      cases this; rfl
  subst hmb
  exact ⟨e, k, _, seen, cl, _, h, ⟨n, rfl⟩, ⟨⟨n, m, r, es, clk, c, sn, by rw [castD_self]; exact hob, hk, (hc.2 _ hk rfl).trans h1, by rw [castD_self]; exact hd, h3, h5, h6, h2, h1⟩⟩⟩
theorem keyV_rel {S : Sit} {eT : TypeId} {y : List UInt8} {v : Value} (h : v = .string ⟨y.toArray⟩ ∧ y.length ≤ big) : SV0R eT S (.one (.d .str y)) v := by
  show VR eT .str y S.A S.w v
  rw [h.1]
  exact VR.of_one rfl ⟨rfl, h.2⟩
theorem nat_rel {S : Sit} {eT : TypeId} {n : Nat} (h : n ≤ big) : SVR eT S (.s (.one (.d (.int .i64) (n : Int)))) (.int .i64 (n : Int)) := by
  show VR eT (.int .i64) (n : Int) S.A S.w _
  refine VR.of_one rfl ⟨rfl, ?_⟩
  rw [big_eq] at h
  show (-9223372036854775808 : Int) ≤ (n : Int) ∧ (n : Int) ≤ 9223372036854775807
  omega
theorem bool_val {S : Sit} {eT : TypeId} {x b : Bool} (h : x = b) : SV0R eT S (.one (.d .bool x)) (.bool b) := by
  subst h
  show VR eT .bool x S.A S.w (.bool x)
  exact VR.of_one rfl rfl
theorem mapVC_sound (hok : TyOK P cx) {O : Avoid} {st : St} {loc : Nat → Loc} {w : World} {a : Act} (g : Good cx.eT X (sit O st loc w)) (hO : OIn O w) (he : EnvR cx.eT (sit O st loc w) st.env a)
    {o : Oper} {K : SV → St → VC} {vc : VC} (hm : mapVC cx st o K = some vc) (h : vc.holds) :
    ∃ sv v st' loc' w', (K sv st').holds ∧ st'.env = st.env ∧ Good cx.eT X (sit O st' loc' w') ∧ Tr (sit O st loc w) (sit O st' loc' w') ∧ SVR cx.eT (sit O st' loc' w') sv v ∧
      ((execOp a.eval o).run P w = .ok (.value v) w' ∨ ((execOp a.eval o).run P w = .ok .skip w' ∧ sv = .s (.one .any))) := by
  unfold mapVC at hm
  split at hm
  · rename_i t hop
    cases hm
    split at h
    case h_2 => exact h.elim
    rename_i k te hmp
    split at h
    case h_2 => exact h.elim
    rename_i e hte
    split at h
    case h_2 => exact h.elim
    rename_i hs
    have hb : Below w.heap.size w (w.alloc (.map #[] 0)) := (Below.refl _ w).alloc (Nat.le_refl _) _
    obtain ⟨tr1, g1⟩ := fresh_step (oc := .ext 1 (mapT e) ([], 0, ())) (l := ⟨.map (some w.heap.size), [w.heap.size]⟩) g hO hb (by simp)
    have g1 := g1 (X.map.2 ⟨e, rfl, w.heap.size, #[], 0, hs, rfl, rfl, heap_alloc_new w _, rfl, trivial, by simp, fun y hy => by simp at hy⟩)
    refine ⟨_, .map (some w.heap.size), _, _, _, h, rfl, g1, tr1, ⟨by show st.next < st.next + 1; omega, fun oc hoc _ => by simp [sit, updLoc]⟩, .inl ?_⟩
    simp [execOp, hop, Instr.makeMap]
  · rename_i t m x hop
    cases hm
    obtain ⟨e, n, d, h1, ⟨M⟩⟩ := mapVC1_out (P := P) hok g (ev1_rel he m) h
    split at h1
    case h_2 => exact h1.elim
    rename_i k hk
    obtain ⟨hv, hl⟩ := str_val hk (ev1_rel he x)
    obtain ⟨z, hz, hzr⟩ := zero_val hok M w
    rcases find_ents hl 0 M.md.ents with ⟨k1, k2, k3, k4, k5⟩ | ⟨k1, j, m', k2, k3, k4, k5, _⟩
    · refine ⟨_, .tuple #[z, .bool false], st, loc, w, h1, rfl, g, Tr.refl _, ⟨[z, .bool false], rfl, .cons (by rw [k2]; exact hzr _ _ _) (.cons (bool_val k1) .nil)⟩, .inl ?_⟩
      have hrun := run_lookup_ents (w := w) M.und M.key M.md.heap k3 hz
      simp only [execOp, hop, Sem.run_bind, M.val, hv]
      rw [hrun]
      rfl
    · refine ⟨_, .tuple #[m'.val, .bool true], st, loc, w, h1, rfl, g, Tr.refl _, ⟨[m'.val, .bool true], rfl, .cons (scal_vr M.md.scal k4) (.cons (bool_val k1) .nil)⟩, .inl ?_⟩
      have hrun := run_lookup_ents (w := w) M.und M.key M.md.heap k3 hz
      simp only [execOp, hop, Sem.run_bind, M.val, hv]
      rw [hrun]
      rfl
  · rename_i t m x v hop
    cases hm
    obtain ⟨e, n, d, h1, ⟨M⟩⟩ := mapVC1_out (P := P) hok g (ev1_rel he m) h
    split at h1
    case h_2 => exact h1.elim
    rename_i k y hk hy
    obtain ⟨hbig, h1⟩ := h1
    obtain ⟨hv, hl⟩ := str_val hk (ev1_rel he x)
    have hvy : VR 0 e y NoA w (a.eval v) := scal_vr M.md.scal (asD0_rel hy (ev0_rel he v))
    rcases find_ents hl 0 M.md.ents with ⟨k1, k2, k3, k4, k5⟩ | ⟨k1, j, m', k2, k3, k4, k5, k6, k7, k8, _⟩
    · obtain ⟨t1, g1⟩ := map_set (es' := M.es.push { key := .string ⟨k.toArray⟩, val := a.eval v, born := M.clk }) (clk' := M.clk + 1) g hO M.ob M.md (xs := putE e d.1 k y d.2.1) (c' := clkE e d.1 k d.2.1)
        (by unfold clkE; rw [k1, M.md.clk]; rfl) (by rw [k4, Array.toList_push]; exact EntsR.snoc ⟨⟨rfl, hl⟩, hvy, M.md.clk⟩ M.md.ents) (by rw [k4]; simp; omega) (putE_old k1 k4 M.md.old)
      refine ⟨_, .nilFunc, _, loc, _, h1, rfl, g1, t1, trivial, .inr ⟨?_, rfl⟩⟩
      have hrun := run_update_ents (w := w) M.und M.key M.md.heap (v := a.eval v) (.inl ⟨k3, rfl, rfl⟩)
      simp only [execOp, hop, Sem.run_bind, M.val, hv]
      rw [hrun]
      rfl
    · obtain ⟨t1, g1⟩ := map_set (es' := M.es.modify j (fun e => { e with key := .string ⟨k.toArray⟩, val := a.eval v })) (clk' := M.clk) g hO M.ob M.md (xs := putE e d.1 k y d.2.1) (c' := clkE e d.1 k d.2.1)
        (by unfold clkE; rw [k1, M.md.clk]; rfl) (by rw [modify_toList _ k2]; exact k6 y (a.eval v) _ hvy) (by rw [k7]; exact M.md.big) (fun y' hy' => by
          obtain ⟨y2, h3, h4⟩ := k8 _ _ y' hy'
          rw [h4]; unfold clkE; rw [k1]; exact M.md.old y2 h3)
      refine ⟨_, .nilFunc, _, loc, _, h1, rfl, g1, t1, trivial, .inr ⟨?_, rfl⟩⟩
      have hrun := run_update_ents (w := w) M.und M.key M.md.heap (v := a.eval v) (.inr ⟨j, m', k3, k2, k5, rfl, rfl⟩)
      simp only [execOp, hop, Sem.run_bind, M.val, hv]
      rw [hrun]
      rfl
  · rename_i t m hop
    cases hm
    have hc0 := ev1_rel he m
    obtain ⟨e, n, d, h1, ⟨M⟩⟩ := mapVC1_out (P := P) hok g hc0 h
    have hb : Below w.heap.size w (w.alloc (.mapIter (some M.b) M.clk #[] M.clk)) := (Below.refl _ w).alloc (Nat.le_refl _) _
    obtain ⟨tr1, g1⟩ := fresh_step (oc := .iter [.xref n] [] d.2.1) (l := ⟨.pointer (some ⟨w.heap.size, 0, none⟩), [w.heap.size]⟩) g hO hb (by simp)
    have hx : CR cx.eT (sit O st loc w) (.xref n) (.map (some M.b)) := ⟨(g.obj _ _ M.ob).1, fun oc hoc _ => M.md.lv.symm⟩
    have g1 := g1 ⟨w.heap.size, M.b, M.clk, #[], rfl, rfl, heap_alloc_new w _, .cons (hx.tr tr1) rfl .nil, M.md.clk, rfl⟩
    refine ⟨_, .pointer (some ⟨w.heap.size, 0, none⟩), _, _, _, h1, rfl, g1, tr1, ⟨by show st.next < st.next + 1; omega, fun oc hoc _ => by simp [sit, updLoc]⟩, .inl ?_⟩
    have hu := M.und
    have hh : w.heap[M.b]? = some (.map M.es M.clk) := M.md.heap
    have hgo : (getObj M.b).run P w = .ok (.map M.es M.clk) w := Go.MapKept.run_getObj_map hh
    simp only [execOp, hop, M.val, Instr.range, Sem.run_bind, run_underlying hu, Result.andThen_ok, hgo, Sem.run_pure]
    rfl
  · rename_i it hop
    cases hm
    unfold nextVC at h
    obtain ⟨e, k, cs, seen, cl, d, h1, ⟨n0, rfl⟩, ⟨M⟩⟩ := iterVC_out g (ev1_rel he it) h
    obtain ⟨hcl, h1, h2⟩ := h1
    have hcc : M.clk = M.c := Int.ofNat.inj (M.md.clk.symm.trans (hcl.trans M.hcl))
    have hold : ∀ x ∈ M.es.toList, x.born < M.c := fun x hx => by
      obtain ⟨y, hy, hyr⟩ := ents_mem M.md.ents hx
      have h3 := M.md.old y hy
      rw [hyr.born, M.md.clk, hcc] at h3
      exact Int.ofNat_lt.1 h3
    have hleft : EntsR e (leftE e d.1 seen) (leftOf M.es M.sn).toList w := by
      have := left_ents (sn := M.sn) M.md.ents
      rw [← M.hsn] at this
      unfold leftOf
      rw [Array.toList_filter]
      exact this
    have hrl : M.r < w.heap.size := (Array.getElem?_eq_some_iff.1 M.hr).1
    rcases Go.run_next_at (P := P) w o.type M.r M.b M.c M.c M.sn M.es M.clk M.hr M.md.heap hold (Nat.le_refl _) with ⟨h3, h4⟩ | ⟨m, hm, w1, hw1, h4⟩
    · have hnil : leftE e d.1 seen = [] := List.length_eq_zero_iff.1 (by rw [hleft.len]; simpa using h3)
      refine ⟨_, .tuple #[.bool false], st, loc, w, h1 hnil, rfl, g, Tr.refl _, ⟨[.bool false], rfl, .cons rfl .nil⟩, .inl ?_⟩
      simp only [execOp, hop, M.val, Sem.run_bind, h4, Result.andThen_ok, Sem.run_pure]
    · obtain ⟨y, hy, hyr⟩ := ents_mem hleft hm
      have hK := h2 y hy
      have e1 : w1.heap = w.heap ∧ w1.os = w.os ∧ w1.output = w.output := by rcases hw1 with rfl | rfl <;> exact ⟨rfl, rfl, rfl⟩
      obtain ⟨t1, g1⟩ := set_step2 (w' := Go.ChangeMaps.setBlock w1 M.r (.mapIter (some M.b) M.c (M.sn.push m.born) M.clk)) (oc' := .iter [.xref n0] (seen ++ [y.2.2.1]) cl) g hO M.it M.hbs trivial rfl rfl e1.2.1 e1.2.2
        (by simp [Go.ChangeMaps.setBlock, e1.1]) (fun b' hb' => by simp only [Go.ChangeMaps.setBlock, Array.getElem?_setIfInBounds, e1.1]; rw [if_neg (fun e => hb' e.symm)])
      have hor := (g.obj _ _ M.it).2
      have hg1 := g1 (by
        obtain ⟨r', m0, c0, sn0, q1, q2, q3, q4, q5, q6⟩ := hor
        have hmb : m0 = M.b := by
          have hr' : r' = M.r := by have := M.hlv.symm.trans q1; cases this; rfl
          subst hr'
          have := M.hr.symm.trans q3
          cases this; rfl
        refine ⟨M.r, m0, M.c, M.sn.push m.born, M.hlv, M.hbs, ?_, q4.tr t1, M.hcl, ?_⟩
        · show (Go.ChangeMaps.setBlock w1 M.r _).heap[M.r]? = _
          rw [hmb, hcc]
          simp only [Go.ChangeMaps.setBlock, Array.getElem?_setIfInBounds, e1.1]
          simp [hrl]
        · rw [Array.toList_push, List.map_append, ← M.hsn, hyr.born]; rfl)
      refine ⟨_, .tuple #[.bool true, m.key, m.val], _, loc, _, hK, rfl, hg1, t1, ⟨[.bool true, m.key, m.val], rfl, .cons rfl (.cons (keyV_rel hyr.key) (.cons (scal_vr M.md.scal hyr.val) .nil))⟩, .inl ?_⟩
      simp only [execOp, hop, M.val, Sem.run_bind, h4, Result.andThen_ok, Sem.run_pure]
  · rename_i it hop
    cases hm
    obtain ⟨e, k, cs, seen, cl, d, h1, ⟨n0, rfl⟩, ⟨M⟩⟩ := iterVC_out g (ev1_rel he it) h
    obtain ⟨hcl, hne, hbo, h1⟩ := h1
    have hcc : M.clk = M.c := Int.ofNat.inj (M.md.clk.symm.trans (hcl.trans M.hcl))
    have hsn : M.sn.toList ≠ [] := fun e0 => hne (by rw [M.hsn, e0]; rfl)
    have hlast : ∃ s, M.sn.back? = some s ∧ lastI seen = (s : Int) := by
      refine ⟨M.sn.toList.getLast hsn, ?_, ?_⟩
      · rw [← Array.getLast?_toList]; exact List.getLast?_eq_some_getLast hsn
      · refine (congrArg lastI M.hsn).trans ?_
        unfold lastI
        rw [List.getLastD_eq_getLast?, List.getLast?_map, List.getLast?_eq_some_getLast hsn]
        rfl
    obtain ⟨s, hs1, hs2⟩ := hlast
    rw [hs2] at hbo h1
    obtain ⟨m, hm1, hm2⟩ := at_ents M.md.ents hbo
    refine ⟨_, .tuple #[m.key, m.val], st, loc, w, h1, rfl, g, Tr.refl _, ⟨[m.key, m.val], rfl, .cons (keyV_rel hm2.key) (.cons (scal_vr M.md.scal hm2.val) .nil)⟩, .inl ?_⟩
    have hf : M.es.find? (fun m => m.born == s) = some m := by rw [← Array.find?_toList]; exact hm1
    have hr := M.hr
    have hb := M.md.heap
    simp only [sit] at hr hb
    simp only [execOp, hop, M.val, Instr.entry, getObj, Sem.run_bind, Sem.run, hr, hb, Result.andThen, hs1, hcc, bne_self_eq_false, Bool.false_eq_true, if_false, hf]
    rfl
  · rename_i c hop
    split at hm
    · rename_i hcal
      split at hm
      · rename_i m x t ts harg hty
        cases hm
        obtain ⟨e, n, d, h1, ⟨M⟩⟩ := mapVC1_out (P := P) hok g (ev1_rel he m) h
        split at h1
        case h_2 => exact h1.elim
        rename_i k hk
        obtain ⟨hv, hl⟩ := str_val hk (ev1_rel he x)
        have ha : c.args = #[m, x] := Array.toList_inj.1 harg
        have hat : c.argTypes[0]? = some t := by rw [← Array.getElem?_toList, hty]; rfl
        have fin : ∀ es' : Array MapEntry, EntsR e (delE e d.1 k) es'.toList w → (delE e d.1 k).length ≤ big → (∀ y ∈ delE e d.1 k, y ∈ d.1) →
            (∀ ty, (Builtin.delete_ c.argTypes ty #[.map (some M.b), .string ⟨k.toArray⟩]).run P w = .ok (.tuple #[]) { w with heap := w.heap.setIfInBounds M.b (.map es' M.clk) }) →
            ∃ sv v st' loc' w', (K sv st').holds ∧ st'.env = st.env ∧ Good cx.eT X (sit O st' loc' w') ∧ Tr (sit O st loc w) (sit O st' loc' w') ∧ SVR cx.eT (sit O st' loc' w') sv v ∧
              ((execOp a.eval o).run P w = .ok (.value v) w' ∨ ((execOp a.eval o).run P w = .ok .skip w' ∧ sv = .s (.one .any))) := by
          intro es' h3 h4 h5 h6
          obtain ⟨t1, g1⟩ := map_set (es' := es') (clk' := M.clk) g hO M.ob M.md (xs := delE e d.1 k) (c' := d.2.1) M.md.clk h3 h4 (fun y hy => M.md.old y (h5 y hy))
          refine ⟨_, .tuple #[], _, loc, _, h1, rfl, g1, t1, trivial, .inl ?_⟩
          simp [execOp, hop, resolve, hcal, ha, invoke, builtin, M.val, hv, h6]
        rcases find_ents hl 0 M.md.ents with ⟨k1, k2, k3, k4, k5⟩ | ⟨k1, j, m', k2, k3, k4, k5, k6, k7, k8, k9, k10, k11⟩
        · exact fin M.es (by rw [k5]; exact M.md.ents) (by rw [k5]; exact M.md.big) (fun y hy => by rw [k5] at hy; exact hy) fun ty => run_delete_ents hat M.und M.key M.md.heap (.inl ⟨k3, rfl⟩)
        · have hj : j < M.es.size := by
            rcases Nat.lt_or_ge j M.es.toList.length with h' | h'
            · simpa using h'
            · rw [List.getElem?_eq_none h'] at k2; cases k2
          refine fin (M.es.eraseIdxIfInBounds j) ?_ (Nat.le_trans k11 M.md.big) k10 fun ty => run_delete_ents hat M.und M.key M.md.heap (.inr ⟨j, _, k3, rfl⟩)
          unfold Array.eraseIdxIfInBounds
          rw [dif_pos hj, Array.toList_eraseIdx]
          exact k9
      · cases hm; exact h.elim
    · rename_i hcal
      split at hm
      · rename_i x t harg hty
        split at hm
        · cases hm
          obtain ⟨e, n, d, h1, ⟨M⟩⟩ := mapVC1_out (P := P) hok g (ev1_rel he x) h
          have ha : c.args = #[x] := Array.toList_inj.1 harg
          have ht : c.argTypes = #[t] := Array.toList_inj.1 hty
          have hsz : d.1.length = M.es.size := by rw [M.md.ents.len]; simp
          refine ⟨_, .int .i64 (d.1.length : Int), st, loc, w, h1, rfl, g, Tr.refl _, nat_rel M.md.big, .inl ?_⟩
          have hgo : (getObj M.b).run P w = .ok (.map M.es M.clk) w := Go.MapKept.run_getObj_map M.md.heap
          simp [execOp, hop, resolve, hcal, ha, ht, invoke, builtin, Builtin.len_, run_underlying M.und, hgo, goInt, M.val, hsz]
        · cases hm
      · cases hm
    · cases hm
  · cases hm
end
end Go.Vg
