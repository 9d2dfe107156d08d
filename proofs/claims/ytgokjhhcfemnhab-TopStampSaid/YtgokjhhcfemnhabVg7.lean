/- A part of the proof that the law TopStamp holds of the given program: facts that are used there. -/
import Derived.Test.YtgokjhhcfemnhabVgD
namespace Go.Vg
open Go.RowKit
abbrev CSpec := List SV0 → St → (SV → St → VC) → VC
structure Cx : Type 1 where
  eT : TypeId
  τ : List (TypeId × Ty)
  arrs : List (TypeId × (Nat × TypeId))
  Γ : List (FuncId × (Bool × CSpec))
  N : Nat
  eqs : List TypeId := []
  ptrs : List TypeId := []
  hint : List Nat := []
  wr : Bool := false
  mps : List (TypeId × (TypeId × TypeId)) := []
def memN (n : Nat) : List Nat → Bool
  | [] => false
  | m :: r => match Nat.beq m n with
    | true => true
    | false => memN n r
/-- Structs that are held against each other. -/
def eqOKB (P : Program) (t : TypeId) : Bool :=
  !P.stoodInHeld t && !P.eqGuardType P.depth t && match P.underlying t with
  | some (.struct fs) => fs.toList.all fun f => f.name != "_"
  | _ => false
def ptrOKB (P : Program) (t : TypeId) : Bool :=
  match P.underlying t with
  | some (.pointer _) => true
  | _ => false
def eqD : (t : Ty) → D t → D t → Option Bool
  | .bool, a, b => some (a == b)
  | .int _, a, b => some (decide ((a : Int) = b))
  | .str, a, b => some (a == b)
  | .unit, _, _ => some true
  | .prod a b, x, y => match a.one, eqD a x.1 y.1, eqD b x.2 y.2 with
    | true, some p, some q => some (p && q)
    | _, _, _ => none
  | _, _, _ => none
def sit (O : Avoid) (st : St) (loc : Nat → Loc) (w : World) : Sit := ⟨O, look st.objs, loc, st.next, w⟩
structure TyOK (P : Program) (cx : Cx) : Prop where
  fit : ∀ t ty, look cx.τ t = some ty → ∃ n, fits P n t ty = true
  errno : P.underlying cx.eT = some (.int .i64)
  errnoZero : ∃ i, P.info? cx.eT = some i ∧ i.zero = some (.int .i64 0)
  mixed : P.follows .mixedOrders = true
  eqs : ∀ t, memN t cx.eqs = true → eqOKB P t = true
  ptrs : ∀ t, memN t cx.ptrs = true → ptrOKB P t = true
  arr : ∀ t n e, look cx.arrs t = some (n, e) → P.underlying t = some (.array n e)
  mps : ∀ t k e, look cx.mps t = some (k, e) → P.underlying t = some (.map k e) ∧ P.underlying k = some .string ∧ ∃ i cs, P.info? e = some i ∧ i.zero = some (.agg cs)
  arr0 : ∀ t n te e, look cx.arrs t = some (n, te) → look cx.τ te = some e → ∃ i z, P.info? t = some i ∧ i.zero = some z ∧ zeroRows e n z.cells.toList = true
def asIntC : C → Option Int
  | .d (.int _) n => some n
  | _ => none
/-- A slice that is only read: its elements. -/
def rowD (want : Ty) : C → Option (List (D want))
  | .d (.slice t) xs => match h : Ty.beq (.slice t) (.slice want) with
    | true => some (castD h (a := .slice t) xs)
    | false => none
  | .app t xs _ => match h : Ty.beq (.slice t) (.slice want) with
    | true => some (castD h (a := .slice t) xs)
    | false => none
  | .nilS => some []
  | .emp => some []
  | _ => none
/-- A pointer to something that is there. -/
def ptrC (st : St) : C → Bool
  | .iref _ _ => true
  | .ref n _ => match look st.objs n with
    | some (.cells _ _) => true
    | _ => false
  | .aref n => match look st.objs n with
    | some (.arr _ _) => true
    | _ => false
  | .xref n => match look st.objs n with
    | some (.ext (_ + 2) _ _) => true
    | _ => false
  | _ => false
/-- The i-th of a list. -/
def nth (t : Ty) (xs : List (D t)) (i : Nat) : D t := xs.getD i (zeroD t)
def nthB (s : List UInt8) (i : Nat) : UInt8 := s.getD i 0
theorem nth_eq {t : Ty} {xs : List (D t)} {i : Nat} {y : D t} (h : xs[i]? = some y) : nth t xs i = y := by
  unfold nth; rw [List.getD_eq_getElem?_getD, h]; rfl
theorem nthB_eq {s : List UInt8} {i : Nat} {c : UInt8} (h : s[i]? = some c) : nthB s i = c := by
  unfold nthB; rw [List.getD_eq_getElem?_getD, h]; rfl
def lenVC (st : St) (x : C) (K : C → VC) : VC :=
  match x with
  | .d .str s => .imp (s.length ≤ big) (K (.d (.int .i64) s.length))
  | .d (.slice _) xs => .imp (xs.length ≤ big) (K (.d (.int .i64) xs.length))
  | .app _ xs _ => .imp (xs.length ≤ big) (K (.d (.int .i64) xs.length))
  | .nilS => K (.d (.int .i64) 0)
  | .emp => K (.d (.int .i64) 0)
  | .mrow n => match look st.objs n with
    | some (.mrow _ xs) => .imp (xs.length ≤ big) (K (.d (.int .i64) xs.length))
    | _ => .ff
  | .xd n .top => match look st.objs n with
    | some (.ext 0 (.slice _) xs) => .imp (List.length xs ≤ big) (K (.d (.int .i64) (List.length xs)))
    | _ => .ff
  | .xd n (.row i) => match look st.objs n with
    | some (.ext 0 (.slice e) xs) => match spot e with
      | some s => .and (i < List.length xs) (.imp ((s.get (nth e xs i)).length ≤ big) (K (.d (.int .i64) (s.get (nth e xs i)).length)))
      | none => .ff
    | _ => .ff
  | _ => .ff
def indexVC (x i : C) (K : C → VC) : VC :=
  match x, asIntC i with
  | .d .str s, some i => .and (0 ≤ i ∧ i < s.length) (K (.d (.int .u8) (nthB s i.toNat).toNat))
  | _, _ => .ff
def structVC (op : BinOp) (r : Option Bool) (K : C → VC) : VC :=
  match r with
  | some r => match op with
    | .eql => K (.d .bool r)
    | .neq => K (.d .bool (!r))
    | _ => .ff
  | none => .ff
/-- Is a pointer nil? -/
def nilVC (st : St) (op : BinOp) (x y : C) (K : C → VC) : VC :=
  match y with
  | .nilP => match x with
    | .nilP => match op with
      | .eql => K (.lit true)
      | .neq => K (.lit false)
      | _ => .ff
    | x => match ptrC st x with
      | true => match op with
        | .eql => K (.lit false)
        | .neq => K (.lit true)
        | _ => .ff
      | false => .ff
  | _ => .ff
def sliceLen (st : St) (x : C) : Option Nat :=
  match x with
  | .d (.slice _) xs => some xs.length
  | .app _ xs _ => some xs.length
  | .mrow n => match look st.objs n with
    | some (.mrow _ xs) => some xs.length
    | _ => none
  | .emp => some 0
  | _ => none
/-- Is a slice nil? What has elements isn't; of others nothing is said. -/
def nilSlVC (st : St) (op : BinOp) (x y : C) (K : C → VC) : VC :=
  match y with
  | .nilS => match x with
    | .nilS => match op with
      | .eql => K (.lit true)
      | .neq => K (.lit false)
      | _ => .ff
    | x => match sliceLen st x with
      | some n => match op with
        | .eql => .all Bool fun b => .imp (0 < n → b = false) (K (.d .bool b))
        | .neq => .all Bool fun b => .imp (0 < n → b = false) (K (.d .bool (!b)))
        | _ => .ff
      | none => .ff
  | _ => .ff
/-- A sum that may go round. -/
def addW (wr : Bool) (op : BinOp) (k : IntKind) (y : C) : Option Int :=
  match wr, op, y with
  | true, .add, .d (.int k') b => match decide (k = k') with
    | true => some b
    | false => none
  | _, _, _ => none
/-- Operations that turn nothing but their temporary. -/
def pureVC (cx : Cx) (st : St) (op : Op) (K : SV → VC) : VC :=
  let K1 : C → VC := fun c => K (.s (.one c))
  match op with
  | .pick c a b => match ev1 st.env c with
    | .lit true => K (ev st.env a)
    | .lit false => K (ev st.env b)
    | .d .bool g => .ite g (K (ev st.env a)) (K (ev st.env b))
    | _ => .ff
  | .unOp op _ x => unVC op (ev1 st.env x) K1
  | .convert s t x => match look cx.τ s, look cx.τ t with
    | some _, some dst => convVC dst (ev1 st.env x) K1
    | _, _ => .ff
  | .extract t i => match ev st.env t with
    | .tup vs => match vs[i]? with
      | some v => K (.s v)
      | none => .ff
    | _ => .ff
  | .nilCheck x => match ptrC st (ev1 st.env x) with
    | true => K1 (ev1 st.env x)
    | false => .ff
  | .makeInterface t x => match Nat.beq t cx.eT, ev1 st.env x with
    | true, .d (.int .i64) n => K1 (.d .err (.no n))
    | _, _ => .ff
  | .typeAssert x _ t true => match Nat.beq t cx.eT, ev1 st.env x with
    | true, .d .err e => K (.tup [.one (.d (.int .i64) e.num), .one (.d .bool e.isNo)])
    | _, _ => .ff
  | .index t x i => match look cx.τ t with
    | some .str => indexVC (ev1 st.env x) (ev1 st.env i) K1
    | _ => .ff
  | .binOp op t x y _ => match ev1 st.env x with
    | .d (.int k) a => match addW cx.wr op k (ev1 st.env y) with
      | some b => nameI (k.wrap (a + b)) fun x => K1 (.d (.int k) x)
      | none => binVC op (.d (.int k) a) (ev1 st.env y) false K1
    | .d .str a => binVC op (.d .str a) (ev1 st.env y) false K1
    | .d .err e => match look cx.τ t with
      | some .err => binVC op (.d .err e) (ev1 st.env y) (Operand.isC y) K1
      | _ => .ff
    | x1 => match look cx.τ t with
      | some .bool => binVC op x1 (ev1 st.env y) false K1
      | some (.prod u v) => match memN t cx.eqs, asD0 (.prod u v) (ev0 st.env x), asD0 (.prod u v) (ev0 st.env y) with
        | true, some p, some q => structVC op (eqD (.prod u v) p q) K1
        | _, _, _ => .ff
      | some (.slice _) => nilSlVC st op x1 (ev1 st.env y) K1
      | _ => match memN t cx.ptrs with
        | true => nilVC st op x1 (ev1 st.env y) K1
        | false => .ff
  | .call c => match c.callee, c.args.toList, c.argTypes.toList with
   | .builtin .len, [x], [t] => match look cx.τ t with
    | some .str => match ev1 st.env x with
      | .d .str s => lenVC st (.d .str s) K1
      | _ => .ff
    | some (.slice _) => match ev1 st.env x with
      | .d .str _ => .ff
      | x => lenVC st x K1
    | _ => .ff
   | _, _, _ => .ff
  | _ => .ff
section
variable {eT : TypeId} {X : Ext} {P : Program} {cx : Cx}
theorem len_rel {t : Ty} {xs : List (D t)} {A : Avoid} {w : World} {v : Value} (h : VR eT (.slice t) xs A w v) : ∃ a c, v = .slice a xs.length c ∧ xs.length ≤ big := by
  have h := VR.one rfl h
  obtain ⟨u, hu, hl, h⟩ := h
  simp at hu; subst hu
  rcases h with ⟨rfl, _, _, rfl⟩ | ⟨b, o, cap, rfl, _⟩
  · exact ⟨_, _, rfl, by simp [big]⟩
  · exact ⟨_, _, rfl, hl⟩
theorem big_range {n : Nat} (h : n ≤ big) : IntKind.i64.min ≤ (n : Int) ∧ (n : Int) ≤ IntKind.i64.max := by
  rw [I64_iff]; unfold I64; unfold big at h; omega
theorem shape_of {t : TypeId} {ty : Ty} (hok : TyOK P cx) (h : look cx.τ t = some ty) : ∃ m i d, Fit P t ty i d ∧ shapeFit (fits P m) ty d = true := by
  obtain ⟨n, hn⟩ := hok.fit t ty h
  obtain ⟨m, i, d, _, hf, hs⟩ := fits_out hn
  exact ⟨m, i, d, hf, hs⟩
theorem und_bool {t : TypeId} (hok : TyOK P cx) (h : look cx.τ t = some .bool) : P.underlying t = some .bool := by
  obtain ⟨m, i, d, hf, hs⟩ := shape_of hok h
  cases d <;> simp [shapeFit] at hs
  exact hf.und
theorem und_str {t : TypeId} (hok : TyOK P cx) (h : look cx.τ t = some .str) : P.underlying t = some .string := by
  obtain ⟨m, i, d, hf, hs⟩ := shape_of hok h
  cases d <;> simp [shapeFit] at hs
  exact hf.und
theorem und_err {t : TypeId} (hok : TyOK P cx) (h : look cx.τ t = some .err) : ∃ ms, P.underlying t = some (.interface ms) := by
  obtain ⟨m, i, d, hf, hs⟩ := shape_of hok h
  cases d <;> simp [shapeFit] at hs
  exact ⟨_, hf.und⟩
theorem und_int {t : TypeId} {k : IntKind} (hok : TyOK P cx) (h : look cx.τ t = some (.int k)) : P.underlying t = some (.int k) := by
  obtain ⟨m, i, d, hf, hs⟩ := shape_of hok h
  cases d <;> simp [shapeFit] at hs
  subst hs
  exact hf.und
theorem und_slice {t : TypeId} {e : Ty} (hok : TyOK P cx) (h : look cx.τ t = some (.slice e)) : ∃ te i d, P.underlying t = some (.slice te) ∧ Fit P te e i d := by
  obtain ⟨m, i, d, hf, hs⟩ := shape_of hok h
  cases d <;> simp [shapeFit] at hs
  obtain ⟨m', i', d', _, hf', _⟩ := fits_out hs
  exact ⟨_, _, _, hf.und, hf'⟩
theorem SV0Rs.get {S : Sit} {xs : List SV0} {vs : List Value} (h : SV0Rs eT S xs vs) : ∀ {i : Nat} {x : SV0}, xs[i]? = some x → ∃ v, vs[i]? = some v ∧ SV0R eT S x v := by
  induction h with
  | nil => intro i x h; simp at h
  | cons h1 _ ih =>
    intro i x h
    cases i with
    | zero => simp at h; subst h; exact ⟨_, rfl, h1⟩
    | succ i => simp at h; simpa using ih h
theorem lenVC_rel {O : Avoid} {st : St} {loc : Nat → Loc} {w : World} {x : C} {K : C → VC} {v : Value} {t : TypeId}
    (g : Good cx.eT X (sit O st loc w)) (ht : (P.underlying t = some .string ∧ ∃ s, x = .d .str s) ∨ (∃ te, P.underlying t = some (.slice te)) ∧ ∀ s, x ≠ .d .str s)
    (hx : CR cx.eT (sit O st loc w) x v) (h : (lenVC st x K).holds) :
    ∃ c u, (K c).holds ∧ CR cx.eT (sit O st loc w) c u ∧ ∀ ty w', (Builtin.len_ #[t] ty #[v]).run P w' = .ok u w' := by
  have fin : ∀ (te : TypeId) (n : Nat) (a : Option Addr) (c : Nat), P.underlying t = some (.slice te) → n ≤ big → (K (.d (.int .i64) n)).holds → v = .slice a n c →
      ∃ c u, (K c).holds ∧ CR cx.eT (sit O st loc w) c u ∧ ∀ ty w', (Builtin.len_ #[t] ty #[v]).run P w' = .ok u w' := by
    intro te n a c hu hn hk hv
    subst hv
    exact ⟨_, _, hk, int_rel.2 ⟨rfl, big_range hn⟩, fun ty w' => by simp [Builtin.len_, run_underlying hu, goInt]⟩
  unfold lenVC at h
  split at h
  · rename_i s
    obtain ⟨rfl, hl⟩ := str_rel.1 hx
    rcases ht with ⟨hu, _⟩ | ⟨_, hn⟩
    · exact ⟨_, _, h hl, int_rel.2 ⟨rfl, big_range hl⟩, fun ty w' => by
        simp [Builtin.len_, run_underlying hu, goInt]; rfl⟩
    · exact (hn s rfl).elim
  · rename_i t' xs
    rcases ht with ⟨_, s, e⟩ | ⟨⟨te, hu⟩, _⟩
    · cases e
    · obtain ⟨a, c, hv, hl⟩ := len_rel hx
      exact fin te _ a c hu hl (h hl) hv
  · rename_i t' xs n
    rcases ht with ⟨_, s, e⟩ | ⟨⟨te, hu⟩, _⟩
    · cases e
    · obtain ⟨a, c, hv, hl⟩ := len_rel hx.1
      exact fin te _ a c hu hl (h hl) hv
  · rcases ht with ⟨_, s, e⟩ | ⟨⟨te, hu⟩, _⟩
    · cases e
    · exact fin te 0 none 0 hu (by simp [big]) h hx
  · rcases ht with ⟨_, s, e⟩ | ⟨⟨te, hu⟩, _⟩
    · cases e
    · obtain ⟨a, rfl⟩ := hx
      exact fin te 0 a 0 hu (by simp [big]) h rfl
  · rename_i n
    rcases ht with ⟨_, s, e⟩ | ⟨⟨te, hu⟩, _⟩
    · cases e
    · split at h
      · rename_i t' xs hob
        rcases (g.obj n _ hob).2 with ⟨rfl, ⟨a, hv⟩, _⟩ | ⟨b, vs, T, cap, hv, _, _, _, _, hl, _⟩
        · exact fin te 0 a 0 hu (by simp [big]) (h (by simp)) ((hx.2 _ _ hob).trans hv)
        · exact fin te _ _ _ hu hl (h hl) ((hx.2 _ _ hob).trans hv)
      · exact h.elim
  · rename_i n
    rcases ht with ⟨_, s, e⟩ | ⟨⟨te, hu⟩, _⟩
    · cases e
    · split at h
      · rename_i e xs hob
        obtain ⟨hb, a, c, hv⟩ := deep_top (X.deep.1 (g.obj n _ hob).2) (hx.2 _ _ hob)
        exact fin te _ a c hu hb (h hb) hv
      · exact h.elim
  · rename_i n i
    rcases ht with ⟨_, s, e⟩ | ⟨⟨te, hu⟩, _⟩
    · cases e
    · split at h
      · rename_i e xs hob
        split at h
        · rename_i s hs
          obtain ⟨hi, h⟩ := h
          obtain ⟨c0, hr⟩ := deep_row hs (X.deep.1 (g.obj n _ hob).2) hi (hx.2 _ _ hob)
          rw [nth_eq (List.getElem?_eq_getElem hi)] at h
          obtain ⟨a, c, hv, hl⟩ := len_rel (VR.of_one rfl hr)
          exact fin te _ a c hu hl (h hl) hv
        · exact h.elim
      · exact h.elim
  · exact h.elim
end
end Go.Vg
