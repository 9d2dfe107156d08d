/- A part of the proof that the law TopStamp holds of the given program: facts that are used there. -/
import Derived.Test.YtgokjhhcfemnhabVg4
import Derived.Laws.Closers25b
import Derived.Laws.Strings

namespace Go.Vg
open Go.RowKit
def I64 (n : Int) : Prop := -9223372036854775808 ≤ n ∧ n ≤ 9223372036854775807
theorem I64_iff (n : Int) : (IntKind.i64.min ≤ n ∧ n ≤ IntKind.i64.max) ↔ I64 n := by
  unfold I64; simp [IntKind.min, IntKind.max, IntKind.signed, IntKind.bits]
def inK : IntKind → Int → Bool
  | .i8, n => decide (-128 ≤ n) && decide (n ≤ 127)
  | .i16, n => decide (-32768 ≤ n) && decide (n ≤ 32767)
  | .i32, n => decide (-2147483648 ≤ n) && decide (n ≤ 2147483647)
  | .i64, n => decide (-9223372036854775808 ≤ n) && decide (n ≤ 9223372036854775807)
  | .u8, n => decide (0 ≤ n) && decide (n ≤ 255)
  | .u16, n => decide (0 ≤ n) && decide (n ≤ 65535)
  | .u32, n => decide (0 ≤ n) && decide (n ≤ 4294967295)
  | .u64, n => decide (0 ≤ n) && decide (n ≤ 18446744073709551615)
def Err.isNil : Err → Bool
  | .nil => true
  | _ => false
def Err.isNo : Err → Bool
  | .no _ => true
  | _ => false
def Err.num : Err → Int
  | .no n => n
  | _ => 0
def cmpI (op : BinOp) (a b : Int) : Option Bool :=
  match op with
  | .eql => some (a == b)
  | .neq => some (a != b)
  | .lss => some (decide (a < b))
  | .leq => some (decide (a ≤ b))
  | .gtr => some (decide (a > b))
  | .geq => some (decide (a ≥ b))
  | _ => none
def bitsI (op : BinOp) (k : IntKind) (a b : Int) : Option Int :=
  match op with
  | .and => some (k.wrap (BitVec.ofInt k.bits a &&& BitVec.ofInt k.bits b).toNat)
  | .or => some (k.wrap (BitVec.ofInt k.bits a ||| BitVec.ofInt k.bits b).toNat)
  | .xor => some (k.wrap (BitVec.ofInt k.bits a ^^^ BitVec.ofInt k.bits b).toNat)
  | .andNot => some (k.wrap (BitVec.ofInt k.bits a &&& ~~~(BitVec.ofInt k.bits b)).toNat)
  | _ => none
def cmpS (op : BinOp) (a b : List UInt8) : Option Bool :=
  match op with
  | .eql => some (a == b)
  | .neq => some (!(a == b))
  | .lss => some (Op.bytesLess a b)
  | .leq => some (Op.bytesLess a b || a == b)
  | .gtr => some (!(Op.bytesLess a b || a == b))
  | .geq => some (!(Op.bytesLess a b))
  | _ => none
/-- A number that is named. -/
def nameI (r : Int) (K : Int → VC) : VC := .all Int fun x => .imp (x = r) (K x)
theorem nameI_holds {r : Int} {K : Int → VC} (h : (nameI r K).holds) : (K r).holds := h r rfl
/-- A sum, difference, product or quotient: of int it must fit; of the other kinds it goes round. -/
def arith (k : IntKind) (a b r : Int) (K : C → VC) : VC :=
  match k with
  | .i64 => .imp (I64 a) (.imp (I64 b) (.and (I64 r) (K (.d (.int .i64) r))))
  | k => nameI (k.wrap r) fun x => K (.d (.int k) x)
def binI (op : BinOp) (k k' : IntKind) (a b : Int) (K : C → VC) : VC :=
  match op with
  | .shl => .and (0 ≤ b) (nameI (k.wrap (a * 2 ^ (min b.toNat k.bits))) fun x => K (.d (.int k) x))
  | .shr => .and (0 ≤ b) (nameI (a.fdiv (2 ^ (min b.toNat k.bits))) fun x => K (.d (.int k) x))
  | op => match decide (k = k') with
    | false => .ff
    | true => match op with
      | .add => arith k a b (a + b) K
      | .sub => arith k a b (a - b) K
      | .mul => nameI (a * b) fun x => arith k a b x K
      | .quo => .and (b ≠ 0) (nameI (a.tdiv b) fun x => arith k a b x K)
      | .rem => .and (b ≠ 0) (nameI (a.tmod b) fun x => K (.d (.int k) x))
      | op => match cmpI op a b with
        | some r => K (.d .bool r)
        | none => match bitsI op k a b with
          | some r => nameI r fun x => K (.d (.int k) x)
          | none => .ff
def asBoolC : C → Option Bool
  | .lit b => some b
  | .d .bool b => some b
  | _ => none
def isNilErr : C → Bool
  | .d .err .nil => true
  | _ => false
/-- Two operands; 'ny': the second is the literal nil (as a constant). -/
def binVC (op : BinOp) (x y : C) (ny : Bool) (K : C → VC) : VC :=
  match x, y with
  | .d (.int k) a, .d (.int k') b => binI op k k' a b K
  | .d .str a, .d .str b => match op with
    | .add => .and (a.length + b.length ≤ big) (K (.d .str (a ++ b)))
    | op => match cmpS op a b with
      | some r => K (.d .bool r)
      | none => .ff
  | .d .err e, y => match ny && isNilErr y with
    | false => .ff
    | true => match op with
      | .eql => K (.d .bool e.isNil)
      | .neq => K (.d .bool (!e.isNil))
      | _ => .ff
  | x, y => match asBoolC x, asBoolC y with
    | some a, some b => match op with
      | .eql => K (.d .bool (a == b))
      | .neq => K (.d .bool (!(a == b)))
      | _ => .ff
    | _, _ => .ff
def unVC (op : UnOp) (x : C) (K : C → VC) : VC :=
  match op, x with
  | .not, .lit b => match b with
    | true => K (.lit false)
    | false => K (.lit true)
  | .not, .d .bool b => K (.d .bool (!b))
  | .neg, .d (.int k) a => arith k 0 a (0 - a) K
  | _, _ => .ff
def subK (k k' : IntKind) : Bool := decide (k'.min ≤ k.min) && decide (k.max ≤ k'.max)
def convVC (dst : Ty) (x : C) (K : C → VC) : VC :=
  match dst, x with
  | .int k', .d (.int k) a => match subK k k' with
    | true => K (.d (.int k') a)
    | false => K (.d (.int k') (k'.wrap a))
  | _, _ => .ff
def constC : Value → C
  | .bool b => .lit b
  | .int k n => match inK k n with
    | true => .d (.int k) n
    | false => .any
  | .string s => match Nat.ble s.size big with
    | true => .d .str s.data.toList
    | false => .any
  | .nilIface => .d .err .nil
  | .slice none 0 0 => .nilS
  | .pointer none => .nilP
  | _ => .any
def ev (env : List (Nat × SV)) : Operand → SV
  | .tmp t => match look env t with
    | some v => v
    | none => .s (.one .any)
  | .const v => .s (.one (constC v))
  | .func f => .s (.one (.fn f []))
  | .global _ => .s (.one .any)
def ev1 (env : List (Nat × SV)) (x : Operand) : C :=
  match ev env x with
  | .s (.one c) => c
  | _ => .any
def ev0 (env : List (Nat × SV)) (x : Operand) : SV0 :=
  match ev env x with
  | .s c => c
  | _ => .one .any
section
variable {eT : TypeId} {X : Ext}
def EnvR (eT : TypeId) (S : Sit) (env : List (Nat × SV)) (a : Act) : Prop := ∀ t sv, look env t = some sv → SVR eT S sv (a.tmps.getD t undef)
theorem holds_range {k : IntKind} {n : Int} (h : inK k n = true) : k.min ≤ n ∧ n ≤ k.max := by
  cases k <;> simp [inK, IntKind.min, IntKind.max, IntKind.signed, IntKind.bits] at h ⊢ <;> omega
theorem int_rel {S : Sit} {k : IntKind} {n : Int} {v : Value} : CR eT S (.d (.int k) n) v ↔ v = .int k n ∧ k.min ≤ n ∧ n ≤ k.max := by
  show VR eT (.int k) n S.A S.w v ↔ _
  unfold VR R
  simp [Ty.one]
theorem str_rel {S : Sit} {s : List UInt8} {v : Value} : CR eT S (.d .str s) v ↔ v = .string ⟨s.toArray⟩ ∧ s.length ≤ big := by
  show VR eT .str s S.A S.w v ↔ _
  unfold VR R
  simp [Ty.one]
theorem bool_rel {S : Sit} {b : Bool} {v : Value} : CR eT S (.d .bool b) v ↔ v = .bool b := by
  show VR eT .bool b S.A S.w v ↔ _
  unfold VR R
  simp [Ty.one]
theorem err_rel {S : Sit} {e : Err} {v : Value} : CR eT S (.d .err e) v ↔ ErrR eT e v := by
  show VR eT .err e S.A S.w v ↔ _
  unfold VR R
  simp [Ty.one]
theorem constC_rel (S : Sit) (v : Value) : CR eT S (constC v) v := by
  unfold constC
  split
  · rfl
  · split
    · rename_i h; exact int_rel.2 ⟨rfl, holds_range h⟩
    · trivial
  · split
    · rename_i s h; exact str_rel.2 ⟨by rw [Array.toArray_toList], by have := Nat.le_of_ble_eq_true h; rw [Array.length_toList]; exact this⟩
    · trivial
  · exact err_rel.2 rfl
  · rfl
  · rfl
  · trivial
theorem ev_rel {S : Sit} {env : List (Nat × SV)} {a : Act} (h : EnvR eT S env a) (x : Operand) : SVR eT S (ev env x) (a.eval x) := by
  cases x with
  | tmp t =>
    simp only [ev]
    split
    · rename_i v hv; exact h t v hv
    · trivial
  | const v => exact constC_rel S v
  | func f => exact ⟨rfl, fun n hn => by simp at hn⟩
  | global g => trivial
theorem ev1_rel {S : Sit} {env : List (Nat × SV)} {a : Act} (h : EnvR eT S env a) (x : Operand) : CR eT S (ev1 env x) (a.eval x) := by
  have := ev_rel h x
  unfold ev1
  split
  · rename_i c hc; rw [hc] at this; exact this
  · trivial
theorem ev0_rel {S : Sit} {env : List (Nat × SV)} {a : Act} (h : EnvR eT S env a) (x : Operand) : SV0R eT S (ev0 env x) (a.eval x) := by
  have := ev_rel h x
  unfold ev0
  split
  · rename_i c hc; rw [hc] at this; exact this
  · trivial
theorem wrap_range (k : IntKind) (n : Int) : k.min ≤ k.wrap n ∧ k.wrap n ≤ k.max := wrap_within k n
theorem wrap_id {k : IntKind} {n : Int} (h : k.min ≤ n ∧ n ≤ k.max) : k.wrap n = n := by
  cases k <;> simp [IntKind.min, IntKind.max, IntKind.signed, IntKind.bits] at h
  · exact IntWalk.i8_in n h
  · exact IntWalk.i16_in n h
  · exact IntWalk.i32_in n h
  · exact IntWalk.i64_in n h
  · exact IntWalk.u8_in n h
  · exact IntWalk.u16_in n h
  · exact IntWalk.u32_in n h
  · exact IntWalk.u64_in n h
theorem arith_rel {S : Sit} {k : IntKind} {a b r : Int} {K : C → VC} (ha : k.min ≤ a ∧ a ≤ k.max) (hb : k.min ≤ b ∧ b ≤ k.max) (h : (arith k a b r K).holds) :
    ∃ c, (K c).holds ∧ CR eT S c (.int k (k.wrap r)) := by
  have key : ∀ k : IntKind, (K (.d (.int k) (k.wrap r))).holds → ∃ c, (K c).holds ∧ CR eT S c (.int k (k.wrap r)) :=
    fun k h => ⟨_, h, int_rel.2 ⟨rfl, wrap_range k r⟩⟩
  cases k
  case i64 =>
    obtain ⟨h1, h2⟩ := h ((I64_iff a).1 ha) ((I64_iff b).1 hb)
    have hr := (I64_iff r).2 h1
    rw [wrap_id hr]
    exact ⟨_, h2, int_rel.2 ⟨rfl, hr⟩⟩
  all_goals exact key _ (nameI_holds h)
theorem tmod_range {k : IntKind} {a b : Int} (ha : k.min ≤ a ∧ a ≤ k.max) : k.min ≤ a.tmod b ∧ a.tmod b ≤ k.max := by
  have h0 : k.min ≤ 0 ∧ 0 ≤ k.max := by cases k <;> simp [IntKind.min, IntKind.max, IntKind.signed, IntKind.bits]
  rcases Int.le_total 0 a with h | h
  · have h1 := Int.tmod_nonneg b h
    have h2 : a.tmod b ≤ a := by
      by_cases hb : b = 0
      · subst hb; simp
      · have h3 := Int.natAbs_tmod a b
        have : (a.tmod b).natAbs ≤ a.natAbs := by rw [h3]; exact Nat.mod_le _ _
        omega
    omega
  · have h1 : (-a).tmod b = -(a.tmod b) := Int.neg_tmod a b
    have h2 := Int.tmod_nonneg (a := -a) b (by omega)
    have h3 := Int.natAbs_tmod a b
    have : (a.tmod b).natAbs ≤ a.natAbs := by rw [h3]; exact Nat.mod_le _ _
    omega
theorem fdiv_range {k : IntKind} {a : Int} (n : Nat) (ha : k.min ≤ a ∧ a ≤ k.max) : k.min ≤ a.fdiv (2 ^ n) ∧ a.fdiv (2 ^ n) ≤ k.max := by
  have h0 : k.min ≤ 0 ∧ 0 ≤ k.max := by cases k <;> simp [IntKind.min, IntKind.max, IntKind.signed, IntKind.bits]
  have hp : (0 : Int) < 2 ^ n := Int.pow_pos (by decide)
  rw [Int.fdiv_eq_ediv_of_nonneg _ (Int.le_of_lt hp)]
  rcases Int.le_total 0 a with h | h
  · have h1 := Int.ediv_nonneg h (Int.le_of_lt hp)
    have h2 := Int.ediv_le_self (2 ^ n : Int) h
    omega
  · have h1 : a / 2 ^ n ≤ 0 := by
      have := Int.ediv_le_ediv hp h
      simpa using this
    have h2 : a ≤ a / 2 ^ n := by
      rw [Int.le_ediv_iff_mul_le hp]
      have : (1 : Int) ≤ 2 ^ n := hp
      have := Int.mul_le_mul_of_nonpos_left h this
      omega
    omega
theorem binI_rel {S : Sit} {op : BinOp} {k k' : IntKind} {a b : Int} {K : C → VC} {P : Program} (t : TypeId) (ha : k.min ≤ a ∧ a ≤ k.max) (hb : k'.min ≤ b ∧ b ≤ k'.max)
    (h : (binI op k k' a b K).holds) : ∃ c v, (K c).holds ∧ CR eT S c v ∧ ∀ w, (binOp op t (.int k a) (.int k' b)).run P w = .ok v w := by
  have cmp : ∀ r, cmpI op a b = some r → k = k' → (K (.d .bool r)).holds → ∃ c v, (K c).holds ∧ CR eT S c v ∧ ∀ w, (binOp op t (.int k a) (.int k' b)).run P w = .ok v w := by
    intro r hr hk h9
    subst hk
    refine ⟨_, _, h9, bool_rel.2 rfl, fun w => ?_⟩
    cases op <;> simp [cmpI] at hr <;> subst hr <;> simp [binOp, Op.intCmp]
  have bit : ∀ r, bitsI op k a b = some r → k = k' → (K (.d (.int k) r)).holds → ∃ c v, (K c).holds ∧ CR eT S c v ∧ ∀ w, (binOp op t (.int k a) (.int k' b)).run P w = .ok v w := by
    intro r hr hk h9
    subst hk
    have : k.min ≤ r ∧ r ≤ k.max := by
      cases op <;> simp [bitsI] at hr <;> subst hr <;> exact wrap_range _ _
    refine ⟨_, _, h9, int_rel.2 ⟨rfl, this⟩, fun w => ?_⟩
    cases op <;> simp [bitsI] at hr <;> subst hr <;> simp [binOp, Op.intBits]
  have eqk : ∀ {v : VC}, (match decide (k = k') with | false => VC.ff | true => v).holds → k = k' ∧ v.holds := by
    intro v h
    split at h
    · exact h.elim
    · rename_i hk; exact ⟨by simpa using hk, h⟩
  cases op
  case shl =>
    obtain ⟨h1, h2⟩ := h
    refine ⟨_, _, nameI_holds h2, int_rel.2 ⟨rfl, wrap_range k _⟩, fun w => ?_⟩
    simp only [binOp, Op.shift, if_neg (Int.not_lt.2 h1), Sem.run_pure]
  case shr =>
    obtain ⟨h1, h2⟩ := h
    refine ⟨_, _, nameI_holds h2, int_rel.2 ⟨rfl, fdiv_range _ ha⟩, fun w => ?_⟩
    simp only [binOp, Op.shift, if_neg (Int.not_lt.2 h1), Sem.run_pure]
  case add =>
    obtain ⟨hk, h9⟩ := eqk h
    subst hk
    obtain ⟨c, h3, h4⟩ := arith_rel (S := S) (eT := eT) ha hb h9
    exact ⟨c, _, h3, h4, fun w => by simp [binOp, Op.intArith]⟩
  case sub =>
    obtain ⟨hk, h9⟩ := eqk h
    subst hk
    obtain ⟨c, h3, h4⟩ := arith_rel (S := S) (eT := eT) ha hb h9
    exact ⟨c, _, h3, h4, fun w => by simp [binOp, Op.intArith]⟩
  case mul =>
    obtain ⟨hk, h9⟩ := eqk h
    subst hk
    obtain ⟨c, h3, h4⟩ := arith_rel (S := S) (eT := eT) ha hb (nameI_holds h9)
    exact ⟨c, _, h3, h4, fun w => by simp [binOp, Op.intArith]⟩
  case quo =>
    obtain ⟨hk, h0, h9⟩ := eqk h
    subst hk
    obtain ⟨c, h3, h4⟩ := arith_rel (S := S) (eT := eT) ha hb (nameI_holds h9)
    exact ⟨c, _, h3, h4, fun w => by simp [binOp, Op.intDiv, h0]⟩
  case rem =>
    obtain ⟨hk, h0, h9⟩ := eqk h
    subst hk
    exact ⟨_, _, nameI_holds h9, int_rel.2 ⟨rfl, tmod_range ha⟩, fun w => by simp [binOp, Op.intDiv, h0]⟩
  case and => obtain ⟨hk, h9⟩ := eqk h; exact bit _ rfl hk (nameI_holds h9)
  case or => obtain ⟨hk, h9⟩ := eqk h; exact bit _ rfl hk (nameI_holds h9)
  case xor => obtain ⟨hk, h9⟩ := eqk h; exact bit _ rfl hk (nameI_holds h9)
  case andNot => obtain ⟨hk, h9⟩ := eqk h; exact bit _ rfl hk (nameI_holds h9)
  case eql => obtain ⟨hk, h9⟩ := eqk h; exact cmp _ rfl hk h9
  case neq => obtain ⟨hk, h9⟩ := eqk h; exact cmp _ rfl hk h9
  case lss => obtain ⟨hk, h9⟩ := eqk h; exact cmp _ rfl hk h9
  case leq => obtain ⟨hk, h9⟩ := eqk h; exact cmp _ rfl hk h9
  case gtr => obtain ⟨hk, h9⟩ := eqk h; exact cmp _ rfl hk h9
  case geq => obtain ⟨hk, h9⟩ := eqk h; exact cmp _ rfl hk h9
theorem toList_mk (l : List UInt8) : (⟨l.toArray⟩ : ByteArray).toList = l := by
  rw [ByteArray.toList_eq]
end
end Go.Vg
