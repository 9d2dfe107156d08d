/- A part of the proof that the law TopStamp holds of the given program: facts that are used there. -/
import Derived.Test.YtgokjhhcfemnhabMrl16
set_option linter.unusedSimpArgs false
set_option linter.unusedVariables false
namespace Go.Mrl
open Go.Vg
/-! Bits; repeated lists. -/
theorem wrap_u64_small {a : Int} (h0 : 0 ≤ a) (h : a < 18446744073709551616) : IntKind.u64.wrap a = a :=
  wrap_id (by simp [IntKind.min, IntKind.max, IntKind.signed, IntKind.bits]; omega)
theorem bv_small {a : Int} (h0 : 0 ≤ a) (h : a < 18446744073709551616) : (BitVec.ofInt IntKind.u64.bits a).toNat = a.toNat := by
  rw [BitVec.toNat_ofInt]
  show (a % (2 ^ 64 : Nat)).toNat = a.toNat
  rw [Int.emod_eq_of_lt h0 (by simpa using h)]
theorem uAnd {a x : Int} (hx : x = IntKind.wrap .u64 ((BitVec.ofInt IntKind.u64.bits a &&& BitVec.ofInt IntKind.u64.bits 4294967295).toNat : Int)) (h0 : 0 ≤ a) (h : a < 4294967296) : x = a := by
  rw [BitVec.toNat_and, bv_small h0 (by omega), bv_small (by omega) (by omega)] at hx
  rw [show (4294967295 : Int).toNat = 2 ^ 32 - 1 from rfl, Nat.and_two_pow_sub_one_eq_mod, Nat.mod_eq_of_lt (by omega), Int.toNat_of_nonneg h0, wrap_u64_small h0 (by omega)] at hx
  exact hx
theorem uShr {a x : Int} {n : Nat} (hx : x = a.fdiv (2 ^ (min n IntKind.u64.bits))) (hn : n = 32) (h0 : 0 ≤ a) (h : a < 4294967296) : x = 0 := by
  subst hn
  rw [show min 32 IntKind.u64.bits = 32 from rfl, Int.fdiv_eq_ediv_of_nonneg _ (by decide), Int.ediv_eq_zero_of_lt h0 (by simpa using h)] at hx
  exact hx
/-- So many of one thing, then others. -/
def repT (s : List UInt8) (n k : Nat) : List (List UInt8) := List.replicate k s ++ List.replicate (n - k) []
theorem repT_len {s : List UInt8} {n k : Nat} (h : k ≤ n) : (repT s n k).length = n := by simp [repT]; omega
theorem repT_start {s : List UInt8} {n : Nat} (hn : 0 < n) {k : Nat} (hk : k = 1) (x : List (List UInt8)) (hx : x = [s]) : (List.replicate n ([] : List UInt8)).take 0 ++ x.take k ++ (List.replicate n []).drop (0 + k) = repT s n 1 := by
  subst hk; subst hx
  simp [repT]
theorem repT_step {s : List UInt8} {n k m : Nat} (hk : k + m ≤ n) (hm : m ≤ k) : (repT s n k).take k ++ ((repT s n k).take k).take m ++ (repT s n k).drop (k + m) = repT s n (k + m) := by
  have h1 : (repT s n k).take k = List.replicate k s := by
    unfold repT; rw [List.take_append_of_le_length (by simp), List.take_of_length_le (by simp)]
  rw [h1, List.take_replicate, Nat.min_eq_left hm]
  unfold repT
  rw [List.drop_append, List.drop_of_length_le (by simp), List.nil_append, List.drop_replicate, List.length_replicate, ← List.replicate_append_replicate]
  rw [show n - k - (k + m - k) = n - (k + m) by omega]
theorem repT_full {s : List UInt8} {n : Nat} : repT s n n = List.replicate n s := by simp [repT]
theorem errNo_nil {n : Int} : (errNo n).isNil = true ↔ n = 0 := by
  unfold errNo; split
  · rename_i h; simp [h, Err.isNil]
  · rename_i h; simp [h, Err.isNil]
theorem writeD_bad {d : Dk} {at_ : Int} {s : List UInt8} (h : at_ < 0 ∨ (d.2.2.1.length : Int) ≤ at_ ∨ 64 < s.length) : writeD d at_ s = (d, 1) := by unfold writeD; rw [if_pos h]
theorem writeD_down {d : Dk} {at_ : Int} {s : List UInt8} (h : ¬ (at_ < 0 ∨ (d.2.2.1.length : Int) ≤ at_ ∨ 64 < s.length)) (h2 : ¬ (stepOf d).2 = 0) : writeD d at_ s = stepOf d := by unfold writeD; rw [if_neg h, if_neg h2]
theorem writeD_ok {d : Dk} {at_ : Int} {s : List UInt8} (h : ¬ (at_ < 0 ∨ (d.2.2.1.length : Int) ≤ at_ ∨ 64 < s.length)) (h2 : (stepOf d).2 = 0) :
    writeD d at_ s = (((stepOf d).1.1, d.2.1, d.2.2.1.set at_.toNat (fullS s), d.2.2.2.1 ++ [(at_, fullS s, ())], ()), 0) := by unfold writeD; rw [if_neg h, if_pos h2]
theorem nth_set {t : Ty} {l : List (D t)} {i : Nat} {x : D t} (h : i < l.length) : nth t (l.set i x) i = x := by
  unfold nth; simp [List.getD_eq_getElem?_getD, h]
theorem flush_copy {d : Dk} (h : d.2.1.length = d.2.2.1.length) : d.2.1.take 0 ++ d.2.2.1.take (min d.2.2.1.length d.2.1.length) ++ d.2.1.drop (0 + min d.2.2.1.length d.2.1.length) = d.2.2.1 := by
  rw [h, Nat.min_self]; simp [h]
theorem copy_all {a b : List (List UInt8)} (h : a.length = b.length) : a.take 0 ++ b.take (min b.length a.length) ++ a.drop (0 + min b.length a.length) = b := by
  rw [h, Nat.min_self]; simp [h]
theorem bit_test {k : Int} {i n : Nat} {x y : Int} (hx : x = k.fdiv (2 ^ (min n IntKind.u64.bits))) (hn : n = i % 64) (hy : y = IntKind.wrap .u64 ((BitVec.ofInt IntKind.u64.bits x &&& BitVec.ofInt IntKind.u64.bits 1).toNat : Int)) : y = 1 ↔ bitOn k i := by
  subst hn
  have : min (i % 64) IntKind.u64.bits = i % 64 := Nat.min_eq_left (by show i % 64 ≤ 64; omega)
  rw [this] at hx
  subst hx
  subst hy
  exact Iff.rfl
theorem keepN_on {k : Int} {wait : List (Int × List UInt8 × Unit)} {kept : List (List UInt8)} {n : Nat} (h : bitOn k n) : (keepN k wait kept n).set (nth tTurn wait n).1.toNat (nth tTurn wait n).2.1 = keepN k wait kept (n + 1) := by
  rw [keepN, if_pos h]
theorem keepN_off {k : Int} {wait : List (Int × List UInt8 × Unit)} {kept : List (List UInt8)} {n : Nat} (h : ¬ bitOn k n) : keepN k wait kept n = keepN k wait kept (n + 1) := by
  rw [keepN, if_neg h]
theorem stepOf_down {d : Dk} (h : d.1.2.1 = true) : stepOf d = (d, 9) := by unfold stepOf; rw [if_pos h]
theorem stepOf_fall {d : Dk} (h : d.1.2.1 = false) (h0 : d.1.1 = 0) : stepOf d = (((-1, true, ()), d.2), 9) := by unfold stepOf; rw [if_neg (by rw [h]; decide), if_pos h0]
theorem stepOf_go {d : Dk} (h : d.1.2.1 = false) (h0 : ¬ d.1.1 = 0) (hf : -1 ≤ d.1.1) : stepOf d = (((if (-1 : Int) > d.1.1 - 1 then (-1 : Int) else d.1.1 - 1, d.1.2.1, ()), d.2), 0) := by
  unfold stepOf
  rw [if_neg (by rw [h]; decide), if_neg h0, h]
  by_cases c : 0 < d.1.1
  · rw [if_pos c, if_neg (by omega)]
  · rw [if_neg c, if_pos (by omega), show d.1.1 = -1 by omega]
theorem stepOf_goR {d : Dk} (h : d.1.2.1 = false) (h0 : ¬ d.1.1 = 0) (c : 0 < d.1.1) : stepOf d = (((d.1.1 - 1, d.1.2.1, ()), d.2), 0) := by
  unfold stepOf
  rw [if_neg (by rw [h]; decide), if_neg h0, h, if_pos c]
theorem stepOf_stay {d : Dk} (h : d.1.2.1 = false) (h0 : ¬ d.1.1 = 0) (c : ¬ 0 < d.1.1) : stepOf d = (d, 0) := by
  unfold stepOf
  rw [if_neg (by rw [h]; decide), if_neg h0, if_neg c, ← h]
theorem readD_down {d : Dk} {a : Int} (h : d.1.2.1 = true) : readD d a = ([], 9) := by unfold readD; rw [if_pos h]
theorem readD_out {d : Dk} {a : Int} (h : d.1.2.1 = false) (h2 : a < 0 ∨ (d.2.2.1.length : Int) ≤ a) : readD d a = ([], 1) := by unfold readD; rw [if_neg (by rw [h]; decide), if_pos h2]
theorem readD_in {d : Dk} {a : Int} (h : d.1.2.1 = false) (h2 : ¬ (a < 0 ∨ (d.2.2.1.length : Int) ≤ a)) : readD d a = (nth .str d.2.2.1 a.toNat, 0) := by unfold readD; rw [if_neg (by rw [h]; decide), if_neg h2]
theorem flushD_ok {d : Dk} (h : (stepOf d).2 = 0) : flushD d = (((stepOf d).1.1, d.2.2.1, d.2.2.1, [], ()), 0) := by unfold flushD; rw [if_pos h]
theorem flushD_down {d : Dk} (h : ¬ (stepOf d).2 = 0) : flushD d = stepOf d := by unfold flushD; rw [if_neg h]
theorem mod64 (i : Nat) : Int.toNat ((i : Int).tmod 64) = i % 64 := by rw [Int.tmod_eq_emod_of_nonneg (by omega)]; omega
theorem wrap_i64_small {a : Int} (h0 : -9223372036854775808 ≤ a) (h : a < 9223372036854775808) : IntKind.i64.wrap a = a :=
  wrap_id (by rw [I64_iff]; unfold I64; omega)
end Go.Mrl
namespace Go.Mrl
open Go.Vg
/-- Entries, and acts, that are not too much. -/
def LightE (e : D tEntry) : Prop := e.1.length ≤ 20 ∧ e.2.1.length ≤ 8 ∧ e.2.2.1.length ≤ 40 ∧ ∀ i, i < e.2.1.length → (nth tStamped e.2.1 i).1.length ≤ 20
def LightA (a : D tAct) : Prop := a.2.1.length ≤ 100 ∧ a.2.2.1.length ≤ 1300 ∧ LightE a.2.2.2.2.2.1
def LightAs (l : List (D tAct)) (m : Int) : Prop := (l.length : Int) ≤ m ∧ ∀ i, i < l.length → LightA (nth tAct l i)
end Go.Mrl
