/- A part of the proof that the law TopStamp holds of the given program: facts that are used there. -/
import Derived.Test.YtgokjhhcfemnhabMrl0
set_option linter.unusedSimpArgs false
set_option linter.unusedVariables false
namespace Go.Mrl
open Go.Vg
/-! Names and their hashes, as plain functions. -/
def small (c : UInt8) : Bool := decide ((97 : Int) ≤ c.toNat) && decide ((c.toNat : Int) ≤ 122)
def other (c : UInt8) : Bool := (decide ((48 : Int) ≤ c.toNat) && decide ((c.toNat : Int) ≤ 57)) || ((c.toNat : Int) == 95)
def badAt (i : Nat) (c : UInt8) : Bool := !small c && ((i : Int) == 0 || !other c)
def anyBad (s : List UInt8) : Bool := (List.range s.length).any fun i => badAt i (nthB s i)
def nameFault (s : List UInt8) : Int := if s.length < 1 ∨ 8 < s.length then 1 else if anyBad s = true then 3 else 0
def errNo (n : Int) : Err := if n = 0 then .nil else .no n
def sameE : Err → Int → Bool
  | .nil, n => n == 0
  | .no m, n => decide (n > 0) && m == n
  | .other, _ => false
def numE : Err → Int
  | .nil => 0
  | .no m => m
  | .other => -1
theorem sameE_errNo {n : Int} (h : 0 ≤ n) : sameE (errNo n) n = true := by
  unfold errNo
  split
  · rename_i e; subst e; rfl
  · simp [sameE]; omega
theorem nameFault_nonneg (s : List UInt8) : 0 ≤ nameFault s := by
  unfold nameFault; split
  · decide
  · split <;> decide
theorem anyBad_true {s : List UInt8} {i : Nat} (h : i < s.length) (hb : badAt i (nthB s i) = true) : anyBad s = true := by
  simp only [anyBad, List.any_eq_true, List.mem_range]
  exact ⟨i, h, hb⟩
theorem anyBad_false {s : List UInt8} (h : ∀ i, i < s.length → badAt i (nthB s i) = false) : anyBad s = false := by
  simp only [anyBad, List.any_eq_false, List.mem_range]
  intro i hi; rw [h i hi]; simp
theorem get?_nthB {s : List UInt8} {i : Nat} (h : i < s.length) : s[i]? = some (nthB s i) := by
  rw [nthB_eq (List.getElem?_eq_getElem h), List.getElem?_eq_getElem h]
theorem nameFault_one {s : List UInt8} (h : s.length < 1 ∨ 8 < s.length) : nameFault s = 1 := by unfold nameFault; rw [if_pos h]
theorem nameFault_three {s : List UInt8} {i : Nat} (h : ¬ (s.length < 1 ∨ 8 < s.length)) (hi : i < s.length) (hb : badAt i (nthB s i) = true) : nameFault s = 3 := by
  unfold nameFault
  rw [if_neg h, if_pos (anyBad_true hi hb)]
theorem nameFault_zero {s : List UInt8} (h : ¬ (s.length < 1 ∨ 8 < s.length)) (hb : ∀ i, i < s.length → badAt i (nthB s i) = false) : nameFault s = 0 := by
  unfold nameFault
  rw [if_neg h, if_neg (by rw [anyBad_false hb]; decide)]
theorem badAt_iff {i : Nat} {c : UInt8} : badAt i c = true ↔ ¬ (97 ≤ c.toNat ∧ c.toNat ≤ 122) ∧ (i = 0 ∨ ¬ ((48 ≤ c.toNat ∧ c.toNat ≤ 57) ∨ c.toNat = 95)) := by
  simp only [badAt, small, other, Bool.and_eq_true, Bool.not_eq_true', Bool.and_eq_false_iff, Bool.or_eq_true, Bool.or_eq_false_iff, decide_eq_false_iff_not, beq_iff_eq, beq_eq_false_iff_ne]
  omega
theorem badAt_false {i : Nat} {c : UInt8} : badAt i c = false ↔ ¬ (¬ (97 ≤ c.toNat ∧ c.toNat ≤ 122) ∧ (i = 0 ∨ ¬ ((48 ≤ c.toNat ∧ c.toNat ≤ 57) ∨ c.toNat = 95))) := by
  rw [← badAt_iff]; simp
theorem bad_next {s : List UInt8} {i : Nat} (h : ∀ j, j < i → badAt j (nthB s j) = false) (hb : badAt i (nthB s i) = false) : ∀ j, j < i + 1 → badAt j (nthB s j) = false := by
  intro j hj
  rcases Nat.lt_or_ge j i with hlt | hge
  · exact h j hlt
  · obtain rfl : j = i := by omega
    exact hb
def hashStep (h : Nat) (c : UInt8) : Nat := ((16 * h + c.toNat) % 4294967296 % 268435456) ^^^ (16 * ((16 * h + c.toNat) % 4294967296 / 268435456))
def hashF (s : List UInt8) : Nat := s.foldl hashStep 0
theorem hashStep_lt (h : Nat) (c : UInt8) : hashStep h c < 268435456 := by
  unfold hashStep
  have h1 : (16 * h + c.toNat) % 4294967296 % 268435456 < 2 ^ 28 := Nat.mod_lt _ (by decide)
  have h2 : 16 * ((16 * h + c.toNat) % 4294967296 / 268435456) < 2 ^ 28 := by
    have : (16 * h + c.toNat) % 4294967296 < 4294967296 := Nat.mod_lt _ (by decide)
    omega
  exact Nat.xor_lt_two_pow h1 h2
theorem hashF_lt (s : List UInt8) : hashF s < 268435456 := by
  rcases List.eq_nil_or_concat s with rfl | ⟨l, a, rfl⟩
  · decide
  · simp only [hashF, List.concat_eq_append, List.foldl_append, List.foldl_cons, List.foldl_nil]; exact hashStep_lt _ _
theorem hashF_take {s : List UInt8} {i : Nat} (h : i < s.length) : hashF (s.take (i + 1)) = hashStep (hashF (s.take i)) (nthB s i) := by
  rw [List.take_add_one, get?_nthB h]
  simp [hashF]
theorem bv_and {n a b : Nat} (ha : a < 2 ^ n) : (BitVec.ofInt n (a : Int) &&& BitVec.ofInt n (b : Int)).toNat = a &&& b % 2 ^ n := by
  simp [BitVec.ofInt_natCast, Nat.mod_eq_of_lt ha]
theorem bv_xor {n a b : Nat} (ha : a < 2 ^ n) (hb : b < 2 ^ n) : (BitVec.ofInt n (a : Int) ^^^ BitVec.ofInt n (b : Int)).toNat = a ^^^ b := by
  simp [BitVec.ofInt_natCast, Nat.mod_eq_of_lt ha, Nat.mod_eq_of_lt hb]
theorem u32_id {a : Nat} (h : a < 4294967296) : IntKind.u32.wrap (a : Int) = a := wrap_id (by simp [IntKind.min, IntKind.max, IntKind.signed, IntKind.bits]; omega)
theorem i64_id {a : Nat} (h : a < 9223372036854775808) : IntKind.i64.wrap (a : Int) = a := wrap_id (by simp [IntKind.min, IntKind.max, IntKind.signed, IntKind.bits]; omega)
theorem u32_mod (a : Nat) : IntKind.u32.wrap (a : Int) = ((a % 4294967296 : Nat) : Int) := by
  simp [IntKind.wrap, IntKind.signed, IntKind.bits]
  try omega
theorem high_bits {x : Nat} (hx : x < 4294967296) : x &&& 4026531840 = 268435456 * (x / 268435456) := by
  apply Nat.eq_of_testBit_eq
  intro i
  rw [Nat.testBit_and, show (4026531840 : Nat) = 2 ^ 28 * (2 ^ 4 - 1) from by decide, show (268435456 : Nat) = 2 ^ 28 from by decide, Nat.testBit_two_pow_mul, Nat.testBit_two_pow_mul, Nat.testBit_two_pow_sub_one, Nat.testBit_div_two_pow]
  by_cases h : 28 ≤ i
  · rw [show i - 28 + 28 = i from by omega]
    by_cases h2 : i - 28 < 4
    · simp [h, h2]
    · rw [Nat.testBit_lt_two_pow (x := x) (i := i) (Nat.lt_of_lt_of_le hx (Nat.pow_le_pow_right (n := 2) (i := 32) (j := i) (by decide) (by omega)))]; simp
  · simp [h]
theorem hash_bits {x : Nat} (hx : x < 4294967296) : (BitVec.ofInt 32 ((x ^^^ 16 * (x / 268435456) : Nat) : Int) &&& ~~~ BitVec.ofInt 32 ((268435456 * (x / 268435456) : Nat) : Int)).toNat = (x % 268435456) ^^^ (16 * (x / 268435456)) := by
  have hq : x / 268435456 < 16 := by omega
  have h1 : x ^^^ 16 * (x / 268435456) < 2 ^ 32 := Nat.xor_lt_two_pow hx (by omega)
  rw [BitVec.toNat_and, BitVec.toNat_not, BitVec.ofInt_natCast, BitVec.ofInt_natCast, BitVec.toNat_ofNat, BitVec.toNat_ofNat, Nat.mod_eq_of_lt h1, Nat.mod_eq_of_lt (by omega)]
  apply Nat.eq_of_testBit_eq
  intro i
  rw [show 2 ^ 32 - 1 - 268435456 * (x / 268435456) = 2 ^ 32 - (268435456 * (x / 268435456) + 1) from by omega, Nat.testBit_and, Nat.testBit_two_pow_sub_succ (by omega), Nat.testBit_xor, Nat.testBit_xor,
    show (268435456 : Nat) = 2 ^ 28 from by decide, Nat.testBit_mod_two_pow, Nat.testBit_two_pow_mul, Nat.testBit_div_two_pow]
  by_cases h : i < 28
  · simp [h, show ¬ 28 ≤ i from by omega, show i < 32 from by omega]
  · have h16 : (16 * (x / 2 ^ 28)).testBit i = false := by
      apply Nat.testBit_lt_two_pow
      exact Nat.lt_of_lt_of_le (show _ < 2 ^ 28 by omega) (Nat.pow_le_pow_right (by decide) (by omega))
    rw [h16]
    by_cases h2 : i < 32
    · simp [h, h2, show 28 ≤ i from by omega]
    · simp [h, h2]
theorem hash_next {h : Nat} {c : UInt8} (hh : h < 268435456) {x1 x3 x4 x5 x6 x7 : Int}
    (e1 : x1 = IntKind.wrap IntKind.u32 ((h : Int) * (2 : Int) ^ min (Int.toNat (4 : Int)) 32)) (e3 : x3 = IntKind.wrap IntKind.u32 (x1 + (c.toNat : Int)))
    (e4 : x4 = IntKind.wrap IntKind.u32 (((BitVec.ofInt 32 x3 &&& BitVec.ofInt 32 (4026531840 : Int)).toNat : Nat) : Int))
    (e5 : x5 = Int.fdiv x4 ((2 : Int) ^ min (Int.toNat (24 : Int)) 32))
    (e6 : x6 = IntKind.wrap IntKind.u32 (((BitVec.ofInt 32 x3 ^^^ BitVec.ofInt 32 x5).toNat : Nat) : Int))
    (e7 : x7 = IntKind.wrap IntKind.u32 (((BitVec.ofInt 32 x6 &&& ~~~BitVec.ofInt 32 x4).toNat : Nat) : Int)) :
    x7 = (hashStep h c : Int) := by
  have hc := c.toNat_lt
  have h1 : x1 = ((16 * h : Nat) : Int) := by
    rw [e1, show (h : Int) * (2 : Int) ^ min (Int.toNat (4 : Int)) 32 = ((16 * h : Nat) : Int) from by rw [show min (Int.toNat (4 : Int)) 32 = 4 from by decide]; omega, u32_id (by omega)]
  have h3 : x3 = (((16 * h + c.toNat) % 4294967296 : Nat) : Int) := by
    rw [e3, h1, show ((16 * h : Nat) : Int) + (c.toNat : Int) = ((16 * h + c.toNat : Nat) : Int) from by omega, u32_mod]
  generalize hx : (16 * h + c.toNat) % 4294967296 = x at h3
  have hxl : x < 4294967296 := by omega
  have h4 : x4 = ((268435456 * (x / 268435456) : Nat) : Int) := by
    rw [e4, h3, show (4026531840 : Int) = ((4026531840 : Nat) : Int) from rfl, bv_and (by omega), show (4026531840 : Nat) % 2 ^ 32 = 4026531840 from by decide, high_bits hxl, u32_id (by omega)]
  have h5 : x5 = ((16 * (x / 268435456) : Nat) : Int) := by
    rw [e5, h4, show min (Int.toNat (24 : Int)) 32 = 24 from by decide, Int.fdiv_eq_ediv_of_nonneg _ (by decide)]
    omega
  have hxor : x ^^^ 16 * (x / 268435456) < 2 ^ 32 := Nat.xor_lt_two_pow hxl (by omega)
  have h6 : x6 = ((x ^^^ 16 * (x / 268435456) : Nat) : Int) := by
    rw [e6, h3, h5, bv_xor (by omega) (by omega), u32_id hxor]
  have hlow : (x % 268435456) ^^^ (16 * (x / 268435456)) < 2 ^ 28 := Nat.xor_lt_two_pow (Nat.mod_lt _ (by decide)) (by omega)
  rw [e7, h6, h4, hash_bits hxl, u32_id (by omega)]
  unfold hashStep
  rw [hx]
theorem rh3 {h : Nat} {c : UInt8} {x1 x3 : Int} (e1 : x1 = 16 * (h : Int)) (e3 : x3 = (x1 + (c.toNat : Int)).tmod 4294967296) : x3 = (((16 * h + c.toNat) % 4294967296 : Nat) : Int) := by
  rw [e3, e1, Int.tmod_eq_emod_of_nonneg (by omega)]; omega
theorem rh4 {x : Nat} {x3 x4 : Int} (h3 : x3 = (x : Int)) (e4 : x4 = x3.tdiv 268435456) : x4 = ((x / 268435456 : Nat) : Int) := by
  rw [e4, h3, Int.tdiv_eq_ediv_of_nonneg (by omega)]; omega
theorem rhash_next {h : Nat} {c : UInt8} {x1 x3 x4 x5 x6 x7 : Int} (e1 : x1 = 16 * (h : Int)) (e3 : x3 = (x1 + (c.toNat : Int)).tmod 4294967296) (e4 : x4 = x3.tdiv 268435456) (e5 : x5 = x3.tmod 268435456)
    (e6 : x6 = 16 * x4) (e7 : x7 = IntKind.wrap IntKind.i64 (((BitVec.ofInt 64 x5 ^^^ BitVec.ofInt 64 x6).toNat : Nat) : Int)) : x7 = (hashStep h c : Int) := by
  have hc := c.toNat_lt
  have h3 := rh3 e1 e3
  generalize hx : (16 * h + c.toNat) % 4294967296 = x at h3
  have hxl : x < 4294967296 := by omega
  have h4 := rh4 h3 e4
  have h5 : x5 = ((x % 268435456 : Nat) : Int) := by rw [e5, h3, Int.tmod_eq_emod_of_nonneg (by omega)]; omega
  have h6 : x6 = ((16 * (x / 268435456) : Nat) : Int) := by rw [e6, h4]; omega
  have hlow : (x % 268435456) ^^^ (16 * (x / 268435456)) < 2 ^ 28 := Nat.xor_lt_two_pow (Nat.mod_lt _ (by decide)) (by omega)
  rw [e7, h5, h6, bv_xor (by omega) (by omega), i64_id (by omega)]
  unfold hashStep
  rw [hx]
theorem u8_range {c : Int} (h : wf (.int .u8) c) : 0 ≤ c ∧ c ≤ 255 := by
  have : IntKind.u8.min ≤ c ∧ c ≤ IntKind.u8.max := h
  simpa [IntKind.min, IntKind.max, IntKind.signed, IntKind.bits] using this
theorem hash_letter {s : List UInt8} {c x1 x2 : Int} (hc : 0 ≤ c ∧ c ≤ 255) (h : hashF s < 16777200) (e1 : x1 = IntKind.wrap IntKind.u32 (16 * (hashF s : Int))) (e2 : x2 = IntKind.wrap IntKind.u32 (x1 + c)) : (hashF (s ++ bytesOf [c]) : Int) = x2 := by
  have hb : (UInt8.ofNat c.toNat).toNat = c.toNat := by simp; omega
  have h1 : x1 = ((16 * hashF s : Nat) : Int) := by rw [e1, show (16 : Int) * (hashF s : Int) = ((16 * hashF s : Nat) : Int) from by omega, u32_id (by omega)]
  have h2 : x2 = ((16 * hashF s + c.toNat : Nat) : Int) := by rw [e2, h1, show ((16 * hashF s : Nat) : Int) + c = ((16 * hashF s + c.toNat : Nat) : Int) from by omega, u32_id (by omega)]
  rw [h2]
  have : hashF (s ++ bytesOf [c]) = hashStep (hashF s) (UInt8.ofNat c.toNat) := by simp [hashF, bytesOf]
  rw [this]
  unfold hashStep
  rw [hb, show (16 * hashF s + c.toNat) % 4294967296 = 16 * hashF s + c.toNat from by omega, show (16 * hashF s + c.toNat) / 268435456 = 0 from by omega, show (16 * hashF s + c.toNat) % 268435456 = 16 * hashF s + c.toNat from by omega]
  simp
end Go.Mrl
