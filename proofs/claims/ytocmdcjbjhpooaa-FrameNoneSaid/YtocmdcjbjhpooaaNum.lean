/- Words as natural numbers: a field of a word, a word with a field changed, and the bit operations that compute them. -/
import Derived.Laws.BitsLemmas
import Derived.RowKit
set_option linter.unusedVariables false
set_option linter.unusedSimpArgs false
namespace Go.Proofs.Ytocmdcjbjhpooaa.Num
open Go Go.RowKit

theorem u64_wrap_nat (n : Nat) : IntKind.u64.wrap (n : Int) = ((n % 18446744073709551616 : Nat) : Int) := by
  simp [IntKind.wrap, IntKind.bits, IntKind.signed]
theorem u64_wrap_of {n : Int} (h0 : 0 ≤ n) (h1 : n < 18446744073709551616) : IntKind.u64.wrap n = n := by
  simp [IntKind.wrap, IntKind.bits, IntKind.signed]; omega
theorem wrap64_of {n : Int} (h0 : -9223372036854775808 ≤ n) (h1 : n ≤ 9223372036854775807) : wrap64 n = n := by
  unfold wrap64; omega
theorem u64_wrap_eq (n : Int) : IntKind.u64.wrap n = n % 18446744073709551616 := by
  simp [IntKind.wrap, IntKind.bits, IntKind.signed]

/-- A field's number. -/
def fieldN (w a b : Nat) : Nat := w / 2 ^ a % 2 ^ b
/-- A word with a field changed. -/
def withN (w a b n : Nat) : Nat := w / 2 ^ (a + b) * 2 ^ (a + b) + (n % 2 ^ b) * 2 ^ a + w % 2 ^ a

theorem lt64 {n i : Nat} (h : n < 2 ^ 64) (hi : 64 ≤ i) : n.testBit i = false :=
  Nat.testBit_lt_two_pow (Nat.lt_of_lt_of_le h (Nat.pow_le_pow_right (by decide) hi))

theorem bits_and_nat {a b : Nat} (ha : a < 2 ^ 64) (hb : b < 2 ^ 64) : Go.bits .and .u64 (a : Int) (b : Int) = ((a &&& b : Nat) : Int) := by
  have h1 : a % 2 ^ 64 = a := Nat.mod_eq_of_lt ha
  have h2 : b % 2 ^ 64 = b := Nat.mod_eq_of_lt hb
  have h3 : a &&& b < 2 ^ 64 := Nat.and_lt_two_pow _ hb
  have e : (BitVec.ofInt 64 (a : Int) &&& BitVec.ofInt 64 (b : Int)).toNat = a &&& b := by rw [BitVec.ofInt_natCast, BitVec.ofInt_natCast, BitVec.toNat_and, BitVec.toNat_ofNat, BitVec.toNat_ofNat, h1, h2]
  have g : Go.bits .and .u64 (a : Int) (b : Int) = IntKind.u64.wrap (((BitVec.ofInt 64 (a : Int) &&& BitVec.ofInt 64 (b : Int)).toNat : Nat) : Int) := rfl
  rw [g, e, u64_wrap_nat, Nat.mod_eq_of_lt h3]
theorem bits_or_nat {a b : Nat} (ha : a < 2 ^ 64) (hb : b < 2 ^ 64) : Go.bits .or .u64 (a : Int) (b : Int) = ((a ||| b : Nat) : Int) := by
  have h1 : a % 2 ^ 64 = a := Nat.mod_eq_of_lt ha
  have h2 : b % 2 ^ 64 = b := Nat.mod_eq_of_lt hb
  have h3 : a ||| b < 2 ^ 64 := Nat.or_lt_two_pow ha hb
  have e : (BitVec.ofInt 64 (a : Int) ||| BitVec.ofInt 64 (b : Int)).toNat = a ||| b := by rw [BitVec.ofInt_natCast, BitVec.ofInt_natCast, BitVec.toNat_or, BitVec.toNat_ofNat, BitVec.toNat_ofNat, h1, h2]
  have g : Go.bits .or .u64 (a : Int) (b : Int) = IntKind.u64.wrap (((BitVec.ofInt 64 (a : Int) ||| BitVec.ofInt 64 (b : Int)).toNat : Nat) : Int) := rfl
  rw [g, e, u64_wrap_nat, Nat.mod_eq_of_lt h3]
theorem bits_xor_nat {a b : Nat} (ha : a < 2 ^ 64) (hb : b < 2 ^ 64) : Go.bits .xor .u64 (a : Int) (b : Int) = ((a ^^^ b : Nat) : Int) := by
  have h1 : a % 2 ^ 64 = a := Nat.mod_eq_of_lt ha
  have h2 : b % 2 ^ 64 = b := Nat.mod_eq_of_lt hb
  have h3 : a ^^^ b < 2 ^ 64 := Nat.xor_lt_two_pow ha hb
  have e : (BitVec.ofInt 64 (a : Int) ^^^ BitVec.ofInt 64 (b : Int)).toNat = a ^^^ b := by rw [BitVec.ofInt_natCast, BitVec.ofInt_natCast, BitVec.toNat_xor, BitVec.toNat_ofNat, BitVec.toNat_ofNat, h1, h2]
  have g : Go.bits .xor .u64 (a : Int) (b : Int) = IntKind.u64.wrap (((BitVec.ofInt 64 (a : Int) ^^^ BitVec.ofInt 64 (b : Int)).toNat : Nat) : Int) := rfl
  rw [g, e, u64_wrap_nat, Nat.mod_eq_of_lt h3]
theorem bits_andNot_nat {a b : Nat} (ha : a < 2 ^ 64) (hb : b < 2 ^ 64) :
    ∃ c : Nat, Go.bits .andNot .u64 (a : Int) (b : Int) = (c : Int) ∧ c < 2 ^ 64 ∧ ∀ i, c.testBit i = (a.testBit i && !b.testBit i) := by
  refine ⟨(BitVec.ofNat 64 a &&& ~~~ BitVec.ofNat 64 b).toNat, ?_, BitVec.isLt _, fun i => ?_⟩
  · have g : Go.bits .andNot .u64 (a : Int) (b : Int) = IntKind.u64.wrap (((BitVec.ofInt 64 (a : Int) &&& ~~~ BitVec.ofInt 64 (b : Int)).toNat : Nat) : Int) := rfl
    rw [g, BitVec.ofInt_natCast, BitVec.ofInt_natCast, u64_wrap_nat, Nat.mod_eq_of_lt (BitVec.isLt _)]
  · rw [BitVec.testBit_toNat, BitVec.getLsbD_and, BitVec.getLsbD_not, BitVec.getLsbD_ofNat, BitVec.getLsbD_ofNat]
    by_cases hi : i < 64
    · simp [hi]
    · have := lt64 ha (by omega : 64 ≤ i)
      simp [hi, this]

theorem testBit_fieldN (w a b i : Nat) : (fieldN w a b).testBit i = (decide (i < b) && w.testBit (a + i)) := by
  unfold fieldN
  rw [Nat.testBit_mod_two_pow, ← Nat.shiftRight_eq_div_pow, Nat.testBit_shiftRight]
theorem testBit_withN (w a b n i : Nat) : (withN w a b n).testBit i = if i < a then w.testBit i else if i < a + b then n.testBit (i - a) else w.testBit i := by
  unfold withN
  have h1 : w % 2 ^ a < 2 ^ a := Nat.mod_lt _ (Nat.two_pow_pos a)
  have h2 : n % 2 ^ b < 2 ^ b := Nat.mod_lt _ (Nat.two_pow_pos b)
  have h3 : w / 2 ^ (a + b) * 2 ^ (a + b) + (n % 2 ^ b) * 2 ^ a + w % 2 ^ a = 2 ^ a * (2 ^ b * (w / 2 ^ (a + b)) + n % 2 ^ b) + w % 2 ^ a := by
    rw [Nat.pow_add, Nat.mul_add]
    congr 1
    congr 1
    · rw [Nat.mul_comm (w / (2 ^ a * 2 ^ b)), Nat.mul_assoc]
    · rw [Nat.mul_comm]
  rw [h3, Nat.testBit_two_pow_mul_add _ h1]
  by_cases hi : i < a
  · simp [hi]
  · simp only [hi, if_false]
    rw [Nat.testBit_two_pow_mul_add _ h2]
    by_cases hj : i < a + b
    · have : i - a < b := by omega
      simp [hj, this]
    · have h4 : ¬ i - a < b := by omega
      simp only [hj, h4, if_false]
      rw [← Nat.shiftRight_eq_div_pow, Nat.testBit_shiftRight]
      congr 1; omega
theorem fieldN_lt (w a b : Nat) : fieldN w a b < 2 ^ b := Nat.mod_lt _ (Nat.two_pow_pos b)
theorem withN_lt {w a b n : Nat} (hw : w < 2 ^ 64) (hab : a + b ≤ 64) : withN w a b n < 2 ^ 64 := by
  apply Nat.lt_pow_two_of_testBit
  intro i hi
  rw [testBit_withN, if_neg (by omega), if_neg (by omega)]
  exact lt64 hw hi

/-- A field's bits. -/
def maskN (a b : Nat) : Nat := (2 ^ b - 1) * 2 ^ a
theorem testBit_maskN (a b i : Nat) : (maskN a b).testBit i = (decide (a ≤ i) && decide (i < a + b)) := by
  unfold maskN
  rw [Nat.mul_comm, Nat.testBit_two_pow_mul, Nat.testBit_two_pow_sub_one]
  by_cases h : a ≤ i
  · simp [h]; omega
  · simp [h]
theorem maskN_lt {a b : Nat} (hab : a + b ≤ 64) : maskN a b < 2 ^ 64 := by
  apply Nat.lt_pow_two_of_testBit
  intro i hi
  rw [testBit_maskN]
  simp; omega
theorem maskN_made {a b : Nat} (hab : a + b ≤ 64) : ((18446744073709551615 / 2 ^ (64 - b) * 2 ^ a) % 18446744073709551616) = maskN a b := by
  have h1 : 18446744073709551615 / 2 ^ (64 - b) = 2 ^ b - 1 := by
    have hb : (18446744073709551615 : Nat) = 2 ^ 64 - 1 := by decide
    rw [hb]
    have : (2 : Nat) ^ 64 = 2 ^ (64 - b) * 2 ^ b := by rw [← Nat.pow_add]; congr 1; omega
    rw [this]
    have hp := Nat.two_pow_pos (64 - b)
    have hq := Nat.two_pow_pos b
    have : 2 ^ (64 - b) * 2 ^ b - 1 = 2 ^ (64 - b) * (2 ^ b - 1) + (2 ^ (64 - b) - 1) := by
      rw [Nat.mul_sub, Nat.mul_one]
      have : 2 ^ (64 - b) * 1 ≤ 2 ^ (64 - b) * 2 ^ b := Nat.mul_le_mul_left _ hq
      omega
    rw [this, Nat.add_comm, Nat.add_mul_div_left _ _ hp, Nat.div_eq_of_lt (by omega)]
    omega
  rw [h1]
  have := maskN_lt hab
  unfold maskN at *
  exact Nat.mod_eq_of_lt this

theorem field_made {w a b : Nat} (hw : w < 2 ^ 64) (hab : a + b ≤ 64) : (w &&& maskN a b) / 2 ^ a = fieldN w a b := by
  apply Nat.eq_of_testBit_eq
  intro i
  rw [← Nat.shiftRight_eq_div_pow, Nat.testBit_shiftRight, Nat.testBit_and, testBit_maskN, testBit_fieldN]
  by_cases h : i < b
  · simp [h]
  · simp [h]
theorem with_made {w a b n c : Nat} (hw : w < 2 ^ 64) (hn : n < 2 ^ 64) (hab : a + b ≤ 64) (hc : ∀ i, c.testBit i = (w.testBit i && !(maskN a b).testBit i)) :
    (c ||| ((n * 2 ^ a % 2 ^ 64) &&& maskN a b)) = withN w a b n := by
  apply Nat.eq_of_testBit_eq
  intro i
  rw [testBit_withN, Nat.testBit_or, hc, Nat.testBit_and, testBit_maskN, Nat.testBit_mod_two_pow, Nat.mul_comm n, Nat.testBit_two_pow_mul]
  by_cases h1 : i < a
  · have : ¬ a ≤ i := by omega
    simp [h1, this]
  · have h1' : a ≤ i := by omega
    by_cases h2 : i < a + b
    · have : i < 64 := by omega
      simp [h1, h1', h2, this]
    · simp [h1, h2]

/-! Laws of fields. -/
theorem field_with {w a b n : Nat} : fieldN (withN w a b n) a b = n % 2 ^ b := by
  apply Nat.eq_of_testBit_eq
  intro i
  rw [testBit_fieldN, testBit_withN, Nat.testBit_mod_two_pow, if_neg (by omega), Nat.add_sub_cancel_left]
  by_cases h : i < b
  · rw [if_pos (by omega)]
  · simp [h]
theorem field_apart {w a b n c d : Nat} (h : c + d ≤ a ∨ a + b ≤ c) : fieldN (withN w a b n) c d = fieldN w c d := by
  apply Nat.eq_of_testBit_eq
  intro i
  rw [testBit_fieldN, testBit_withN, testBit_fieldN]
  by_cases hi : i < d
  · rcases h with h | h
    · rw [if_pos (by omega)]
    · rw [if_neg (by omega), if_neg (by omega)]
  · simp [hi]
theorem field_zero (n b : Nat) : fieldN n 0 b = n % 2 ^ b := by simp [fieldN]

/-! A row of bits. -/
def bitAt (w i : Nat) : Int := ((w / 2 ^ i % 2 : Nat) : Int)
def rowN (w : Nat) : List Int := (List.range 64).map (bitAt w)
def number : List Int → Int
  | [] => 0
  | x :: l => 2 * number l + x
theorem number_append (l m : List Int) : number (l ++ m) = number l + 2 ^ l.length * number m := by
  induction l with
  | nil => simp [number]
  | cons x l ih =>
    simp only [List.cons_append, number, ih, List.length_cons]
    have : (2 : Int) ^ (l.length + 1) * number m = 2 * (2 ^ l.length * number m) := by rw [Int.pow_succ]; rw [Int.mul_comm (2 ^ l.length) 2, Int.mul_assoc]
    rw [this]; omega
theorem number_bits (w a b : Nat) : number ((List.range' a b).map (bitAt w)) = (fieldN w a b : Nat) := by
  induction b generalizing a with
  | zero => simp [number, fieldN, Nat.mod_one]
  | succ b ih =>
    rw [List.range'_succ, List.map_cons, number, ih]
    unfold bitAt fieldN
    have h1 : w / 2 ^ (a + 1) = w / 2 ^ a / 2 := by rw [Nat.pow_succ, Nat.div_div_eq_div_mul]
    have h2 : w / 2 ^ a % 2 ^ (b + 1) = w / 2 ^ a % 2 + 2 * (w / 2 ^ a / 2 % 2 ^ b) := by
      rw [Nat.pow_succ, Nat.mul_comm (2 ^ b) 2, Nat.mod_mul]
    rw [h1, h2]
    push_cast
    omega
theorem bitAt_range (w i : Nat) : 0 ≤ bitAt w i ∧ bitAt w i ≤ 1 := by unfold bitAt; omega
theorem number_row {w : Nat} (hw : w < 2 ^ 64) : number (rowN w) = w := by
  unfold rowN
  rw [List.range_eq_range', number_bits]
  unfold fieldN
  rw [Nat.pow_zero, Nat.div_one, Nat.mod_eq_of_lt hw]
/-- A row with a field changed. -/
def mixN (w a b n : Nat) : List Int := (List.range 64).map fun i => if a ≤ i ∧ i < a + b then bitAt n (i - a) else bitAt w i
theorem number_mix {w a b n : Nat} (hw : w < 2 ^ 64) (hab : a + b ≤ 64) : number (mixN w a b n) = withN w a b n := by
  have h : mixN w a b n = rowN (withN w a b n) := by
    unfold mixN rowN
    apply List.map_congr_left
    intro i _
    have key : ∀ v j : Nat, bitAt v j = if v.testBit j then 1 else 0 := by
      intro v j
      unfold bitAt
      rw [Nat.testBit_eq_decide_div_mod_eq]
      have : v / 2 ^ j % 2 < 2 := Nat.mod_lt _ (by decide)
      by_cases h : v / 2 ^ j % 2 = 1
      · simp [h]
      · have h' : v / 2 ^ j % 2 = 0 := by omega
        rw [h']; rfl
    rw [key, key, key, testBit_withN]
    by_cases h1 : i < a
    · rw [if_neg (by omega), if_pos h1]
    · by_cases h2 : i < a + b
      · rw [if_pos ⟨by omega, h2⟩, if_neg h1, if_pos h2]
      · rw [if_neg (by omega), if_neg h1, if_neg h2]
  rw [h, number_row (withN_lt hw hab)]
end Go.Proofs.Ytocmdcjbjhpooaa.Num
