/-
  The engine, part 6: bits.
-/
import Derived.Test.YtichjhggoioenaaEng5
namespace Go.Eng
open Go
theorem bv_clear (x : BitVec 64) (j : Nat) : (x &&& ~~~(BitVec.ofNat 64 (2 ^ j - 1))).toNat = x.toNat / 2 ^ j * 2 ^ j := by
  have e : x &&& ~~~(BitVec.ofNat 64 (2 ^ j - 1)) = (x >>> j) <<< j := by
    apply BitVec.eq_of_getLsbD_eq
    intro i hi
    simp only [BitVec.getLsbD_and, BitVec.getLsbD_not, hi, decide_true, Bool.true_and, BitVec.getLsbD_ofNat, Nat.testBit_two_pow_sub_one, BitVec.getLsbD_shiftLeft, BitVec.getLsbD_ushiftRight]
    by_cases h : i < j
    · simp [h]
    · simp [h]
      rw [show j + (i - j) = i by omega]
  rw [e, BitVec.toNat_shiftLeft, BitVec.toNat_ushiftRight, Nat.shiftRight_eq_div_pow, Nat.shiftLeft_eq, Nat.mod_eq_of_lt]
  exact Nat.lt_of_le_of_lt (Nat.div_mul_le_self _ _) x.isLt

theorem wrap64_zero {n : Nat} (h : n < 18446744073709551616) : IntKind.i64.wrap n = 0 ↔ n = 0 := by
  rw [IntKind.wrap_i64]; omega

theorem andNot_lit (m : Int) (hm : -9223372036854775808 ≤ m ∧ m ≤ 9223372036854775807) (j : Nat) (hj : j ≤ 62) : bitsOf .andNot .i64 m ((2 ^ j - 1 : Nat) : Int) = 0 ↔ 0 ≤ m ∧ m < (2 ^ j : Nat) := by
  have hb : bitsOf .andNot .i64 m ((2 ^ j - 1 : Nat) : Int) = IntKind.i64.wrap ((BitVec.ofInt 64 m &&& ~~~(BitVec.ofNat 64 (2 ^ j - 1))).toNat : Nat) := by
    simp only [bitsOf]
    congr 2
  have hp : (2 : Nat) ^ j ≤ 2 ^ 62 := Nat.pow_le_pow_right (by decide) hj
  have hp0 : 0 < (2 : Nat) ^ j := Nat.pow_pos (by decide)
  have hx : (BitVec.ofInt 64 m).toNat = (m % 18446744073709551616).toNat := by simp [BitVec.toNat_ofInt]
  rw [hb, wrap64_zero (BitVec.isLt _), bv_clear _ _, hx]
  generalize (2 : Nat) ^ j = q at *
  have e : (m % 18446744073709551616).toNat / q * q = 0 ↔ (m % 18446744073709551616).toNat < q := by
    rw [Nat.mul_eq_zero, Nat.div_eq_zero_iff]
    omega
  rw [e]
  omega
theorem andNot255 (m : Int) (hm : -9223372036854775808 ≤ m ∧ m ≤ 9223372036854775807) : bitsOf .andNot .i64 m 255 = 0 ↔ 0 ≤ m ∧ m ≤ 255 := by
  have := andNot_lit m hm 8 (by decide)
  simp at this
  rw [this]; omega
theorem andNot7 (m : Int) (hm : -9223372036854775808 ≤ m ∧ m ≤ 9223372036854775807) : bitsOf .andNot .i64 m 7 = 0 ↔ 0 ≤ m ∧ m ≤ 7 := by
  have := andNot_lit m hm 3 (by decide)
  simp at this
  rw [this]; omega

/-- One bit of a number that is not negative. -/
theorem bit_shift {m k : Int} (hk : 0 ≤ k ∧ k ≤ 62) : m.fdiv (2 ^ (min k.toNat 64)) = m / 2 ^ k.toNat := by
  rw [show min k.toNat 64 = k.toNat by omega, Int.fdiv_eq_ediv_of_nonneg _ (Int.le_of_lt (Int.pow_pos (by decide)))]
theorem and1 {m : Int} (hm : 0 ≤ m ∧ m ≤ 9223372036854775807) : bitsOf .and .i64 m 1 = m % 2 := by
  obtain ⟨n, rfl⟩ := Int.eq_ofNat_of_zero_le hm.1
  have e : (BitVec.ofInt 64 (n : Int) &&& BitVec.ofInt 64 1).toNat = n % 2 := by
    have : n < 18446744073709551616 := by omega
    simp [BitVec.toNat_and, Nat.and_one_is_mod]
  have h : bitsOf .and .i64 (n : Int) 1 = IntKind.i64.wrap ((BitVec.ofInt 64 (n : Int) &&& BitVec.ofInt 64 1).toNat : Int) := rfl
  rw [h, e]
  exact IntWalk.i64_in _ (by omega)
end Go.Eng
