/-
  A history that is built bit by bit.
-/
import Derived.Test.YtichjhggoioenaaRcPlain5
namespace Go.Rc
open Go Go.Eng
def genK (f : Nat → Bool) (l : Nat) : Nat → Nat
  | 0 => 0
  | j + 1 => genK f l j * 2 + (if f (l - 1 - j) then 1 else 0)
theorem genK_lt (f : Nat → Bool) (l : Nat) : ∀ j, genK f l j < 2 ^ j
  | 0 => by simp [genK]
  | j + 1 => by
    have := genK_lt f l j
    rw [Nat.pow_succ]
    simp only [genK]
    split <;> omega
theorem genK_bit (f : Nat → Bool) (l : Nat) : ∀ j, j ≤ l → ∀ i, i < j → (genK f l j).testBit i = f (l - j + i)
  | 0, _, i, hi => by omega
  | j + 1, hj, i, hi => by
    simp only [genK]
    cases i with
    | zero =>
      rw [Nat.testBit_zero, show l - (j + 1) + 0 = l - 1 - j by omega]
      cases f (l - 1 - j) <;> simp <;> omega
    | succ i =>
      rw [Nat.testBit_succ, show (genK f l j * 2 + (if f (l - 1 - j) = true then 1 else 0)) / 2 = genK f l j by split <;> omega, genK_bit f l j (by omega) i (by omega)]
      congr 1; omega
theorem genK_all {f : Nat → Bool} {l a : Nat} (ha : a < 2 ^ l) (h : ∀ i, i < l → f i = a.testBit i) : genK f l l = a := by
  apply Nat.eq_of_testBit_eq
  intro i
  rcases Nat.lt_or_ge i l with hi | hi
  · rw [genK_bit f l l (Nat.le_refl _) i hi, Nat.sub_self, Nat.zero_add, h i hi]
  · rw [lt_bits (genK_lt f l l) hi, lt_bits ha hi]
/-- Bit i of the reference's history. -/
def bitF (la last ln : Int) (se : Nat) (n : Int) (i : Nat) : Bool :=
  (aft last (-(i : Int)) == n) || (decide (0 ≤ -delta la (aft last (-(i : Int)))) && decide (-delta la (aft last (-(i : Int))) < ln) && se.testBit (-delta la (aft last (-(i : Int)))).toNat)
theorem refA {la n : Int} {se k l i : Nat} (hla : 0 ≤ la ∧ la ≤ 65535) (hn : 0 ≤ n ∧ n ≤ 65535) (hk : delta la n = -(k : Int)) (hl : l ≤ 64) (hi : i < l) : bitF la la l se n i = (se ||| 2 ^ k).testBit i := by
  have hb := aft_bd la (-(i : Int))
  have h1 : delta la (aft la (-(i : Int))) = -(i : Int) := ((delta_aft hla hb (d := -(i : Int)) (by omega)).1 rfl).symm
  have h2 : (aft la (-(i : Int)) = n) ↔ i = k := by rw [delta_aft hla hn (by omega), hk]; omega
  unfold bitF
  rw [h1, Nat.testBit_or, Nat.testBit_two_pow, show (- -(i : Int)) = (i : Int) by omega, Int.toNat_natCast, show decide (0 ≤ (i : Int)) = true by simp, show decide ((i : Int) < (l : Int)) = true by simp; omega, Bool.true_and, Bool.true_and]
  by_cases h : i = k
  · rw [show (aft la (-(i : Int)) == n) = true by simpa using h2.2 h]; simp [h]
  · rw [show (aft la (-(i : Int)) == n) = false by simpa using fun e => h (h2.1 e)]; simp [Ne.symm h]
theorem refB {la n : Int} {se k l i : Nat} (hla : 0 ≤ la ∧ la ≤ 65535) (hn : 0 ≤ n ∧ n ≤ 65535) (hk : delta la n = (k : Int)) (hkl : k < l) (hl : l ≤ 64) (hi : i < l) : bitF la n l se n i = (shiftS se k l).testBit i := by
  have hb := aft_bd n (-(i : Int))
  have hna : aft la (k : Int) = n := (delta_aft hla hn (by omega)).2 hk.symm
  have h0 : aft n (-(i : Int)) = aft la ((k : Int) - i) := by rw [← hna]; unfold aft; omega
  have h1 : delta la (aft n (-(i : Int))) = (k : Int) - i := by rw [h0]; exact ((delta_aft hla (aft_bd _ _) (by omega)).1 rfl).symm
  have h2 : (aft n (-(i : Int)) = n) ↔ i = 0 := by unfold aft; omega
  unfold bitF shiftS
  rw [h1, Nat.testBit_or]
  by_cases hi0 : i = 0
  · rw [show (aft n (-(i : Int)) == n) = true by simpa using h2.2 hi0]
    subst hi0; simp
  · rw [show (aft n (-(i : Int)) == n) = false by simpa using fun e => hi0 (h2.1 e), show Nat.testBit 1 i = false from Nat.testBit_lt_two_pow (Nat.one_lt_two_pow hi0), Bool.false_or, Bool.false_or,
      Nat.testBit_and, Nat.testBit_two_pow_sub_one, show (18446744073709551616 : Nat) = 2 ^ 64 from rfl, Nat.testBit_mod_two_pow, Nat.testBit_shiftLeft]
    rw [show decide (i < 64) = true by simp; omega, show decide (i < l) = true by simpa using hi, Bool.true_and, Bool.and_true, show decide (-((k : Int) - i) < (l : Int)) = true by simp; omega, Bool.and_true]
    by_cases hki : k ≤ i
    · rw [show (-((k : Int) - i)).toNat = i - k by omega, show decide (0 ≤ -((k : Int) - i)) = true by simp; omega, show decide (i ≥ k) = true by simpa using hki]
    · rw [show decide (0 ≤ -((k : Int) - i)) = false by simp; omega, show decide (i ≥ k) = false by simp; omega]; simp
theorem refA_all {la n : Int} {se k l : Nat} (hla : 0 ≤ la ∧ la ≤ 65535) (hn : 0 ≤ n ∧ n ≤ 65535) (hk : delta la n = -(k : Int)) (hl : l ≤ 64) (hkl : k < l) (hse : se < 2 ^ l) : genK (bitF la la l se n) l l = se ||| 2 ^ k :=
  genK_all (or_lt hse (Nat.pow_lt_pow_right (by decide) hkl)) fun _ hi => refA hla hn hk hl hi
theorem refB_all {la n : Int} {se k l : Nat} (hla : 0 ≤ la ∧ la ≤ 65535) (hn : 0 ≤ n ∧ n ≤ 65535) (hk : delta la n = (k : Int)) (hkl : k < l) (hl : l ≤ 64) : genK (bitF la n l se n) l l = shiftS se k l := by
  have h0 : 0 < 2 ^ l := Nat.pow_pos (by decide)
  have hm : 2 ^ l - 1 < 2 ^ l := by omega
  exact genK_all (or_lt (one_lt_pow (by omega)) (Nat.lt_of_le_of_lt Nat.and_le_right hm)) fun _ hi => refB hla hn hk hkl hl hi
end Go.Rc
