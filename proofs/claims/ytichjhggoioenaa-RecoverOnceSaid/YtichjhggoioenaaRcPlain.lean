/-
  Sequence numbers, bits and states of the elimination of duplicates, in plain terms.
-/
import Derived.Test.YtichjhggoioenaaEng21
import Derived.Test.YtichjhggoioenaaEng6
namespace Go.Rc
open Go Go.Eng
def iv (x : Int) : List Value := [.int .i64 x]
theorem iv_len (x : Int) : (iv x).length = 1 := rfl
def rI (x : Int) : Prop := -9223372036854775808 ≤ x ∧ x ≤ 9223372036854775807
/-! ### Numbers -/
theorem tm (d : Int) : d = 65536 * d.tdiv 65536 + d.tmod 65536 := (Int.mul_tdiv_add_tmod d 65536).symm
theorem tm_lt (d : Int) : -65536 < d.tmod 65536 ∧ d.tmod 65536 < 65536 := by
  have h1 := Int.tmod_lt_of_pos d (b := 65536) (by decide)
  have h2 : (-d).tmod 65536 < 65536 := Int.tmod_lt_of_pos (-d) (by decide)
  rw [Int.neg_tmod] at h2
  omega
theorem tm_sgn (d : Int) : (0 ≤ d → 0 ≤ d.tmod 65536) ∧ (d ≤ 0 → d.tmod 65536 ≤ 0) := by
  refine ⟨fun h => Int.tmod_nonneg 65536 h, fun h => ?_⟩
  have : 0 ≤ (-d).tmod 65536 := Int.tmod_nonneg 65536 (by omega)
  rw [Int.neg_tmod] at this
  omega
theorem fl1 {a : Int} (h : a.tmod 65536 < 0) : a.tdiv 65536 - 1 = a / 65536 := by
  have := tm a; have := tm_lt a; omega
theorem fl2 {a : Int} (h : ¬ a.tmod 65536 < 0) : a.tdiv 65536 = a / 65536 := by
  have := tm a; have := tm_lt a; omega
/-- The number that follows a by d. -/
def aft (a d : Int) : Int := (a + d) % 65536
theorem aft_bd (a d : Int) : 0 ≤ aft a d ∧ aft a d ≤ 65535 := by unfold aft; omega
theorem aft_eq (a d : Int) : (d.tmod 65536 + a) % 65536 = aft a d := by unfold aft; have := tm d; omega
def delta (a b : Int) : Int := aft 32768 (b - a) - 32768
theorem delta_bd (a b : Int) : -32768 ≤ delta a b ∧ delta a b ≤ 32767 := by unfold delta aft; omega
def okN (n : Int) : Bool := decide (0 ≤ n ∧ n ≤ 65535)
theorem raft_eq (a d : Int) (ha : 0 ≤ a ∧ a ≤ 65535) : (if (a + d.tmod 65536).tmod 65536 < 0 then (a + d.tmod 65536).tmod 65536 + 65536 else (a + d.tmod 65536).tmod 65536) = aft a d := by
  have h1 := tm d
  have h2 := tm (a + d.tmod 65536)
  have h3 := tm_lt (a + d.tmod 65536)
  unfold aft
  split <;> omega
theorem delta_aft {a b : Int} (ha : 0 ≤ a ∧ a ≤ 65535) (hb : 0 ≤ b ∧ b ≤ 65535) {d : Int} (hd : -32768 ≤ d ∧ d < 32768) : aft a d = b ↔ d = delta a b := by
  unfold delta aft; omega

/-! ### Bits -/
theorem u64_nat {a : Nat} (h : a < 18446744073709551616) : IntKind.u64.wrap (a : Int) = a := by
  simp only [IntKind.wrap, IntKind.signed, IntKind.bits]
  simp
  omega
theorem bv_nat {a : Nat} (h : a < 18446744073709551616) : (BitVec.ofInt 64 (a : Int)).toNat = a := by
  rw [BitVec.toNat_ofInt]
  omega
theorem and_nat {a b : Nat} (ha : a < 18446744073709551616) (hb : b < 18446744073709551616) : bitsOf .and .u64 (a : Int) (b : Int) = ((a &&& b : Nat) : Int) := by
  have h1 : (a &&& b) < 18446744073709551616 := Nat.lt_of_le_of_lt Nat.and_le_left ha
  have h2 : (BitVec.ofInt 64 (a : Int) &&& BitVec.ofInt 64 (b : Int)).toNat = a &&& b := by rw [BitVec.toNat_and, bv_nat ha, bv_nat hb]
  show IntKind.u64.wrap ((BitVec.ofInt 64 (a : Int) &&& BitVec.ofInt 64 (b : Int)).toNat : Int) = _
  rw [h2, u64_nat h1]
theorem or_nat {a b : Nat} (ha : a < 18446744073709551616) (hb : b < 18446744073709551616) : bitsOf .or .u64 (a : Int) (b : Int) = ((a ||| b : Nat) : Int) := by
  have h1 : (a ||| b) < 18446744073709551616 := Nat.or_lt_two_pow (n := 64) ha hb
  have h2 : (BitVec.ofInt 64 (a : Int) ||| BitVec.ofInt 64 (b : Int)).toNat = a ||| b := by rw [BitVec.toNat_or, bv_nat ha, bv_nat hb]
  show IntKind.u64.wrap ((BitVec.ofInt 64 (a : Int) ||| BitVec.ofInt 64 (b : Int)).toNat : Int) = _
  rw [h2, u64_nat h1]
theorem shr_nat (a k : Nat) (hk : k ≤ 64) : ((a : Int)).fdiv (2 ^ (min ((k : Int).toNat) 64)) = ((a >>> k : Nat) : Int) := by
  rw [Int.toNat_natCast, Nat.min_eq_left hk, Nat.shiftRight_eq_div_pow, Int.fdiv_eq_ediv_of_nonneg _ (by exact Int.le_of_lt (Int.pow_pos (by decide)))]
  push_cast
  rfl
theorem shl_nat (a k : Nat) (hk : k ≤ 64) : IntKind.u64.wrap ((a : Int) * 2 ^ (min ((k : Int).toNat) 64)) = (((a <<< k) % 18446744073709551616 : Nat) : Int) := by
  rw [Int.toNat_natCast, Nat.min_eq_left hk, Nat.shiftLeft_eq]
  have : ((a : Int) * 2 ^ k) = ((a * 2 ^ k : Nat) : Int) := by push_cast; rfl
  rw [this]
  simp only [IntKind.wrap, IntKind.signed, IntKind.bits]
  simp
theorem mask_nat {k : Nat} (hk : k ≤ 64) : (18446744073709551615 : Nat) >>> (64 - k) = 2 ^ k - 1 := by
  rw [Nat.shiftRight_eq_div_pow]
  have h : 2 ^ k * 2 ^ (64 - k) = 18446744073709551616 := by rw [← Nat.pow_add, show k + (64 - k) = 64 by omega]
  have h2 : 0 < 2 ^ (64 - k) := Nat.pow_pos (by decide)
  have h3 : 0 < 2 ^ k := Nat.pow_pos (by decide)
  refine Nat.div_eq_of_lt_le ?_ ?_
  · rw [Nat.sub_mul]; omega
  · rw [show 2 ^ k - 1 + 1 = 2 ^ k by omega, h]; decide
theorem pow_le64 {k : Nat} (hk : k ≤ 64) : 2 ^ k ≤ 18446744073709551616 := by
  have := Nat.pow_le_pow_right (n := 2) (by decide) hk
  exact this
theorem andNot_nat {a k : Nat} (ha : a < 18446744073709551616) (hk : k ≤ 64) : bitsOf .andNot .u64 (a : Int) ((2 ^ k - 1 : Nat) : Int) = ((a / 2 ^ k * 2 ^ k : Nat) : Int) := by
  have h3 : 0 < 2 ^ k := Nat.pow_pos (by decide)
  have hb : 2 ^ k - 1 < 18446744073709551616 := by have := pow_le64 hk; omega
  have e1 : BitVec.ofInt 64 (a : Int) = BitVec.ofNat 64 a := by apply BitVec.eq_of_toNat_eq; rw [bv_nat ha, BitVec.toNat_ofNat, Nat.mod_eq_of_lt ha]
  have e2 : BitVec.ofInt 64 ((2 ^ k - 1 : Nat) : Int) = BitVec.ofNat 64 (2 ^ k - 1) := by apply BitVec.eq_of_toNat_eq; rw [bv_nat hb, BitVec.toNat_ofNat, Nat.mod_eq_of_lt hb]
  have h1 : a / 2 ^ k * 2 ^ k < 18446744073709551616 := Nat.lt_of_le_of_lt (Nat.div_mul_le_self _ _) ha
  have h2 : (BitVec.ofInt 64 (a : Int) &&& ~~~ BitVec.ofInt 64 ((2 ^ k - 1 : Nat) : Int)).toNat = a / 2 ^ k * 2 ^ k := by
    rw [e1, e2, bv_clear, BitVec.toNat_ofNat, Nat.mod_eq_of_lt ha]
  show IntKind.u64.wrap ((BitVec.ofInt 64 (a : Int) &&& ~~~ BitVec.ofInt 64 ((2 ^ k - 1 : Nat) : Int)).toNat : Int) = _
  rw [h2, u64_nat h1]
theorem high_zero {a k : Nat} : a / 2 ^ k * 2 ^ k = 0 ↔ a < 2 ^ k := by
  have h3 : 0 < 2 ^ k := Nat.pow_pos (by decide)
  constructor
  · intro h
    rcases Nat.mul_eq_zero.1 h with h | h
    · exact (Nat.div_eq_zero_iff.1 h).resolve_left (by omega)
    · omega
  · intro h; rw [Nat.div_eq_of_lt h, Nat.zero_mul]
/-! ### States -/
structure Rc where
  ln : Int
  rs : Int
  an : Bool
  la : Int
  at_ : Int
  se : Nat
def rcv (r : Rc) : List Value := [.int .i64 r.ln, .int .i64 r.rs, .bool r.an, .int .i64 r.la, .int .i64 r.at_, .int .u64 (r.se : Int)]
theorem rcv_len (r : Rc) : (rcv r).length = 6 := rfl
def eqR (a b : Rc) : Bool := (a.ln == b.ln) && ((a.rs == b.rs) && ((a.an == b.an) && ((a.la == b.la) && ((a.at_ == b.at_) && (a.se == b.se)))))
def okR (r : Rc) : Bool := decide (1 ≤ r.ln ∧ r.ln ≤ 64) && decide (1 ≤ r.rs ∧ r.rs ≤ 1099511627776) &&
  (if r.an then decide (r.la = 0 ∧ r.at_ = 0 ∧ r.se = 0) else okN r.la && decide (0 ≤ r.at_ ∧ r.at_ ≤ 1099511627776) && decide (r.se % 2 = 1) && decide (r.se < 2 ^ r.ln.toNat))
def zR : Rc := ⟨0, 0, false, 0, 0, 0⟩
def anyR (l s : Int) : Rc := ⟨l, s, true, 0, 0, 0⟩
theorem and_one {a : Nat} (h : a < 18446744073709551616) : bitsOf .and .u64 (a : Int) 1 = ((a % 2 : Nat) : Int) := by
  have := and_nat h (b := 1) (by decide)
  rw [Nat.and_one_is_mod] at this
  exact this
theorem andNot_zero {a k : Nat} (h : a < 18446744073709551616) (hk : k ≤ 64) : bitsOf .andNot .u64 (a : Int) ((2 ^ k - 1 : Nat) : Int) = 0 ↔ a < 2 ^ k := by
  rw [andNot_nat h hk, ← high_zero]; omega
end Go.Rc
