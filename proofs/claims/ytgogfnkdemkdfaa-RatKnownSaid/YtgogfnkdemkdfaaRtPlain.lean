/-
  Fractions in plain mathematics: what the program of layer 2 and its reference compute.
-/
import Derived.Test.YtgogfnkdemkdfaaEng10
namespace Go.Rt
open Go Go.Eng
abbrev Q := Int × Int
/-- The divisor by which a fraction is reduced. -/
def sg (n d : Int) : Int := if d < 0 then -(Int.gcd n d : Int) else (Int.gcd n d : Int)
def redE (n d : Int) : Q := (n.tdiv (sg n d), d.tdiv (sg n d))
def validE (x : Q) : Bool := decide (1 ≤ x.2 ∧ x.2 ≤ 1073741824 ∧ -1073741824 ≤ x.1 ∧ x.1 ≤ 1073741824) && Int.gcd x.1 x.2 == 1
def wideE (n d : Int) : Bool := decide (-4611686018427387904 ≤ n ∧ n ≤ 4611686018427387904 ∧ -4611686018427387904 ≤ d ∧ d ≤ 4611686018427387904)
def makeA (n d : Int) : Q × Int := if d = 0 then ((0, 0), 2) else if wideE n d = false then ((0, 0), 6) else if validE (redE n d) then (redE n d, 0) else ((0, 0), 6)
def addF (a b : Q) : Q := (a.1 * b.2 + b.1 * a.2, a.2 * b.2)
def subF (a b : Q) : Q := (a.1 * b.2 - b.1 * a.2, a.2 * b.2)
def mulF (a b : Q) : Q := (a.1 * b.1, a.2 * b.2)
def divF (a b : Q) : Q := (a.1 * b.2, a.2 * b.1)
def opA (a b f : Q) : Q × Int := if (validE a && validE b) = true then makeA f.1 f.2 else ((0, 0), 120)
def sgn (x : Int) : Int := if x < 0 then -1 else if x > 0 then 1 else 0
def cmpA (a b : Q) : Int × Int := if (validE a && validE b) = true then (sgn (a.1 * b.2 - b.1 * a.2), 0) else (0, 120)
def minA (a b : Q) : Q × Int := if (validE a && validE b) = true then ((if 0 < (cmpA a b).1 then b else a), 0) else ((0, 0), 120)
def maxA (a b : Q) : Q × Int := if (validE a && validE b) = true then ((if (cmpA a b).1 < 0 then b else a), 0) else ((0, 0), 120)
def floorA (a : Q) : Int × Int := if validE a = true then (a.1 / a.2, 0) else (0, 120)
def ceilA (a : Q) : Int × Int := if validE a = true then (-((-a.1) / a.2), 0) else (0, 120)

theorem gcd_tmod (a b : Int) : Int.gcd b (a.tmod b) = Int.gcd a b := by
  have h : (a.tmod b).natAbs = a.natAbs % b.natAbs := by
    rcases Int.eq_nat_or_neg a with ⟨m, rfl | rfl⟩ <;> rcases Int.eq_nat_or_neg b with ⟨n, rfl | rfl⟩ <;> simp only [Int.neg_tmod, Int.tmod_neg, Int.natAbs_neg, ← Int.ofNat_tmod, Int.natAbs_natCast]
  rw [Int.gcd, h, Int.gcd]
  rw [Nat.gcd_comm, ← Nat.gcd_rec, Nat.gcd_comm]
theorem tmod_lt (a : Int) {b : Int} (h : b ≠ 0) : (a.tmod b).natAbs < b.natAbs := by
  have h : (a.tmod b).natAbs = a.natAbs % b.natAbs := by
    rcases Int.eq_nat_or_neg a with ⟨m, rfl | rfl⟩ <;> rcases Int.eq_nat_or_neg b with ⟨n, rfl | rfl⟩ <;> simp only [Int.neg_tmod, Int.tmod_neg, Int.natAbs_neg, ← Int.ofNat_tmod, Int.natAbs_natCast]
  rw [h]
  exact Nat.mod_lt _ (by omega)
theorem gcd_zero (a : Int) : max a (-a) = (Int.gcd a 0 : Int) := by
  rw [Int.gcd_zero_right]; omega
theorem gcd_zero' {a : Int} (h : 0 ≤ a) : a = (Int.gcd a 0 : Int) := by
  rw [Int.gcd_zero_right]; omega
theorem gcd_pos {n d : Int} (h : d ≠ 0) : 1 ≤ (Int.gcd n d : Int) := by
  have := Int.gcd_pos_of_ne_zero_right n h
  omega
theorem gcd_le {n d : Int} (h : d ≠ 0) : (Int.gcd n d : Int) ≤ d.natAbs := by
  have := Nat.le_of_dvd (by omega) (Int.natCast_dvd_natCast.1 (Int.dvd_natAbs.2 (Int.gcd_dvd_right n d)))
  omega
theorem sg_ne {n d : Int} (h : d ≠ 0) : sg n d ≠ 0 := by
  have := gcd_pos (n := n) h
  unfold sg; split <;> omega
theorem tdiv_abs (n g : Int) : (n.tdiv g).natAbs ≤ n.natAbs := by
  rw [Int.natAbs_tdiv]; exact Nat.div_le_self _ _
theorem red_bounds (n d : Int) : (redE n d).1.natAbs ≤ n.natAbs ∧ (redE n d).2.natAbs ≤ d.natAbs := ⟨tdiv_abs _ _, tdiv_abs _ _⟩
theorem neg_red {n d : Int} : ((-n).tdiv (Int.gcd n d), (-d).tdiv (Int.gcd n d)) = (n.tdiv (-(Int.gcd n d : Int)), d.tdiv (-(Int.gcd n d : Int))) := by
  rw [Int.neg_tdiv, Int.neg_tdiv, Int.tdiv_neg, Int.tdiv_neg]
/-- A right fraction is one that reducing leaves as it is. -/
theorem red_self {n d : Int} (h : 1 ≤ d) : (n == (redE n d).1 && d == (redE n d).2) = (Int.gcd n d == 1) := by
  have hg := gcd_pos (n := n) (d := d) (by omega)
  have hs : sg n d = (Int.gcd n d : Int) := by unfold sg; rw [if_neg (by omega)]
  simp only [redE, hs]
  have hdv := Int.gcd_dvd_right n d
  obtain ⟨k, hk⟩ := hdv
  by_cases e : Int.gcd n d = 1
  · simp [e]
  · have h1 : (Int.gcd n d == 1) = false := by simpa using e
    rw [h1]
    have h2 : ¬ d = d.tdiv (Int.gcd n d) := by
      intro h3
      have h4 : d.tdiv (Int.gcd n d) = k := by
        have := Int.mul_tdiv_cancel_left k (show (Int.gcd n d : Int) ≠ 0 by omega)
        rwa [← hk] at this
      rw [h4] at h3
      rw [← h3] at hk
      have h5 : (Int.gcd n d : Int) * d = 1 * d := by rw [Int.one_mul]; exact hk.symm
      have h6 := Int.eq_of_mul_eq_mul_right (show d ≠ 0 by omega) h5
      omega
    simp [h2]
theorem valid_parts {x : Q} (h : validE x = true) : 1 ≤ x.2 ∧ x.2 ≤ 1073741824 ∧ -1073741824 ≤ x.1 ∧ x.1 ≤ 1073741824 ∧ Int.gcd x.1 x.2 = 1 := by
  simp only [validE, Bool.and_eq_true, decide_eq_true_eq, beq_iff_eq] at h
  exact ⟨h.1.1, h.1.2.1, h.1.2.2.1, h.1.2.2.2, h.2⟩
theorem mul_le {a b : Int} (ha : -1073741824 ≤ a ∧ a ≤ 1073741824) (hb : -1073741824 ≤ b ∧ b ≤ 1073741824) : -1152921504606846976 ≤ a * b ∧ a * b ≤ 1152921504606846976 := by
  have h1 : (a * b).natAbs ≤ 1073741824 * 1073741824 := by rw [Int.natAbs_mul]; exact Nat.mul_le_mul (by omega) (by omega)
  omega
theorem dvd_of {a b c : Int} (hg : Int.gcd b a = 1) (h : a ∣ b * c) : a ∣ c := by
  rw [← Int.natAbs_dvd_natAbs] at h ⊢
  rw [Int.natAbs_mul] at h
  exact Nat.Coprime.dvd_of_dvd_mul_left (by rw [Nat.Coprime, Nat.gcd_comm]; exact hg) h
/-- Two right fractions are the same if their cross products are. -/
theorem cross_eq {a b : Q} (ha : validE a = true) (hb : validE b = true) : a.1 * b.2 - b.1 * a.2 = 0 ↔ (a.1 = b.1 ∧ a.2 = b.2) := by
  obtain ⟨a1, _, _, _, ag⟩ := valid_parts ha
  obtain ⟨b1, _, _, _, bg⟩ := valid_parts hb
  constructor
  · intro h
    have h : a.1 * b.2 = b.1 * a.2 := by omega
    have d1 : a.2 ∣ b.2 := by
      have : a.2 ∣ a.1 * b.2 := ⟨b.1, by rw [h, Int.mul_comm]⟩
      exact dvd_of ag this
    have d2 : b.2 ∣ a.2 := by
      have : b.2 ∣ b.1 * a.2 := ⟨a.1, by rw [← h, Int.mul_comm]⟩
      exact dvd_of bg this
    have e : a.2 = b.2 := Int.le_antisymm (Int.le_of_dvd (by omega) d1) (Int.le_of_dvd (by omega) d2)
    rw [e] at h
    exact ⟨Int.eq_of_mul_eq_mul_right (by omega) h, e⟩
  · rintro ⟨h1, h2⟩
    rw [h1, h2]; omega
end Go.Rt
namespace Go.Rt
open Go Go.Eng
theorem all_not {xs : Prs} {s : Nat} (h : s < xs.length) (hv : validE xs[s] = false) : ¬ xs.all validE = true := by
  intro ha
  have := List.all_eq_true.1 ha xs[s] (List.getElem_mem h)
  rw [hv] at this; cases this
theorem take_all {xs : Prs} {s : Nat} (h : s < xs.length) (ha : (xs.take s).all validE = true) (hv : validE xs[s] = true) : (xs.take (s + 1)).all validE = true := by
  rw [List.take_succ_eq_append_getElem h, List.all_append, ha]
  simp [hv]
end Go.Rt
namespace Go.Rt
open Go Go.Eng
theorem gcd_abs (n d : Int) : Int.gcd (n.natAbs : Int) d = Int.gcd n d := by simp [Int.gcd]
theorem valid_gcd {x : Q} (h : 1 ≤ x.2 ∧ x.2 ≤ 1073741824 ∧ -1073741824 ≤ x.1 ∧ x.1 ≤ 1073741824) : validE x = ((Int.gcd (x.1.natAbs : Int) x.2 : Int) == 1) := by
  unfold validE
  rw [decide_eq_true h, gcd_abs, Bool.true_and]
  by_cases e : Int.gcd x.1 x.2 = 1
  · simp [e]
  · have h1 : (Int.gcd x.1 x.2 == 1) = false := by simpa using e
    rw [h1]
    have h2 : ¬ (Int.gcd x.1 x.2 : Int) = 1 := by omega
    exact (beq_eq_false_iff_ne.2 h2).symm
end Go.Rt
namespace Go.Rt
open Go Go.Eng
theorem sgn_cases (x : Int) : (x < 0 ∧ sgn x = -1) ∨ (x = 0 ∧ sgn x = 0) ∨ (0 < x ∧ sgn x = 1) := by
  unfold sgn
  rcases Int.lt_trichotomy x 0 with h | h | h
  · exact .inl ⟨h, by rw [if_pos h]⟩
  · exact .inr (.inl ⟨h, by rw [if_neg (by omega), if_neg (by omega)]⟩)
  · exact .inr (.inr ⟨h, by rw [if_neg (by omega), if_pos h]⟩)
theorem floor_of {n d : Int} (hd : 0 < d) : (n.tmod d < 0 → n.tdiv d - 1 = n / d) ∧ (¬ n.tmod d < 0 → n.tdiv d = n / d) := by
  have h1 := Int.mul_tdiv_add_tmod n d
  have h2 := Int.tmod_lt_of_pos n hd
  have h3 := Int.lt_tmod_of_pos n hd
  have h4 := Int.mul_ediv_add_emod n d
  have h5 := Int.emod_nonneg n (show d ≠ 0 by omega)
  have h6 := Int.emod_lt_of_pos n hd
  have key : ∀ q r q' r' : Int, d * q + r = n → d * q' + r' = n → 0 ≤ r → r < d → 0 ≤ r' → r' < d → q = q' := by
    intro q r q' r' e1 e2 a1 a2 a3 a4
    rcases Int.lt_trichotomy q q' with h | h | h
    · exfalso
      have : d * (q + 1) ≤ d * q' := Int.mul_le_mul_of_nonneg_left (by omega) (by omega)
      rw [Int.mul_add, Int.mul_one] at this; omega
    · exact h
    · exfalso
      have : d * (q' + 1) ≤ d * q := Int.mul_le_mul_of_nonneg_left (by omega) (by omega)
      rw [Int.mul_add, Int.mul_one] at this; omega
  constructor
  · intro h
    exact key _ (n.tmod d + d) _ _ (by rw [Int.mul_sub, Int.mul_one]; omega) h4 (by omega) (by omega) h5 h6
  · intro h
    exact key _ _ _ _ h1 h4 (by omega) h2 h5 h6
theorem cross_lt {a b : Q} : a.1 * b.2 < b.1 * a.2 ↔ a.1 * b.2 - b.1 * a.2 < 0 := by omega
theorem and_parts {a b : Q} (h : (validE a && validE b) = true) : validE a = true ∧ validE b = true := by simpa using h
theorem cmp_bad {a b : Q} (h : ¬ (validE a && validE b) = true) : cmpA a b = (0, 120) := by rw [cmpA, if_neg h]
theorem cmp_err {a b : Q} : (cmpA a b).2 ≠ 0 ↔ ¬ (validE a && validE b) = true := by
  unfold cmpA; split <;> simp_all
theorem floor_le {n d : Int} (hd : 0 < d) : (n / d) * d ≤ n ∧ n < (n / d) * d + d := by
  have h4 := Int.mul_ediv_add_emod n d
  have h5 := Int.emod_nonneg n (show d ≠ 0 by omega)
  have h6 := Int.emod_lt_of_pos n hd
  rw [Int.mul_comm] at h4
  omega
theorem ceil_of {n d : Int} (hd : 0 < d) : ((n / d) * d < n → n / d + 1 = -((-n) / d)) ∧ (¬ (n / d) * d < n → n / d = -((-n) / d)) := by
  have h1 := floor_le (n := n) hd
  have h2 := floor_le (n := -n) hd
  generalize n / d = p at *
  generalize (-n) / d = q at *
  have key : ∀ r : Int, -d < (q + r) * d → (q + r) * d < d → q + r = 0 := by
    intro r a1 a2
    rcases Int.lt_trichotomy (q + r) 0 with h | h | h
    · exfalso
      have : (q + r) * d ≤ (-1) * d := Int.mul_le_mul_of_nonneg_right (by omega) (by omega)
      omega
    · exact h
    · exfalso
      have : 1 * d ≤ (q + r) * d := Int.mul_le_mul_of_nonneg_right (by omega) (by omega)
      omega
  constructor
  · intro h
    have e : (q + (p + 1)) * d = q * d + p * d + d := by rw [Int.add_mul, Int.add_mul, Int.one_mul]; omega
    have := key (p + 1) (by omega) (by omega)
    omega
  · intro h
    have e : (q + p) * d = q * d + p * d := by rw [Int.add_mul]
    have := key p (by omega) (by omega)
    omega
end Go.Rt
namespace Go.Rt
open Go Go.Eng
def isE (x1 x2 e n d : Int) : Bool := e == 0 && (x1 == n && x2 == d)
def smallE (n d : Int) : Q := (makeA n (1 + d % 30)).1
/-- The right fraction that the reference makes of two numbers. -/
def ofR (n d : Int) : Q × Int := if IntKind.u64.wrap d % 7 = 0 then makeA (n.tmod 2147483648) (1 + IntKind.u64.wrap d % 1073741824) else makeA (n.tmod 4096) (1 + IntKind.u64.wrap d % 64)
def ofE (n d : Int) : Q := if (ofR n d).2 ≠ 0 then (1, 2) else (ofR n d).1
theorem make_rng (n d : Int) : (-1073741824 ≤ (makeA n d).1.1 ∧ (makeA n d).1.1 ≤ 1073741824) ∧ 0 ≤ (makeA n d).1.2 ∧ (makeA n d).1.2 ≤ 1073741824 := by
  unfold makeA
  split
  · simp
  · split
    · simp
    · split
      · rename_i h
        obtain ⟨h1, h2, h3, h4, _⟩ := valid_parts h
        simp only; omega
      · simp
theorem of_rng (n d : Int) : (-1073741824 ≤ (ofE n d).1 ∧ (ofE n d).1 ≤ 1073741824) ∧ 0 ≤ (ofE n d).2 ∧ (ofE n d).2 ≤ 1073741824 := by
  have h : (-1073741824 ≤ (ofR n d).1.1 ∧ (ofR n d).1.1 ≤ 1073741824) ∧ 0 ≤ (ofR n d).1.2 ∧ (ofR n d).1.2 ≤ 1073741824 := by
    unfold ofR; split <;> exact make_rng _ _
  unfold ofE
  by_cases e : (ofR n d).2 ≠ 0
  · rw [if_pos e]; simp
  · rw [if_neg e]; exact h
theorem u64_rng (d : Int) : 0 ≤ IntKind.u64.wrap d ∧ IntKind.u64.wrap d ≤ 18446744073709551615 := by
  simp only [IntKind.wrap, IntKind.bits, IntKind.signed, Bool.false_and, Bool.false_eq_true, if_false]
  omega
end Go.Rt
namespace Go.Rt
open Go Go.Eng
theorem i64_rng (x : Int) : -9223372036854775808 ≤ IntKind.i64.wrap x ∧ IntKind.i64.wrap x ≤ 9223372036854775807 := by
  rw [IntKind.wrap_i64]; omega
theorem tmod_rng (n m : Int) (h : -9223372036854775808 ≤ n ∧ n ≤ 9223372036854775807) : -9223372036854775808 ≤ n.tmod m ∧ n.tmod m ≤ 9223372036854775807 := by
  have h1 : (n.tmod m).natAbs ≤ n.natAbs := by rw [Int.natAbs_tmod]; exact Nat.mod_le _ _
  by_cases hn : 0 ≤ n
  · have := Int.tmod_nonneg m hn; omega
  · have := Int.tmod_nonneg m (show 0 ≤ -n by omega)
    rw [Int.neg_tmod] at this; omega
end Go.Rt
