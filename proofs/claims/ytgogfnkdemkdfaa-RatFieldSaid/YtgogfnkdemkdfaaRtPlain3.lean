/-
  Fractions in plain mathematics, part 3: order.
-/
import Derived.Test.YtgogfnkdemkdfaaRtPlain2
namespace Go.Rt
open Go Go.Eng
theorem small_valid {n d : Int} (hn : -128 ≤ n ∧ n ≤ 127) (_hd : 0 ≤ d ∧ d ≤ 255) : validE (smallE n d) = true ∧ (-128 ≤ (smallE n d).1 ∧ (smallE n d).1 ≤ 128) ∧ 1 ≤ (smallE n d).2 ∧ (smallE n d).2 ≤ 30 := by
  obtain ⟨h1, h2⟩ := make_of (n := n) (d := 1 + d % 30) (by omega) (by omega) (by omega)
  have hb := red_bounds n (1 + d % 30)
  have hp := red_pos (n := n) (d := 1 + d % 30) (by omega)
  unfold smallE
  rw [h1]
  simp only
  exact ⟨h2, by omega, by omega, by omega⟩
theorem sgn_neg (x y : Int) (h : x = -y) : sgn x = -(sgn y) := by
  subst h
  rcases sgn_cases y with ⟨h1, h2⟩ | ⟨h1, h2⟩ | ⟨h1, h2⟩ <;> rcases sgn_cases (-y) with ⟨g1, g2⟩ | ⟨g1, g2⟩ | ⟨g1, g2⟩ <;> rw [h2, g2] <;> first | rfl | (exfalso; omega)
theorem sgn_rng (x : Int) : -1 ≤ sgn x ∧ sgn x ≤ 1 := by
  rcases sgn_cases x with ⟨_, h2⟩ | ⟨_, h2⟩ | ⟨_, h2⟩ <;> omega
theorem sgn_zero {x : Int} : sgn x = 0 ↔ x = 0 := by
  rcases sgn_cases x with ⟨h1, h2⟩ | ⟨h1, h2⟩ | ⟨h1, h2⟩ <;> omega
theorem sgn_lt {x : Int} : sgn x < 0 ↔ x < 0 := by
  rcases sgn_cases x with ⟨h1, h2⟩ | ⟨h1, h2⟩ | ⟨h1, h2⟩ <;> omega
theorem sgn_gt {x : Int} : 0 < sgn x ↔ 0 < x := by
  rcases sgn_cases x with ⟨h1, h2⟩ | ⟨h1, h2⟩ | ⟨h1, h2⟩ <;> omega
/-- The sign of a reduced numerator. -/
theorem red_sign {n d : Int} (h : 0 < d) : ((redE n d).1 < 0 ↔ n < 0) ∧ (0 < (redE n d).1 ↔ 0 < n) := by
  obtain ⟨h1, _⟩ := red_spec (n := n) (d := d) (by omega)
  have hs : 0 < sg n d := by
    have := gcd_pos (n := n) (d := d) (by omega)
    unfold sg; rw [if_neg (by omega)]; omega
  generalize (redE n d).1 = x at *
  generalize sg n d = t at *
  subst h1
  rcases Int.lt_trichotomy x 0 with h | h | h
  · have := Int.mul_neg_of_neg_of_pos h hs; omega
  · subst h; simp
  · have := Int.mul_pos h hs; omega
theorem cmp_of {a b : Q} (ha : validE a = true) (hb : validE b = true) : cmpA a b = (sgn (a.1 * b.2 - b.1 * a.2), 0) := by rw [cmpA, if_pos (by rw [ha, hb]; rfl)]
/-- The order is transitive. -/
theorem cmp_trans {a b c : Q} (ha : 1 ≤ a.2) (hb : 1 ≤ b.2) (hc : 1 ≤ c.2) (h1 : a.1 * b.2 - b.1 * a.2 ≤ 0) (h2 : b.1 * c.2 - c.1 * b.2 ≤ 0) : a.1 * c.2 - c.1 * a.2 ≤ 0 := by
  have e1 : a.1 * b.2 * c.2 ≤ b.1 * a.2 * c.2 := Int.mul_le_mul_of_nonneg_right (by omega) (by omega)
  have e2 : b.1 * c.2 * a.2 ≤ c.1 * b.2 * a.2 := Int.mul_le_mul_of_nonneg_right (by omega) (by omega)
  have e3 : b.1 * a.2 * c.2 = b.1 * c.2 * a.2 := Int.mul_right_comm _ _ _
  have e4 : (a.1 * c.2) * b.2 ≤ (c.1 * a.2) * b.2 := by
    rw [Int.mul_right_comm a.1 c.2 b.2, Int.mul_right_comm c.1 a.2 b.2]; omega
  have := Int.le_of_mul_le_mul_right e4 (by omega)
  omega
theorem sub_of {a b : Q} (ha : validE a = true) (hb : validE b = true) (a1 : -128 ≤ a.1 ∧ a.1 ≤ 128) (a2 : 1 ≤ a.2 ∧ a.2 ≤ 30) (b1 : -128 ≤ b.1 ∧ b.1 ≤ 128) (b2 : 1 ≤ b.2 ∧ b.2 ≤ 30) : 0 < a.2 * b.2 ∧ opA a b (subF a b) = (redE (a.1 * b.2 - b.1 * a.2) (a.2 * b.2), 0) := by
  have m : ∀ x y : Int, (-128 ≤ x ∧ x ≤ 128) → (1 ≤ y ∧ y ≤ 30) → -3840 ≤ x * y ∧ x * y ≤ 3840 := fun x y hx hy => by
    have : (x * y).natAbs ≤ 128 * 30 := by rw [Int.natAbs_mul]; exact Nat.mul_le_mul (by omega) (by omega)
    omega
  have m1 := m a.1 b.2 a1 b2
  have m2 := m b.1 a.2 b1 a2
  have m3 : (a.2 * b.2).natAbs ≤ 30 * 30 := by rw [Int.natAbs_mul]; exact Nat.mul_le_mul (by omega) (by omega)
  have hp : 0 < a.2 * b.2 := Int.mul_pos (by omega) (by omega)
  refine ⟨hp, ?_⟩
  rw [opA, if_pos (by rw [ha, hb]; rfl)]
  exact (make_of (n := (subF a b).1) (d := (subF a b).2) (by show a.2 * b.2 ≠ 0; omega) (by show -1073741824 ≤ a.1 * b.2 - b.1 * a.2 ∧ a.1 * b.2 - b.1 * a.2 ≤ 1073741824; omega) (by show -1073741824 ≤ a.2 * b.2 ∧ a.2 * b.2 ≤ 1073741824; omega)).1
/-- Floor and Ceil are the same of a whole number alone. -/
theorem whole {x : Q} (h : validE x = true) : (-((-x.1) / x.2) == x.1 / x.2) = (x.2 == 1) := by
  obtain ⟨h1, _, _, _, hg⟩ := valid_parts h
  obtain ⟨c1, c2⟩ := ceil_of (n := x.1) (d := x.2) (by omega)
  have fl := floor_le (n := x.1) (d := x.2) (by omega)
  by_cases e : x.2 = 1
  · have : ¬ x.1 / x.2 * x.2 < x.1 := by rw [e]; simp
    rw [← c2 this, e]; simp
  · have h2 : (x.2 == 1) = false := by simpa using e
    rw [h2, beq_eq_false_iff_ne]
    have hlt : x.1 / x.2 * x.2 < x.1 := by
      rcases Int.lt_or_eq_of_le fl.1 with h3 | h3
      · exact h3
      · exfalso
        have hd : x.2 ∣ x.1 := ⟨x.1 / x.2, by rw [Int.mul_comm]; exact h3.symm⟩
        have : x.2 ∣ 1 := dvd_of hg (by rw [Int.mul_one]; exact hd)
        have := Int.le_of_dvd (by omega) this
        omega
    have := c1 hlt
    omega
end Go.Rt
namespace Go.Rt
open Go Go.Eng
structure OrderF (a b c : Q) : Prop where
  e1 : (cmpA a b).2 = 0
  e2 : (cmpA b a).2 = 0
  e3 : (cmpA b c).2 = 0
  e4 : (cmpA a c).2 = 0
  e5 : (opA a b (subF a b)).2 = 0
  e6 : (floorA a).2 = 0
  e7 : (ceilA a).2 = 0
  r1 : -1 ≤ (cmpA b a).1 ∧ (cmpA b a).1 ≤ 1
  n1 : (cmpA a b).1 = -(cmpA b a).1
  q1 : ((cmpA a b).1 == 0) = (a.1 == b.1 && a.2 == b.2)
  s1 : (cmpA a b).1 < 0 → (opA a b (subF a b)).1.1 < 0
  s2 : 0 < (cmpA a b).1 → 0 < (opA a b (subF a b)).1.1
  t1 : (cmpA a b).1 ≤ 0 → (cmpA b c).1 ≤ 0 → (cmpA a c).1 ≤ 0
  f1 : -200 ≤ (floorA a).1 * a.2 ∧ (floorA a).1 * a.2 ≤ a.1
  f2 : a.1 ≤ (ceilA a).1 * a.2 ∧ (ceilA a).1 * a.2 ≤ 200
  f3 : 0 ≤ (ceilA a).1 - (floorA a).1 ∧ (ceilA a).1 - (floorA a).1 ≤ 1
  f4 : ((ceilA a).1 == (floorA a).1) = (a.2 == 1)
theorem order_facts {a b c : Q} (va : validE a = true) (vb : validE b = true) (vc : validE c = true) (a1 : -128 ≤ a.1 ∧ a.1 ≤ 128) (a2 : 1 ≤ a.2 ∧ a.2 ≤ 30) (b1 : -128 ≤ b.1 ∧ b.1 ≤ 128) (b2 : 1 ≤ b.2 ∧ b.2 ≤ 30) (c2 : 1 ≤ c.2) : OrderF a b c := by
  have hab := cmp_of va vb
  have hba := cmp_of vb va
  have hbc := cmp_of vb vc
  have hac := cmp_of va vc
  obtain ⟨hD, hsub⟩ := sub_of va vb a1 a2 b1 b2
  have hsg := red_sign (n := a.1 * b.2 - b.1 * a.2) hD
  have hfl : floorA a = (a.1 / a.2, 0) := by rw [floorA, if_pos va]
  have hce : ceilA a = (-((-a.1) / a.2), 0) := by rw [ceilA, if_pos va]
  refine ⟨by rw [hab], by rw [hba], by rw [hbc], by rw [hac], by rw [hsub], by rw [hfl], by rw [hce], by rw [hba]; exact sgn_rng _, by rw [hab, hba]; exact sgn_neg _ _ (by omega), ?_, ?_, ?_, ?_, ?_, ?_, ?_, by rw [hfl, hce]; exact whole va⟩
  · rw [hab]
    have hcr := cross_eq va vb
    by_cases e : a.1 = b.1 ∧ a.2 = b.2
    · simp only [sgn_zero.2 (hcr.2 e)]; simp [e]
    · have h1 : (sgn (a.1 * b.2 - b.1 * a.2) == 0) = false := by
        rw [beq_eq_false_iff_ne]; intro h; exact e (hcr.1 (sgn_zero.1 h))
      simp only [h1]; symm; simpa using e
  · rw [hab, hsub]; intro h; exact hsg.1.2 (sgn_lt.1 h)
  · rw [hab, hsub]; intro h; exact hsg.2.2 (sgn_gt.1 h)
  · rw [hab, hbc, hac]
    intro h1 h2
    have g1 := sgn_gt (x := a.1 * b.2 - b.1 * a.2)
    have g2 := sgn_gt (x := b.1 * c.2 - c.1 * b.2)
    have g3 := sgn_gt (x := a.1 * c.2 - c.1 * a.2)
    simp only at h1 h2 ⊢
    have := cmp_trans a2.1 b2.1 c2 (by omega) (by omega)
    omega
  · rw [hfl]
    have fl1 := floor_le (n := a.1) (d := a.2) (by omega)
    simp only; omega
  · rw [hce]
    have fl2 := floor_le (n := -a.1) (d := a.2) (by omega)
    simp only [Int.neg_mul]; omega
  · rw [hfl, hce]
    have ce1 := ceil_of (n := a.1) (d := a.2) (by omega)
    have fl1 := floor_le (n := a.1) (d := a.2) (by omega)
    simp only
    rcases Int.lt_or_eq_of_le fl1.1 with h | h
    · have := ce1.1 h; omega
    · have := ce1.2 (by omega); omega
end Go.Rt
