/-
  Fractions in plain mathematics, part 2: a number has one fraction.
-/
import Derived.Test.YtgogfnkdemkdfaaRtPlain
namespace Go.Rt
open Go Go.Eng
theorem sg_abs (n d : Int) : (sg n d).natAbs = Int.gcd n d := by unfold sg; split <;> simp
theorem red_spec {n d : Int} (_h : d ≠ 0) : (redE n d).1 * sg n d = n ∧ (redE n d).2 * sg n d = d := by
  have h1 : sg n d ∣ n := by rw [← Int.natAbs_dvd, sg_abs]; exact Int.gcd_dvd_left n d
  have h2 : sg n d ∣ d := by rw [← Int.natAbs_dvd, sg_abs]; exact Int.gcd_dvd_right n d
  exact ⟨Int.tdiv_mul_cancel h1, Int.tdiv_mul_cancel h2⟩
theorem red_pos {n d : Int} (h : d ≠ 0) : 1 ≤ (redE n d).2 := by
  obtain ⟨_, h2⟩ := red_spec (n := n) h
  have hg := gcd_pos (n := n) h
  rcases Int.lt_trichotomy (redE n d).2 0 with h3 | h3 | h3
  · exfalso
    unfold sg at h2
    split at h2
    · have := Int.mul_pos_of_neg_of_neg h3 (show -(Int.gcd n d : Int) < 0 by omega); omega
    · have := Int.mul_neg_of_neg_of_pos h3 (show 0 < (Int.gcd n d : Int) by omega); omega
  · rw [h3] at h2; omega
  · omega
theorem red_gcd {n d : Int} (h : d ≠ 0) : Int.gcd (redE n d).1 (redE n d).2 = 1 := by
  obtain ⟨h1, h2⟩ := red_spec (n := n) h
  have h3 : Int.gcd ((redE n d).1 * sg n d) ((redE n d).2 * sg n d) = Int.gcd n d := by rw [h1, h2]
  rw [Int.gcd_mul_right, sg_abs] at h3
  have hg : 0 < Int.gcd n d := by have := gcd_pos (n := n) h; omega
  exact Nat.eq_of_mul_eq_mul_right hg (by omega)
theorem red_valid {n d : Int} (h : d ≠ 0) (hn : -1073741824 ≤ (redE n d).1 ∧ (redE n d).1 ≤ 1073741824) (hd : (redE n d).2 ≤ 1073741824) : validE (redE n d) = true := by
  unfold validE
  rw [decide_eq_true ⟨red_pos h, hd, hn.1, hn.2⟩, red_gcd h]; rfl
theorem make_of {n d : Int} (h : d ≠ 0) (hn : -1073741824 ≤ n ∧ n ≤ 1073741824) (hd : -1073741824 ≤ d ∧ d ≤ 1073741824) : makeA n d = (redE n d, 0) ∧ validE (redE n d) = true := by
  have hb := red_bounds n d
  have hp := red_pos (n := n) h
  have hv := red_valid (n := n) h (by omega) (by omega)
  refine ⟨?_, hv⟩
  rw [makeA, if_neg h, if_neg (by unfold wideE; rw [decide_eq_true (by omega)]; simp), if_pos hv]
/-- Two numerators and denominators of one number are reduced to one fraction. -/
theorem red_eq {n d m e : Int} (hd : d ≠ 0) (he : e ≠ 0) (h : n * e = m * d) : redE n d = redE m e := by
  obtain ⟨a1, a2⟩ := red_spec (n := n) hd
  obtain ⟨b1, b2⟩ := red_spec (n := m) he
  have ap := red_pos (n := n) hd
  have bp := red_pos (n := m) he
  have ag := red_gcd (n := n) hd
  have bg := red_gcd (n := m) he
  have hs := sg_ne (n := n) hd
  have ht := sg_ne (n := m) he
  generalize redE n d = x at *
  generalize redE m e = y at *
  generalize sg n d = s at *
  generalize sg m e = t at *
  subst a1; subst a2; subst b1; subst b2
  have h1 : x.1 * y.2 = y.1 * x.2 := by
    have h2 : (x.1 * y.2) * (s * t) = (y.1 * x.2) * (s * t) := by
      rw [show (x.1 * y.2) * (s * t) = x.1 * s * (y.2 * t) by simp only [Int.mul_comm, Int.mul_left_comm], h]
      simp only [Int.mul_comm, Int.mul_left_comm]
    exact Int.eq_of_mul_eq_mul_right (by intro hz; rcases Int.mul_eq_zero.1 hz with h | h <;> contradiction) h2
  have d1 : x.2 ∣ y.2 := dvd_of ag ⟨y.1, by rw [h1, Int.mul_comm]⟩
  have d2 : y.2 ∣ x.2 := dvd_of bg ⟨x.1, by rw [← h1, Int.mul_comm]⟩
  have e2 : x.2 = y.2 := Int.le_antisymm (Int.le_of_dvd (by omega) d1) (Int.le_of_dvd (by omega) d2)
  rw [e2] at h1
  exact Prod.ext (Int.eq_of_mul_eq_mul_right (by omega) h1) e2
theorem red_id {x : Q} (h : validE x = true) : redE x.1 x.2 = x := by
  obtain ⟨h1, _, _, _, h5⟩ := valid_parts h
  have := red_self (n := x.1) h1
  rw [h5] at this
  simp at this
  exact Prod.ext this.1.symm this.2.symm
theorem make_id {x : Q} (h : validE x = true) : makeA x.1 x.2 = (x, 0) := by
  obtain ⟨h1, h2, h3, h4, _⟩ := valid_parts h
  have := make_of (n := x.1) (d := x.2) (by omega) ⟨h3, h4⟩ (by omega)
  rw [this.1, red_id h]
theorem make_scale {n d f : Int} (hd : d ≠ 0) (hn : -1073741824 ≤ n ∧ n ≤ 1073741824) (hd2 : -1073741824 ≤ d ∧ d ≤ 1073741824) (hf : f ≠ 0) (hw : wideE (n * f) (d * f) = true) : makeA (n * f) (d * f) = makeA n d := by
  have h0 : d * f ≠ 0 := by intro hz; rcases Int.mul_eq_zero.1 hz with h | h <;> contradiction
  have hr : redE (n * f) (d * f) = redE n d := red_eq h0 hd (by simp only [Int.mul_comm, Int.mul_left_comm])
  obtain ⟨h1, h2⟩ := make_of hd hn hd2
  rw [h1, makeA, if_neg h0, if_neg (by rw [hw]; simp), hr, if_pos h2]
theorem red_cross {n d : Int} (h : d ≠ 0) : (redE n d).1 * d = n * (redE n d).2 := by
  obtain ⟨h1, h2⟩ := red_spec (n := n) h
  generalize redE n d = x at *
  generalize sg n d = t at *
  subst h1; subst h2
  simp only [Int.mul_comm, Int.mul_left_comm]
end Go.Rt
