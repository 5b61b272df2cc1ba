/-
  Histories of one number; numbers that are far away.
-/
import Derived.Test.YtichjhggoioenaaRcPlain3
namespace Go.Rc
open Go Go.Eng
theorem ok_any {l s : Int} (h1 : 1 ≤ l ∧ l ≤ 64) (h2 : 1 ≤ s ∧ s ≤ 1099511627776) : okR (anyR l s) = true := by
  simp [okR, anyR, h1, h2]
theorem acc_any {l s n t : Int} (h1 : 1 ≤ l ∧ l ≤ 64) (h2 : 1 ≤ s ∧ s ≤ 1099511627776) (hn : 0 ≤ n ∧ n ≤ 65535) (ht : 0 ≤ t ∧ t ≤ 1099511627776) : accA (anyR l s) n t = ((⟨l, s, false, n, t, 1⟩, true), 0) := by
  have ha : argB (anyR l s) n t = true := argB_iff.2 ⟨hn.1, hn.2, ht.1, ht.2, ht.1⟩
  unfold accA
  rw [ok_any h1 h2, ha]
  rfl
theorem ok_one {l s n t : Int} (h1 : 1 ≤ l ∧ l ≤ 64) (h2 : 1 ≤ s ∧ s ≤ 1099511627776) (hn : 0 ≤ n ∧ n ≤ 65535) (ht : 0 ≤ t ∧ t ≤ 1099511627776) : okR ⟨l, s, false, n, t, 1⟩ = true :=
  okR_mk h1 h2 rfl hn ht rfl (one_lt_pow (by show 1 ≤ l.toNat; omega))
theorem acc_one {x y : Int} (hx : 0 ≤ x ∧ x ≤ 65535) (hy : 0 ≤ y ∧ y ≤ 65535) : accA ⟨1, 9, false, y, 0, 1⟩ x 0 = ((⟨1, 9, false, y, 0, 1⟩, false), 0) := by
  have ha : argB ⟨1, 9, false, y, 0, 1⟩ x 0 = true := argB_iff.2 ⟨hx.1, hx.2, Int.le_refl _, by decide, Int.le_refl _⟩
  unfold accA
  rw [ok_one (by decide) (by decide) hy (by decide), ha]
  have hf : freshB ⟨⟨1, 9, false, y, 0, 1⟩, x, 0, 0⟩ = false := by simp [freshB]
  show (accR _ x 0, (0 : Int)) = _
  unfold accR
  rw [hf, if_neg (by simp)]
  cases hfa : farB ⟨⟨1, 9, false, y, 0, 1⟩, x, 0, 0⟩ with
  | true => rfl
  | false =>
    have hd := farB_bd hfa
    have h0 : delta y x = 0 := by have h1 : -1 < delta y x := hd.1; have h2 : delta y x < 1 := hd.2; omega
    rw [if_neg (by simp), if_neg (by show ¬ 0 < delta y x; omega), if_pos (by show Nat.testBit 1 (-delta y x).toNat = true; rw [h0]; rfl)]
theorem acc_far {l s f n t : Int} (h1 : 1 ≤ l ∧ l ≤ 64) (h2 : 1 ≤ s ∧ s ≤ 65536) (hf : 0 ≤ f ∧ f ≤ 65535) (hn : 0 ≤ n ∧ n ≤ 65407) (ht : t = 7 + s) : accA ⟨l, s, false, f, 7, 1⟩ ((f + 64 + n) % 65536) t = ((⟨l, s, false, f, 7, 1⟩, false), 0) := by
  have ha : argB ⟨l, s, false, f, 7, 1⟩ ((f + 64 + n) % 65536) t = true := argB_iff.2 ⟨by omega, by omega, by show 7 ≤ t; omega, by omega, by omega⟩
  unfold accA
  rw [ok_one h1 (by omega) hf (by decide), ha]
  have hfr : freshB ⟨⟨l, s, false, f, 7, 1⟩, (f + 64 + n) % 65536, t, 0⟩ = false := by simp [freshB]; omega
  have hfa : farB ⟨⟨l, s, false, f, 7, 1⟩, (f + 64 + n) % 65536, t, 0⟩ = true := by simp only [farB, decide_eq_true_eq]; unfold delta aft; omega
  show (accR _ _ t, (0 : Int)) = _
  unfold accR
  rw [hfr, hfa]
  rfl
theorem acc_late {l s f n t : Int} (h1 : 1 ≤ l ∧ l ≤ 64) (h2 : 1 ≤ s ∧ s ≤ 65536) (hf : 0 ≤ f ∧ f ≤ 65535) (hn : 0 ≤ n ∧ n ≤ 65535) (ht : t = 8 + s) : accA ⟨l, s, false, f, 7, 1⟩ n t = ((⟨l, s, false, n, t, 1⟩, true), 0) := by
  have ha : argB ⟨l, s, false, f, 7, 1⟩ n t = true := argB_iff.2 ⟨hn.1, hn.2, by show 7 ≤ t; omega, by omega, by omega⟩
  unfold accA
  rw [ok_one h1 (by omega) hf (by decide), ha]
  have hfr : freshB ⟨⟨l, s, false, f, 7, 1⟩, n, t, 0⟩ = true := by simp [freshB]; omega
  show (accR _ _ t, (0 : Int)) = _
  unfold accR
  rw [hfr]
  rfl
/-- Where the loop stands. -/
def RI (k : Nat) (r : Rc) : Prop := (k = 0 ∧ r = anyR 1 9) ∨ (0 < k ∧ ∃ y, (0 ≤ y ∧ y ≤ 65535) ∧ r = ⟨1, 9, false, y, 0, 1⟩)
theorem tm4 (d : Int) : -4 < d.tmod 4 ∧ d.tmod 4 < 4 := by
  have h1 := Int.tmod_lt_of_pos d (b := 4) (by decide)
  have h2 : (-d).tmod 4 < 4 := Int.tmod_lt_of_pos (-d) (by decide)
  rw [Int.neg_tmod] at h2
  omega
end Go.Rc
