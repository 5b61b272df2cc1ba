/-
  Choosing a queue, in plain terms: the classes that no rest holds up.
-/
import Derived.Test.YtffocfffggfenaaChPlain7
namespace Go.Ch
open Go Go.Eng Go.Gt Go.Proofs.Gt Go.Sw Go.Qu
theorem may_top {l : Ln} {hs : List Pt} {t c : Int} {k : Nat} (hk : k < hs.length) (hc : c = (k : Int)) (h6 : 6 ≤ c) : mayC l hs c t = (!noneP hs[k] && ((fitsA l.g.es l.g.cyc c (t + l.sh) (hs[k].left * l.per)).1 && decide ((fitsA l.g.es l.g.cyc c (t + l.sh) (hs[k].left * l.per)).2 = 0))) := by
  have hn : c.toNat = k := by omega
  have hh : heldC hs c = false := held_false fun j _ h => by omega
  unfold mayC waitC fitC longC
  rw [hh, hn, atP_get hk]
  simp
theorem ceil_div {x p : Int} (hp : 1 ≤ p) : (x / p * p < x → (x + p - 1) / p = x / p + 1) ∧ (¬ x / p * p < x → (x + p - 1) / p = x / p) := by
  have h1 := Int.mul_ediv_add_emod x p
  have h2 := Int.emod_nonneg x (show p ≠ 0 by omega)
  have h3 := Int.emod_lt_of_pos x (show 0 < p by omega)
  have h4 : p * (x / p) = x / p * p := Int.mul_comm _ _
  constructor
  · intro h
    rw [show x + p - 1 = (x % p - 1) + (x / p + 1) * p by rw [Int.add_mul]; omega, Int.add_mul_ediv_right _ _ (by omega), Int.ediv_eq_zero_of_lt (by omega) (by omega)]
    omega
  · intro h
    rw [show x + p - 1 = (p - 1) + (x / p) * p by omega, Int.add_mul_ediv_right _ _ (by omega), Int.ediv_eq_zero_of_lt (by omega) (by omega)]
    omega
theorem quo_bd {x p o m : Int} (hp : 1 ≤ p) (hx : 0 ≤ x) (hom : o ≤ m) (hxo : x ≤ o * p) : 0 ≤ x / p ∧ x / p ≤ m ∧ 0 ≤ x / p * p ∧ x / p * p ≤ x := by
  have h1 := Int.mul_ediv_add_emod x p
  have h2 := Int.emod_nonneg x (show p ≠ 0 by omega)
  have h4 : p * (x / p) = x / p * p := Int.mul_comm _ _
  refine ⟨Int.ediv_nonneg hx (by omega), ?_, Int.mul_nonneg (Int.ediv_nonneg hx (by omega)) (by omega), by omega⟩
  have h6 : x / p < o + 1 := Int.ediv_lt_of_lt_mul (by omega) (by rw [Int.add_mul, Int.one_mul]; omega)
  omega
end Go.Ch
