/-
  What a cycle gives.
-/
import Derived.Test.YtgaliocgkjghnaaSwPlain3ToSvPlain14
namespace Go.Sv
open Go Go.Eng Go.Gt Go.Proofs.Gt Go.Sw
variable {es : Ents} {cyc : Int}
theorem sumS_split {lost a b d : Int} (h1 : a ≤ b) (h2 : b ≤ d) (hb : b < d → op6 es cyc b = false) : sumS es cyc lost a d = sumS es cyc lost a b + sumS es cyc lost b d := by
  have := ((runs_is (op6 es cyc) a b).append h1 h2 hb (runs_is (op6 es cyc) b d)).eq
  unfold sumS; rw [this, sumR_append]
theorem cycle_sum (hG : okG es cyc = true) {lost t : Int} (ht : op6 es cyc t = false) (hal : alwE es = false) : sumS es cyc lost t (t + cyc) = yieldS es cyc lost := by
  have hc := okG_cyc hG
  have hcf := closed_facts hG hal
  have hd := Int.mul_ediv_add_emod (t - closedE es) cyc
  have hm : 0 ≤ (t - closedE es) % cyc ∧ (t - closedE es) % cyc < cyc := ⟨Int.emod_nonneg _ (by omega), Int.emod_lt_of_pos _ (by omega)⟩
  obtain ⟨x, hx⟩ : ∃ x, closedE es + (t - closedE es) % cyc = x := ⟨_, rfl⟩
  have e1 : sumS es cyc lost t (t + cyc) = sumS es cyc lost x (x + cyc) := by
    rw [← sumS_shl lost x (x + cyc) ((t - closedE es) / cyc)]
    congr 1 <;> omega
  have hxo : op6 es cyc x = false := by
    rw [← ht, ← op_perK es cyc x ((t - closedE es) / cyc)]; congr 1; omega
  have hco : op6 es cyc (closedE es + cyc) = false := by rw [op_per]; exact hcf.2.2
  have s1 := sumS_split (lost := lost) (show closedE es ≤ x by omega) (show x ≤ closedE es + cyc by omega) (fun _ => hxo)
  have s2 := sumS_split (lost := lost) (show x ≤ closedE es + cyc by omega) (show closedE es + cyc ≤ x + cyc by omega) (fun _ => hco)
  have s3 := sumS_shl (es := es) (cyc := cyc) lost (closedE es) x 1
  rw [Int.mul_one] at s3
  have hy : yieldS es cyc lost = sumS es cyc lost (closedE es) (closedE es + cyc) := by unfold yieldS; rw [hal]; rfl
  omega
theorem alw_of (hG : okG es cyc = true) (h : ∀ x, op6 es cyc x = true) : alwE es = true := by
  cases hal : alwE es with
  | true => rfl
  | false => have := (closed_facts hG hal).2.2; rw [h] at this; cases this
theorem take_mono (ha : es.all okE = true) {j : Nat} : ∀ {k : Nat}, j ≤ k → sumL (es.take j) ≤ sumL (es.take k)
  | 0, h => by have : j = 0 := by omega
               subst this; exact Int.le_refl _
  | k + 1, h => by
    by_cases e : j = k + 1
    · rw [e]; exact Int.le_refl _
    · have ih := take_mono ha (j := j) (k := k) (by omega)
      by_cases hk : k < es.length
      · have := sumL_take_succ es k hk; have := okE_get ha hk; omega
      · rw [List.take_of_length_le (show es.length ≤ k + 1 by omega)]
        rw [List.take_of_length_le (show es.length ≤ k by omega)] at ih
        exact ih
theorem state_in (hG : okG es cyc = true) {k : Nat} (hk : k < es.length) {x : Int} (h1 : sumL (es.take k) ≤ x) (h2 : x < sumL (es.take (k + 1))) : stateE es cyc x = es[k].1 := by
  obtain ⟨_, _, ha, hs, _⟩ := okG_parts hG
  have hst := sumL_take_succ es k hk
  have hl := sumL_take_le ha k
  have hl2 := sumL_take_le ha (k + 1)
  have e : loc es cyc x = (k, x - sumL (es.take k)) := by
    unfold loc
    rw [Int.emod_eq_of_lt (by omega) (by omega)]
    exact locate_of hk (fun j hj hjk => by have := take_mono ha (show j + 1 ≤ k by omega); have := sumL_take_succ es j hj; omega) (by omega)
  unfold stateE
  rw [e, List.getD_eq_getElem?_getD, List.getElem?_eq_getElem hk]; rfl
/-- Turn goes on by at least an entry. -/
theorem turn_far (hG : okG es cyc = true) {k : Nat} {t u : Int} (h1 : sumL (es.take k) ≤ t) (hu : turnE es cyc t = some u) : sumL (es.take (k + 1)) ≤ u := by
  obtain ⟨_, _, ha, hs, _⟩ := okG_parts hG
  have ht := turn_some hG hu
  by_cases hk : k < es.length
  · by_cases h2 : t < sumL (es.take (k + 1))
    · by_cases h3 : u < sumL (es.take (k + 1))
      · exact absurd (by rw [state_in hG hk (by omega) h3, state_in hG hk h1 h2]) ht.2.2.1
      · omega
    · omega
  · rw [List.take_of_length_le (by omega)]
    rw [List.take_of_length_le (by omega)] at h1
    omega
/-- Open so far, when it goes on. -/
theorem open_far (hG : okG es cyc = true) {t u : Int} (h0 : 0 ≤ t) (h : ∀ y, 0 ≤ y → y < t → op6 es cyc y = true) (ho : op6 es cyc t = true) (hu : turnE es cyc t = some u) : ∀ y, 0 ≤ y → y < u → op6 es cyc y = true := by
  have ht := turn_some hG hu
  intro y h1 h2
  by_cases h3 : y < t
  · exact h y h1 h3
  · have := ht.2.2.2 y (by omega) h2
    unfold op6 isO at ho ⊢; rw [this]; exact ho
theorem alw_stay (hG : okG es cyc = true) {t : Int} (ho : op6 es cyc t = true) (hu : turnE es cyc t = none) : alwE es = true := alw_of hG fun y => op_cover (t := t) (fun j h1 h2 => by
  have := turn_none hG hu (t + j) (by omega) (by omega)
  unfold op6 isO at ho ⊢; rw [this]; exact ho) (okG_cyc hG).1 y
theorem alw_far (hG : okG es cyc = true) {t : Int} (h : ∀ y, 0 ≤ y → y < t → op6 es cyc y = true) {k : Nat} (hk : es.length ≤ k) (h1 : sumL (es.take k) ≤ t) : alwE es = true := by
  obtain ⟨_, _, ha, hs, _⟩ := okG_parts hG
  rw [List.take_of_length_le hk] at h1
  exact alw_of hG fun y => op_cover (t := 0) (fun j h2 h3 => by rw [Int.zero_add]; exact h j h2 (by omega)) (okG_cyc hG).1 y
theorem cycle_send {per most t : Int} (hG : okG es cyc = true) (hp : 1 ≤ per ∧ per ≤ 1000 ∧ 84 ≤ most ∧ most ≤ 1542) (ht : -1099511627776 ≤ t ∧ t ≤ 1099511627776) (h0 : spanE es cyc 6 t = 0) : hsendS es cyc per most t cyc = max 0 (yieldS es cyc (most * per) - 127 * per) := by
  have hc := okG_cyc hG
  have ho : op6 es cyc t = false := by
    cases h : op6 es cyc t with
    | false => rfl
    | true => have := (span_pos hG).1 h; omega
  have hal : alwE es = false := by
    cases h : alwE es with
    | false => rfl
    | true => rw [alw_op hG h] at ho; cases ho
  rw [hsend_val hG hp ht (by omega)]
  unfold leastS
  rw [hal, cycle_sum hG ho hal]; rfl
theorem rate_facts {per most : Int} (hG : okG es cyc = true) (hp : 1 ≤ per ∧ per ≤ 1000 ∧ 84 ≤ most ∧ most ≤ 1542) :
    (rateS es cyc (most * per) per < 1 → yieldS es cyc (most * per) * 1048576 < cyc * per) ∧ rateS es cyc (most * per) per * cyc * per ≤ yieldS es cyc (most * per) * 1048576 ∧ yieldS es cyc (most * per) * 1048576 < (rateS es cyc (most * per) per + 1) * cyc * per := by
  have hc := okG_cyc hG
  have hcp : 1 * 1 ≤ cyc * per := Int.mul_le_mul hc.1 hp.1 (by decide) (by omega)
  have h1 := Int.mul_ediv_add_emod (yieldS es cyc (most * per) * 1048576) (cyc * per)
  have h2 := Int.emod_lt_of_pos (yieldS es cyc (most * per) * 1048576) (show 0 < cyc * per by omega)
  have h3 := Int.emod_nonneg (yieldS es cyc (most * per) * 1048576) (show cyc * per ≠ 0 by omega)
  have e1 : rateS es cyc (most * per) per * cyc * per = cyc * per * (yieldS es cyc (most * per) * 1048576 / (cyc * per)) := by rw [Int.mul_assoc, Int.mul_comm]; rfl
  have e2 : (rateS es cyc (most * per) per + 1) * cyc * per = rateS es cyc (most * per) per * cyc * per + cyc * per := by rw [Int.add_mul, Int.add_mul, Int.one_mul]
  refine ⟨fun h => ?_, by omega, by omega⟩
  have h4 : rateS es cyc (most * per) per * cyc ≤ 0 := by
    have := Int.mul_nonneg (show 0 ≤ -rateS es cyc (most * per) per by omega) (show 0 ≤ cyc by omega)
    rw [Int.neg_mul] at this; omega
  have h5 : rateS es cyc (most * per) per * cyc * per ≤ 0 := by
    have := Int.mul_nonneg (show 0 ≤ -(rateS es cyc (most * per) per * cyc) by omega) (show 0 ≤ per by omega)
    rw [Int.neg_mul] at this; omega
  omega
end Go.Sv
