/-
  Gate lists in plain mathematics, part 3: where the entries that follow begin.
-/
import Derived.Test.YtfneficfngpnjaaGtPlain2
namespace Go.Gt
open Go Go.Eng

theorem wrap_prefix {es : Ents} {k : Nat} (hk : k < es.length) : ∀ i, i ≤ es.length → sumL (es.take k) + rs es k i = sumL (es.take ((k + i) % es.length)) + (if es.length ≤ k + i then sumL es else 0) := by
  intro i
  induction i with
  | zero =>
    intro _
    rw [Nat.add_zero, Nat.mod_eq_of_lt hk, if_neg (by omega)]
    simp [rs]
  | succ i ih =>
    intro hi
    have h1 := ih (by omega)
    have hpos : 0 < es.length := by omega
    have hm := Nat.mod_lt (k + i) hpos
    simp only [rs]
    rw [← Int.add_assoc, h1, ent_get k i hpos]
    by_cases hw : es.length ≤ k + i
    · -- past the end already
      have e1 : (k + i) % es.length = k + i - es.length := by rw [Nat.mod_eq_sub_mod hw, Nat.mod_eq_of_lt (by omega)]
      have e2 : (k + (i + 1)) % es.length = k + i - es.length + 1 := by rw [Nat.mod_eq_sub_mod (by omega), Nat.mod_eq_of_lt (by omega)]; omega
      rw [if_pos hw, if_pos (by omega), e2]
      have := sumL_take_succ es (k + i - es.length) (by omega)
      simp only [e1] at hm ⊢
      omega
    · have e1 : (k + i) % es.length = k + i := Nat.mod_eq_of_lt (by omega)
      have h2 := sumL_take_succ es (k + i) (by omega)
      simp only [e1]
      rw [if_neg hw]
      by_cases hn : k + i + 1 = es.length
      · have e2 : (k + (i + 1)) % es.length = 0 := by rw [show k + (i + 1) = es.length by omega]; exact Nat.mod_self _
        rw [e2, if_pos (by omega), sumL_zero]
        rw [hn, List.take_length] at h2
        omega
      · have e2 : (k + (i + 1)) % es.length = k + i + 1 := Nat.mod_eq_of_lt (by omega)
        rw [e2, if_neg (by omega)]
        omega

theorem locate_prefix {es : Ents} (ha : es.all okE = true) {m : Nat} (hm : m < es.length) : locate es (sumL (es.take m)) = (m, 0) := by
  have h := locate_of (es := es) (x := sumL (es.take m)) hm (fun j hj hjm => by
    have h1 := sumL_take_succ es j hj
    have h2 : sumL (es.take (j + 1)) ≤ sumL (es.take m) := by
      have : es.take (j + 1) = (es.take m).take (j + 1) := by rw [List.take_take, Nat.min_eq_left (by omega)]
      rw [this]
      exact (sumL_take_le (es := es.take m) (by rw [List.all_eq_true] at ha ⊢; exact fun x hx => ha x (List.mem_of_mem_take hx)) (j + 1)).2
    omega) (by have := okE_get ha hm; omega)
  rw [h]; simp

theorem beg_mod {es : Ents} {cyc : Int} (hG : okG es cyc = true) (t : Int) {i : Nat} (hi : i ≤ es.length) : beg es cyc t i % cyc = sumL (es.take (((loc es cyc t).1 + i) % es.length)) := by
  obtain ⟨h1, h2, ha, hs, _, hc⟩ := okG_parts hG
  obtain ⟨h, h3, h4, h5⟩ := loc_spec hG t
  have hw := wrap_prefix h i hi
  have hpos : 0 < es.length := by omega
  have hm := Nat.mod_lt ((loc es cyc t).1 + i) hpos
  have hlt : sumL (es.take (((loc es cyc t).1 + i) % es.length)) < cyc := by
    have := sumL_take_succ es _ hm
    have := (sumL_take_le ha ((((loc es cyc t).1 + i) % es.length) + 1)).2
    have := okE_get ha hm
    omega
  have h0 := (sumL_take_le ha (((loc es cyc t).1 + i) % es.length)).1
  have hq := Int.mul_ediv_add_emod t cyc
  have e : beg es cyc t i = sumL (es.take (((loc es cyc t).1 + i) % es.length)) + cyc * (t / cyc + if es.length ≤ (loc es cyc t).1 + i then 1 else 0) := by
    unfold beg
    rw [Int.mul_add]
    split at hw <;> rename_i hh <;> simp only [hh, if_true, if_false, Int.mul_one, Int.mul_zero] <;> omega
  rw [e, Int.add_mul_emod_self_left, Int.emod_eq_of_lt h0 hlt]

theorem loc_beg {es : Ents} {cyc : Int} (hG : okG es cyc = true) (t : Int) {i : Nat} (hi : i ≤ es.length) : loc es cyc (beg es cyc t i) = (((loc es cyc t).1 + i) % es.length, 0) := by
  obtain ⟨h1, h2, ha, hs, _, hc⟩ := okG_parts hG
  rw [loc, beg_mod hG t hi]
  exact locate_prefix ha (Nat.mod_lt _ h1)

theorem state_beg {es : Ents} {cyc : Int} (hG : okG es cyc = true) (t : Int) {i : Nat} (hi : i ≤ es.length) : stateE es cyc (beg es cyc t i) = (ent es (loc es cyc t).1 i).1 := by
  rw [stateE, loc_beg hG t hi]; rfl

theorem ent_full (es : Ents) (k : Nat) : ent es k es.length = ent es k 0 := by
  simp [ent]

/-- The reference's search: by the state behind each entry. -/
theorem turnE_ref {es : Ents} {cyc : Int} (hG : okG es cyc = true) (t : Int) :
    turnE es cyc t = (firstN (fun i => stateE es cyc (beg es cyc t (i + 1)) != (es.getD (loc es cyc t).1 (0, 0)).1) 0 es.length).map fun i => beg es cyc t (i + 1) := by
  have h1 := (okG_parts hG).1
  have hst : ∀ i, i < es.length → (stateE es cyc (beg es cyc t (i + 1)) != (es.getD (loc es cyc t).1 (0, 0)).1) = ((ent es (loc es cyc t).1 (i + 1)).1 != (ent es (loc es cyc t).1 0).1) := fun i hi => by
    rw [state_beg hG t (by omega), ent_zero hG]
  unfold turnE
  cases h : firstN (fun i => (ent es (loc es cyc t).1 i).1 != (ent es (loc es cyc t).1 0).1) 0 es.length with
  | none =>
    have hn := firstN_none.1 h
    rw [firstN_no]
    · rfl
    · intro j hj
      rw [hst j hj]
      by_cases e : j + 1 = es.length
      · rw [e, ent_full]; simp
      · exact hn (j + 1) (Nat.zero_le _) (by omega)
  | some m =>
    obtain ⟨_, h2, h3, h4⟩ := firstN_some.1 h
    cases m with
    | zero => simp at h3
    | succ m =>
      rw [firstN_of (m := m) (by omega)]
      · rfl
      · rw [hst m (by omega)]; exact h3
      · intro j hj
        rw [hst j (by omega)]
        exact h4 (j + 1) (Nat.zero_le _) (by omega)
end Go.Gt
