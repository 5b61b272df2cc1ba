/-
  Histories that belong to sets of frames.
-/
import Derived.Test.YtichjhggoioenaaRcPlain6
namespace Go.Rc
open Go Go.Eng
/-- The state r after frames that were accepted: last is the greatest one, at the time of the last acceptance. -/
structure Hist (n s : Int) (r : Rc) (last ta : Int) (acc : Int → Bool) : Prop where
  ln : r.ln = n
  rs : r.rs = s
  an : r.an = false
  la : r.la = last % 65536
  at_ : r.at_ = ta
  lt : r.se < 2 ^ n.toNat
  bit : ∀ j : Nat, (j : Int) < n → r.se.testBit j = acc (last - j)
  top : ∀ f, last < f → acc f = false
  one : acc last = true
theorem shiftS_bit {se k l i : Nat} (hl : l ≤ 64) (hi : i < l) : (shiftS se k l).testBit i = (decide (i = 0) || (decide (k ≤ i) && se.testBit (i - k))) := by
  unfold shiftS
  rw [Nat.testBit_or]
  by_cases hi0 : i = 0
  · subst hi0; simp
  · rw [show Nat.testBit 1 i = false from Nat.testBit_lt_two_pow (Nat.one_lt_two_pow hi0), Bool.false_or,
      Nat.testBit_and, Nat.testBit_two_pow_sub_one, show (18446744073709551616 : Nat) = 2 ^ 64 from rfl, Nat.testBit_mod_two_pow, Nat.testBit_shiftLeft]
    rw [show decide (i < 64) = true by simp; omega, show decide (i < l) = true by simpa using hi, Bool.true_and, Bool.and_true, decide_eq_false hi0, Bool.false_or]
theorem delta_frames {a d : Int} (hd : -32768 ≤ d ∧ d ≤ 32767) : delta (a % 65536) ((a + d) % 65536) = d := by
  unfold delta aft; omega
/-- The first frame. -/
theorem hist_first {n s t f : Int} (hn : 1 ≤ n ∧ n ≤ 64) (acc : Int → Bool) (hacc : ∀ x, acc x = decide (x = f)) : accR (anyR n s) (f % 65536) t = (⟨n, s, false, f % 65536, t, 1⟩, true) ∧ Hist n s ⟨n, s, false, f % 65536, t, 1⟩ f t acc := by
  refine ⟨rfl, rfl, rfl, rfl, rfl, rfl, one_lt_pow (by omega), fun j hj => ?_, fun x hx => by rw [hacc]; simp; omega, by rw [hacc]; simp⟩
  rw [hacc]
  by_cases h : j = 0
  · subst h; simp
  · rw [Nat.testBit_lt_two_pow (Nat.one_lt_two_pow h)]; simp; omega
/-- One more frame. -/
theorem hist_step {n s last ta t d : Int} {r : Rc} {acc : Int → Bool} (h : Hist n s r last ta acc) (hn : 1 ≤ n ∧ n ≤ 64) (ht : t - ta ≤ s) (hd : -32768 ≤ d ∧ d ≤ 32767) :
    (accR r ((last + d) % 65536) t).2 = decide (-n < d ∧ d < n ∧ acc (last + d) = false) ∧
    ((accR r ((last + d) % 65536) t).2 = false → (accR r ((last + d) % 65536) t).1 = r) ∧
    ((accR r ((last + d) % 65536) t).2 = true → ∀ acc' : Int → Bool, (∀ x, acc' x = (decide (x = last + d) || acc x)) → Hist n s (accR r ((last + d) % 65536) t).1 (if 0 < d then last + d else last) t acc') := by
  have hfr : freshB ⟨r, (last + d) % 65536, t, 0⟩ = false := by simp [freshB, h.an, h.at_, h.rs]; omega
  have hdl : delta r.la ((last + d) % 65536) = d := by rw [h.la]; exact delta_frames hd
  have hln : r.ln.toNat = n.toNat := by rw [h.ln]
  unfold accR
  rw [hfr, if_neg (by simp)]
  by_cases hfa : farB ⟨r, (last + d) % 65536, t, 0⟩ = true
  · rw [if_pos hfa]
    have h2 : d ≤ -n ∨ n ≤ d := by simpa [farB, hdl, h.ln] using hfa
    refine ⟨?_, fun _ => rfl, fun h => by cases h⟩
    symm; simp only [decide_eq_false_iff_not]; omega
  · rw [if_neg hfa]
    have h2 : -n < d ∧ d < n := by
      have := farB_bd (by simpa using hfa : farB ⟨r, (last + d) % 65536, t, 0⟩ = false)
      rw [hdl, h.ln] at this; exact this
    rw [hdl]
    by_cases hp : 0 < d
    · rw [if_pos hp]
      refine ⟨?_, (fun h => by cases h), fun _ acc' ha => ?_⟩
      · symm; simp only [decide_eq_true_eq]; exact ⟨h2.1, h2.2, h.top _ (by omega)⟩
      · rw [if_pos hp]
        obtain ⟨k, hk⟩ : ∃ k : Nat, d = k := ⟨d.toNat, by omega⟩
        subst hk
        have h0 : 0 < 2 ^ n.toNat := Nat.pow_pos (by decide)
        refine ⟨h.ln, h.rs, rfl, rfl, rfl, ?_, fun j hj => ?_, fun f hf => ?_, ?_⟩
        · show shiftS r.se (k : Int).toNat r.ln.toNat < _
          rw [hln]
          exact or_lt (one_lt_pow (by omega)) (Nat.lt_of_le_of_lt Nat.and_le_right (by omega))
        · show (shiftS r.se (k : Int).toNat r.ln.toNat).testBit j = _
          rw [hln, Int.toNat_natCast, shiftS_bit (by omega) (by omega), ha]
          by_cases hj0 : j = 0
          · subst hj0; simp
          · rw [decide_eq_false hj0, Bool.false_or, show decide (last + (k : Int) - (j : Int) = last + k) = false by simp; omega, Bool.false_or]
            by_cases hkj : k ≤ j
            · rw [decide_eq_true hkj, Bool.true_and, h.bit _ (by omega)]
              congr 1; omega
            · rw [decide_eq_false hkj, Bool.false_and, h.top _ (by omega)]
        · rw [ha, h.top _ (by omega)]; simp; omega
        · rw [ha]; simp
    · rw [if_neg hp]
      obtain ⟨i, hi⟩ : ∃ i : Nat, d = -(i : Int) := ⟨(-d).toNat, by omega⟩
      subst hi
      have hbit := h.bit i (by omega)
      have e1 : (- -(i : Int)).toNat = i := by omega
      have e2 : last - (i : Int) = last + -(i : Int) := by omega
      rw [e1]
      rw [e2] at hbit
      cases hb : r.se.testBit i with
      | true =>
        rw [if_pos rfl]
        rw [hb] at hbit
        refine ⟨?_, fun _ => rfl, fun h => by cases h⟩
        symm; simp only [decide_eq_false_iff_not]; rw [← hbit]; simp
      | false =>
        rw [if_neg (by simp)]
        rw [hb] at hbit
        refine ⟨?_, (fun h => by cases h), fun _ acc' ha => ?_⟩
        · symm; simp only [decide_eq_true_eq]; exact ⟨h2.1, h2.2, hbit.symm⟩
        · rw [if_neg hp]
          refine ⟨h.ln, h.rs, h.an, h.la, rfl, ?_, fun j hj => ?_, fun f hf => ?_, ?_⟩
          · show r.se ||| 2 ^ i < _
            exact or_lt h.lt (Nat.pow_lt_pow_right (by decide) (by omega))
          · show (r.se ||| 2 ^ i).testBit j = _
            rw [Nat.testBit_or, Nat.testBit_two_pow, h.bit j hj, ha, Bool.or_comm]
            congr 1
            simp only [decide_eq_decide]; omega
          · rw [ha, h.top _ hf]; simp; omega
          · rw [ha, h.one]; simp
theorem hist_ok {n s last ta : Int} {r : Rc} {acc : Int → Bool} (h : Hist n s r last ta acc) (hn : 1 ≤ n ∧ n ≤ 64) (hs : 1 ≤ s ∧ s ≤ 1099511627776) (hta : 0 ≤ ta ∧ ta ≤ 1099511627776) : okR r = true := by
  refine okR_mk (by rw [h.ln]; exact hn) (by rw [h.rs]; exact hs) h.an (by rw [h.la]; omega) (by rw [h.at_]; exact hta) ?_ (by rw [h.ln]; exact h.lt)
  have := h.bit 0 (by omega)
  rw [show last - ((0 : Nat) : Int) = last by omega, h.one, Nat.testBit_zero] at this
  simpa using this
/-- .. as Accept has it. -/
theorem hist_acc {n s last ta t x : Int} {r : Rc} {acc : Int → Bool} (h : Hist n s r last ta acc) (hn : 1 ≤ n ∧ n ≤ 64) (hs : 1 ≤ s ∧ s ≤ 1099511627776) (hta : 0 ≤ ta) (ht : ta ≤ t ∧ t ≤ 1099511627776) (hx : 0 ≤ x ∧ x ≤ 65535) : accA r x t = (accR r x t, 0) := by
  unfold accA
  rw [hist_ok h hn hs ⟨hta, by omega⟩, argB_iff.2 ⟨hx.1, hx.2, by rw [h.at_]; exact ht.1, ht.2, by omega⟩]
  rfl
end Go.Rc
