/-
  Gate lists in plain mathematics, part 6: tick by tick.
-/
import Derived.Test.YtfneficfngpnjaaGtPlain4
namespace Go.Gt
open Go Go.Eng

theorem locate_in {es : Ents} (ha : es.all okE = true) {m : Nat} (hm : m < es.length) {d : Int} (h0 : 0 ≤ d) (h1 : d < (es[m]).2) : locate es (sumL (es.take m) + d) = (m, d) := by
  have h := locate_of (es := es) (x := sumL (es.take m) + d) hm (fun j hj hjm => by
    have h1 := sumL_take_succ es j hj
    have h2 : sumL (es.take (j + 1)) ≤ sumL (es.take m) := by
      have : es.take (j + 1) = (es.take m).take (j + 1) := by rw [List.take_take, Nat.min_eq_left (by omega)]
      rw [this]
      exact (sumL_take_le (es := es.take m) (by rw [List.all_eq_true] at ha ⊢; exact fun x hx => ha x (List.mem_of_mem_take hx)) (j + 1)).2
    omega) (by omega)
  rw [h]
  simp only [Prod.mk.injEq]
  exact ⟨trivial, by omega⟩

variable {es : Ents} {cyc : Int}

theorem loc_in (hG : okG es cyc = true) (t : Int) {i : Nat} (hi : i ≤ es.length) {d : Int} (h0 : 0 ≤ d) (h1 : d < (ent es (loc es cyc t).1 i).2) : loc es cyc (beg es cyc t i + d) = (((loc es cyc t).1 + i) % es.length, d) := by
  obtain ⟨hl, _, ha, hs, _, hc⟩ := okG_parts hG
  have hm := Nat.mod_lt ((loc es cyc t).1 + i) hl
  have hb := beg_mod hG t hi
  rw [ent_get _ _ hl] at h1
  have h2 := sumL_take_succ es _ hm
  have h3 := (sumL_take_le ha ((((loc es cyc t).1 + i) % es.length) + 1)).2
  have h4 := (sumL_take_le ha (((loc es cyc t).1 + i) % es.length)).1
  have e : (beg es cyc t i + d) % cyc = sumL (es.take (((loc es cyc t).1 + i) % es.length)) + d := by
    rw [← Int.emod_add_emod, hb, Int.emod_eq_of_lt (by omega) (by omega)]
  rw [loc, e]
  exact locate_in ha hm h0 h1
theorem state_in (hG : okG es cyc = true) (t : Int) {i : Nat} (hi : i ≤ es.length) {d : Int} (h0 : 0 ≤ d) (h1 : d < (ent es (loc es cyc t).1 i).2) : stateE es cyc (beg es cyc t i + d) = (ent es (loc es cyc t).1 i).1 := by
  rw [stateE, loc_in hG t hi h0 h1]; rfl

theorem beg_full (hG : okG es cyc = true) (t : Int) : beg es cyc t es.length = t - (loc es cyc t).2 + cyc := by
  obtain ⟨h, h3, h4, h5⟩ := loc_spec hG t
  obtain ⟨_, _, _, hs, _, _⟩ := okG_parts hG
  have hw := wrap_prefix h es.length (Nat.le_refl _)
  rw [if_pos (by omega), Nat.add_mod_right, Nat.mod_eq_of_lt h, hs] at hw
  unfold beg; omega
theorem beg_zero (t : Int) : beg es cyc t 0 = t - (loc es cyc t).2 := by simp [beg, rs]
theorem ent0_pos (hG : okG es cyc = true) (t : Int) : (loc es cyc t).2 < (ent es (loc es cyc t).1 0).2 := by
  obtain ⟨h, h3, h4, _⟩ := loc_spec hG t
  rw [ent_zero hG]; simpa [h] using h4
theorem beg_more (hG : okG es cyc = true) (t : Int) : t + cyc < beg es cyc t (es.length + 1) := by
  have h1 := beg_full hG t
  have h2 := beg_succ es cyc t es.length
  have h3 := ent0_pos hG t
  rw [ent_full] at h2
  omega
theorem beg_mono (hG : okG es cyc = true) (t : Int) {i j : Nat} (h : i ≤ j) : beg es cyc t i ≤ beg es cyc t j := by
  obtain ⟨h1, _, ha, _⟩ := okG_parts hG
  have := rs_mono ha h1 (loc es cyc t).1 h
  unfold beg; omega
theorem beg_one (hG : okG es cyc = true) (t : Int) : t < beg es cyc t 1 := by
  have h2 := beg_succ es cyc t 0
  have h3 := ent0_pos hG t
  rw [beg_zero] at h2
  rw [h2]; omega

/-- Every time lies in an entry. -/
theorem cover (hG : okG es cyc = true) (t : Int) {x : Int} (h0 : t ≤ x) : ∀ n, x < beg es cyc t n → ∃ i, i < n ∧ beg es cyc t i ≤ x ∧ x < beg es cyc t (i + 1)
  | 0, h => by rw [beg_zero] at h; have := loc_bounds hG t; omega
  | n + 1, h => by
    by_cases hx : x < beg es cyc t n
    · obtain ⟨i, h1, h2⟩ := cover hG t h0 n hx
      exact ⟨i, by omega, h2⟩
    · exact ⟨n, by omega, by omega, h⟩
theorem state_cover (hG : okG es cyc = true) (t : Int) {x : Int} {i : Nat} (hi : i ≤ es.length) (h1 : beg es cyc t i ≤ x) (h2 : x < beg es cyc t (i + 1)) : stateE es cyc x = (ent es (loc es cyc t).1 i).1 := by
  have h3 := beg_succ es cyc t i
  have := state_in hG t hi (d := x - beg es cyc t i) (by omega) (by omega)
  rwa [show beg es cyc t i + (x - beg es cyc t i) = x by omega] at this
theorem state_now (hG : okG es cyc = true) (t : Int) : stateE es cyc t = (ent es (loc es cyc t).1 0).1 :=
  state_cover hG t (Nat.zero_le _) (by rw [beg_zero]; have := loc_bounds hG t; omega) (beg_one hG t)

/-- A class is open at a time. -/
def isO (es : Ents) (cyc cl x : Int) : Bool := bitE (stateE es cyc x) cl

theorem loc_per (t : Int) : loc es cyc (t + cyc) = loc es cyc t := by rw [loc, loc, Int.add_emod_right]
theorem state_per (t : Int) : stateE es cyc (t + cyc) = stateE es cyc t := by rw [stateE, stateE, loc_per]
theorem span_per (cl t : Int) : spanE es cyc cl (t + cyc) = spanE es cyc cl t := by unfold spanE; rw [loc_per]
theorem beg_per (t : Int) (i : Nat) : beg es cyc (t + cyc) i = beg es cyc t i + cyc := by unfold beg; rw [loc_per]; omega

theorem span_cases (_hG : okG es cyc = true) (cl t : Int) : (spanE es cyc cl t = big ∧ ∀ j, j < es.length → bitE (ent es (loc es cyc t).1 j).1 cl = true) ∨
    ∃ i, i < es.length ∧ spanE es cyc cl t = fst0 es cyc t i - t ∧ bitE (ent es (loc es cyc t).1 i).1 cl = false ∧ ∀ j, j < i → bitE (ent es (loc es cyc t).1 j).1 cl = true := by
  cases h : firstN (fun i => !bitE (ent es (loc es cyc t).1 i).1 cl) 0 es.length with
  | none =>
    have hn := firstN_none.1 h
    have hall : ∀ j, j < es.length → bitE (ent es (loc es cyc t).1 j).1 cl = true := fun j hj => by simpa using hn j (Nat.zero_le _) (by omega)
    exact .inl ⟨spanE_all hall, hall⟩
  | some m =>
    obtain ⟨_, h2, h3, h4⟩ := firstN_some.1 h
    have hf : bitE (ent es (loc es cyc t).1 m).1 cl = false := by simpa using h3
    have hb : ∀ j, j < m → bitE (ent es (loc es cyc t).1 j).1 cl = true := fun j hj => by simpa using h4 j (Nat.zero_le _) hj
    exact .inr ⟨m, by omega, spanE_at (by omega) hb hf, hf, hb⟩

/-- All through the span the class is open. -/
theorem span_in (hG : okG es cyc = true) (cl t : Int) {j : Int} (h0 : 0 ≤ j) (h1 : j < spanE es cyc cl t) (h2 : j < cyc) : isO es cyc cl (t + j) = true := by
  have hm := beg_more hG t
  obtain ⟨i, hi, h3, h4⟩ := cover hG t (x := t + j) (by omega) (es.length + 1) (by omega)
  rw [isO, state_cover hG t (by omega) h3 h4]
  rcases span_cases hG cl t with ⟨_, hall⟩ | ⟨m, hm, hs, _, hall⟩
  · by_cases e : i = es.length
    · rw [e, ent_full]; exact hall 0 (okG_parts hG).1
    · exact hall i (by omega)
  · refine hall i ?_
    rcases Nat.lt_or_ge i m with h | h
    · exact h
    · exfalso
      have := beg_mono hG t h
      unfold fst0 at hs
      split at hs <;> omega
/-- At its end it is closed. -/
theorem span_end (hG : okG es cyc = true) (cl t : Int) (h : spanE es cyc cl t < big) : spanE es cyc cl t < cyc ∧ isO es cyc cl (t + spanE es cyc cl t) = false := by
  obtain ⟨hl, _, ha, _, _, hc⟩ := okG_parts hG
  rcases span_cases hG cl t with ⟨hs, _⟩ | ⟨m, hm, hs, hf, _⟩
  · omega
  · have hy := loc_bounds hG t
    have hfull := beg_full hG t
    rw [hs, show t + (fst0 es cyc t m - t) = fst0 es cyc t m by omega]
    unfold fst0
    split
    · rename_i e
      subst e
      exact ⟨by omega, by rw [isO, state_now hG]; exact hf⟩
    · have h2 := beg_mono hG t (show m + 1 ≤ es.length by omega)
      have h3 := beg_succ es cyc t m
      have h4 := ent_ok ha hl (loc es cyc t).1 m
      refine ⟨by omega, ?_⟩
      rw [isO, state_beg hG t (by omega)]; exact hf
theorem span_is (hG : okG es cyc = true) (cl t : Int) {n : Int} (h0 : 0 ≤ n) (h1 : n < cyc) (h2 : ∀ j, 0 ≤ j → j < n → isO es cyc cl (t + j) = true) (h3 : isO es cyc cl (t + n) = false) : spanE es cyc cl t = n := by
  have hb := spanE_bounds hG cl t
  obtain ⟨_, _, _, _, hc9, _⟩ := okG_parts hG
  rcases Int.lt_trichotomy (spanE es cyc cl t) n with h | h | h
  · have := (span_end hG cl t (by unfold big; omega)).2
    rw [h2 _ hb.1 h] at this; cases this
  · exact h
  · have := span_in hG cl t h0 h h1
    rw [h3] at this; cases this
theorem span_big (hG : okG es cyc = true) (cl t : Int) (h2 : ∀ j, 0 ≤ j → j < cyc → isO es cyc cl (t + j) = true) : spanE es cyc cl t = big := by
  have hb := spanE_bounds hG cl t
  by_cases h : spanE es cyc cl t < big
  · obtain ⟨h3, h4⟩ := span_end hG cl t h
    rw [h2 _ hb.1 h3] at h4; cases h4
  · omega

/-- Later in an entry it stays open no longer. -/
theorem span_later (hG : okG es cyc = true) (cl : Int) {a x : Int} (h0 : a ≤ x) (h : ∀ j, a ≤ j → j ≤ x → isO es cyc cl j = isO es cyc cl a) : spanE es cyc cl x ≤ spanE es cyc cl a := by
  obtain ⟨_, _, _, _, hc9, hc⟩ := okG_parts hG
  have hba := spanE_bounds hG cl a
  have hbx := spanE_bounds hG cl x
  cases hx : isO es cyc cl x with
  | false =>
    have := span_is hG cl x (Int.le_refl 0) (by omega) (fun j h1 h2 => by omega) (by rw [Int.add_zero]; exact hx)
    omega
  | true =>
    by_cases hs : spanE es cyc cl a < big
    · obtain ⟨h3, h4⟩ := span_end hG cl a hs
      have ha : isO es cyc cl a = true := by rw [← h x h0 (Int.le_refl _)]; exact hx
      have h5 : x - a < spanE es cyc cl a := by
        by_cases h5 : x - a < spanE es cyc cl a
        · exact h5
        · rw [h _ (by omega) (by omega), ha] at h4; cases h4
      have := span_is hG cl x (n := spanE es cyc cl a - (x - a)) (by omega) (by omega) (fun j g1 g2 => by
        rw [show x + j = a + ((x - a) + j) by omega]
        exact span_in hG cl a (by omega) (by omega) (by omega)) (by rw [show x + (spanE es cyc cl a - (x - a)) = a + spanE es cyc cl a by omega]; exact h4)
      omega
    · omega

theorem span_none (hG : okG es cyc = true) (cl t lg : Int) {m : Nat} (hm : m ≤ es.length) (h0 : ¬ lg ≤ spanE es cyc cl t) (h : ∀ j, j < m → ¬ lg ≤ spanE es cyc cl (beg es cyc t (j + 1))) {x : Int} (h1 : t ≤ x) (h2 : x < beg es cyc t (m + 1)) : ¬ lg ≤ spanE es cyc cl x := by
  obtain ⟨i, hi, h3, h4⟩ := cover hG t h1 (m + 1) h2
  obtain ⟨hl, _, ha, hs, _, hc⟩ := okG_parts hG
  have hx := state_cover hG t (by omega) h3 h4
  have hy := loc_bounds hG t
  cases i with
  | zero =>
    rw [beg_zero] at h3
    rw [Nat.zero_add] at h4
    have := span_later hG cl h1 fun j g1 g2 => by
      rw [isO, isO, state_cover hG t (i := 0) (by omega) (by rw [beg_zero]; omega) (show j < beg es cyc t 1 by omega), state_now hG]
    omega
  | succ i =>
    have := span_later hG cl h3 fun j g1 g2 => by
      rw [isO, isO, state_cover hG t (i := i + 1) (by omega) g1 (by omega), state_cover hG t (i := i + 1) (by omega) (Int.le_refl _) (by omega)]
    have := h i (by omega)
    omega

/-- What Fit finds is the least. -/
theorem fit_some (hG : okG es cyc = true) {cl t lg a : Int} (h : fitE es cyc cl t lg = some a) : t ≤ a ∧ a < t + 2 * cyc ∧ lg ≤ spanE es cyc cl a ∧ ∀ x, t ≤ x → x < a → ¬ lg ≤ spanE es cyc cl x := by
  obtain ⟨hl, _, ha, hs, _, hc⟩ := okG_parts hG
  unfold fitE at h
  split at h
  · rename_i h0
    cases h
    exact ⟨Int.le_refl _, by omega, h0, fun x g1 g2 => by omega⟩
  · rename_i h0
    split at h
    · cases h
    · rename_i i hi
      cases h
      obtain ⟨_, h2, h3, h4⟩ := firstN_some.1 hi
      have h5 := beg_mono hG t (show i + 1 ≤ es.length by omega)
      have h6 := beg_full hG t
      have h7 := beg_mono hG t (show 1 ≤ i + 1 by omega)
      have h8 := beg_one hG t
      have h9 := loc_bounds hG t
      exact ⟨by omega, by omega, by simpa using h3, fun x g1 g2 => span_none hG cl t lg (m := i) (by omega) h0 (fun j hj => by simpa using h4 j (Nat.zero_le _) hj) g1 g2⟩
theorem fit_none (hG : okG es cyc = true) {cl t lg : Int} (h : fitE es cyc cl t lg = none) : ∀ x, t ≤ x → x < t + 2 * cyc → ¬ lg ≤ spanE es cyc cl x := by
  unfold fitE at h
  split at h
  · cases h
  · rename_i h0
    split at h
    · rename_i hi
      have hn := firstN_none.1 hi
      have hm := beg_more hG t
      have key : ∀ x, t ≤ x → x < t + cyc → ¬ lg ≤ spanE es cyc cl x := fun x g1 g2 => span_none hG cl t lg (m := es.length) (Nat.le_refl _) h0 (fun j hj => by simpa using hn j (Nat.zero_le _) (by omega)) g1 (by omega)
      intro x g1 g2
      by_cases hx : x < t + cyc
      · exact key x g1 hx
      · have := key (x - cyc) (by omega) (by omega)
        rwa [← span_per, show x - cyc + cyc = x by omega] at this
    · cases h
theorem fit_per (cl t lg : Int) : fitE es cyc cl (t + cyc) lg = (fitE es cyc cl t lg).map (· + cyc) := by
  unfold fitE
  rw [span_per]
  have e : (fun i => decide (lg ≤ spanE es cyc cl (beg es cyc (t + cyc) (i + 1)))) = fun i => decide (lg ≤ spanE es cyc cl (beg es cyc t (i + 1))) := by
    funext i; rw [beg_per, span_per]
  rw [e]
  split
  · rfl
  · cases firstN (fun i => decide (lg ≤ spanE es cyc cl (beg es cyc t (i + 1)))) 0 es.length with
    | none => rfl
    | some i => simp [beg_per]

/-- What Turn finds. -/
theorem turn_some (hG : okG es cyc = true) {t a : Int} (h : turnE es cyc t = some a) : t < a ∧ a ≤ t + cyc ∧ stateE es cyc a ≠ stateE es cyc t ∧ ∀ x, t ≤ x → x < a → stateE es cyc x = stateE es cyc t := by
  unfold turnE at h
  split at h
  · cases h
  · rename_i i hi
    cases h
    obtain ⟨_, h2, h3, h4⟩ := firstN_some.1 hi
    have hn : i ≠ 0 := fun e => by subst e; simp at h3
    have h5 := beg_mono hG t (show i ≤ es.length by omega)
    have h6 := beg_full hG t
    have h7 := beg_mono hG t (show 1 ≤ i by omega)
    have h8 := beg_one hG t
    have h9 := loc_bounds hG t
    refine ⟨by omega, by omega, ?_, fun x g1 g2 => ?_⟩
    · rw [state_beg hG t (by omega), state_now hG]; simpa using h3
    · obtain ⟨j, hj, k1, k2⟩ := cover hG t g1 i g2
      rw [state_cover hG t (by omega) k1 k2, state_now hG]
      simpa using h4 j (Nat.zero_le _) hj
theorem turn_none (hG : okG es cyc = true) {t : Int} (h : turnE es cyc t = none) : ∀ x, t ≤ x → x < t + cyc → stateE es cyc x = stateE es cyc t := by
  unfold turnE at h
  split at h
  · rename_i hi
    have hn := firstN_none.1 hi
    have hm := beg_more hG t
    intro x g1 g2
    obtain ⟨j, hj, k1, k2⟩ := cover hG t g1 (es.length + 1) (by omega)
    rw [state_cover hG t (by omega) k1 k2, state_now hG]
    by_cases e : j = es.length
    · rw [e, ent_full]
    · simpa using hn j (Nat.zero_le _) (by omega)
  · cases h
end Go.Gt
