/-
  The texts GtPlain6 to SwPlain, one after the other.
-/
import Derived.Test.YtgaliocgkjghnaaGtPlain3ToGtPlain4
import Derived.Test.YtgaliocgkjghnaaGtK2
import Derived.Test.YtgaliocgkjghnaaEng4ToEng10
import Derived.Test.YtgaliocgkjghnaaEng11ToEng6
/-
  Gate lists in plain mathematics, part 6: tick by tick.
-/
namespace Go.Gt
open Go Go.Eng

theorem locate_in {es : Ents} (ha : es.all okE = true) {m : Nat} (hm : m < es.length) {d : Int} (h0 : 0 ≤ d) (h1 : d < (es[m]).2) : locate es (sumL (es.take m) + d) = (m, d) := by
  have h := locate_of (es := es) (x := sumL (es.take m) + d) hm (fun j hj hjm => by
    have h1 := sumL_take_succ es j hj
    have h2 : sumL (es.take (j + 1)) ≤ sumL (es.take m) := by
      have : es.take (j + 1) = (es.take m).take (j + 1) := by rw [List.take_take, Nat.min_eq_left (by omega)]
      rw [this]
      exact (sumL_take_le (es := es.take m) (by rw [List.all_eq_true] at ha ⊢; exact fun x hx => ha x (List.mem_of_mem_take hx)) (j + 1)).2
    omega) (by omega)
  rw [h]
  simp only [Prod.mk.injEq]
  exact ⟨trivial, by omega⟩

variable {es : Ents} {cyc : Int}

theorem loc_in (hG : okG es cyc = true) (t : Int) {i : Nat} (hi : i ≤ es.length) {d : Int} (h0 : 0 ≤ d) (h1 : d < (ent es (loc es cyc t).1 i).2) : loc es cyc (beg es cyc t i + d) = (((loc es cyc t).1 + i) % es.length, d) := by
  obtain ⟨hl, _, ha, hs, _, hc⟩ := okG_parts hG
  have hm := Nat.mod_lt ((loc es cyc t).1 + i) hl
  have hb := beg_mod hG t hi
  rw [ent_get _ _ hl] at h1
  have h2 := sumL_take_succ es _ hm
  have h3 := (sumL_take_le ha ((((loc es cyc t).1 + i) % es.length) + 1)).2
  have h4 := (sumL_take_le ha (((loc es cyc t).1 + i) % es.length)).1
  have e : (beg es cyc t i + d) % cyc = sumL (es.take (((loc es cyc t).1 + i) % es.length)) + d := by
    rw [← Int.emod_add_emod, hb, Int.emod_eq_of_lt (by omega) (by omega)]
  rw [loc, e]
  exact locate_in ha hm h0 h1
theorem state_in (hG : okG es cyc = true) (t : Int) {i : Nat} (hi : i ≤ es.length) {d : Int} (h0 : 0 ≤ d) (h1 : d < (ent es (loc es cyc t).1 i).2) : stateE es cyc (beg es cyc t i + d) = (ent es (loc es cyc t).1 i).1 := by
  rw [stateE, loc_in hG t hi h0 h1]; rfl

theorem beg_full (hG : okG es cyc = true) (t : Int) : beg es cyc t es.length = t - (loc es cyc t).2 + cyc := by
  obtain ⟨h, h3, h4, h5⟩ := loc_spec hG t
  obtain ⟨_, _, _, hs, _, _⟩ := okG_parts hG
  have hw := wrap_prefix h es.length (Nat.le_refl _)
  rw [if_pos (by omega), Nat.add_mod_right, Nat.mod_eq_of_lt h, hs] at hw
  unfold beg; omega
theorem beg_zero (t : Int) : beg es cyc t 0 = t - (loc es cyc t).2 := by simp [beg, rs]
theorem ent0_pos (hG : okG es cyc = true) (t : Int) : (loc es cyc t).2 < (ent es (loc es cyc t).1 0).2 := by
  obtain ⟨h, h3, h4, _⟩ := loc_spec hG t
  rw [ent_zero hG]; simpa [h] using h4
theorem beg_more (hG : okG es cyc = true) (t : Int) : t + cyc < beg es cyc t (es.length + 1) := by
  have h1 := beg_full hG t
  have h2 := beg_succ es cyc t es.length
  have h3 := ent0_pos hG t
  rw [ent_full] at h2
  omega
theorem beg_mono (hG : okG es cyc = true) (t : Int) {i j : Nat} (h : i ≤ j) : beg es cyc t i ≤ beg es cyc t j := by
  obtain ⟨h1, _, ha, _⟩ := okG_parts hG
  have := rs_mono ha h1 (loc es cyc t).1 h
  unfold beg; omega
theorem beg_one (hG : okG es cyc = true) (t : Int) : t < beg es cyc t 1 := by
  have h2 := beg_succ es cyc t 0
  have h3 := ent0_pos hG t
  rw [beg_zero] at h2
  rw [h2]; omega

/-- Every time lies in an entry. -/
theorem cover (hG : okG es cyc = true) (t : Int) {x : Int} (h0 : t ≤ x) : ∀ n, x < beg es cyc t n → ∃ i, i < n ∧ beg es cyc t i ≤ x ∧ x < beg es cyc t (i + 1)
  | 0, h => by rw [beg_zero] at h; have := loc_bounds hG t; omega
  | n + 1, h => by
    by_cases hx : x < beg es cyc t n
    · obtain ⟨i, h1, h2⟩ := cover hG t h0 n hx
      exact ⟨i, by omega, h2⟩
    · exact ⟨n, by omega, by omega, h⟩
theorem state_cover (hG : okG es cyc = true) (t : Int) {x : Int} {i : Nat} (hi : i ≤ es.length) (h1 : beg es cyc t i ≤ x) (h2 : x < beg es cyc t (i + 1)) : stateE es cyc x = (ent es (loc es cyc t).1 i).1 := by
  have h3 := beg_succ es cyc t i
  have := state_in hG t hi (d := x - beg es cyc t i) (by omega) (by omega)
  rwa [show beg es cyc t i + (x - beg es cyc t i) = x by omega] at this
theorem state_now (hG : okG es cyc = true) (t : Int) : stateE es cyc t = (ent es (loc es cyc t).1 0).1 :=
  state_cover hG t (Nat.zero_le _) (by rw [beg_zero]; have := loc_bounds hG t; omega) (beg_one hG t)

/-- A class is open at a time. -/
def isO (es : Ents) (cyc cl x : Int) : Bool := bitE (stateE es cyc x) cl

theorem loc_per (t : Int) : loc es cyc (t + cyc) = loc es cyc t := by rw [loc, loc, Int.add_emod_right]
theorem state_per (t : Int) : stateE es cyc (t + cyc) = stateE es cyc t := by rw [stateE, stateE, loc_per]
theorem span_per (cl t : Int) : spanE es cyc cl (t + cyc) = spanE es cyc cl t := by unfold spanE; rw [loc_per]
theorem beg_per (t : Int) (i : Nat) : beg es cyc (t + cyc) i = beg es cyc t i + cyc := by unfold beg; rw [loc_per]; omega

theorem span_cases (_hG : okG es cyc = true) (cl t : Int) : (spanE es cyc cl t = big ∧ ∀ j, j < es.length → bitE (ent es (loc es cyc t).1 j).1 cl = true) ∨
    ∃ i, i < es.length ∧ spanE es cyc cl t = fst0 es cyc t i - t ∧ bitE (ent es (loc es cyc t).1 i).1 cl = false ∧ ∀ j, j < i → bitE (ent es (loc es cyc t).1 j).1 cl = true := by
  cases h : firstN (fun i => !bitE (ent es (loc es cyc t).1 i).1 cl) 0 es.length with
  | none =>
    have hn := firstN_none.1 h
    have hall : ∀ j, j < es.length → bitE (ent es (loc es cyc t).1 j).1 cl = true := fun j hj => by simpa using hn j (Nat.zero_le _) (by omega)
    exact .inl ⟨spanE_all hall, hall⟩
  | some m =>
    obtain ⟨_, h2, h3, h4⟩ := firstN_some.1 h
    have hf : bitE (ent es (loc es cyc t).1 m).1 cl = false := by simpa using h3
    have hb : ∀ j, j < m → bitE (ent es (loc es cyc t).1 j).1 cl = true := fun j hj => by simpa using h4 j (Nat.zero_le _) hj
    exact .inr ⟨m, by omega, spanE_at (by omega) hb hf, hf, hb⟩

/-- All through the span the class is open. -/
theorem span_in (hG : okG es cyc = true) (cl t : Int) {j : Int} (h0 : 0 ≤ j) (h1 : j < spanE es cyc cl t) (h2 : j < cyc) : isO es cyc cl (t + j) = true := by
  have hm := beg_more hG t
  obtain ⟨i, hi, h3, h4⟩ := cover hG t (x := t + j) (by omega) (es.length + 1) (by omega)
  rw [isO, state_cover hG t (by omega) h3 h4]
  rcases span_cases hG cl t with ⟨_, hall⟩ | ⟨m, hm, hs, _, hall⟩
  · by_cases e : i = es.length
    · rw [e, ent_full]; exact hall 0 (okG_parts hG).1
    · exact hall i (by omega)
  · refine hall i ?_
    rcases Nat.lt_or_ge i m with h | h
    · exact h
    · exfalso
      have := beg_mono hG t h
      unfold fst0 at hs
      split at hs <;> omega
/-- At its end it is closed. -/
theorem span_end (hG : okG es cyc = true) (cl t : Int) (h : spanE es cyc cl t < big) : spanE es cyc cl t < cyc ∧ isO es cyc cl (t + spanE es cyc cl t) = false := by
  obtain ⟨hl, _, ha, _, _, hc⟩ := okG_parts hG
  rcases span_cases hG cl t with ⟨hs, _⟩ | ⟨m, hm, hs, hf, _⟩
  · omega
  · have hy := loc_bounds hG t
    have hfull := beg_full hG t
    rw [hs, show t + (fst0 es cyc t m - t) = fst0 es cyc t m by omega]
    unfold fst0
    split
    · rename_i e
      subst e
      exact ⟨by omega, by rw [isO, state_now hG]; exact hf⟩
    · have h2 := beg_mono hG t (show m + 1 ≤ es.length by omega)
      have h3 := beg_succ es cyc t m
      have h4 := ent_ok ha hl (loc es cyc t).1 m
      refine ⟨by omega, ?_⟩
      rw [isO, state_beg hG t (by omega)]; exact hf
theorem span_is (hG : okG es cyc = true) (cl t : Int) {n : Int} (h0 : 0 ≤ n) (h1 : n < cyc) (h2 : ∀ j, 0 ≤ j → j < n → isO es cyc cl (t + j) = true) (h3 : isO es cyc cl (t + n) = false) : spanE es cyc cl t = n := by
  have hb := spanE_bounds hG cl t
  obtain ⟨_, _, _, _, hc9, _⟩ := okG_parts hG
  rcases Int.lt_trichotomy (spanE es cyc cl t) n with h | h | h
  · have := (span_end hG cl t (by unfold big; omega)).2
    rw [h2 _ hb.1 h] at this; cases this
  · exact h
  · have := span_in hG cl t h0 h h1
    rw [h3] at this; cases this
theorem span_big (hG : okG es cyc = true) (cl t : Int) (h2 : ∀ j, 0 ≤ j → j < cyc → isO es cyc cl (t + j) = true) : spanE es cyc cl t = big := by
  have hb := spanE_bounds hG cl t
  by_cases h : spanE es cyc cl t < big
  · obtain ⟨h3, h4⟩ := span_end hG cl t h
    rw [h2 _ hb.1 h3] at h4; cases h4
  · omega

/-- Later in an entry it stays open no longer. -/
theorem span_later (hG : okG es cyc = true) (cl : Int) {a x : Int} (h0 : a ≤ x) (h : ∀ j, a ≤ j → j ≤ x → isO es cyc cl j = isO es cyc cl a) : spanE es cyc cl x ≤ spanE es cyc cl a := by
  obtain ⟨_, _, _, _, hc9, hc⟩ := okG_parts hG
  have hba := spanE_bounds hG cl a
  have hbx := spanE_bounds hG cl x
  cases hx : isO es cyc cl x with
  | false =>
    have := span_is hG cl x (Int.le_refl 0) (by omega) (fun j h1 h2 => by omega) (by rw [Int.add_zero]; exact hx)
    omega
  | true =>
    by_cases hs : spanE es cyc cl a < big
    · obtain ⟨h3, h4⟩ := span_end hG cl a hs
      have ha : isO es cyc cl a = true := by rw [← h x h0 (Int.le_refl _)]; exact hx
      have h5 : x - a < spanE es cyc cl a := by
        by_cases h5 : x - a < spanE es cyc cl a
        · exact h5
        · rw [h _ (by omega) (by omega), ha] at h4; cases h4
      have := span_is hG cl x (n := spanE es cyc cl a - (x - a)) (by omega) (by omega) (fun j g1 g2 => by
        rw [show x + j = a + ((x - a) + j) by omega]
        exact span_in hG cl a (by omega) (by omega) (by omega)) (by rw [show x + (spanE es cyc cl a - (x - a)) = a + spanE es cyc cl a by omega]; exact h4)
      omega
    · omega

theorem span_none (hG : okG es cyc = true) (cl t lg : Int) {m : Nat} (hm : m ≤ es.length) (h0 : ¬ lg ≤ spanE es cyc cl t) (h : ∀ j, j < m → ¬ lg ≤ spanE es cyc cl (beg es cyc t (j + 1))) {x : Int} (h1 : t ≤ x) (h2 : x < beg es cyc t (m + 1)) : ¬ lg ≤ spanE es cyc cl x := by
  obtain ⟨i, hi, h3, h4⟩ := cover hG t h1 (m + 1) h2
  obtain ⟨hl, _, ha, hs, _, hc⟩ := okG_parts hG
  have hx := state_cover hG t (by omega) h3 h4
  have hy := loc_bounds hG t
  cases i with
  | zero =>
    rw [beg_zero] at h3
    rw [Nat.zero_add] at h4
    have := span_later hG cl h1 fun j g1 g2 => by
      rw [isO, isO, state_cover hG t (i := 0) (by omega) (by rw [beg_zero]; omega) (show j < beg es cyc t 1 by omega), state_now hG]
    omega
  | succ i =>
    have := span_later hG cl h3 fun j g1 g2 => by
      rw [isO, isO, state_cover hG t (i := i + 1) (by omega) g1 (by omega), state_cover hG t (i := i + 1) (by omega) (Int.le_refl _) (by omega)]
    have := h i (by omega)
    omega

/-- What Fit finds is the least. -/
theorem fit_some (hG : okG es cyc = true) {cl t lg a : Int} (h : fitE es cyc cl t lg = some a) : t ≤ a ∧ a < t + 2 * cyc ∧ lg ≤ spanE es cyc cl a ∧ ∀ x, t ≤ x → x < a → ¬ lg ≤ spanE es cyc cl x := by
  obtain ⟨hl, _, ha, hs, _, hc⟩ := okG_parts hG
  unfold fitE at h
  split at h
  · rename_i h0
    cases h
    exact ⟨Int.le_refl _, by omega, h0, fun x g1 g2 => by omega⟩
  · rename_i h0
    split at h
    · cases h
    · rename_i i hi
      cases h
      obtain ⟨_, h2, h3, h4⟩ := firstN_some.1 hi
      have h5 := beg_mono hG t (show i + 1 ≤ es.length by omega)
      have h6 := beg_full hG t
      have h7 := beg_mono hG t (show 1 ≤ i + 1 by omega)
      have h8 := beg_one hG t
      have h9 := loc_bounds hG t
      exact ⟨by omega, by omega, by simpa using h3, fun x g1 g2 => span_none hG cl t lg (m := i) (by omega) h0 (fun j hj => by simpa using h4 j (Nat.zero_le _) hj) g1 g2⟩
theorem fit_none (hG : okG es cyc = true) {cl t lg : Int} (h : fitE es cyc cl t lg = none) : ∀ x, t ≤ x → x < t + 2 * cyc → ¬ lg ≤ spanE es cyc cl x := by
  unfold fitE at h
  split at h
  · cases h
  · rename_i h0
    split at h
    · rename_i hi
      have hn := firstN_none.1 hi
      have hm := beg_more hG t
      have key : ∀ x, t ≤ x → x < t + cyc → ¬ lg ≤ spanE es cyc cl x := fun x g1 g2 => span_none hG cl t lg (m := es.length) (Nat.le_refl _) h0 (fun j hj => by simpa using hn j (Nat.zero_le _) (by omega)) g1 (by omega)
      intro x g1 g2
      by_cases hx : x < t + cyc
      · exact key x g1 hx
      · have := key (x - cyc) (by omega) (by omega)
        rwa [← span_per, show x - cyc + cyc = x by omega] at this
    · cases h
theorem fit_per (cl t lg : Int) : fitE es cyc cl (t + cyc) lg = (fitE es cyc cl t lg).map (· + cyc) := by
  unfold fitE
  rw [span_per]
  have e : (fun i => decide (lg ≤ spanE es cyc cl (beg es cyc (t + cyc) (i + 1)))) = fun i => decide (lg ≤ spanE es cyc cl (beg es cyc t (i + 1))) := by
    funext i; rw [beg_per, span_per]
  rw [e]
  split
  · rfl
  · cases firstN (fun i => decide (lg ≤ spanE es cyc cl (beg es cyc t (i + 1)))) 0 es.length with
    | none => rfl
    | some i => simp [beg_per]

/-- What Turn finds. -/
theorem turn_some (hG : okG es cyc = true) {t a : Int} (h : turnE es cyc t = some a) : t < a ∧ a ≤ t + cyc ∧ stateE es cyc a ≠ stateE es cyc t ∧ ∀ x, t ≤ x → x < a → stateE es cyc x = stateE es cyc t := by
  unfold turnE at h
  split at h
  · cases h
  · rename_i i hi
    cases h
    obtain ⟨_, h2, h3, h4⟩ := firstN_some.1 hi
    have hn : i ≠ 0 := fun e => by subst e; simp at h3
    have h5 := beg_mono hG t (show i ≤ es.length by omega)
    have h6 := beg_full hG t
    have h7 := beg_mono hG t (show 1 ≤ i by omega)
    have h8 := beg_one hG t
    have h9 := loc_bounds hG t
    refine ⟨by omega, by omega, ?_, fun x g1 g2 => ?_⟩
    · rw [state_beg hG t (by omega), state_now hG]; simpa using h3
    · obtain ⟨j, hj, k1, k2⟩ := cover hG t g1 i g2
      rw [state_cover hG t (by omega) k1 k2, state_now hG]
      simpa using h4 j (Nat.zero_le _) hj
theorem turn_none (hG : okG es cyc = true) {t : Int} (h : turnE es cyc t = none) : ∀ x, t ≤ x → x < t + cyc → stateE es cyc x = stateE es cyc t := by
  unfold turnE at h
  split at h
  · rename_i hi
    have hn := firstN_none.1 hi
    have hm := beg_more hG t
    intro x g1 g2
    obtain ⟨j, hj, k1, k2⟩ := cover hG t g1 (es.length + 1) (by omega)
    rw [state_cover hG t (by omega) k1 k2, state_now hG]
    by_cases e : j = es.length
    · rw [e, ent_full]
    · simpa using hn j (Nat.zero_le _) (by omega)
  · cases h
end Go.Gt

/-
  Gate lists in plain mathematics, part 5: the lists that are made of bytes.
-/
namespace Go.Gt
open Go Go.Eng Go.Proofs.Gt
def draftN (ss : List Int) : Nat := max 1 (min ss.length 16)
/-- The list of a draft. -/
def draftE (ss ls : List Int) : Ents := (List.range (draftN ss)).map fun i => (if i < ss.length then ss.getD i 0 else 127, if i < ls.length then 1 + ls.getD i 0 % 20 else 1)
theorem draftE_len (ss ls : List Int) : (draftE ss ls).length = draftN ss := by simp [draftE]
theorem draftE_get (ss ls : List Int) {i : Nat} (h : i < (draftE ss ls).length) : (draftE ss ls)[i] = (if i < ss.length then ss.getD i 0 else 127, if i < ls.length then 1 + ls.getD i 0 % 20 else 1) := by simp [draftE]
abbrev bytesL (l : List Int) : Prop := ∀ (i : Nat) (h : i < l.length), 0 ≤ l[i] ∧ l[i] ≤ 255
theorem draftE_ok {ss ls : List Int} (h1 : bytesL ss) (_h2 : bytesL ls) (i : Nat) (h : i < (draftE ss ls).length) : 0 ≤ (draftE ss ls)[i].1 ∧ (draftE ss ls)[i].1 ≤ 255 ∧ 1 ≤ (draftE ss ls)[i].2 ∧ (draftE ss ls)[i].2 ≤ 20 := by
  rw [draftE_get]
  simp only
  refine ⟨?_, ?_, ?_, ?_⟩
  · split
    · rename_i h3; have := h1 i h3; simp [h3]; omega
    · omega
  · split
    · rename_i h3; have := h1 i h3; simp [h3]; omega
    · omega
  · split <;> omega
  · split <;> omega
theorem draft_all {ss ls : List Int} (h1 : bytesL ss) (h2 : bytesL ls) : (draftE ss ls).all okE = true := by
  rw [List.all_eq_true]
  intro e he
  obtain ⟨i, hi, rfl⟩ := List.getElem_of_mem he
  have := draftE_ok h1 h2 i hi
  simp [okE]; omega
theorem draft_rng {ss ls : List Int} (h1 : bytesL ss) (h2 : bytesL ls) : rngE (draftE ss ls) := fun i h => by have := draftE_ok h1 h2 i h; omega
theorem draft_big {ss ls : List Int} (h1 : bytesL ss) (h2 : bytesL ls) : ∀ (i : Nat) (h : i < (draftE ss ls).length), -20000000 ≤ (draftE ss ls)[i].2 ∧ (draftE ss ls)[i].2 ≤ 20000000 := fun i h => by have := draftE_ok h1 h2 i h; omega
theorem draft_good {ss ls : List Int} (h1 : bytesL ss) (h2 : bytesL ls) : okG (draftE ss ls) (sumL (draftE ss ls)) = true := by
  have hn : draftN ss ≤ 16 ∧ 1 ≤ draftN ss := by unfold draftN; omega
  have hs : sumL (draftE ss ls) ≤ 9600000 := by
    have hl := draftE_len ss ls
    have hb : ∀ k, k ≤ (draftE ss ls).length → sumL ((draftE ss ls).take k) ≤ 20 * k := by
      intro k
      induction k with
      | zero => intro _; rw [sumL_zero]; omega
      | succ k ih =>
        intro hk
        have := ih (by omega)
        have := draftE_ok h1 h2 k (by omega)
        rw [sumL_take_succ _ _ (by omega)]; omega
    have := hb _ (Nat.le_refl _)
    rw [List.take_length] at this
    omega
  exact okG_true (by rw [draftE_len]; omega) (by rw [draftE_len]; omega) (draft_all h1 h2) rfl hs
theorem bad_all {es : Ents} {cyc : Int} (h : okG es cyc = false) (cl t lg : Int) : (maskA es cyc t).2 = 370 ∧ (openA es cyc cl t).2 = 370 ∧ (fitsA es cyc cl t lg).2 = 370 ∧ (fitA es cyc cl t lg).2 = 370 ∧ (turnA es cyc t).2 = 370 := by
  have e : ∀ a b c, errG es cyc a b c = 370 := fun a b c => by unfold errG; rw [h]; rfl
  simp [maskA, openA, fitsA, fitA, turnA, e]
end Go.Gt

/-
  Gate lists in plain mathematics, part 7: what the laws' helpers answer on a right list.
-/
namespace Go.Gt
open Go Go.Eng
variable {es : Ents} {cyc : Int}
theorem errG_ok (hG : okG es cyc = true) {cl t lg : Int} (h1 : 0 ≤ cl ∧ cl ≤ 7) (h2 : -1099511627776 ≤ t ∧ t ≤ 1099511627776) (h3 : 0 ≤ lg ∧ lg ≤ 1099511627776) : errG es cyc cl t lg = 0 := by
  unfold errG
  rw [if_pos hG, if_pos (by simp only [okT, decide_eq_true_eq]; omega)]
theorem maskH_eq (hG : okG es cyc = true) {t : Int} (h2 : -1099511627776 ≤ t ∧ t ≤ 1099511627776) : maskH es cyc t = stateE es cyc t := by
  have := errG_ok hG (cl := 0) (t := t) (lg := 0) (by omega) h2 (by omega)
  simp [maskH, maskA, this]
theorem openH_eq (hG : okG es cyc = true) {cl t : Int} (h1 : 0 ≤ cl ∧ cl ≤ 7) (h2 : -1099511627776 ≤ t ∧ t ≤ 1099511627776) : openH es cyc cl t = spanE es cyc cl t := by
  have := errG_ok hG (cl := cl) (t := t) (lg := 0) h1 h2 (by omega)
  simp [openH, openA, this]
theorem fitsH_eq (hG : okG es cyc = true) {cl t lg : Int} (h1 : 0 ≤ cl ∧ cl ≤ 7) (h2 : -1099511627776 ≤ t ∧ t ≤ 1099511627776) (h3 : 0 ≤ lg ∧ lg ≤ 1099511627776) : fitsH es cyc cl t lg = decide (lg ≤ spanE es cyc cl t) := by
  have := errG_ok hG h1 h2 h3
  simp [fitsH, fitsA, this]
theorem fitA_eq (hG : okG es cyc = true) {cl t lg : Int} (h1 : 0 ≤ cl ∧ cl ≤ 7) (h2 : -1099511627776 ≤ t ∧ t ≤ 1099511627776) (h3 : 0 ≤ lg ∧ lg ≤ 1099511627776) : fitA es cyc cl t lg = orErr (fitE es cyc cl t lg) := by
  have := errG_ok hG h1 h2 h3
  simp [fitA, this]
theorem turnA_eq (hG : okG es cyc = true) {t : Int} (h2 : -1099511627776 ≤ t ∧ t ≤ 1099511627776) : turnA es cyc t = orErr (turnE es cyc t) := by
  have := errG_ok hG (cl := 0) (t := t) (lg := 0) (by omega) h2 (by omega)
  simp [turnA, this]
theorem state_rng (hG : okG es cyc = true) (t : Int) : 0 ≤ stateE es cyc t ∧ stateE es cyc t ≤ 255 := by
  obtain ⟨h, _⟩ := loc_spec hG t
  have := okE_get (okG_parts hG).2.2.1 h
  rw [stateE, List.getD_eq_getElem?_getD, List.getElem?_eq_getElem h]
  exact ⟨this.1, this.2.1⟩
theorem bit_one {m k : Int} (hm : 0 ≤ m ∧ m ≤ 255) (hk : 0 ≤ k ∧ k ≤ 7) : bitsOf .and .i64 (m.fdiv (2 ^ (min k.toNat 64))) 1 = 1 ↔ bitE m k = true := by
  have h0 : 0 ≤ m / 2 ^ k.toNat := Int.ediv_nonneg hm.1 (Int.le_of_lt (Int.pow_pos (by decide)))
  have h1 : m / 2 ^ k.toNat ≤ m := Int.ediv_le_self _ hm.1
  rw [bit_shift ⟨hk.1, by omega⟩, and1 ⟨h0, by omega⟩]
  unfold bitE
  rw [beq_iff_eq]
/-- The count of the law: what it says of Open. -/
theorem count_end (hG : okG es cyc = true) {cl t n : Int} {o : Bool} (h0 : 0 ≤ n) (h1 : n ≤ cyc) (h2 : ∀ j, 0 ≤ j → j < n → isO es cyc cl (t + j) = true) (h3 : o = false → n < cyc ∧ isO es cyc cl (t + n) = false) (h4 : o = true → ¬ n < cyc) :
    (o = true → spanE es cyc cl t = 1099511627776) ∧ (¬ o = true → spanE es cyc cl t = n) := by
  constructor
  · intro h
    have := h4 h
    exact span_big hG cl t fun j g1 g2 => h2 j g1 (by omega)
  · intro h
    have h5 : o = false := by cases o <;> simp_all
    obtain ⟨g1, g2⟩ := h3 h5
    exact span_is hG cl t h0 g1 h2 g2
theorem draft_cyc {ss ls : List Int} (h1 : bytesL ss) (h2 : bytesL ls) : sumL (draftE ss ls) ≤ 320 := by
  have hn : draftN ss ≤ 16 ∧ 1 ≤ draftN ss := by unfold draftN; omega
  have hl := draftE_len ss ls
  have hb : ∀ k, k ≤ (draftE ss ls).length → sumL ((draftE ss ls).take k) ≤ 20 * k := by
    intro k
    induction k with
    | zero => intro _; rw [sumL_zero]; omega
    | succ k ih =>
      intro hk
      have := ih (by omega)
      have := draftE_ok h1 h2 k (by omega)
      rw [sumL_take_succ _ _ (by omega)]; omega
  have := hb _ (Nat.le_refl _)
  rw [List.take_length] at this
  omega
theorem orErr_two {o : Option Int} (h : (orErr o).2 = 4) : o = none := by cases o <;> simp_all [orErr]
theorem orErr_some {o : Option Int} (h : ¬ (orErr o).2 = 4) : ∃ a, o = some a ∧ (orErr o).1 = a ∧ (orErr o).2 = 0 := by cases o <;> simp_all [orErr]
theorem orErr_map (o : Option Int) (c : Int) : (orErr (o.map (· + c))).2 = (orErr o).2 := by cases o <;> rfl
end Go.Gt

/-
  Changes of gate lists, in plain terms.
-/
namespace Go.Sw
open Go Go.Eng Go.Gt Go.Proofs.Gt
/-- A gate list, with the place of its entries. -/
structure Gl where
  A : Option Addr
  n : Nat
  cap : Nat
  es : Ents
  cyc : Int
def glv (g : Gl) : List Value := [.slice g.A g.n g.cap, .int .i64 g.cyc]
theorem glv_len (g : Gl) : (glv g).length = 2 := rfl
abbrev GlK (F : Know) (g : Gl) : Prop := EntK F g.A g.n g.es
def g0 : Gl := ⟨none, 0, 0, [], 0⟩
theorem g0_k (F : Know) : GlK F g0 := EntK.nil F
structure Ch where
  op : Gl
  base : Int
  pe : Bool
  ad : Gl
  wh : Int
def chv (c : Ch) : List Value := [.slice c.op.A c.op.n c.op.cap, .int .i64 c.op.cyc, .int .i64 c.base, .bool c.pe, .slice c.ad.A c.ad.n c.ad.cap, .int .i64 c.ad.cyc, .int .i64 c.wh]
theorem chv_len (c : Ch) : (chv c).length = 7 := rfl
structure ChK (F : Know) (c : Ch) : Prop where
  op : GlK F c.op
  ad : GlK F c.ad
theorem ChK.mono {F F' : Know} {c : Ch} (h : ChK F c) (hF : ∀ a v, F a = some v → F' a = some v) : ChK F' c := ⟨h.op.mono hF, h.ad.mono hF⟩
def c0 : Ch := ⟨g0, 0, false, g0, 0⟩
theorem c0_k (F : Know) : ChK F c0 := ⟨g0_k F, g0_k F⟩
def okTm (t : Int) : Bool := decide (-1099511627776 ≤ t ∧ t ≤ 1099511627776)
def okC (c : Ch) : Bool := okG c.op.es c.op.cyc && okTm c.base && (if c.pe then okG c.ad.es c.ad.cyc && decide (-1099511627776 ≤ c.wh ∧ c.wh ≤ 2199023255552) && decide ((c.wh - c.base) % c.op.cyc = 0) else decide (c.ad.es = [] ∧ c.ad.cyc = 0 ∧ c.wh = 0))
structure OkC (c : Ch) : Prop where
  op : okG c.op.es c.op.cyc = true
  base : -1099511627776 ≤ c.base ∧ c.base ≤ 1099511627776
  ad : c.pe = true → okG c.ad.es c.ad.cyc = true
  wh : -1099511627776 ≤ c.wh ∧ c.wh ≤ 2199023255552
  at_ : c.pe = true → (c.wh - c.base) % c.op.cyc = 0
  no : c.pe = false → c.ad.es = [] ∧ c.ad.cyc = 0 ∧ c.wh = 0
theorem okC_iff {c : Ch} : okC c = true ↔ OkC c := by
  unfold okC okTm
  cases hp : c.pe with
  | true =>
    simp only [Bool.and_eq_true, decide_eq_true_eq, if_true]
    constructor
    · rintro ⟨⟨h1, h2⟩, ⟨h3, h4⟩, h5⟩; exact ⟨h1, h2, fun _ => h3, h4, fun _ => h5, fun h => by rw [hp] at h; cases h⟩
    · intro h; exact ⟨⟨h.op, h.base⟩, ⟨h.ad hp, h.wh⟩, h.at_ hp⟩
  | false =>
    simp only [Bool.and_eq_true, decide_eq_true_eq, Bool.false_eq_true, if_false]
    constructor
    · rintro ⟨⟨h1, h2⟩, h3, h4, h5⟩; exact ⟨h1, h2, (fun h => by rw [hp] at h; cases h), by omega, (fun h => by rw [hp] at h; cases h), fun _ => ⟨h3, h4, h5⟩⟩
    · intro h; exact ⟨⟨h.op, h.base⟩, h.no hp⟩
def checkC (c : Ch) : Int := if okC c then 0 else 390
def newC (g : Gl) (base : Int) : Ch × Int := if okG g.es g.cyc then (if okTm base then (⟨g, base, false, g0, 0⟩, 0) else (c0, 2)) else (c0, 370)
def laterC (c : Ch) (now : Int) : Ch := if c.pe && decide (c.wh ≤ now ∧ c.wh ≤ 1099511627776) then ⟨c.ad, c.wh, false, g0, 0⟩ else c
def advC (c : Ch) (now : Int) : Ch × Int := if okC c then (if okTm now then (laterC c now, 0) else (c0, 2)) else (c0, 390)
def setB (c : Ch) (now : Int) (g : Gl) (base : Int) : Ch := { c with pe := true, ad := g, wh := max now base + (c.base - max now base) % c.op.cyc }
def setC (c : Ch) (now : Int) (g : Gl) (base : Int) : Ch × Int :=
  if okC c then (if okTm now then (if okG g.es g.cyc then (if okTm base then (setB (laterC c now) now g base, 0) else (c0, 2)) else (c0, 370)) else (c0, 2)) else (c0, 390)
/-- The mask at a time. -/
def onAd (c : Ch) (x : Int) : Bool := c.pe && decide (c.wh ≤ x)
def atC (c : Ch) (x : Int) : Int := if onAd c x then stateE c.ad.es c.ad.cyc (x - c.wh) else stateE c.op.es c.op.cyc (x - c.base)
def maskC (c : Ch) (t : Int) : Int × Int := if okC c then (if okTm t then (atC c t, 0) else (0, 2)) else (0, 390)
def glC (c : Ch) (x : Int) : Gl := if onAd c x then c.ad else c.op
def begC (c : Ch) (x : Int) : Int := if onAd c x then c.wh else c.base
def endC (c : Ch) (e x : Int) : Int := if onAd c x then e else if c.pe then min e c.wh else e
/-- Until when the mask at a time is certain. -/
def nextC (c : Ch) (e x : Int) : Int :=
  match turnE (glC c x).es (glC c x).cyc ((x - begC c x) % (glC c x).cyc) with
  | some u => min (endC c e x) (x + u - (x - begC c x) % (glC c x).cyc)
  | none => endC c e x
def stL (c : Ch) (e : Int) : Nat → Int → List Int
  | 0, _ => []
  | k + 1, x => if x < e then atC c x :: stL c e k (nextC c e x) else []
def stW (c : Ch) (e x : Int) : List Int := stL c e (e - x).toNat x
theorem atC_gl (c : Ch) (x : Int) : atC c x = stateE (glC c x).es (glC c x).cyc (x - begC c x) := by
  unfold atC glC begC; split <;> rfl
theorem state_mod (es : Ents) (cyc x : Int) : stateE es cyc (x % cyc) = stateE es cyc x := by
  unfold stateE loc; rw [Int.emod_emod_of_dvd _ (Int.dvd_refl _)]
theorem state_shift (es : Ents) (cyc x k : Int) : stateE es cyc (x + cyc * k) = stateE es cyc x := by
  unfold stateE loc; rw [Int.add_mul_emod_self_left]
theorem OkC.gl {c : Ch} (h : OkC c) (x : Int) : okG (glC c x).es (glC c x).cyc = true := by
  unfold glC
  split
  · rename_i ho; unfold onAd at ho; simp at ho; exact h.ad ho.1
  · exact h.op
theorem OkC.beg {c : Ch} (h : OkC c) (x : Int) : -1099511627776 ≤ begC c x ∧ begC c x ≤ 2199023255552 := by
  unfold begC
  split
  · exact h.wh
  · have := h.base; omega
theorem okG_cyc {es : Ents} {cyc : Int} (h : okG es cyc = true) : 1 ≤ cyc ∧ cyc ≤ 9600000 := by have := okG_parts h; omega
theorem next_facts {c : Ch} (h : OkC c) {e x : Int} (hx : x < e) : x < nextC c e x ∧ nextC c e x ≤ e ∧ ∀ y, x ≤ y → y < nextC c e x → atC c y = atC c x := by
  have hG := h.gl x
  have hc := okG_cyc hG
  obtain ⟨lo, hlo⟩ : ∃ lo, (x - begC c x) % (glC c x).cyc = lo := ⟨_, rfl⟩
  have hlb : 0 ≤ lo ∧ lo < (glC c x).cyc := by rw [← hlo]; exact ⟨Int.emod_nonneg _ (by omega), Int.emod_lt_of_pos _ (by omega)⟩
  have hdm := Int.mul_ediv_add_emod (x - begC c x) (glC c x).cyc
  rw [hlo] at hdm
  have hend : x < endC c e x ∧ endC c e x ≤ e ∧ ∀ y, x ≤ y → y < endC c e x → onAd c y = onAd c x := by
    unfold endC
    cases ho : onAd c x with
    | true =>
      rw [if_pos rfl]
      refine ⟨hx, Int.le_refl _, fun y h1 h2 => ?_⟩
      unfold onAd at ho ⊢; simp at ho ⊢; exact ⟨ho.1, by omega⟩
    | false =>
      rw [if_neg (by simp)]
      unfold onAd at ho
      cases hp : c.pe with
      | true =>
        rw [hp] at ho; simp at ho
        rw [if_pos rfl]
        refine ⟨by omega, by omega, fun y h1 h2 => ?_⟩
        unfold onAd; rw [hp]; simp; omega
      | false =>
        rw [if_neg (by simp)]
        refine ⟨hx, Int.le_refl _, fun y h1 h2 => ?_⟩
        unfold onAd; rw [hp]; simp
  have key : ∀ y, x ≤ y → y < endC c e x → atC c y = stateE (glC c x).es (glC c x).cyc (y - begC c x) := by
    intro y h1 h2
    have ho := hend.2.2 y h1 h2
    rw [atC_gl]
    unfold glC begC
    rw [ho]
  have hsh : ∀ z, stateE (glC c x).es (glC c x).cyc (x - begC c x + z) = stateE (glC c x).es (glC c x).cyc (lo + z) := by
    intro z
    have : x - begC c x + z = lo + z + (glC c x).cyc * ((x - begC c x) / (glC c x).cyc) := by omega
    rw [this, state_shift]
  unfold nextC
  rw [hlo]
  cases ht : turnE (glC c x).es (glC c x).cyc lo with
  | some u =>
    obtain ⟨t1, t2, t3, t4⟩ := turn_some hG ht
    refine ⟨by simp only; omega, by simp only; omega, fun y h1 h2 => ?_⟩
    simp only at h2
    rw [key y h1 (by omega), key x (Int.le_refl _) hend.1]
    have e1 := hsh (y - x)
    have e2 := hsh 0
    rw [show x - begC c x + (y - x) = y - begC c x by omega] at e1
    rw [Int.add_zero, Int.add_zero] at e2
    rw [e1, e2]
    exact t4 (lo + (y - x)) (by omega) (by omega)
  | none =>
    refine ⟨hend.1, hend.2.1, fun y h1 h2 => ?_⟩
    simp only at h2
    rw [key y h1 h2, key x (Int.le_refl _) hend.1]
    have e1 := hsh (y - x)
    have e2 := hsh 0
    rw [show x - begC c x + (y - x) = y - begC c x by omega] at e1
    rw [Int.add_zero, Int.add_zero] at e2
    rw [e1, e2]
    have tn := turn_none hG ht
    -- the time within one cycle
    have hdm2 := Int.mul_ediv_add_emod (y - x) (glC c x).cyc
    have hm := Int.emod_nonneg (y - x) (show (glC c x).cyc ≠ 0 by omega)
    have hm2 := Int.emod_lt_of_pos (y - x) (show 0 < (glC c x).cyc by omega)
    rw [show lo + (y - x) = lo + (y - x) % (glC c x).cyc + (glC c x).cyc * ((y - x) / (glC c x).cyc) by omega, state_shift]
    exact tn _ (by omega) (by omega)
theorem stL_fuel {c : Ch} (h : OkC c) {e : Int} : ∀ (k j : Nat) (x : Int), (e - x).toNat ≤ k → (e - x).toNat ≤ j → stL c e k x = stL c e j x
  | 0, 0, x, _, _ => rfl
  | 0, j + 1, x, h1, _ => by
    have : ¬ x < e := by omega
    simp [stL, this]
  | k + 1, 0, x, _, h1 => by
    have : ¬ x < e := by omega
    simp [stL, this]
  | k + 1, j + 1, x, h1, h2 => by
    by_cases hx : x < e
    · have := next_facts h hx
      simp only [stL, if_pos hx]
      rw [stL_fuel h k j (nextC c e x) (by omega) (by omega)]
    · simp [stL, hx]
theorem stW_end (c : Ch) {e x : Int} (hx : ¬ x < e) : stW c e x = [] := by
  unfold stW; rw [show (e - x).toNat = 0 by omega]; rfl
theorem stW_more {c : Ch} (h : OkC c) {e x : Int} (hx : x < e) : stW c e x = atC c x :: stW c e (nextC c e x) := by
  have hn := next_facts h hx
  obtain ⟨k, hk⟩ : ∃ k, (e - x).toNat = k + 1 := ⟨(e - x).toNat - 1, by omega⟩
  unfold stW
  rw [hk]
  simp only [stL, if_pos hx]
  rw [stL_fuel h k (e - nextC c e x).toNat _ (by omega) (Nat.le_refl _)]
theorem stW_all {c : Ch} (h : OkC c) {e : Int} (p : Int → Bool) : ∀ (k : Nat) (x : Int), (e - x).toNat ≤ k → ((stW c e x).all p = true ↔ ∀ y, x ≤ y → y < e → p (atC c y) = true)
  | 0, x, hk => by
    rw [stW_end c (by omega)]
    simp only [List.all_nil, true_iff]
    intro y h1 h2; omega
  | k + 1, x, hk => by
    by_cases hx : x < e
    · have hn := next_facts h hx
      rw [stW_more h hx, List.all_cons, Bool.and_eq_true, stW_all h p k (nextC c e x) (by omega)]
      constructor
      · rintro ⟨a, b⟩ y h1 h2
        by_cases hy : y < nextC c e x
        · rw [hn.2.2 y h1 hy]; exact a
        · exact b y (by omega) h2
      · intro a
        exact ⟨a x (Int.le_refl _) hx, fun y h1 h2 => a y (by omega) h2⟩
    · rw [stW_end c hx]
      simp only [List.all_nil, true_iff]
      intro y h1 h2; omega
def fitB (c : Ch) (cl t lg : Int) : Bool := (stW c (t + lg) t).all fun m => bitE m cl
theorem fitB_iff {c : Ch} (h : OkC c) {cl t lg : Int} : fitB c cl t lg = true ↔ ∀ y, t ≤ y → y < t + lg → bitE (atC c y) cl = true := stW_all h _ _ t (Nat.le_refl _)
def argF (c : Ch) (cl t lg : Int) : Bool := okTm t && decide (0 ≤ cl ∧ cl ≤ 7 ∧ 0 ≤ lg ∧ lg ≤ 4 * c.op.cyc)
def fitsC (c : Ch) (cl t lg : Int) : Bool × Int := if okC c then (if argF c cl t lg then (fitB c cl t lg, 0) else (false, 2)) else (false, 390)
def sameG (a b : Gl) : Bool := decide (a.cyc = b.cyc) && decide (a.es = b.es)
def sameC (a b : Ch) : Bool := sameG a.op b.op && decide (a.base = b.base) && (a.pe == b.pe) && sameG a.ad b.ad && decide (a.wh = b.wh)
theorem sameC_refl (a : Ch) : sameC a a = true := by simp [sameC, sameG]
theorem mod_norm (a m : Int) : (a.tmod m + m) % m = a % m := tmod_norm
end Go.Sw
