/-
  The texts ChPlain11 to ChPlain12, one after the other.
-/
import Derived.Test.YtffocfffggfenaaChPlain10
/-
  Choosing a queue, in plain terms: the least time, and the greatest class.
-/
namespace Go.Ch
open Go Go.Eng Go.Gt Go.Proofs.Gt Go.Sw Go.Qu
variable {l : Ln} {hs : List Pt} {c t o b n x : Int}
theorem long_bd (hL : okL l = true) (hH : okH hs = true) (hc : 0 ≤ c ∧ c ≤ 7) : 0 ≤ longC l hs c ∧ longC l hs c ≤ 1542000 := by
  have h1 := okH_left hH hc
  have h2 := (okL_parts hL).2.1
  have h3 : (atP hs c.toNat).left * l.per ≤ 1542 * 1000 := Int.mul_le_mul h1.2 h2.2 (by omega) (by decide)
  exact ⟨Int.mul_nonneg h1.1 (by omega), by unfold longC; omega⟩
theorem fitC_eq (hL : okL l = true) (hH : okH hs = true) (hc : 0 ≤ c ∧ c ≤ 7) (hx : -600000000000 ≤ x ∧ x ≤ 600000000000) : fitC l hs c x = decide (longC l hs c ≤ spanE l.g.es l.g.cyc c (x + l.sh)) := by
  obtain ⟨hG, _, hs0⟩ := okL_parts hL
  have hl := long_bd hL hH hc
  have h := errG_ok hG hc (t := x + l.sh) (lg := longC l hs c) (by omega) (by omega)
  unfold fitC fitsA
  rw [if_pos h]; simp
theorem whenF_eq (hL : okL l = true) (hH : okH hs = true) (hc : 0 ≤ c ∧ c ≤ 7) (ht : 0 ≤ t ∧ t ≤ 549755813888) : whenF l hs t c = ((orErr (fitE l.g.es l.g.cyc c (t + l.sh) (longC l hs c))).1 - l.sh, (orErr (fitE l.g.es l.g.cyc c (t + l.sh) (longC l hs c))).2) := by
  obtain ⟨hG, _, hs0⟩ := okL_parts hL
  have hl := long_bd hL hH hc
  unfold whenF fitN
  rw [fitA_eq hG hc (by omega) (by omega)]
/-- One class. -/
theorem when_one (hL : okL l = true) (hH : okH hs = true) (hc : 0 ≤ c ∧ c ≤ 7) (ht : 0 ≤ t ∧ t ≤ 549755813888) :
    (∃ m, whenF l hs t c = (m, 0) ∧ t ≤ m ∧ m < t + 2 * l.g.cyc ∧ fitC l hs c m = true ∧ ∀ x, t ≤ x → x < m → fitC l hs c x = false) ∨ ((whenF l hs t c).2 ≠ 0 ∧ ∀ x, t ≤ x → x < t + 2 * l.g.cyc → fitC l hs c x = false) := by
  obtain ⟨hG, _, hs0⟩ := okL_parts hL
  obtain ⟨_, _, _, _, hcm, hc1⟩ := okG_parts hG
  rw [whenF_eq hL hH hc ht]
  cases e : fitE l.g.es l.g.cyc c (t + l.sh) (longC l hs c) with
  | some a =>
    obtain ⟨h1, h2, h3, h4⟩ := fit_some hG e
    refine .inl ⟨a - l.sh, rfl, by omega, by omega, ?_, fun x hx1 hx2 => ?_⟩
    · rw [fitC_eq hL hH hc (by omega), show a - l.sh + l.sh = a by omega]; exact decide_eq_true h3
    · rw [fitC_eq hL hH hc (by omega)]; exact decide_eq_false (h4 _ (by omega) (by omega))
  | none =>
    have h := fit_none hG e
    refine .inr ⟨by simp [orErr], fun x hx1 hx2 => ?_⟩
    rw [fitC_eq hL hH hc (by omega)]; exact decide_eq_false (h _ (by omega) (by omega))
theorem start_none' (h : ∀ c : Int, (0 ≤ c ∧ c ≤ 7) → waitC hs c = true → fitC l hs c t = false) : startL l hs t = none := by
  unfold startL
  rw [List.find?_eq_none]
  intro c hc
  obtain ⟨h1, h2⟩ := classL_rng hc
  rw [h c h1 h2]; simp
theorem start_some' (hc : 0 ≤ c ∧ c ≤ 7) (hw : waitC hs c = true) (hf : fitC l hs c t = true) : ∃ s, startL l hs t = some s := by
  cases e : startL l hs t with
  | some s => exact ⟨s, rfl⟩
  | none =>
    unfold startL at e
    rw [List.find?_eq_none] at e
    have := e c (List.mem_filter.2 ⟨mem_downL.2 hc, hw⟩)
    rw [hf] at this; simp at this
theorem when_some (hL : okL l = true) (hH : okH hs = true) (ht : 0 ≤ t ∧ t ≤ 549755813888) (h : whenL l hs t = some n) :
    t ≤ n ∧ n ≤ 549775013888 ∧ (∀ x, t ≤ x → x < n → startL l hs x = none) ∧ ∃ s, startL l hs n = some s := by
  obtain ⟨hG, _, hs0⟩ := okL_parts hL
  obtain ⟨_, _, _, _, hcm, hc1⟩ := okG_parts hG
  have hl := whenL_lst l hs t
  rw [h] at hl
  obtain ⟨⟨c, hc, hw, h1, h2⟩, hmin⟩ := hl
  rcases when_one hL hH hc ht with ⟨m, hm, g1, g2, g3, g4⟩ | ⟨g1, _⟩
  · rw [hm] at h2
    have e : m = n := h2
    subst e
    refine ⟨g1, by omega, fun x hx1 hx2 => start_none' fun k hk hkw => ?_, start_some' hc hw g3⟩
    rcases when_one hL hH hk ht with ⟨m2, hm2, k1, k2, k3, k4⟩ | ⟨k1, k2⟩
    · have := hmin m2 ⟨k, hk, hkw, by rw [hm2], by rw [hm2]⟩
      exact k4 x hx1 (by omega)
    · exact k2 x hx1 (by omega)
  · exact absurd h1 g1
theorem when_none (hL : okL l = true) (hH : okH hs = true) (ht : 0 ≤ t ∧ t ≤ 549755813888) (h : whenL l hs t = none) : startL l hs t = none := by
  obtain ⟨hG, _, hs0⟩ := okL_parts hL
  obtain ⟨_, _, _, _, hcm, hc1⟩ := okG_parts hG
  have hl := whenL_lst l hs t
  rw [h] at hl
  refine start_none' fun k hk hkw => ?_
  rcases when_one hL hH hk ht with ⟨m2, hm2, k1, k2, k3, k4⟩ | ⟨k1, k2⟩
  · exact absurd ⟨k, hk, hkw, by rw [hm2], by rw [hm2]⟩ (hl m2)
  · exact k2 t (by omega) (by omega)
theorem errC_ok (hL : okL l = true) (hH : okH hs = true) (ht : 0 ≤ t ∧ t ≤ 549755813888) : errC l hs t = 0 := by
  unfold errC; rw [if_pos hL, if_pos hH, if_pos ht]
/-- The greatest class that may. -/
theorem from_top : ∀ (k : Nat) (c : Int), fromC l hs t k = some c → (0 ≤ c ∧ c < k) ∧ mayC l hs c t = true ∧ ∀ j : Int, c < j → j < k → mayC l hs j t = false
  | 0, c, h => by cases h
  | k + 1, c, h => by
    unfold fromC at h
    split at h
    · rename_i hm
      have e : (k : Int) = c := by simpa using h
      subst e
      exact ⟨by omega, hm, fun j h1 h2 => by omega⟩
    · rename_i hm
      obtain ⟨h1, h2, h3⟩ := from_top k c h
      refine ⟨by omega, h2, fun j h4 h5 => ?_⟩
      by_cases e : j = (k : Int)
      · rw [e]; simpa using hm
      · exact h3 j h4 (by omega)
theorem start_top (h : startL l hs t = some c) : (0 ≤ c ∧ c ≤ 7) ∧ mayC l hs c t = true ∧ ∀ j : Int, c < j → j ≤ 7 → mayC l hs j t = false := by
  rw [startL_eq] at h
  obtain ⟨h1, h2, h3⟩ := from_top 8 c h
  exact ⟨by omega, h2, fun j h4 h5 => h3 j h4 (by omega)⟩
theorem may_head (hH : okH hs = true) (hc : 0 ≤ c ∧ c ≤ 7) (h : mayC l hs c t = true) : noneP (atP hs c.toNat) = false ∧ (atP hs c.toNat).it.cl = c ∧ heldC hs c = false := by
  unfold mayC waitC at h
  simp only [Bool.and_eq_true, Bool.not_eq_true'] at h
  obtain ⟨⟨h1, h2⟩, _⟩ := h
  refine ⟨h1, ?_, h2⟩
  have := (okH_parts hH).2.1 c.toNat (by omega)
  unfold okAtH at this
  rw [h1] at this
  simp at this
  omega
theorem held_not {k : Nat} (h : heldC hs c = false) (hk : k < hs.length) : ¬ ((atP hs k).rest = true ∧ (k : Int) ≠ c ∧ c < 6) := by
  rintro ⟨h1, h2, h3⟩
  rw [held_true hk h1 h2 h3] at h; cases h
end Go.Ch

/-
  Choosing a queue, in plain terms: what the laws compare.
-/
namespace Go.Ch
open Go Go.Eng Go.Gt Go.Proofs.Gt Go.Sw Go.Qu
variable {l : Ln} {hs : List Pt} {c t o b n e s f x : Int}
theorem when_bad (hw : whenA l hs t = (n, e)) (hst : startA l hs t = (s, f)) (he : e ≠ 0) : f = e ∧ s = 0 := by
  by_cases hz : errC l hs t = 0
  · obtain ⟨hL, hH, ht⟩ := errC_zero hz
    rw [whenA_ok hz] at hw
    rw [startA_ok hz] at hst
    cases h : whenL l hs t with
    | some n2 => rw [h] at hw; cases hw; exact absurd rfl he
    | none =>
      rw [h] at hw; cases hw
      rw [when_none hL hH ht h] at hst; cases hst
      exact ⟨rfl, rfl⟩
  · rw [whenA_err hz] at hw; rw [startA_err hz] at hst; cases hw; cases hst; exact ⟨rfl, rfl⟩
theorem when_good (hw : whenA l hs t = (n, e)) (hst : startA l hs t = (s, f)) (he : ¬ e ≠ 0) :
    (0 ≤ t ∧ t ≤ 549755813888) ∧ t ≤ n ∧ n ≤ 549775013888 ∧ ((n = t ∧ f = 0) ∨ (n ≠ t ∧ f = 4)) ∧ (∀ x, t ≤ x → x < n → x ≤ 549755813888 → startA l hs x = (0, 4)) ∧ (n ≤ 549755813888 → ∃ s, startA l hs n = (s, 0) ∧ mayA l hs s n = (true, 0)) := by
  have hz : errC l hs t = 0 := by
    cases h : decide (errC l hs t = 0) with
    | true => simpa using h
    | false => rw [whenA_err (by simpa using h)] at hw; cases hw; simpa using he
  obtain ⟨hL, hH, ht⟩ := errC_zero hz
  rw [whenA_ok hz] at hw
  rw [startA_ok hz] at hst
  cases h : whenL l hs t with
  | none => rw [h] at hw; cases hw; exact absurd (by decide) he
  | some n2 =>
    rw [h] at hw; cases hw
    obtain ⟨h1, h2, h3, s9, h4⟩ := when_some hL hH ht h
    refine ⟨ht, h1, h2, ?_, fun x g1 g2 g3 => ?_, fun g => ?_⟩
    · by_cases e : n = t
      · rw [← e, h4] at hst; cases hst; exact .inl ⟨e, rfl⟩
      · rw [h3 t (Int.le_refl _) (by omega)] at hst; cases hst; exact .inr ⟨e, rfl⟩
    · rw [startA_ok (errC_ok hL hH (by omega)), h3 x g1 g2]; rfl
    · have hz2 := errC_ok hL hH (t := n) ⟨by omega, g⟩
      refine ⟨s9, by rw [startA_ok hz2, h4]; rfl, ?_⟩
      obtain ⟨g1, g2, _⟩ := start_top h4
      rw [mayA_in hz2 g1, g2]
theorem high_bad (hst : startA l hs t = (s, f)) (hf : f ≠ 0) : s = 0 := by
  by_cases hz : errC l hs t = 0
  · rw [startA_ok hz] at hst
    cases h : startL l hs t with
    | some n2 => rw [h] at hst; cases hst; exact absurd rfl hf
    | none => rw [h] at hst; cases hst; rfl
  · rw [startA_err hz] at hst; cases hst; rfl
theorem high_good (hst : startA l hs t = (s, f)) (hf : ¬ f ≠ 0) :
    errC l hs t = 0 ∧ okH hs = true ∧ (0 ≤ s ∧ s ≤ 7) ∧ mayC l hs s t = true ∧ ∀ j : Int, s < j → j ≤ 7 → mayC l hs j t = false := by
  have hz : errC l hs t = 0 := by
    cases h : decide (errC l hs t = 0) with
    | true => simpa using h
    | false => rw [startA_err (by simpa using h)] at hst; cases hst; simpa using hf
  obtain ⟨hL, hH, ht⟩ := errC_zero hz
  rw [startA_ok hz] at hst
  cases h : startL l hs t with
  | none => rw [h] at hst; cases hst; exact absurd (by decide) hf
  | some n2 => rw [h] at hst; cases hst; exact ⟨hz, hH, start_top h⟩
end Go.Ch
