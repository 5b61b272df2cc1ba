/-
  Choosing a queue, in plain terms: preempted fragments, and a line that is always open.
-/
import Derived.Test.YtffocfffggfenaaChPlain11ToChPlain12
namespace Go.Ch
open Go Go.Eng Go.Gt Go.Proofs.Gt Go.Sw Go.Qu
variable {l : Ln} {hs : List Pt} {c t o b n e s f x y z : Int}
theorem pre_bad (h : preA l hs o b t = (x, y, z)) (hz : z ≠ 0) : x = 0 ∧ y = 0 := by
  unfold preA at h
  split at h
  · cases h; exact ⟨rfl, rfl⟩
  · split at h
    · split at h
      · cases h; exact absurd rfl hz
      · cases h; exact ⟨rfl, rfl⟩
    · cases h; exact ⟨rfl, rfl⟩
theorem pre_good (h : preA l hs o b t = (x, y, z)) (hz : ¬ z ≠ 0) :
    okL l = true ∧ okH hs = true ∧ (0 ≤ t ∧ t ≤ 549755813888) ∧ ((1 ≤ l.per ∧ l.per ≤ 1000) ∧ (84 ≤ o ∧ o ≤ 1542) ∧ 0 ≤ b ∧ b ≤ t) ∧ ∃ k, o + 24 - y = k ∧ 64 ≤ k ∧ 64 ≤ o - k ∧ x = b + (k + 24) * l.per ∧ (0 ≤ (k + 24) * l.per ∧ (k + 24) * l.per ≤ 1566000) ∧ (0 ≤ o * l.per ∧ o * l.per ≤ 1542000) ∧ x < b + o * l.per ∧ t ≤ x ∧ (x ≤ b + 88 * l.per ∨ x < t + 25 * l.per) ∧ (mayC l hs 6 x || mayC l hs 7 x) = true := by
  have h0 : errC l hs t = 0 := by
    cases e : decide (errC l hs t = 0) with
    | true => simpa using e
    | false => rw [preA_err (by simpa using e)] at h; cases h; exact absurd (by simpa using e) hz
  obtain ⟨hL, hH, ht⟩ := errC_zero h0
  obtain ⟨_, hper, _⟩ := okL_parts hL
  cases ha : argP l o b t with
  | false => rw [preA_out h0 ha] at h; cases h; exact absurd (by decide) hz
  | true =>
    cases hB : preB l hs o b t with
    | false => rw [preA_no h0 ha hB] at h; cases h; exact absurd (by decide) hz
    | true =>
      rw [preA_yes h0 ha hB] at h
      cases h
      unfold argP at ha
      simp only [decide_eq_true_eq] at ha
      unfold preB at hB
      simp only [Bool.and_eq_true, decide_eq_true_eq] at hB
      have hcd := ceil_bd (x := t - b) (o := o) (p := l.per) hper.1 (by omega) (by omega)
      have hKd : preK l b t = max 64 ((t - b + l.per - 1) / l.per) := rfl
      have hE : preE l b t = b + (preK l b t + 24) * l.per := rfl
      obtain ⟨K, hK⟩ : ∃ K, preK l b t = K := ⟨_, rfl⟩
      obtain ⟨q, hq⟩ : ∃ q, (t - b + l.per - 1) / l.per = q := ⟨_, rfl⟩
      rw [hK, hq] at hKd
      rw [hq] at hcd
      rw [hK] at hE hB
      have hqk : q * l.per ≤ K * l.per := mul_le2 (by omega) (by omega)
      have hko : (K + 25) * l.per ≤ o * l.per := mul_le2 (by omega) (by omega)
      have e1 : (K + 24) * l.per = K * l.per + 24 * l.per := Int.add_mul _ _ _
      have e2 : (K + 25) * l.per = K * l.per + 25 * l.per := Int.add_mul _ _ _
      have hm0 : 0 ≤ K * l.per := Int.mul_nonneg (by omega) (by omega)
      have hm1 : (K + 24) * l.per ≤ 1566 * 1000 := Int.mul_le_mul (by omega) hper.2 (by omega) (by decide)
      have ho1 : o * l.per ≤ 1542 * 1000 := Int.mul_le_mul (by omega) hper.2 (by omega) (by decide)
      refine ⟨hL, hH, ht, ⟨hper, ⟨by omega, by omega⟩, by omega, by omega⟩, K, by unfold preR; omega, by omega, hB.1, hE, ⟨by omega, by omega⟩, ⟨by omega, by omega⟩, by omega, by omega, ?_, hB.2⟩
      by_cases h64 : K = 64
      · refine .inl ?_
        rw [hE, h64]; omega
      · refine .inr ?_
        have hKq : K = q := by omega
        rw [hKq] at e1 hE
        omega
/-- The line that is always open. -/
def openE : Ents := [(255, 1)]
def openLn (A : Option Addr) (n cap : Nat) (P : Int) : Ln := ⟨⟨A, n, cap, openE, 1⟩, P, 0⟩
variable {A : Option Addr} {m cap : Nat} {P : Int}
theorem open_okL (hP : 1 ≤ P ∧ P ≤ 1000) : okL (openLn A m cap P) = true := by
  unfold okL
  have h : okG (openLn A m cap P).g.es (openLn A m cap P).g.cyc = true := by kernel_rfl
  rw [h]
  show (true && decide (1 ≤ P ∧ P ≤ 1000 ∧ -1000 ≤ (0 : Int) ∧ (0 : Int) ≤ 1000)) = true
  simp; omega
theorem open_fit (hP : 1 ≤ P ∧ P ≤ 1000) (hH : okH hs = true) (hc : 0 ≤ c ∧ c ≤ 7) (ht : 0 ≤ t ∧ t ≤ 549755813888) : fitC (openLn A m cap P) hs c t = true := by
  have hL := open_okL (A := A) (m := m) (cap := cap) hP
  rw [fitC_eq hL hH hc (by omega)]
  have hl := long_bd hL hH hc
  have hs1 : spanE (openLn A m cap P).g.es (openLn A m cap P).g.cyc c (t + (openLn A m cap P).sh) = big := by
    refine spanE_all fun j hj => ?_
    have hj0 : j = 0 := by have : j < 1 := hj; omega
    subst hj0
    have e : ∀ k, ent openE k 0 = (255, 1) := fun k => by
      rw [ent_get k 0 (by decide)]
      simp [openE, Nat.mod_one]
    show bitE (ent openE _ 0).1 c = true
    rw [e]
    have : c = 0 ∨ c = 1 ∨ c = 2 ∨ c = 3 ∨ c = 4 ∨ c = 5 ∨ c = 6 ∨ c = 7 := by omega
    rcases this with rfl | rfl | rfl | rfl | rfl | rfl | rfl | rfl <;> rfl
  rw [hs1]
  refine decide_eq_true ?_
  unfold big
  omega
/-- The last number below n of which something holds. -/
def lastB (p : Nat → Bool) : Nat → Int
  | 0 => -1
  | k + 1 => if p k then (k : Int) else lastB p k
theorem lastB_spec (p : Nat → Bool) : ∀ n, (lastB p n = -1 ∧ ∀ k, k < n → p k = false) ∨ ∃ k, k < n ∧ lastB p n = (k : Int) ∧ p k = true ∧ ∀ j, k < j → j < n → p j = false
  | 0 => .inl ⟨rfl, fun k h => absurd h (Nat.not_lt_zero k)⟩
  | n + 1 => by
    unfold lastB
    cases h : p n with
    | true => exact .inr ⟨n, by omega, by simp, h, fun j h1 h2 => by omega⟩
    | false =>
      simp only [Bool.false_eq_true, if_false]
      rcases lastB_spec p n with ⟨h1, h2⟩ | ⟨k, h1, h2, h3, h4⟩
      · refine .inl ⟨h1, fun k hk => ?_⟩
        by_cases e : k = n
        · rw [e]; exact h
        · exact h2 k (by omega)
      · refine .inr ⟨k, by omega, h2, h3, fun j h5 h6 => ?_⟩
        by_cases e : j = n
        · rw [e]; exact h
        · exact h4 j h5 (by omega)
theorem restK_mono {i j : Nat} (h : i ≤ j) : restK hs i ≤ restK hs j := by
  unfold restK
  have e : hs.take j = (hs.take j).take i ++ (hs.take j).drop i := (List.take_append_drop i _).symm
  rw [List.take_take, Nat.min_eq_left h] at e
  rw [e, List.filter_append, List.length_append]; omega
theorem one_rest (hH : okH hs = true) {i j : Nat} (hi : i < hs.length) (hj : j < hs.length) (h1 : (atP hs i).rest = true) (h2 : (atP hs j).rest = true) : i = j := by
  have key : ∀ i j : Nat, i < j → j < hs.length → (atP hs i).rest = true → (atP hs j).rest = true → False := fun i j hij hj h1 h2 => by
    have hb : ∀ k, (atP hs k).rest = true → restB (atP hs k) = true := fun k h => by
      unfold restB
      cases e : noneP (atP hs k) with
      | true => rw [noneP_rest e] at h; cases h
      | false => rw [h]; rfl
    have g1 := restK_succ (hs := hs) (k := i) (by omega)
    have g2 := restK_succ (hs := hs) (k := j) hj
    rw [hb i h1, if_pos rfl] at g1
    rw [hb j h2, if_pos rfl] at g2
    have g3 := restK_mono (hs := hs) (show i + 1 ≤ j by omega)
    have g4 := restK_le hs (j + 1)
    have g5 := (okH_parts hH).2.2
    omega
  rcases Nat.lt_trichotomy i j with h | h | h
  · exact (key i j h hj h1 h2).elim
  · exact h
  · exact (key j i h hi h2 h1).elim
theorem start_when (hL : okL l = true) (hH : okH hs = true) (ht : 0 ≤ t ∧ t ≤ 549755813888) (h : startL l hs t = some s) : whenL l hs t = some t := by
  cases e : whenL l hs t with
  | none => rw [when_none hL hH ht e] at h; cases h
  | some n =>
    obtain ⟨h1, h2, h3, _⟩ := when_some hL hH ht e
    by_cases hn : n = t
    · rw [hn]
    · rw [h3 t (Int.le_refl _) (by omega)] at h; cases h
theorem open_start (hP : 1 ≤ P ∧ P ≤ 1000) (hH : okH hs = true) (ht : 0 ≤ t ∧ t ≤ 549755813888) :
    (lastB (fun k => !noneP (atP hs k)) 8 < 0 → startL (openLn A m cap P) hs t = none) ∧
    (¬ lastB (fun k => !noneP (atP hs k)) 8 < 0 → startL (openLn A m cap P) hs t = some (if lastB (fun k => !noneP (atP hs k)) 8 < 6 ∧ 0 ≤ lastB (fun k => (atP hs k).rest) 8 then lastB (fun k => (atP hs k).rest) 8 else lastB (fun k => !noneP (atP hs k)) 8)) := by
  have h8 := (okH_parts hH).1
  have hwn : ∀ c : Int, waitC hs c = true → noneP (atP hs c.toNat) = false ∧ heldC hs c = false := fun c h => by
    unfold waitC at h; simpa using h
  have hwt : ∀ k : Nat, noneP (atP hs k) = false → heldC hs k = false → waitC hs k = true := fun k h1 h2 => by
    unfold waitC; rw [Int.toNat_natCast, h1, h2]; rfl
  have hstart : ∀ k : Nat, k < 8 → waitC hs k = true → ∃ s : Int, startL (openLn A m cap P) hs t = some s ∧ (0 ≤ s ∧ s ≤ 7) ∧ waitC hs s = true ∧ (k : Int) ≤ s := fun k hk hw => by
    obtain ⟨s, hs1⟩ := start_some' (by omega) hw (open_fit (A := A) (m := m) (cap := cap) hP hH (c := (k : Int)) (by omega) ht)
    obtain ⟨g1, g2, g3⟩ := start_top hs1
    refine ⟨s, hs1, g1, (startL_rng hs1).2.1, ?_⟩
    rcases Int.lt_or_le s k with h | h
    · have := g3 k h (by omega)
      unfold mayC at this
      rw [hw, open_fit hP hH (by omega) ht] at this; cases this
    · exact h
  rcases lastB_spec (fun k => !noneP (atP hs k)) 8 with ⟨hB, hBn⟩ | ⟨B, hB8, hB, hBt, hBn⟩
  · refine ⟨fun _ => start_none' fun c hc hw => ?_, fun h => absurd (by rw [hB]; decide) h⟩
    have h1 := (hwn c hw).1
    have h2 := hBn c.toNat (by omega)
    simp only [h1] at h2; cases h2
  · refine ⟨fun h => by rw [hB] at h; omega, fun _ => ?_⟩
    rw [hB]
    have hBt' : noneP (atP hs B) = false := by simpa using hBt
    have hle : ∀ s : Int, (0 ≤ s ∧ s ≤ 7) → waitC hs s = true → s ≤ B := fun s hs1 hw => by
      rcases Int.lt_or_le B s with h | h
      · have h1 := (hwn s hw).1
        have h2 := hBn s.toNat (by omega) (by omega)
        simp only [h1] at h2; cases h2
      · exact h
    have hBig : heldC hs B = false → startL (openLn A m cap P) hs t = some (B : Int) := fun hh => by
      obtain ⟨s, g1, g2, g3, g4⟩ := hstart B hB8 (hwt B hBt' hh)
      have := hle s g2 g3
      rw [g1, show s = (B : Int) by omega]
    rcases lastB_spec (fun k => (atP hs k).rest) 8 with ⟨hR, hRn⟩ | ⟨R, hR8, hR, hRt, hRn⟩
    · rw [hR, if_neg (by omega)]
      refine hBig (held_false fun k hk h => ?_)
      have := hRn k (by omega)
      simp only [h.1] at this; cases this
    · rw [hR]
      by_cases h6 : (B : Int) < 6
      · rw [if_pos ⟨h6, by omega⟩]
        have hRt' : (atP hs R).rest = true := hRt
        have hRne : noneP (atP hs R) = false := by
          cases e : noneP (atP hs R) with
          | false => rfl
          | true => rw [noneP_rest e] at hRt'; cases hRt'
        obtain ⟨s, g1, g2, g3, g4⟩ := hstart R hR8 (hwt R hRne (held_false fun k hk h => h.2.1 (by have := one_rest hH hk (by omega) h.1 hRt'; omega)))
        have := hle s g2 g3
        rw [g1]
        by_cases e : (R : Int) = s
        · rw [e]
        · exact absurd ⟨hRt', e, by omega⟩ (held_not (hwn s g3).2 (k := R) (by omega))
      · rw [if_neg (by omega)]
        exact hBig (held_false fun k hk h => by omega)
end Go.Ch
namespace Go.Ch
theorem lastB_bd (p : Nat → Bool) (n : Nat) : -1 ≤ lastB p n ∧ lastB p n < n := by
  rcases lastB_spec p n with ⟨h, _⟩ | ⟨k, h1, h2, _⟩ <;> omega
end Go.Ch
