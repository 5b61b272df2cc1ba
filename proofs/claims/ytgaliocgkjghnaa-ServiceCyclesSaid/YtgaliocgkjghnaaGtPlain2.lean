/-
  Gate lists in plain mathematics, part 2: walking from entry to entry.
-/
import Derived.Test.YtgaliocgkjghnaaGtPlainToGtK
namespace Go.Gt
open Go Go.Eng

/-- The least number from i on, of so many, of which p holds. -/
def firstN (p : Nat → Bool) : Nat → Nat → Option Nat
  | _, 0 => none
  | i, f + 1 => if p i then some i else firstN p (i + 1) f

theorem firstN_none {p : Nat → Bool} : ∀ {f i : Nat}, firstN p i f = none ↔ ∀ j, i ≤ j → j < i + f → p j = false
  | 0, i => by simp [firstN]; omega
  | f + 1, i => by
    unfold firstN
    cases h : p i with
    | true => simp; exact ⟨i, Nat.le_refl _, by omega, h⟩
    | false =>
      simp only [Bool.false_eq_true, if_false]
      rw [firstN_none]
      constructor
      · intro h' j h1 h2
        by_cases e : j = i
        · rw [e]; exact h
        · exact h' j (by omega) (by omega)
      · intro h' j h1 h2
        exact h' j (by omega) (by omega)
theorem firstN_some {p : Nat → Bool} : ∀ {f i m : Nat}, firstN p i f = some m ↔ i ≤ m ∧ m < i + f ∧ p m = true ∧ ∀ j, i ≤ j → j < m → p j = false
  | 0, i, m => by simp [firstN]; omega
  | f + 1, i, m => by
    unfold firstN
    cases h : p i with
    | true =>
      simp only [if_true, Option.some.injEq]
      constructor
      · rintro rfl; exact ⟨Nat.le_refl _, by omega, h, fun j h1 h2 => by omega⟩
      · rintro ⟨h1, h2, h3, h4⟩
        rcases Nat.lt_or_ge i m with h5 | h5
        · have := h4 i (Nat.le_refl _) h5; rw [h] at this; cases this
        · omega
    | false =>
      simp only [Bool.false_eq_true, if_false]
      rw [firstN_some]
      constructor
      · rintro ⟨h1, h2, h3, h4⟩
        refine ⟨by omega, by omega, h3, fun j h5 h6 => ?_⟩
        by_cases e : j = i
        · rw [e]; exact h
        · exact h4 j (by omega) h6
      · rintro ⟨h1, h2, h3, h4⟩
        have : i ≠ m := fun e => by rw [e] at h; rw [h] at h3; cases h3
        exact ⟨by omega, by omega, h3, fun j h5 h6 => h4 j (by omega) h6⟩

theorem firstN_of {p : Nat → Bool} {n m : Nat} (h1 : m < n) (h2 : p m = true) (h3 : ∀ j, j < m → p j = false) : firstN p 0 n = some m :=
  firstN_some.2 ⟨Nat.zero_le _, by omega, h2, fun j _ h => h3 j h⟩
theorem firstN_no {p : Nat → Bool} {n : Nat} (h : ∀ j, j < n → p j = false) : firstN p 0 n = none :=
  firstN_none.2 fun j _ h' => h j (by omega)

/-- Bit c of a mask. -/
def bitE (m c : Int) : Bool := m / 2 ^ c.toNat % 2 == 1

/-- Entry number i from entry k on. -/
def ent (es : Ents) (k i : Nat) : Int × Int := es.getD ((k + i) % es.length) (0, 0)
/-- How long the first i entries from entry k on last. -/
def rs (es : Ents) (k : Nat) : Nat → Int
  | 0 => 0
  | i + 1 => rs es k i + (ent es k i).2

theorem ent_get {es : Ents} (k i : Nat) (h : 0 < es.length) : ent es k i = es[(k + i) % es.length]'(Nat.mod_lt _ h) := by
  simp [ent, Nat.mod_lt _ h]
theorem ent_ok {es : Ents} (ha : es.all okE = true) (h : 0 < es.length) (k i : Nat) : 0 ≤ (ent es k i).1 ∧ (ent es k i).1 ≤ 255 ∧ 1 ≤ (ent es k i).2 ∧ (ent es k i).2 ≤ 9600000 := by
  rw [ent_get k i h]; exact okE_get ha _
theorem rs_bounds {es : Ents} (ha : es.all okE = true) (h : 0 < es.length) (k i : Nat) : (i : Int) ≤ rs es k i ∧ rs es k i ≤ 9600000 * i := by
  induction i with
  | zero => simp [rs]
  | succ i ih => have := ent_ok ha h k i; simp only [rs]; omega
theorem rs_mono {es : Ents} (ha : es.all okE = true) (h : 0 < es.length) (k : Nat) {i j : Nat} (hij : i ≤ j) : rs es k i ≤ rs es k j := by
  induction j with
  | zero => have : i = 0 := by omega
            subst this; exact Int.le_refl _
  | succ j ih =>
    by_cases e : i = j + 1
    · subst e; exact Int.le_refl _
    · have := ih (by omega); have := ent_ok ha h k j; simp only [rs]; omega

abbrev big : Int := 1099511627776

/-- The place of a time: the entry, and how long it has lasted. -/
def loc (es : Ents) (cyc t : Int) : Nat × Int := locate es (t % cyc)
def stateE (es : Ents) (cyc t : Int) : Int := (es.getD (loc es cyc t).1 (0, 0)).1

/-- How long a class stays open. -/
def spanE (es : Ents) (cyc cl t : Int) : Int :=
  match firstN (fun i => !bitE (ent es (loc es cyc t).1 i).1 cl) 0 es.length with
  | none => big
  | some 0 => 0
  | some (i + 1) => rs es (loc es cyc t).1 (i + 1) - (loc es cyc t).2

/-- The beginning of entry number i from the time's own on. -/
def beg (es : Ents) (cyc t : Int) (i : Nat) : Int := t - (loc es cyc t).2 + rs es (loc es cyc t).1 i

def fitE (es : Ents) (cyc cl t lg : Int) : Option Int :=
  if lg ≤ spanE es cyc cl t then some t
  else match firstN (fun i => decide (lg ≤ spanE es cyc cl (beg es cyc t (i + 1)))) 0 es.length with
    | none => none
    | some i => some (beg es cyc t (i + 1))

def turnE (es : Ents) (cyc t : Int) : Option Int :=
  match firstN (fun i => (ent es (loc es cyc t).1 i).1 != (ent es (loc es cyc t).1 0).1) 0 es.length with
  | none => none
  | some i => some (beg es cyc t i)

theorem loc_spec {es : Ents} {cyc : Int} (hG : okG es cyc = true) (t : Int) : ∃ h : (loc es cyc t).1 < es.length, 0 ≤ (loc es cyc t).2 ∧ (loc es cyc t).2 < (es[(loc es cyc t).1]).2 ∧ t % cyc = sumL (es.take (loc es cyc t).1) + (loc es cyc t).2 := by
  obtain ⟨_, _, _, hs, _, hc⟩ := okG_parts hG
  exact locate_spec es (t % cyc) (Int.emod_nonneg _ (by omega)) (by rw [hs]; exact Int.emod_lt_of_pos _ (by omega))

theorem loc_bounds {es : Ents} {cyc : Int} (hG : okG es cyc = true) (t : Int) : 0 ≤ (loc es cyc t).2 ∧ (loc es cyc t).2 < 9600000 := by
  obtain ⟨h, h1, h2, _⟩ := loc_spec hG t
  have := okE_get (okG_parts hG).2.2.1 h
  omega

theorem ent_zero {es : Ents} {cyc : Int} (hG : okG es cyc = true) (t : Int) : ent es (loc es cyc t).1 0 = es.getD (loc es cyc t).1 (0, 0) := by
  obtain ⟨h, _⟩ := loc_spec hG t
  simp only [ent, Nat.add_zero]
  rw [Nat.mod_eq_of_lt h]

theorem spanE_bounds {es : Ents} {cyc : Int} (hG : okG es cyc = true) (cl t : Int) : 0 ≤ spanE es cyc cl t ∧ spanE es cyc cl t ≤ big := by
  obtain ⟨h1, h2, ha, _⟩ := okG_parts hG
  unfold spanE
  split
  · decide
  · decide
  · rename_i i hi
    obtain ⟨_, h4, _⟩ := firstN_some.1 hi
    have h5 := rs_bounds ha h1 (loc es cyc t).1 (i + 1)
    have h6 := loc_bounds hG t
    obtain ⟨h, h7, h8, _⟩ := loc_spec hG t
    have h9 := rs_mono ha h1 (loc es cyc t).1 (i := 1) (j := i + 1) (by omega)
    have h10 : rs es (loc es cyc t).1 1 = (ent es (loc es cyc t).1 0).2 := by simp [rs]
    have h11 : ent es (loc es cyc t).1 0 = es[(loc es cyc t).1] := by rw [ent_zero hG]; simp [h]
    rw [h11] at h10
    unfold big
    omega

end Go.Gt
