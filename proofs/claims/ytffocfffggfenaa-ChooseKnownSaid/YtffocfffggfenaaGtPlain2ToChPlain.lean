/-
  The texts GtPlain2 to ChPlain, one after the other.
-/
import Derived.Test.YtffocfffggfenaaGtPlainToGtK
import Derived.Test.YtffocfffggfenaaEng4ToEng10
import Derived.Test.YtffocfffggfenaaEng11ToEng6
/-
  Gate lists in plain mathematics, part 2: walking from entry to entry.
-/
namespace Go.Gt
open Go Go.Eng

/-- The least number from i on, of so many, of which p holds. -/
def firstN (p : Nat → Bool) : Nat → Nat → Option Nat
  | _, 0 => none
  | i, f + 1 => if p i then some i else firstN p (i + 1) f

theorem firstN_none {p : Nat → Bool} : ∀ {f i : Nat}, firstN p i f = none ↔ ∀ j, i ≤ j → j < i + f → p j = false
  | 0, i => by simp [firstN]; omega
  | f + 1, i => by
    unfold firstN
    cases h : p i with
    | true => simp; exact ⟨i, Nat.le_refl _, by omega, h⟩
    | false =>
      simp only [Bool.false_eq_true, if_false]
      rw [firstN_none]
      constructor
      · intro h' j h1 h2
        by_cases e : j = i
        · rw [e]; exact h
        · exact h' j (by omega) (by omega)
      · intro h' j h1 h2
        exact h' j (by omega) (by omega)
theorem firstN_some {p : Nat → Bool} : ∀ {f i m : Nat}, firstN p i f = some m ↔ i ≤ m ∧ m < i + f ∧ p m = true ∧ ∀ j, i ≤ j → j < m → p j = false
  | 0, i, m => by simp [firstN]; omega
  | f + 1, i, m => by
    unfold firstN
    cases h : p i with
    | true =>
      simp only [if_true, Option.some.injEq]
      constructor
      · rintro rfl; exact ⟨Nat.le_refl _, by omega, h, fun j h1 h2 => by omega⟩
      · rintro ⟨h1, h2, h3, h4⟩
        rcases Nat.lt_or_ge i m with h5 | h5
        · have := h4 i (Nat.le_refl _) h5; rw [h] at this; cases this
        · omega
    | false =>
      simp only [Bool.false_eq_true, if_false]
      rw [firstN_some]
      constructor
      · rintro ⟨h1, h2, h3, h4⟩
        refine ⟨by omega, by omega, h3, fun j h5 h6 => ?_⟩
        by_cases e : j = i
        · rw [e]; exact h
        · exact h4 j (by omega) h6
      · rintro ⟨h1, h2, h3, h4⟩
        have : i ≠ m := fun e => by rw [e] at h; rw [h] at h3; cases h3
        exact ⟨by omega, by omega, h3, fun j h5 h6 => h4 j (by omega) h6⟩

theorem firstN_of {p : Nat → Bool} {n m : Nat} (h1 : m < n) (h2 : p m = true) (h3 : ∀ j, j < m → p j = false) : firstN p 0 n = some m :=
  firstN_some.2 ⟨Nat.zero_le _, by omega, h2, fun j _ h => h3 j h⟩
theorem firstN_no {p : Nat → Bool} {n : Nat} (h : ∀ j, j < n → p j = false) : firstN p 0 n = none :=
  firstN_none.2 fun j _ h' => h j (by omega)

/-- Bit c of a mask. -/
def bitE (m c : Int) : Bool := m / 2 ^ c.toNat % 2 == 1

/-- Entry number i from entry k on. -/
def ent (es : Ents) (k i : Nat) : Int × Int := es.getD ((k + i) % es.length) (0, 0)
/-- How long the first i entries from entry k on last. -/
def rs (es : Ents) (k : Nat) : Nat → Int
  | 0 => 0
  | i + 1 => rs es k i + (ent es k i).2

theorem ent_get {es : Ents} (k i : Nat) (h : 0 < es.length) : ent es k i = es[(k + i) % es.length]'(Nat.mod_lt _ h) := by
  simp [ent, Nat.mod_lt _ h]
theorem ent_ok {es : Ents} (ha : es.all okE = true) (h : 0 < es.length) (k i : Nat) : 0 ≤ (ent es k i).1 ∧ (ent es k i).1 ≤ 255 ∧ 1 ≤ (ent es k i).2 ∧ (ent es k i).2 ≤ 9600000 := by
  rw [ent_get k i h]; exact okE_get ha _
theorem rs_bounds {es : Ents} (ha : es.all okE = true) (h : 0 < es.length) (k i : Nat) : (i : Int) ≤ rs es k i ∧ rs es k i ≤ 9600000 * i := by
  induction i with
  | zero => simp [rs]
  | succ i ih => have := ent_ok ha h k i; simp only [rs]; omega
theorem rs_mono {es : Ents} (ha : es.all okE = true) (h : 0 < es.length) (k : Nat) {i j : Nat} (hij : i ≤ j) : rs es k i ≤ rs es k j := by
  induction j with
  | zero => have : i = 0 := by omega
            subst this; exact Int.le_refl _
  | succ j ih =>
    by_cases e : i = j + 1
    · subst e; exact Int.le_refl _
    · have := ih (by omega); have := ent_ok ha h k j; simp only [rs]; omega

abbrev big : Int := 1099511627776

/-- The place of a time: the entry, and how long it has lasted. -/
def loc (es : Ents) (cyc t : Int) : Nat × Int := locate es (t % cyc)
def stateE (es : Ents) (cyc t : Int) : Int := (es.getD (loc es cyc t).1 (0, 0)).1

/-- How long a class stays open. -/
def spanE (es : Ents) (cyc cl t : Int) : Int :=
  match firstN (fun i => !bitE (ent es (loc es cyc t).1 i).1 cl) 0 es.length with
  | none => big
  | some 0 => 0
  | some (i + 1) => rs es (loc es cyc t).1 (i + 1) - (loc es cyc t).2

/-- The beginning of entry number i from the time's own on. -/
def beg (es : Ents) (cyc t : Int) (i : Nat) : Int := t - (loc es cyc t).2 + rs es (loc es cyc t).1 i

def fitE (es : Ents) (cyc cl t lg : Int) : Option Int :=
  if lg ≤ spanE es cyc cl t then some t
  else match firstN (fun i => decide (lg ≤ spanE es cyc cl (beg es cyc t (i + 1)))) 0 es.length with
    | none => none
    | some i => some (beg es cyc t (i + 1))

def turnE (es : Ents) (cyc t : Int) : Option Int :=
  match firstN (fun i => (ent es (loc es cyc t).1 i).1 != (ent es (loc es cyc t).1 0).1) 0 es.length with
  | none => none
  | some i => some (beg es cyc t i)

theorem loc_spec {es : Ents} {cyc : Int} (hG : okG es cyc = true) (t : Int) : ∃ h : (loc es cyc t).1 < es.length, 0 ≤ (loc es cyc t).2 ∧ (loc es cyc t).2 < (es[(loc es cyc t).1]).2 ∧ t % cyc = sumL (es.take (loc es cyc t).1) + (loc es cyc t).2 := by
  obtain ⟨_, _, _, hs, _, hc⟩ := okG_parts hG
  exact locate_spec es (t % cyc) (Int.emod_nonneg _ (by omega)) (by rw [hs]; exact Int.emod_lt_of_pos _ (by omega))

theorem loc_bounds {es : Ents} {cyc : Int} (hG : okG es cyc = true) (t : Int) : 0 ≤ (loc es cyc t).2 ∧ (loc es cyc t).2 < 9600000 := by
  obtain ⟨h, h1, h2, _⟩ := loc_spec hG t
  have := okE_get (okG_parts hG).2.2.1 h
  omega

theorem ent_zero {es : Ents} {cyc : Int} (hG : okG es cyc = true) (t : Int) : ent es (loc es cyc t).1 0 = es.getD (loc es cyc t).1 (0, 0) := by
  obtain ⟨h, _⟩ := loc_spec hG t
  simp only [ent, Nat.add_zero]
  rw [Nat.mod_eq_of_lt h]

theorem spanE_bounds {es : Ents} {cyc : Int} (hG : okG es cyc = true) (cl t : Int) : 0 ≤ spanE es cyc cl t ∧ spanE es cyc cl t ≤ big := by
  obtain ⟨h1, h2, ha, _⟩ := okG_parts hG
  unfold spanE
  split
  · decide
  · decide
  · rename_i i hi
    obtain ⟨_, h4, _⟩ := firstN_some.1 hi
    have h5 := rs_bounds ha h1 (loc es cyc t).1 (i + 1)
    have h6 := loc_bounds hG t
    obtain ⟨h, h7, h8, _⟩ := loc_spec hG t
    have h9 := rs_mono ha h1 (loc es cyc t).1 (i := 1) (j := i + 1) (by omega)
    have h10 : rs es (loc es cyc t).1 1 = (ent es (loc es cyc t).1 0).2 := by simp [rs]
    have h11 : ent es (loc es cyc t).1 0 = es[(loc es cyc t).1] := by rw [ent_zero hG]; simp [h]
    rw [h11] at h10
    unfold big
    omega

end Go.Gt

/-
  Gate lists in plain mathematics, part 3: where the entries that follow begin.
-/
namespace Go.Gt
open Go Go.Eng

theorem wrap_prefix {es : Ents} {k : Nat} (hk : k < es.length) : ∀ i, i ≤ es.length → sumL (es.take k) + rs es k i = sumL (es.take ((k + i) % es.length)) + (if es.length ≤ k + i then sumL es else 0) := by
  intro i
  induction i with
  | zero =>
    intro _
    rw [Nat.add_zero, Nat.mod_eq_of_lt hk, if_neg (by omega)]
    simp [rs]
  | succ i ih =>
    intro hi
    have h1 := ih (by omega)
    have hpos : 0 < es.length := by omega
    have hm := Nat.mod_lt (k + i) hpos
    simp only [rs]
    rw [← Int.add_assoc, h1, ent_get k i hpos]
    by_cases hw : es.length ≤ k + i
    · -- past the end already
      have e1 : (k + i) % es.length = k + i - es.length := by rw [Nat.mod_eq_sub_mod hw, Nat.mod_eq_of_lt (by omega)]
      have e2 : (k + (i + 1)) % es.length = k + i - es.length + 1 := by rw [Nat.mod_eq_sub_mod (by omega), Nat.mod_eq_of_lt (by omega)]; omega
      rw [if_pos hw, if_pos (by omega), e2]
      have := sumL_take_succ es (k + i - es.length) (by omega)
      simp only [e1] at hm ⊢
      omega
    · have e1 : (k + i) % es.length = k + i := Nat.mod_eq_of_lt (by omega)
      have h2 := sumL_take_succ es (k + i) (by omega)
      simp only [e1]
      rw [if_neg hw]
      by_cases hn : k + i + 1 = es.length
      · have e2 : (k + (i + 1)) % es.length = 0 := by rw [show k + (i + 1) = es.length by omega]; exact Nat.mod_self _
        rw [e2, if_pos (by omega), sumL_zero]
        rw [hn, List.take_length] at h2
        omega
      · have e2 : (k + (i + 1)) % es.length = k + i + 1 := Nat.mod_eq_of_lt (by omega)
        rw [e2, if_neg (by omega)]
        omega

theorem locate_prefix {es : Ents} (ha : es.all okE = true) {m : Nat} (hm : m < es.length) : locate es (sumL (es.take m)) = (m, 0) := by
  have h := locate_of (es := es) (x := sumL (es.take m)) hm (fun j hj hjm => by
    have h1 := sumL_take_succ es j hj
    have h2 : sumL (es.take (j + 1)) ≤ sumL (es.take m) := by
      have : es.take (j + 1) = (es.take m).take (j + 1) := by rw [List.take_take, Nat.min_eq_left (by omega)]
      rw [this]
      exact (sumL_take_le (es := es.take m) (by rw [List.all_eq_true] at ha ⊢; exact fun x hx => ha x (List.mem_of_mem_take hx)) (j + 1)).2
    omega) (by have := okE_get ha hm; omega)
  rw [h]; simp

theorem beg_mod {es : Ents} {cyc : Int} (hG : okG es cyc = true) (t : Int) {i : Nat} (hi : i ≤ es.length) : beg es cyc t i % cyc = sumL (es.take (((loc es cyc t).1 + i) % es.length)) := by
  obtain ⟨h1, h2, ha, hs, _, hc⟩ := okG_parts hG
  obtain ⟨h, h3, h4, h5⟩ := loc_spec hG t
  have hw := wrap_prefix h i hi
  have hpos : 0 < es.length := by omega
  have hm := Nat.mod_lt ((loc es cyc t).1 + i) hpos
  have hlt : sumL (es.take (((loc es cyc t).1 + i) % es.length)) < cyc := by
    have := sumL_take_succ es _ hm
    have := (sumL_take_le ha ((((loc es cyc t).1 + i) % es.length) + 1)).2
    have := okE_get ha hm
    omega
  have h0 := (sumL_take_le ha (((loc es cyc t).1 + i) % es.length)).1
  have hq := Int.mul_ediv_add_emod t cyc
  have e : beg es cyc t i = sumL (es.take (((loc es cyc t).1 + i) % es.length)) + cyc * (t / cyc + if es.length ≤ (loc es cyc t).1 + i then 1 else 0) := by
    unfold beg
    rw [Int.mul_add]
    split at hw <;> rename_i hh <;> simp only [hh, if_true, if_false, Int.mul_one, Int.mul_zero] <;> omega
  rw [e, Int.add_mul_emod_self_left, Int.emod_eq_of_lt h0 hlt]

theorem loc_beg {es : Ents} {cyc : Int} (hG : okG es cyc = true) (t : Int) {i : Nat} (hi : i ≤ es.length) : loc es cyc (beg es cyc t i) = (((loc es cyc t).1 + i) % es.length, 0) := by
  obtain ⟨h1, h2, ha, hs, _, hc⟩ := okG_parts hG
  rw [loc, beg_mod hG t hi]
  exact locate_prefix ha (Nat.mod_lt _ h1)

theorem state_beg {es : Ents} {cyc : Int} (hG : okG es cyc = true) (t : Int) {i : Nat} (hi : i ≤ es.length) : stateE es cyc (beg es cyc t i) = (ent es (loc es cyc t).1 i).1 := by
  rw [stateE, loc_beg hG t hi]; rfl

theorem ent_full (es : Ents) (k : Nat) : ent es k es.length = ent es k 0 := by
  simp [ent]

/-- The reference's search: by the state behind each entry. -/
theorem turnE_ref {es : Ents} {cyc : Int} (hG : okG es cyc = true) (t : Int) :
    turnE es cyc t = (firstN (fun i => stateE es cyc (beg es cyc t (i + 1)) != (es.getD (loc es cyc t).1 (0, 0)).1) 0 es.length).map fun i => beg es cyc t (i + 1) := by
  have h1 := (okG_parts hG).1
  have hst : ∀ i, i < es.length → (stateE es cyc (beg es cyc t (i + 1)) != (es.getD (loc es cyc t).1 (0, 0)).1) = ((ent es (loc es cyc t).1 (i + 1)).1 != (ent es (loc es cyc t).1 0).1) := fun i hi => by
    rw [state_beg hG t (by omega), ent_zero hG]
  unfold turnE
  cases h : firstN (fun i => (ent es (loc es cyc t).1 i).1 != (ent es (loc es cyc t).1 0).1) 0 es.length with
  | none =>
    have hn := firstN_none.1 h
    rw [firstN_no]
    · rfl
    · intro j hj
      rw [hst j hj]
      by_cases e : j + 1 = es.length
      · rw [e, ent_full]; simp
      · exact hn (j + 1) (Nat.zero_le _) (by omega)
  | some m =>
    obtain ⟨_, h2, h3, h4⟩ := firstN_some.1 h
    cases m with
    | zero => simp at h3
    | succ m =>
      rw [firstN_of (m := m) (by omega)]
      · rfl
      · rw [hst m (by omega)]; exact h3
      · intro j hj
        rw [hst j (by omega)]
        exact h4 (j + 1) (Nat.zero_le _) (by omega)
end Go.Gt

/-
  Gate lists in plain mathematics, part 4: bits, and what the searches find.
-/
namespace Go.Gt
open Go Go.Eng

theorem bitE_tmod {m k : Int} (hm : 0 ≤ m ∧ m ≤ 255) (hk : 0 ≤ k ∧ k ≤ 7) : ((m.fdiv (2 ^ (min k.toNat 64))).tmod 2 == 1) = bitE m k := by
  rw [bit_shift ⟨hk.1, by omega⟩, Int.tmod_eq_emod_of_nonneg (Int.ediv_nonneg hm.1 (Int.le_of_lt (Int.pow_pos (by decide))))]
  rfl
theorem bitE_and {m k : Int} (hm : 0 ≤ m ∧ m ≤ 255) (hk : 0 ≤ k ∧ k ≤ 7) : bitsOf .and .i64 (m.fdiv (2 ^ (min k.toNat 64))) 1 = 0 ↔ bitE m k = false := by
  have h0 : 0 ≤ m / 2 ^ k.toNat := Int.ediv_nonneg hm.1 (Int.le_of_lt (Int.pow_pos (by decide)))
  have h1 : m / 2 ^ k.toNat ≤ m := Int.ediv_le_self _ hm.1
  rw [bit_shift ⟨hk.1, by omega⟩, and1 ⟨h0, by omega⟩]
  unfold bitE
  rw [beq_eq_false_iff_ne]
  omega

/-- Where entry number i begins, the first counted from the time itself. -/
def fst0 (es : Ents) (cyc t : Int) (i : Nat) : Int := if i = 0 then t else beg es cyc t i
theorem fst0_zero (es : Ents) (cyc t : Int) : fst0 es cyc t 0 = t := rfl
theorem fst0_succ (es : Ents) (cyc t : Int) (i : Nat) : fst0 es cyc t (i + 1) = beg es cyc t (i + 1) := by simp [fst0]
theorem beg_succ (es : Ents) (cyc t : Int) (i : Nat) : beg es cyc t (i + 1) = beg es cyc t i + (ent es (loc es cyc t).1 i).2 := by simp only [beg, rs]; omega

theorem spanE_all {es : Ents} {cyc cl t : Int} (h : ∀ j, j < es.length → bitE (ent es (loc es cyc t).1 j).1 cl = true) : spanE es cyc cl t = big := by
  unfold spanE
  rw [firstN_no fun j hj => by rw [h j hj]; rfl]
theorem spanE_at {es : Ents} {cyc cl t : Int} {i : Nat} (hi : i < es.length) (h : ∀ j, j < i → bitE (ent es (loc es cyc t).1 j).1 cl = true) (h1 : bitE (ent es (loc es cyc t).1 i).1 cl = false) : spanE es cyc cl t = fst0 es cyc t i - t := by
  unfold spanE
  rw [firstN_of (m := i) hi (by rw [h1]; rfl) fun j hj => by rw [h j hj]; rfl]
  cases i with
  | zero => simp [fst0]
  | succ i => rw [fst0_succ]; simp only [beg]; omega

theorem fitE_now {es : Ents} {cyc cl t lg : Int} (h : lg ≤ spanE es cyc cl t) : fitE es cyc cl t lg = some t := by rw [fitE, if_pos h]
theorem fitE_none {es : Ents} {cyc cl t lg : Int} (h : ¬ lg ≤ spanE es cyc cl t) (h1 : ∀ j, j < es.length → ¬ lg ≤ spanE es cyc cl (beg es cyc t (j + 1))) : fitE es cyc cl t lg = none := by
  rw [fitE, if_neg h, firstN_no fun j hj => by simpa using h1 j hj]
theorem fitE_at {es : Ents} {cyc cl t lg : Int} {i : Nat} (hi : i < es.length) (h : ¬ lg ≤ spanE es cyc cl t) (h1 : ∀ j, j < i → ¬ lg ≤ spanE es cyc cl (beg es cyc t (j + 1))) (h2 : lg ≤ spanE es cyc cl (beg es cyc t (i + 1))) : fitE es cyc cl t lg = some (beg es cyc t (i + 1)) := by
  rw [fitE, if_neg h, firstN_of (m := i) hi (by simpa using h2) fun j hj => by simpa using h1 j hj]

theorem turnE_none {es : Ents} {cyc t : Int} (h : ∀ j, j < es.length → (ent es (loc es cyc t).1 j).1 = (ent es (loc es cyc t).1 0).1) : turnE es cyc t = none := by
  rw [turnE, firstN_no fun j hj => by simp [h j hj]]
theorem turnE_at {es : Ents} {cyc t : Int} {i : Nat} (hi : i < es.length) (h : ∀ j, j < i → (ent es (loc es cyc t).1 j).1 = (ent es (loc es cyc t).1 0).1) (h1 : (ent es (loc es cyc t).1 i).1 ≠ (ent es (loc es cyc t).1 0).1) : turnE es cyc t = some (beg es cyc t i) := by
  rw [turnE, firstN_of (m := i) hi (by simpa using h1) fun j hj => by simp [h j hj]]
theorem turnR_none {es : Ents} {cyc t : Int} (hG : okG es cyc = true) (h : ∀ j, j < es.length → stateE es cyc (beg es cyc t (j + 1)) = (es.getD (loc es cyc t).1 (0, 0)).1) : turnE es cyc t = none := by
  rw [turnE_ref hG, firstN_no fun j hj => by simpa using h j hj]; rfl
theorem turnR_at {es : Ents} {cyc t : Int} {i : Nat} (hG : okG es cyc = true) (hi : i < es.length) (h : ∀ j, j < i → stateE es cyc (beg es cyc t (j + 1)) = (es.getD (loc es cyc t).1 (0, 0)).1) (h1 : stateE es cyc (beg es cyc t (i + 1)) ≠ (es.getD (loc es cyc t).1 (0, 0)).1) : turnE es cyc t = some (beg es cyc t (i + 1)) := by
  rw [turnE_ref hG, firstN_of (m := i) hi (by simpa using h1) fun j hj => by simpa using h j hj]; rfl
theorem span_max {es : Ents} {cyc : Int} (hG : okG es cyc = true) (t : Int) (i : Nat) : max (rs es (loc es cyc t).1 i - (loc es cyc t).2) 0 = fst0 es cyc t i - t := by
  obtain ⟨h1, _, ha, _⟩ := okG_parts hG
  obtain ⟨h, h7, h8, _⟩ := loc_spec hG t
  cases i with
  | zero => simp [rs, fst0]; omega
  | succ i =>
    have h9 := rs_mono ha h1 (loc es cyc t).1 (i := 1) (j := i + 1) (by omega)
    have h10 : rs es (loc es cyc t).1 1 = (ent es (loc es cyc t).1 0).2 := by simp [rs]
    have h11 : ent es (loc es cyc t).1 0 = es[(loc es cyc t).1] := by rw [ent_zero hG]; simp [h]
    rw [h11] at h10
    rw [fst0_succ]; unfold beg; omega
/-- Answers of the exported functions. -/
def maskA (es : Ents) (cyc t : Int) : Int × Int := if errG es cyc 0 t 0 = 0 then (stateE es cyc t, 0) else (0, errG es cyc 0 t 0)
def openA (es : Ents) (cyc cl t : Int) : Int × Int := if errG es cyc cl t 0 = 0 then (spanE es cyc cl t, 0) else (0, errG es cyc cl t 0)
def fitsA (es : Ents) (cyc cl t lg : Int) : Bool × Int := if errG es cyc cl t lg = 0 then (decide (lg ≤ spanE es cyc cl t), 0) else (false, errG es cyc cl t lg)
def orErr : Option Int → Int × Int
  | some x => (x, 0)
  | none => (0, 4)
def fitA (es : Ents) (cyc cl t lg : Int) : Int × Int := if errG es cyc cl t lg = 0 then orErr (fitE es cyc cl t lg) else (0, errG es cyc cl t lg)
def turnA (es : Ents) (cyc t : Int) : Int × Int := if errG es cyc 0 t 0 = 0 then orErr (turnE es cyc t) else (0, errG es cyc 0 t 0)
/-- .. as the laws' helpers hand them on. -/
def maskH (es : Ents) (cyc t : Int) : Int := if (maskA es cyc t).2 ≠ 0 then -1 else (maskA es cyc t).1
def openH (es : Ents) (cyc cl t : Int) : Int := if (openA es cyc cl t).2 ≠ 0 then -1 else (openA es cyc cl t).1
def fitsH (es : Ents) (cyc cl t lg : Int) : Bool := (fitsA es cyc cl t lg).1 && (fitsA es cyc cl t lg).2 == 0
def fitH (es : Ents) (cyc cl t lg : Int) : Int := if (fitA es cyc cl t lg).2 ≠ 0 then -1 else (fitA es cyc cl t lg).1
end Go.Gt

/-
  Gate lists in plain mathematics, part 6: tick by tick.
-/
namespace Go.Gt
open Go Go.Eng

theorem locate_in {es : Ents} (ha : es.all okE = true) {m : Nat} (hm : m < es.length) {d : Int} (h0 : 0 ≤ d) (h1 : d < (es[m]).2) : locate es (sumL (es.take m) + d) = (m, d) := by
  have h := locate_of (es := es) (x := sumL (es.take m) + d) hm (fun j hj hjm => by
    have h1 := sumL_take_succ es j hj
    have h2 : sumL (es.take (j + 1)) ≤ sumL (es.take m) := by
      have : es.take (j + 1) = (es.take m).take (j + 1) := by rw [List.take_take, Nat.min_eq_left (by omega)]
      rw [this]
      exact (sumL_take_le (es := es.take m) (by rw [List.all_eq_true] at ha ⊢; exact fun x hx => ha x (List.mem_of_mem_take hx)) (j + 1)).2
    omega) (by omega)
  rw [h]
  simp only [Prod.mk.injEq]
  exact ⟨trivial, by omega⟩

variable {es : Ents} {cyc : Int}

theorem loc_in (hG : okG es cyc = true) (t : Int) {i : Nat} (hi : i ≤ es.length) {d : Int} (h0 : 0 ≤ d) (h1 : d < (ent es (loc es cyc t).1 i).2) : loc es cyc (beg es cyc t i + d) = (((loc es cyc t).1 + i) % es.length, d) := by
  obtain ⟨hl, _, ha, hs, _, hc⟩ := okG_parts hG
  have hm := Nat.mod_lt ((loc es cyc t).1 + i) hl
  have hb := beg_mod hG t hi
  rw [ent_get _ _ hl] at h1
  have h2 := sumL_take_succ es _ hm
  have h3 := (sumL_take_le ha ((((loc es cyc t).1 + i) % es.length) + 1)).2
  have h4 := (sumL_take_le ha (((loc es cyc t).1 + i) % es.length)).1
  have e : (beg es cyc t i + d) % cyc = sumL (es.take (((loc es cyc t).1 + i) % es.length)) + d := by
    rw [← Int.emod_add_emod, hb, Int.emod_eq_of_lt (by omega) (by omega)]
  rw [loc, e]
  exact locate_in ha hm h0 h1
theorem state_in (hG : okG es cyc = true) (t : Int) {i : Nat} (hi : i ≤ es.length) {d : Int} (h0 : 0 ≤ d) (h1 : d < (ent es (loc es cyc t).1 i).2) : stateE es cyc (beg es cyc t i + d) = (ent es (loc es cyc t).1 i).1 := by
  rw [stateE, loc_in hG t hi h0 h1]; rfl

theorem beg_full (hG : okG es cyc = true) (t : Int) : beg es cyc t es.length = t - (loc es cyc t).2 + cyc := by
  obtain ⟨h, h3, h4, h5⟩ := loc_spec hG t
  obtain ⟨_, _, _, hs, _, _⟩ := okG_parts hG
  have hw := wrap_prefix h es.length (Nat.le_refl _)
  rw [if_pos (by omega), Nat.add_mod_right, Nat.mod_eq_of_lt h, hs] at hw
  unfold beg; omega
theorem beg_zero (t : Int) : beg es cyc t 0 = t - (loc es cyc t).2 := by simp [beg, rs]
theorem ent0_pos (hG : okG es cyc = true) (t : Int) : (loc es cyc t).2 < (ent es (loc es cyc t).1 0).2 := by
  obtain ⟨h, h3, h4, _⟩ := loc_spec hG t
  rw [ent_zero hG]; simpa [h] using h4
theorem beg_more (hG : okG es cyc = true) (t : Int) : t + cyc < beg es cyc t (es.length + 1) := by
  have h1 := beg_full hG t
  have h2 := beg_succ es cyc t es.length
  have h3 := ent0_pos hG t
  rw [ent_full] at h2
  omega
theorem beg_mono (hG : okG es cyc = true) (t : Int) {i j : Nat} (h : i ≤ j) : beg es cyc t i ≤ beg es cyc t j := by
  obtain ⟨h1, _, ha, _⟩ := okG_parts hG
  have := rs_mono ha h1 (loc es cyc t).1 h
  unfold beg; omega
theorem beg_one (hG : okG es cyc = true) (t : Int) : t < beg es cyc t 1 := by
  have h2 := beg_succ es cyc t 0
  have h3 := ent0_pos hG t
  rw [beg_zero] at h2
  rw [h2]; omega

/-- Every time lies in an entry. -/
theorem cover (hG : okG es cyc = true) (t : Int) {x : Int} (h0 : t ≤ x) : ∀ n, x < beg es cyc t n → ∃ i, i < n ∧ beg es cyc t i ≤ x ∧ x < beg es cyc t (i + 1)
  | 0, h => by rw [beg_zero] at h; have := loc_bounds hG t; omega
  | n + 1, h => by
    by_cases hx : x < beg es cyc t n
    · obtain ⟨i, h1, h2⟩ := cover hG t h0 n hx
      exact ⟨i, by omega, h2⟩
    · exact ⟨n, by omega, by omega, h⟩
theorem state_cover (hG : okG es cyc = true) (t : Int) {x : Int} {i : Nat} (hi : i ≤ es.length) (h1 : beg es cyc t i ≤ x) (h2 : x < beg es cyc t (i + 1)) : stateE es cyc x = (ent es (loc es cyc t).1 i).1 := by
  have h3 := beg_succ es cyc t i
  have := state_in hG t hi (d := x - beg es cyc t i) (by omega) (by omega)
  rwa [show beg es cyc t i + (x - beg es cyc t i) = x by omega] at this
theorem state_now (hG : okG es cyc = true) (t : Int) : stateE es cyc t = (ent es (loc es cyc t).1 0).1 :=
  state_cover hG t (Nat.zero_le _) (by rw [beg_zero]; have := loc_bounds hG t; omega) (beg_one hG t)

/-- A class is open at a time. -/
def isO (es : Ents) (cyc cl x : Int) : Bool := bitE (stateE es cyc x) cl

theorem loc_per (t : Int) : loc es cyc (t + cyc) = loc es cyc t := by rw [loc, loc, Int.add_emod_right]
theorem state_per (t : Int) : stateE es cyc (t + cyc) = stateE es cyc t := by rw [stateE, stateE, loc_per]
theorem span_per (cl t : Int) : spanE es cyc cl (t + cyc) = spanE es cyc cl t := by unfold spanE; rw [loc_per]
theorem beg_per (t : Int) (i : Nat) : beg es cyc (t + cyc) i = beg es cyc t i + cyc := by unfold beg; rw [loc_per]; omega

theorem span_cases (_hG : okG es cyc = true) (cl t : Int) : (spanE es cyc cl t = big ∧ ∀ j, j < es.length → bitE (ent es (loc es cyc t).1 j).1 cl = true) ∨
    ∃ i, i < es.length ∧ spanE es cyc cl t = fst0 es cyc t i - t ∧ bitE (ent es (loc es cyc t).1 i).1 cl = false ∧ ∀ j, j < i → bitE (ent es (loc es cyc t).1 j).1 cl = true := by
  cases h : firstN (fun i => !bitE (ent es (loc es cyc t).1 i).1 cl) 0 es.length with
  | none =>
    have hn := firstN_none.1 h
    have hall : ∀ j, j < es.length → bitE (ent es (loc es cyc t).1 j).1 cl = true := fun j hj => by simpa using hn j (Nat.zero_le _) (by omega)
    exact .inl ⟨spanE_all hall, hall⟩
  | some m =>
    obtain ⟨_, h2, h3, h4⟩ := firstN_some.1 h
    have hf : bitE (ent es (loc es cyc t).1 m).1 cl = false := by simpa using h3
    have hb : ∀ j, j < m → bitE (ent es (loc es cyc t).1 j).1 cl = true := fun j hj => by simpa using h4 j (Nat.zero_le _) hj
    exact .inr ⟨m, by omega, spanE_at (by omega) hb hf, hf, hb⟩

/-- All through the span the class is open. -/
theorem span_in (hG : okG es cyc = true) (cl t : Int) {j : Int} (h0 : 0 ≤ j) (h1 : j < spanE es cyc cl t) (h2 : j < cyc) : isO es cyc cl (t + j) = true := by
  have hm := beg_more hG t
  obtain ⟨i, hi, h3, h4⟩ := cover hG t (x := t + j) (by omega) (es.length + 1) (by omega)
  rw [isO, state_cover hG t (by omega) h3 h4]
  rcases span_cases hG cl t with ⟨_, hall⟩ | ⟨m, hm, hs, _, hall⟩
  · by_cases e : i = es.length
    · rw [e, ent_full]; exact hall 0 (okG_parts hG).1
    · exact hall i (by omega)
  · refine hall i ?_
    rcases Nat.lt_or_ge i m with h | h
    · exact h
    · exfalso
      have := beg_mono hG t h
      unfold fst0 at hs
      split at hs <;> omega
/-- At its end it is closed. -/
theorem span_end (hG : okG es cyc = true) (cl t : Int) (h : spanE es cyc cl t < big) : spanE es cyc cl t < cyc ∧ isO es cyc cl (t + spanE es cyc cl t) = false := by
  obtain ⟨hl, _, ha, _, _, hc⟩ := okG_parts hG
  rcases span_cases hG cl t with ⟨hs, _⟩ | ⟨m, hm, hs, hf, _⟩
  · omega
  · have hy := loc_bounds hG t
    have hfull := beg_full hG t
    rw [hs, show t + (fst0 es cyc t m - t) = fst0 es cyc t m by omega]
    unfold fst0
    split
    · rename_i e
      subst e
      exact ⟨by omega, by rw [isO, state_now hG]; exact hf⟩
    · have h2 := beg_mono hG t (show m + 1 ≤ es.length by omega)
      have h3 := beg_succ es cyc t m
      have h4 := ent_ok ha hl (loc es cyc t).1 m
      refine ⟨by omega, ?_⟩
      rw [isO, state_beg hG t (by omega)]; exact hf
theorem span_is (hG : okG es cyc = true) (cl t : Int) {n : Int} (h0 : 0 ≤ n) (h1 : n < cyc) (h2 : ∀ j, 0 ≤ j → j < n → isO es cyc cl (t + j) = true) (h3 : isO es cyc cl (t + n) = false) : spanE es cyc cl t = n := by
  have hb := spanE_bounds hG cl t
  obtain ⟨_, _, _, _, hc9, _⟩ := okG_parts hG
  rcases Int.lt_trichotomy (spanE es cyc cl t) n with h | h | h
  · have := (span_end hG cl t (by unfold big; omega)).2
    rw [h2 _ hb.1 h] at this; cases this
  · exact h
  · have := span_in hG cl t h0 h h1
    rw [h3] at this; cases this
theorem span_big (hG : okG es cyc = true) (cl t : Int) (h2 : ∀ j, 0 ≤ j → j < cyc → isO es cyc cl (t + j) = true) : spanE es cyc cl t = big := by
  have hb := spanE_bounds hG cl t
  by_cases h : spanE es cyc cl t < big
  · obtain ⟨h3, h4⟩ := span_end hG cl t h
    rw [h2 _ hb.1 h3] at h4; cases h4
  · omega

/-- Later in an entry it stays open no longer. -/
theorem span_later (hG : okG es cyc = true) (cl : Int) {a x : Int} (h0 : a ≤ x) (h : ∀ j, a ≤ j → j ≤ x → isO es cyc cl j = isO es cyc cl a) : spanE es cyc cl x ≤ spanE es cyc cl a := by
  obtain ⟨_, _, _, _, hc9, hc⟩ := okG_parts hG
  have hba := spanE_bounds hG cl a
  have hbx := spanE_bounds hG cl x
  cases hx : isO es cyc cl x with
  | false =>
    have := span_is hG cl x (Int.le_refl 0) (by omega) (fun j h1 h2 => by omega) (by rw [Int.add_zero]; exact hx)
    omega
  | true =>
    by_cases hs : spanE es cyc cl a < big
    · obtain ⟨h3, h4⟩ := span_end hG cl a hs
      have ha : isO es cyc cl a = true := by rw [← h x h0 (Int.le_refl _)]; exact hx
      have h5 : x - a < spanE es cyc cl a := by
        by_cases h5 : x - a < spanE es cyc cl a
        · exact h5
        · rw [h _ (by omega) (by omega), ha] at h4; cases h4
      have := span_is hG cl x (n := spanE es cyc cl a - (x - a)) (by omega) (by omega) (fun j g1 g2 => by
        rw [show x + j = a + ((x - a) + j) by omega]
        exact span_in hG cl a (by omega) (by omega) (by omega)) (by rw [show x + (spanE es cyc cl a - (x - a)) = a + spanE es cyc cl a by omega]; exact h4)
      omega
    · omega

theorem span_none (hG : okG es cyc = true) (cl t lg : Int) {m : Nat} (hm : m ≤ es.length) (h0 : ¬ lg ≤ spanE es cyc cl t) (h : ∀ j, j < m → ¬ lg ≤ spanE es cyc cl (beg es cyc t (j + 1))) {x : Int} (h1 : t ≤ x) (h2 : x < beg es cyc t (m + 1)) : ¬ lg ≤ spanE es cyc cl x := by
  obtain ⟨i, hi, h3, h4⟩ := cover hG t h1 (m + 1) h2
  obtain ⟨hl, _, ha, hs, _, hc⟩ := okG_parts hG
  have hx := state_cover hG t (by omega) h3 h4
  have hy := loc_bounds hG t
  cases i with
  | zero =>
    rw [beg_zero] at h3
    rw [Nat.zero_add] at h4
    have := span_later hG cl h1 fun j g1 g2 => by
      rw [isO, isO, state_cover hG t (i := 0) (by omega) (by rw [beg_zero]; omega) (show j < beg es cyc t 1 by omega), state_now hG]
    omega
  | succ i =>
    have := span_later hG cl h3 fun j g1 g2 => by
      rw [isO, isO, state_cover hG t (i := i + 1) (by omega) g1 (by omega), state_cover hG t (i := i + 1) (by omega) (Int.le_refl _) (by omega)]
    have := h i (by omega)
    omega

/-- What Fit finds is the least. -/
theorem fit_some (hG : okG es cyc = true) {cl t lg a : Int} (h : fitE es cyc cl t lg = some a) : t ≤ a ∧ a < t + 2 * cyc ∧ lg ≤ spanE es cyc cl a ∧ ∀ x, t ≤ x → x < a → ¬ lg ≤ spanE es cyc cl x := by
  obtain ⟨hl, _, ha, hs, _, hc⟩ := okG_parts hG
  unfold fitE at h
  split at h
  · rename_i h0
    cases h
    exact ⟨Int.le_refl _, by omega, h0, fun x g1 g2 => by omega⟩
  · rename_i h0
    split at h
    · cases h
    · rename_i i hi
      cases h
      obtain ⟨_, h2, h3, h4⟩ := firstN_some.1 hi
      have h5 := beg_mono hG t (show i + 1 ≤ es.length by omega)
      have h6 := beg_full hG t
      have h7 := beg_mono hG t (show 1 ≤ i + 1 by omega)
      have h8 := beg_one hG t
      have h9 := loc_bounds hG t
      exact ⟨by omega, by omega, by simpa using h3, fun x g1 g2 => span_none hG cl t lg (m := i) (by omega) h0 (fun j hj => by simpa using h4 j (Nat.zero_le _) hj) g1 g2⟩
theorem fit_none (hG : okG es cyc = true) {cl t lg : Int} (h : fitE es cyc cl t lg = none) : ∀ x, t ≤ x → x < t + 2 * cyc → ¬ lg ≤ spanE es cyc cl x := by
  unfold fitE at h
  split at h
  · cases h
  · rename_i h0
    split at h
    · rename_i hi
      have hn := firstN_none.1 hi
      have hm := beg_more hG t
      have key : ∀ x, t ≤ x → x < t + cyc → ¬ lg ≤ spanE es cyc cl x := fun x g1 g2 => span_none hG cl t lg (m := es.length) (Nat.le_refl _) h0 (fun j hj => by simpa using hn j (Nat.zero_le _) (by omega)) g1 (by omega)
      intro x g1 g2
      by_cases hx : x < t + cyc
      · exact key x g1 hx
      · have := key (x - cyc) (by omega) (by omega)
        rwa [← span_per, show x - cyc + cyc = x by omega] at this
    · cases h
theorem fit_per (cl t lg : Int) : fitE es cyc cl (t + cyc) lg = (fitE es cyc cl t lg).map (· + cyc) := by
  unfold fitE
  rw [span_per]
  have e : (fun i => decide (lg ≤ spanE es cyc cl (beg es cyc (t + cyc) (i + 1)))) = fun i => decide (lg ≤ spanE es cyc cl (beg es cyc t (i + 1))) := by
    funext i; rw [beg_per, span_per]
  rw [e]
  split
  · rfl
  · cases firstN (fun i => decide (lg ≤ spanE es cyc cl (beg es cyc t (i + 1)))) 0 es.length with
    | none => rfl
    | some i => simp [beg_per]

/-- What Turn finds. -/
theorem turn_some (hG : okG es cyc = true) {t a : Int} (h : turnE es cyc t = some a) : t < a ∧ a ≤ t + cyc ∧ stateE es cyc a ≠ stateE es cyc t ∧ ∀ x, t ≤ x → x < a → stateE es cyc x = stateE es cyc t := by
  unfold turnE at h
  split at h
  · cases h
  · rename_i i hi
    cases h
    obtain ⟨_, h2, h3, h4⟩ := firstN_some.1 hi
    have hn : i ≠ 0 := fun e => by subst e; simp at h3
    have h5 := beg_mono hG t (show i ≤ es.length by omega)
    have h6 := beg_full hG t
    have h7 := beg_mono hG t (show 1 ≤ i by omega)
    have h8 := beg_one hG t
    have h9 := loc_bounds hG t
    refine ⟨by omega, by omega, ?_, fun x g1 g2 => ?_⟩
    · rw [state_beg hG t (by omega), state_now hG]; simpa using h3
    · obtain ⟨j, hj, k1, k2⟩ := cover hG t g1 i g2
      rw [state_cover hG t (by omega) k1 k2, state_now hG]
      simpa using h4 j (Nat.zero_le _) hj
theorem turn_none (hG : okG es cyc = true) {t : Int} (h : turnE es cyc t = none) : ∀ x, t ≤ x → x < t + cyc → stateE es cyc x = stateE es cyc t := by
  unfold turnE at h
  split at h
  · rename_i hi
    have hn := firstN_none.1 hi
    have hm := beg_more hG t
    intro x g1 g2
    obtain ⟨j, hj, k1, k2⟩ := cover hG t g1 (es.length + 1) (by omega)
    rw [state_cover hG t (by omega) k1 k2, state_now hG]
    by_cases e : j = es.length
    · rw [e, ent_full]
    · simpa using hn j (Nat.zero_le _) (by omega)
  · cases h
end Go.Gt

/-
  Lists of entries that are being made.
-/
namespace Go.Proofs.Gt
open Go Go.Eng Go.Gt
def cellsE (es : Ents) : List Value := es.flatMap fun e => [.int .i64 e.1, .int .i64 e.2]
theorem cellsE_len (es : Ents) : (cellsE es).length = es.length * 2 := by
  induction es with
  | nil => rfl
  | cons e r ih => simp [cellsE] at ih ⊢; omega
theorem cellsE_app (a b : Ents) : cellsE (a ++ b) = cellsE a ++ cellsE b := by simp [cellsE]
theorem cellsE_succ (es : Ents) (k : Nat) (h : k < es.length) : cellsE (es.take (k + 1)) = cellsE (es.take k) ++ [.int .i64 es[k].1, .int .i64 es[k].2] := by
  rw [List.take_succ_eq_append_getElem h, cellsE_app]; rfl
theorem cellsE_get : ∀ (es : Ents) (i : Nat) (e : Int × Int), es[i]? = some e → (cellsE es)[i * 2]? = some (.int .i64 e.1) ∧ (cellsE es)[i * 2 + 1]? = some (.int .i64 e.2)
  | [], i, e, h => by simp at h
  | x :: r, 0, e, h => by simp at h; subst h; simp [cellsE]
  | x :: r, i + 1, e, h => by
    have := cellsE_get r i e (by simpa using h)
    have e1 : cellsE (x :: r) = .int .i64 x.1 :: .int .i64 x.2 :: cellsE r := rfl
    rw [e1, show (i + 1) * 2 = i * 2 + 1 + 1 by omega, show i * 2 + 1 + 1 + 1 = (i * 2 + 1) + 1 + 1 by omega]
    simpa using this
theorem cellsE_one (es : Ents) : ∀ u ∈ cellsE es, u.oneCell' = true := by
  intro u hu
  simp only [cellsE, List.mem_flatMap] at hu
  obtain ⟨e, _, h⟩ := hu
  simp at h
  rcases h with rfl | rfl <;> rfl
abbrev rngE (es : Ents) : Prop := ∀ (i : Nat) (h : i < es.length), -9223372036854775808 ≤ es[i].1 ∧ es[i].1 ≤ 9223372036854775807 ∧ -9223372036854775808 ≤ es[i].2 ∧ es[i].2 ≤ 9223372036854775807
/-- Of a list that was made, what is known later. -/
theorem entK_of {es : Ents} {v : Value} {n : Nat} {b : Own} {e : TypeId} (hS : SlO e 2 v n (cellsE es) b) (hr : rngE es) {F' : Know} (hF : ∀ p cs t fr k, (p, Obj.cells cs t fr) ∈ b → ∀ u, cs[k]? = some u → F' ⟨p, k, none⟩ = some u) :
    ∃ A cap, v = .slice A n cap ∧ n ≤ cap ∧ EntK F' A n es := by
  obtain ⟨A, cap, rfl, h1, h2, h3⟩ := hS.later hF
  have hlen := hS.1
  rw [cellsE_len] at hlen
  refine ⟨A, cap, rfl, h1, by omega, fun i e he => ?_, hr⟩
  obtain ⟨h4, h5⟩ := cellsE_get es i e he
  obtain ⟨a, ha, h6⟩ := h3 _ _ h4
  obtain ⟨a', ha', h7⟩ := h3 _ _ h5
  rw [ha] at ha'; cases ha'
  exact ⟨a, ha, h6, h7⟩
/-- The cells of a list that is known. -/
theorem EntK.all {F : Know} {A : Option Addr} {n : Nat} {es : Ents} (h : EntK F A n es) : ∀ j u, (cellsE es)[j]? = Option.some u → ∃ a, A = Option.some a ∧ F (a.add j) = Option.some u := by
  intro j u hj
  have hl : j < es.length * 2 := by rw [← cellsE_len]; exact (List.getElem?_eq_some_iff.1 hj).1
  have hi : j / 2 < es.length := by omega
  obtain ⟨a, ha, h1, h2⟩ := h.at_ (j / 2) es[j / 2] (List.getElem?_eq_getElem hi)
  obtain ⟨h3, h4⟩ := cellsE_get es (j / 2) es[j / 2] (List.getElem?_eq_getElem hi)
  refine ⟨a, ha, ?_⟩
  by_cases e : j % 2 = 0
  · have : j = j / 2 * 2 := by omega
    rw [this] at hj ⊢
    rw [h3] at hj; rw [h1]; exact hj
  · have : j = j / 2 * 2 + 1 := by omega
    rw [this] at hj ⊢
    rw [h4] at hj; rw [h2]; exact hj
/-- One's own list of entries as cells, known later. -/
theorem entK_lit {es : Ents} {F' : Know} {p : Nat} (hr : rngE es) (hF : ∀ k u, (cellsE es)[k]? = some u → F' ⟨p, k, none⟩ = some u) : EntK F' (Option.some ⟨p, 0, none⟩) es.length es := by
  refine ⟨rfl, fun i e he => ⟨_, rfl, ?_, ?_⟩, hr⟩
  · obtain ⟨h4, _⟩ := cellsE_get es i e he
    have := hF _ _ h4
    have hadd : (⟨p, 0, none⟩ : Addr).add (i * 2) = ⟨p, i * 2, none⟩ := by unfold Addr.add; split <;> simp_all
    rw [hadd]; exact this
  · obtain ⟨_, h5⟩ := cellsE_get es i e he
    have := hF _ _ h5
    have hadd : (⟨p, 0, none⟩ : Addr).add (i * 2 + 1) = ⟨p, i * 2 + 1, none⟩ := by unfold Addr.add; split <;> simp_all
    rw [hadd]; exact this
theorem EntK.take {F : Know} {A : Option Addr} {n : Nat} {es : Ents} (h : EntK F A n es) (k : Nat) : EntK F A (min k n) (es.take k) := by
  refine ⟨by rw [List.length_take, ← h.len], fun i e he => h.at_ i e ?_, fun i hi => ?_⟩
  · rw [List.getElem?_take] at he
    split at he
    · exact he
    · cases he
  · rw [List.length_take] at hi
    simpa using h.rng i (by omega)
theorem setE {a b : Int} (rest : List Value) : ∀ (D : Ents) (i : Nat), i < D.length → ∀ (k : List Value → Option (List Value)), setV (i * 2) [.int .i64 a, .int .i64 b] (cellsE D ++ rest) k = k (cellsE (D.set i (a, b)) ++ rest)
  | [], i, h, _ => by simp at h
  | x :: r, 0, _, k => by simp [cellsE, setV]
  | x :: r, i + 1, h, k => by
    have e1 : cellsE (x :: r) = .int .i64 x.1 :: .int .i64 x.2 :: cellsE r := rfl
    have e2 : cellsE ((x :: r).set (i + 1) (a, b)) = .int .i64 x.1 :: .int .i64 x.2 :: cellsE (r.set i (a, b)) := rfl
    rw [e1, e2, show (i + 1) * 2 = i * 2 + 1 + 1 by omega]
    simp only [List.cons_append, setV]
    exact setE rest r i (by simpa using h) _
theorem rngE_set {D : Ents} (h : rngE D) (i : Nat) {a b : Int} (h1 : -9223372036854775808 ≤ a ∧ a ≤ 9223372036854775807) (h2 : -9223372036854775808 ≤ b ∧ b ≤ 9223372036854775807) : rngE (D.set i (a, b)) := fun j hj => by
  rw [List.getElem_set]
  split
  · exact ⟨h1.1, h1.2, h2.1, h2.2⟩
  · exact h j (by simpa using hj)
theorem sumL_abs {es : Ents} (hb : ∀ (i : Nat) (h : i < es.length), -20000000 ≤ es[i].2 ∧ es[i].2 ≤ 20000000) : ∀ k, k ≤ es.length → -20000000 * (k : Int) ≤ sumL (es.take k) ∧ sumL (es.take k) ≤ 20000000 * k
  | 0, _ => by rw [sumL_zero]; omega
  | k + 1, h => by
    have := sumL_abs hb k (by omega)
    have h2 := hb k (by omega)
    rw [sumL_take_succ _ _ (by omega)]; omega
theorem cellsE_rep (n : Nat) : cellsE (List.replicate n (1, 1)) = List.replicate (n * 2) (.int .i64 1) := by
  induction n with
  | zero => rfl
  | succ n ih => rw [List.replicate_succ, show cellsE ((1, 1) :: List.replicate n (1, 1)) = .int .i64 1 :: .int .i64 1 :: cellsE (List.replicate n (1, 1)) from rfl, ih, show (n + 1) * 2 = n * 2 + 1 + 1 by omega, List.replicate_succ, List.replicate_succ]
theorem EntK.nil (F : Know) : EntK F Option.none 0 [] := ⟨rfl, fun i e h => by simp at h, fun i h => by simp at h⟩
theorem rngE_rep (n : Nat) : rngE (List.replicate n (1, 1)) := fun i h => by simp
theorem entK_rep {F' : Know} {p : Nat} {n m : Nat} (hm : m ≤ n) (hF : ∀ k u, (List.replicate (n * 2) (Value.int .i64 1))[k]? = Option.some u → F' ⟨p, k, none⟩ = Option.some u) : EntK F' (Option.some ⟨p, 0, none⟩) (List.replicate m (1, 1) : Ents).length (List.replicate m (1, 1)) :=
  entK_lit (rngE_rep m) fun k u h => by
    rw [cellsE_rep, List.getElem?_replicate] at h
    refine hF k u ?_
    rw [List.getElem?_replicate]
    split at h
    · rw [if_pos (by omega)]; exact h
    · cases h
theorem big_rep (m : Nat) : ∀ (i : Nat) (h : i < (List.replicate m (1, 1) : Ents).length), -20000000 ≤ (List.replicate m (1, 1) : Ents)[i].2 ∧ (List.replicate m (1, 1) : Ents)[i].2 ≤ 20000000 := fun i h => by simp
end Go.Proofs.Gt

/-
  Gate lists in plain mathematics, part 5: the lists that are made of bytes.
-/
namespace Go.Gt
open Go Go.Eng Go.Proofs.Gt
def draftN (ss : List Int) : Nat := max 1 (min ss.length 16)
/-- The list of a draft. -/
def draftE (ss ls : List Int) : Ents := (List.range (draftN ss)).map fun i => (if i < ss.length then ss.getD i 0 else 127, if i < ls.length then 1 + ls.getD i 0 % 20 else 1)
theorem draftE_len (ss ls : List Int) : (draftE ss ls).length = draftN ss := by simp [draftE]
theorem draftE_get (ss ls : List Int) {i : Nat} (h : i < (draftE ss ls).length) : (draftE ss ls)[i] = (if i < ss.length then ss.getD i 0 else 127, if i < ls.length then 1 + ls.getD i 0 % 20 else 1) := by simp [draftE]
abbrev bytesL (l : List Int) : Prop := ∀ (i : Nat) (h : i < l.length), 0 ≤ l[i] ∧ l[i] ≤ 255
theorem draftE_ok {ss ls : List Int} (h1 : bytesL ss) (_h2 : bytesL ls) (i : Nat) (h : i < (draftE ss ls).length) : 0 ≤ (draftE ss ls)[i].1 ∧ (draftE ss ls)[i].1 ≤ 255 ∧ 1 ≤ (draftE ss ls)[i].2 ∧ (draftE ss ls)[i].2 ≤ 20 := by
  rw [draftE_get]
  simp only
  refine ⟨?_, ?_, ?_, ?_⟩
  · split
    · rename_i h3; have := h1 i h3; simp [h3]; omega
    · omega
  · split
    · rename_i h3; have := h1 i h3; simp [h3]; omega
    · omega
  · split <;> omega
  · split <;> omega
theorem draft_all {ss ls : List Int} (h1 : bytesL ss) (h2 : bytesL ls) : (draftE ss ls).all okE = true := by
  rw [List.all_eq_true]
  intro e he
  obtain ⟨i, hi, rfl⟩ := List.getElem_of_mem he
  have := draftE_ok h1 h2 i hi
  simp [okE]; omega
theorem draft_rng {ss ls : List Int} (h1 : bytesL ss) (h2 : bytesL ls) : rngE (draftE ss ls) := fun i h => by have := draftE_ok h1 h2 i h; omega
theorem draft_big {ss ls : List Int} (h1 : bytesL ss) (h2 : bytesL ls) : ∀ (i : Nat) (h : i < (draftE ss ls).length), -20000000 ≤ (draftE ss ls)[i].2 ∧ (draftE ss ls)[i].2 ≤ 20000000 := fun i h => by have := draftE_ok h1 h2 i h; omega
theorem draft_good {ss ls : List Int} (h1 : bytesL ss) (h2 : bytesL ls) : okG (draftE ss ls) (sumL (draftE ss ls)) = true := by
  have hn : draftN ss ≤ 16 ∧ 1 ≤ draftN ss := by unfold draftN; omega
  have hs : sumL (draftE ss ls) ≤ 9600000 := by
    have hl := draftE_len ss ls
    have hb : ∀ k, k ≤ (draftE ss ls).length → sumL ((draftE ss ls).take k) ≤ 20 * k := by
      intro k
      induction k with
      | zero => intro _; rw [sumL_zero]; omega
      | succ k ih =>
        intro hk
        have := ih (by omega)
        have := draftE_ok h1 h2 k (by omega)
        rw [sumL_take_succ _ _ (by omega)]; omega
    have := hb _ (Nat.le_refl _)
    rw [List.take_length] at this
    omega
  exact okG_true (by rw [draftE_len]; omega) (by rw [draftE_len]; omega) (draft_all h1 h2) rfl hs
theorem bad_all {es : Ents} {cyc : Int} (h : okG es cyc = false) (cl t lg : Int) : (maskA es cyc t).2 = 370 ∧ (openA es cyc cl t).2 = 370 ∧ (fitsA es cyc cl t lg).2 = 370 ∧ (fitA es cyc cl t lg).2 = 370 ∧ (turnA es cyc t).2 = 370 := by
  have e : ∀ a b c, errG es cyc a b c = 370 := fun a b c => by unfold errG; rw [h]; rfl
  simp [maskA, openA, fitsA, fitA, turnA, e]
end Go.Gt

/-
  Gate lists in plain mathematics, part 7: what the laws' helpers answer on a right list.
-/
namespace Go.Gt
open Go Go.Eng
variable {es : Ents} {cyc : Int}
theorem errG_ok (hG : okG es cyc = true) {cl t lg : Int} (h1 : 0 ≤ cl ∧ cl ≤ 7) (h2 : -1099511627776 ≤ t ∧ t ≤ 1099511627776) (h3 : 0 ≤ lg ∧ lg ≤ 1099511627776) : errG es cyc cl t lg = 0 := by
  unfold errG
  rw [if_pos hG, if_pos (by simp only [okT, decide_eq_true_eq]; omega)]
theorem maskH_eq (hG : okG es cyc = true) {t : Int} (h2 : -1099511627776 ≤ t ∧ t ≤ 1099511627776) : maskH es cyc t = stateE es cyc t := by
  have := errG_ok hG (cl := 0) (t := t) (lg := 0) (by omega) h2 (by omega)
  simp [maskH, maskA, this]
theorem openH_eq (hG : okG es cyc = true) {cl t : Int} (h1 : 0 ≤ cl ∧ cl ≤ 7) (h2 : -1099511627776 ≤ t ∧ t ≤ 1099511627776) : openH es cyc cl t = spanE es cyc cl t := by
  have := errG_ok hG (cl := cl) (t := t) (lg := 0) h1 h2 (by omega)
  simp [openH, openA, this]
theorem fitsH_eq (hG : okG es cyc = true) {cl t lg : Int} (h1 : 0 ≤ cl ∧ cl ≤ 7) (h2 : -1099511627776 ≤ t ∧ t ≤ 1099511627776) (h3 : 0 ≤ lg ∧ lg ≤ 1099511627776) : fitsH es cyc cl t lg = decide (lg ≤ spanE es cyc cl t) := by
  have := errG_ok hG h1 h2 h3
  simp [fitsH, fitsA, this]
theorem fitA_eq (hG : okG es cyc = true) {cl t lg : Int} (h1 : 0 ≤ cl ∧ cl ≤ 7) (h2 : -1099511627776 ≤ t ∧ t ≤ 1099511627776) (h3 : 0 ≤ lg ∧ lg ≤ 1099511627776) : fitA es cyc cl t lg = orErr (fitE es cyc cl t lg) := by
  have := errG_ok hG h1 h2 h3
  simp [fitA, this]
theorem turnA_eq (hG : okG es cyc = true) {t : Int} (h2 : -1099511627776 ≤ t ∧ t ≤ 1099511627776) : turnA es cyc t = orErr (turnE es cyc t) := by
  have := errG_ok hG (cl := 0) (t := t) (lg := 0) (by omega) h2 (by omega)
  simp [turnA, this]
theorem state_rng (hG : okG es cyc = true) (t : Int) : 0 ≤ stateE es cyc t ∧ stateE es cyc t ≤ 255 := by
  obtain ⟨h, _⟩ := loc_spec hG t
  have := okE_get (okG_parts hG).2.2.1 h
  rw [stateE, List.getD_eq_getElem?_getD, List.getElem?_eq_getElem h]
  exact ⟨this.1, this.2.1⟩
theorem bit_one {m k : Int} (hm : 0 ≤ m ∧ m ≤ 255) (hk : 0 ≤ k ∧ k ≤ 7) : bitsOf .and .i64 (m.fdiv (2 ^ (min k.toNat 64))) 1 = 1 ↔ bitE m k = true := by
  have h0 : 0 ≤ m / 2 ^ k.toNat := Int.ediv_nonneg hm.1 (Int.le_of_lt (Int.pow_pos (by decide)))
  have h1 : m / 2 ^ k.toNat ≤ m := Int.ediv_le_self _ hm.1
  rw [bit_shift ⟨hk.1, by omega⟩, and1 ⟨h0, by omega⟩]
  unfold bitE
  rw [beq_iff_eq]
/-- The count of the law: what it says of Open. -/
theorem count_end (hG : okG es cyc = true) {cl t n : Int} {o : Bool} (h0 : 0 ≤ n) (h1 : n ≤ cyc) (h2 : ∀ j, 0 ≤ j → j < n → isO es cyc cl (t + j) = true) (h3 : o = false → n < cyc ∧ isO es cyc cl (t + n) = false) (h4 : o = true → ¬ n < cyc) :
    (o = true → spanE es cyc cl t = 1099511627776) ∧ (¬ o = true → spanE es cyc cl t = n) := by
  constructor
  · intro h
    have := h4 h
    exact span_big hG cl t fun j g1 g2 => h2 j g1 (by omega)
  · intro h
    have h5 : o = false := by cases o <;> simp_all
    obtain ⟨g1, g2⟩ := h3 h5
    exact span_is hG cl t h0 g1 h2 g2
theorem draft_cyc {ss ls : List Int} (h1 : bytesL ss) (h2 : bytesL ls) : sumL (draftE ss ls) ≤ 320 := by
  have hn : draftN ss ≤ 16 ∧ 1 ≤ draftN ss := by unfold draftN; omega
  have hl := draftE_len ss ls
  have hb : ∀ k, k ≤ (draftE ss ls).length → sumL ((draftE ss ls).take k) ≤ 20 * k := by
    intro k
    induction k with
    | zero => intro _; rw [sumL_zero]; omega
    | succ k ih =>
      intro hk
      have := ih (by omega)
      have := draftE_ok h1 h2 k (by omega)
      rw [sumL_take_succ _ _ (by omega)]; omega
  have := hb _ (Nat.le_refl _)
  rw [List.take_length] at this
  omega
theorem orErr_two {o : Option Int} (h : (orErr o).2 = 4) : o = none := by cases o <;> simp_all [orErr]
theorem orErr_some {o : Option Int} (h : ¬ (orErr o).2 = 4) : ∃ a, o = some a ∧ (orErr o).1 = a ∧ (orErr o).2 = 0 := by cases o <;> simp_all [orErr]
theorem orErr_map (o : Option Int) (c : Int) : (orErr (o.map (· + c))).2 = (orErr o).2 := by cases o <;> rfl
end Go.Gt

/-
  Changes of gate lists, in plain terms.
-/
namespace Go.Sw
open Go Go.Eng Go.Gt Go.Proofs.Gt
/-- A gate list, with the place of its entries. -/
structure Gl where
  A : Option Addr
  n : Nat
  cap : Nat
  es : Ents
  cyc : Int
def glv (g : Gl) : List Value := [.slice g.A g.n g.cap, .int .i64 g.cyc]
theorem glv_len (g : Gl) : (glv g).length = 2 := rfl
abbrev GlK (F : Know) (g : Gl) : Prop := EntK F g.A g.n g.es
def g0 : Gl := ⟨none, 0, 0, [], 0⟩
theorem g0_k (F : Know) : GlK F g0 := EntK.nil F
structure Ch where
  op : Gl
  base : Int
  pe : Bool
  ad : Gl
  wh : Int
def chv (c : Ch) : List Value := [.slice c.op.A c.op.n c.op.cap, .int .i64 c.op.cyc, .int .i64 c.base, .bool c.pe, .slice c.ad.A c.ad.n c.ad.cap, .int .i64 c.ad.cyc, .int .i64 c.wh]
theorem chv_len (c : Ch) : (chv c).length = 7 := rfl
structure ChK (F : Know) (c : Ch) : Prop where
  op : GlK F c.op
  ad : GlK F c.ad
theorem ChK.mono {F F' : Know} {c : Ch} (h : ChK F c) (hF : ∀ a v, F a = some v → F' a = some v) : ChK F' c := ⟨h.op.mono hF, h.ad.mono hF⟩
def c0 : Ch := ⟨g0, 0, false, g0, 0⟩
theorem c0_k (F : Know) : ChK F c0 := ⟨g0_k F, g0_k F⟩
def okTm (t : Int) : Bool := decide (-1099511627776 ≤ t ∧ t ≤ 1099511627776)
def okC (c : Ch) : Bool := okG c.op.es c.op.cyc && okTm c.base && (if c.pe then okG c.ad.es c.ad.cyc && decide (-1099511627776 ≤ c.wh ∧ c.wh ≤ 2199023255552) && decide ((c.wh - c.base) % c.op.cyc = 0) else decide (c.ad.es = [] ∧ c.ad.cyc = 0 ∧ c.wh = 0))
structure OkC (c : Ch) : Prop where
  op : okG c.op.es c.op.cyc = true
  base : -1099511627776 ≤ c.base ∧ c.base ≤ 1099511627776
  ad : c.pe = true → okG c.ad.es c.ad.cyc = true
  wh : -1099511627776 ≤ c.wh ∧ c.wh ≤ 2199023255552
  at_ : c.pe = true → (c.wh - c.base) % c.op.cyc = 0
  no : c.pe = false → c.ad.es = [] ∧ c.ad.cyc = 0 ∧ c.wh = 0
theorem okC_iff {c : Ch} : okC c = true ↔ OkC c := by
  unfold okC okTm
  cases hp : c.pe with
  | true =>
    simp only [Bool.and_eq_true, decide_eq_true_eq, if_true]
    constructor
    · rintro ⟨⟨h1, h2⟩, ⟨h3, h4⟩, h5⟩; exact ⟨h1, h2, fun _ => h3, h4, fun _ => h5, fun h => by rw [hp] at h; cases h⟩
    · intro h; exact ⟨⟨h.op, h.base⟩, ⟨h.ad hp, h.wh⟩, h.at_ hp⟩
  | false =>
    simp only [Bool.and_eq_true, decide_eq_true_eq, Bool.false_eq_true, if_false]
    constructor
    · rintro ⟨⟨h1, h2⟩, h3, h4, h5⟩; exact ⟨h1, h2, (fun h => by rw [hp] at h; cases h), by omega, (fun h => by rw [hp] at h; cases h), fun _ => ⟨h3, h4, h5⟩⟩
    · intro h; exact ⟨⟨h.op, h.base⟩, h.no hp⟩
def checkC (c : Ch) : Int := if okC c then 0 else 390
def newC (g : Gl) (base : Int) : Ch × Int := if okG g.es g.cyc then (if okTm base then (⟨g, base, false, g0, 0⟩, 0) else (c0, 2)) else (c0, 370)
def laterC (c : Ch) (now : Int) : Ch := if c.pe && decide (c.wh ≤ now ∧ c.wh ≤ 1099511627776) then ⟨c.ad, c.wh, false, g0, 0⟩ else c
def advC (c : Ch) (now : Int) : Ch × Int := if okC c then (if okTm now then (laterC c now, 0) else (c0, 2)) else (c0, 390)
def setB (c : Ch) (now : Int) (g : Gl) (base : Int) : Ch := { c with pe := true, ad := g, wh := max now base + (c.base - max now base) % c.op.cyc }
def setC (c : Ch) (now : Int) (g : Gl) (base : Int) : Ch × Int :=
  if okC c then (if okTm now then (if okG g.es g.cyc then (if okTm base then (setB (laterC c now) now g base, 0) else (c0, 2)) else (c0, 370)) else (c0, 2)) else (c0, 390)
/-- The mask at a time. -/
def onAd (c : Ch) (x : Int) : Bool := c.pe && decide (c.wh ≤ x)
def atC (c : Ch) (x : Int) : Int := if onAd c x then stateE c.ad.es c.ad.cyc (x - c.wh) else stateE c.op.es c.op.cyc (x - c.base)
def maskC (c : Ch) (t : Int) : Int × Int := if okC c then (if okTm t then (atC c t, 0) else (0, 2)) else (0, 390)
def glC (c : Ch) (x : Int) : Gl := if onAd c x then c.ad else c.op
def begC (c : Ch) (x : Int) : Int := if onAd c x then c.wh else c.base
def endC (c : Ch) (e x : Int) : Int := if onAd c x then e else if c.pe then min e c.wh else e
/-- Until when the mask at a time is certain. -/
def nextC (c : Ch) (e x : Int) : Int :=
  match turnE (glC c x).es (glC c x).cyc ((x - begC c x) % (glC c x).cyc) with
  | some u => min (endC c e x) (x + u - (x - begC c x) % (glC c x).cyc)
  | none => endC c e x
def stL (c : Ch) (e : Int) : Nat → Int → List Int
  | 0, _ => []
  | k + 1, x => if x < e then atC c x :: stL c e k (nextC c e x) else []
def stW (c : Ch) (e x : Int) : List Int := stL c e (e - x).toNat x
theorem atC_gl (c : Ch) (x : Int) : atC c x = stateE (glC c x).es (glC c x).cyc (x - begC c x) := by
  unfold atC glC begC; split <;> rfl
theorem state_mod (es : Ents) (cyc x : Int) : stateE es cyc (x % cyc) = stateE es cyc x := by
  unfold stateE loc; rw [Int.emod_emod_of_dvd _ (Int.dvd_refl _)]
theorem state_shift (es : Ents) (cyc x k : Int) : stateE es cyc (x + cyc * k) = stateE es cyc x := by
  unfold stateE loc; rw [Int.add_mul_emod_self_left]
theorem OkC.gl {c : Ch} (h : OkC c) (x : Int) : okG (glC c x).es (glC c x).cyc = true := by
  unfold glC
  split
  · rename_i ho; unfold onAd at ho; simp at ho; exact h.ad ho.1
  · exact h.op
theorem OkC.beg {c : Ch} (h : OkC c) (x : Int) : -1099511627776 ≤ begC c x ∧ begC c x ≤ 2199023255552 := by
  unfold begC
  split
  · exact h.wh
  · have := h.base; omega
theorem okG_cyc {es : Ents} {cyc : Int} (h : okG es cyc = true) : 1 ≤ cyc ∧ cyc ≤ 9600000 := by have := okG_parts h; omega
theorem next_facts {c : Ch} (h : OkC c) {e x : Int} (hx : x < e) : x < nextC c e x ∧ nextC c e x ≤ e ∧ ∀ y, x ≤ y → y < nextC c e x → atC c y = atC c x := by
  have hG := h.gl x
  have hc := okG_cyc hG
  obtain ⟨lo, hlo⟩ : ∃ lo, (x - begC c x) % (glC c x).cyc = lo := ⟨_, rfl⟩
  have hlb : 0 ≤ lo ∧ lo < (glC c x).cyc := by rw [← hlo]; exact ⟨Int.emod_nonneg _ (by omega), Int.emod_lt_of_pos _ (by omega)⟩
  have hdm := Int.mul_ediv_add_emod (x - begC c x) (glC c x).cyc
  rw [hlo] at hdm
  have hend : x < endC c e x ∧ endC c e x ≤ e ∧ ∀ y, x ≤ y → y < endC c e x → onAd c y = onAd c x := by
    unfold endC
    cases ho : onAd c x with
    | true =>
      rw [if_pos rfl]
      refine ⟨hx, Int.le_refl _, fun y h1 h2 => ?_⟩
      unfold onAd at ho ⊢; simp at ho ⊢; exact ⟨ho.1, by omega⟩
    | false =>
      rw [if_neg (by simp)]
      unfold onAd at ho
      cases hp : c.pe with
      | true =>
        rw [hp] at ho; simp at ho
        rw [if_pos rfl]
        refine ⟨by omega, by omega, fun y h1 h2 => ?_⟩
        unfold onAd; rw [hp]; simp; omega
      | false =>
        rw [if_neg (by simp)]
        refine ⟨hx, Int.le_refl _, fun y h1 h2 => ?_⟩
        unfold onAd; rw [hp]; simp
  have key : ∀ y, x ≤ y → y < endC c e x → atC c y = stateE (glC c x).es (glC c x).cyc (y - begC c x) := by
    intro y h1 h2
    have ho := hend.2.2 y h1 h2
    rw [atC_gl]
    unfold glC begC
    rw [ho]
  have hsh : ∀ z, stateE (glC c x).es (glC c x).cyc (x - begC c x + z) = stateE (glC c x).es (glC c x).cyc (lo + z) := by
    intro z
    have : x - begC c x + z = lo + z + (glC c x).cyc * ((x - begC c x) / (glC c x).cyc) := by omega
    rw [this, state_shift]
  unfold nextC
  rw [hlo]
  cases ht : turnE (glC c x).es (glC c x).cyc lo with
  | some u =>
    obtain ⟨t1, t2, t3, t4⟩ := turn_some hG ht
    refine ⟨by simp only; omega, by simp only; omega, fun y h1 h2 => ?_⟩
    simp only at h2
    rw [key y h1 (by omega), key x (Int.le_refl _) hend.1]
    have e1 := hsh (y - x)
    have e2 := hsh 0
    rw [show x - begC c x + (y - x) = y - begC c x by omega] at e1
    rw [Int.add_zero, Int.add_zero] at e2
    rw [e1, e2]
    exact t4 (lo + (y - x)) (by omega) (by omega)
  | none =>
    refine ⟨hend.1, hend.2.1, fun y h1 h2 => ?_⟩
    simp only at h2
    rw [key y h1 h2, key x (Int.le_refl _) hend.1]
    have e1 := hsh (y - x)
    have e2 := hsh 0
    rw [show x - begC c x + (y - x) = y - begC c x by omega] at e1
    rw [Int.add_zero, Int.add_zero] at e2
    rw [e1, e2]
    have tn := turn_none hG ht
    -- the time within one cycle
    have hdm2 := Int.mul_ediv_add_emod (y - x) (glC c x).cyc
    have hm := Int.emod_nonneg (y - x) (show (glC c x).cyc ≠ 0 by omega)
    have hm2 := Int.emod_lt_of_pos (y - x) (show 0 < (glC c x).cyc by omega)
    rw [show lo + (y - x) = lo + (y - x) % (glC c x).cyc + (glC c x).cyc * ((y - x) / (glC c x).cyc) by omega, state_shift]
    exact tn _ (by omega) (by omega)
theorem stL_fuel {c : Ch} (h : OkC c) {e : Int} : ∀ (k j : Nat) (x : Int), (e - x).toNat ≤ k → (e - x).toNat ≤ j → stL c e k x = stL c e j x
  | 0, 0, x, _, _ => rfl
  | 0, j + 1, x, h1, _ => by
    have : ¬ x < e := by omega
    simp [stL, this]
  | k + 1, 0, x, _, h1 => by
    have : ¬ x < e := by omega
    simp [stL, this]
  | k + 1, j + 1, x, h1, h2 => by
    by_cases hx : x < e
    · have := next_facts h hx
      simp only [stL, if_pos hx]
      rw [stL_fuel h k j (nextC c e x) (by omega) (by omega)]
    · simp [stL, hx]
theorem stW_end (c : Ch) {e x : Int} (hx : ¬ x < e) : stW c e x = [] := by
  unfold stW; rw [show (e - x).toNat = 0 by omega]; rfl
theorem stW_more {c : Ch} (h : OkC c) {e x : Int} (hx : x < e) : stW c e x = atC c x :: stW c e (nextC c e x) := by
  have hn := next_facts h hx
  obtain ⟨k, hk⟩ : ∃ k, (e - x).toNat = k + 1 := ⟨(e - x).toNat - 1, by omega⟩
  unfold stW
  rw [hk]
  simp only [stL, if_pos hx]
  rw [stL_fuel h k (e - nextC c e x).toNat _ (by omega) (Nat.le_refl _)]
theorem stW_all {c : Ch} (h : OkC c) {e : Int} (p : Int → Bool) : ∀ (k : Nat) (x : Int), (e - x).toNat ≤ k → ((stW c e x).all p = true ↔ ∀ y, x ≤ y → y < e → p (atC c y) = true)
  | 0, x, hk => by
    rw [stW_end c (by omega)]
    simp only [List.all_nil, true_iff]
    intro y h1 h2; omega
  | k + 1, x, hk => by
    by_cases hx : x < e
    · have hn := next_facts h hx
      rw [stW_more h hx, List.all_cons, Bool.and_eq_true, stW_all h p k (nextC c e x) (by omega)]
      constructor
      · rintro ⟨a, b⟩ y h1 h2
        by_cases hy : y < nextC c e x
        · rw [hn.2.2 y h1 hy]; exact a
        · exact b y (by omega) h2
      · intro a
        exact ⟨a x (Int.le_refl _) hx, fun y h1 h2 => a y (by omega) h2⟩
    · rw [stW_end c hx]
      simp only [List.all_nil, true_iff]
      intro y h1 h2; omega
def fitB (c : Ch) (cl t lg : Int) : Bool := (stW c (t + lg) t).all fun m => bitE m cl
theorem fitB_iff {c : Ch} (h : OkC c) {cl t lg : Int} : fitB c cl t lg = true ↔ ∀ y, t ≤ y → y < t + lg → bitE (atC c y) cl = true := stW_all h _ _ t (Nat.le_refl _)
def argF (c : Ch) (cl t lg : Int) : Bool := okTm t && decide (0 ≤ cl ∧ cl ≤ 7 ∧ 0 ≤ lg ∧ lg ≤ 4 * c.op.cyc)
def fitsC (c : Ch) (cl t lg : Int) : Bool × Int := if okC c then (if argF c cl t lg then (fitB c cl t lg, 0) else (false, 2)) else (false, 390)
def sameG (a b : Gl) : Bool := decide (a.cyc = b.cyc) && decide (a.es = b.es)
def sameC (a b : Ch) : Bool := sameG a.op b.op && decide (a.base = b.base) && (a.pe == b.pe) && sameG a.ad b.ad && decide (a.wh = b.wh)
theorem sameC_refl (a : Ch) : sameC a a = true := by simp [sameC, sameG]
theorem mod_norm (a m : Int) : (a.tmod m + m) % m = a % m := tmod_norm
end Go.Sw

/-
  Frames, parts and queues: what the layer computes, in plain terms.
-/
namespace Go.Qu
open Go Go.Eng
structure It where
  st : Int
  sq : Int
  cl : Int
  sz : Int
  sn : Int
structure Pt where
  it : It
  left : Int
  rest : Bool
def itv (x : It) : List Value := [.int .i64 x.st, .int .i64 x.sq, .int .i64 x.cl, .int .i64 x.sz, .int .i64 x.sn]
def ptv (p : Pt) : List Value := [.int .i64 p.it.st, .int .i64 p.it.sq, .int .i64 p.it.cl, .int .i64 p.it.sz, .int .i64 p.it.sn, .int .i64 p.left, .bool p.rest]
theorem ptv_len (p : Pt) : (ptv p).length = 7 := rfl
theorem itv_len (p : It) : (itv p).length = 5 := rfl
abbrev PK (F : Know) (A : Option Addr) (n : Nat) (ps : List Pt) : Prop := RowsK ptv 7 F A n ps
def rI (x : Int) : Prop := -9223372036854775808 ≤ x ∧ x ≤ 9223372036854775807
def It.rng (x : It) : Prop := rI x.st ∧ rI x.sq ∧ rI x.cl ∧ rI x.sz ∧ rI x.sn
def Pt.rng (p : Pt) : Prop := p.it.rng ∧ rI p.left

def okI (x : It) : Bool := decide (0 ≤ x.st ∧ x.st ≤ 1099511627776 ∧ 0 ≤ x.sq ∧ x.sq ≤ 1099511627776 ∧ 0 ≤ x.sn ∧ x.sn ≤ 1099511627776 ∧ 0 ≤ x.cl ∧ x.cl ≤ 7 ∧ 84 ≤ x.sz ∧ x.sz ≤ 1542)
def okP (p : Pt) : Bool := okI p.it && (if p.rest then decide (p.it.cl ≤ 5 ∧ 88 ≤ p.left ∧ p.left ≤ p.it.sz - 40) else decide (p.left = p.it.sz))
def whole (x : It) : Pt := ⟨x, x.sz, false⟩
def dIt : It := ⟨0, 0, 0, 0, 0⟩
def dPt : Pt := ⟨dIt, 0, false⟩
def atP (ps : List Pt) (k : Nat) : Pt := ps.getD k dPt
theorem atP_get {ps : List Pt} {k : Nat} (h : k < ps.length) : atP ps k = ps[k] := by simp [atP, h]
theorem atP_mem {ps : List Pt} {k : Nat} (h : k < ps.length) : atP ps k ∈ ps := by rw [atP_get h]; exact List.getElem_mem h
def okAt (i : Nat) (p : Pt) : Bool := okP p && (decide (i = 0) || !p.rest)
def validF : Nat → List Pt → Bool
  | _, [] => true
  | i, p :: r => okAt i p && validF (i + 1) r
def validP (ps : List Pt) : Bool := validF 0 ps
theorem validF_iff : ∀ (ps : List Pt) (i : Nat), validF i ps = true ↔ ∀ k, k < ps.length → okAt (i + k) (atP ps k) = true
  | [], i => by simp [validF]
  | p :: r, i => by
    simp only [validF, Bool.and_eq_true, validF_iff r (i + 1)]
    constructor
    · rintro ⟨h1, h2⟩ k hk
      cases k with
      | zero => exact h1
      | succ k => have := h2 k (by simpa using hk); rw [show i + (k + 1) = i + 1 + k by omega]; simpa [atP] using this
    · intro h
      refine ⟨h 0 (by simp), fun k hk => ?_⟩
      have := h (k + 1) (by simpa using hk)
      rw [show i + 1 + k = i + (k + 1) by omega]; simpa [atP] using this
theorem validP_iff {ps : List Pt} : validP ps = true ↔ ∀ k, k < ps.length → okAt k (atP ps k) = true := by
  rw [validP, validF_iff]; simp
theorem validP_false {ps : List Pt} {k : Nat} (hk : k < ps.length) (h : okAt k (atP ps k) = false) : validP ps = false := by
  cases e : validP ps with
  | false => rfl
  | true => rw [validP_iff.1 e k hk] at h; cases h
theorem okP_bd {p : Pt} (h : okP p = true) : 84 ≤ p.left ∧ p.left ≤ 1542 := by
  unfold okP okI at h
  cases hr : p.rest <;> simp [hr] at h <;> omega
theorem okP_it {p : Pt} (h : okP p = true) : okI p.it = true := by
  unfold okP at h; simp at h; exact h.1
theorem valid_bd {ps : List Pt} (h : validP ps = true) {k : Nat} (hk : k < ps.length) : okP (atP ps k) = true := by
  have := validP_iff.1 h k hk
  unfold okAt at this; simp at this; exact this.1
theorem valid_mem {ps : List Pt} (h : validP ps = true) {p : Pt} (hp : p ∈ ps) : okP p = true := by
  obtain ⟨i, hi, rfl⟩ := List.getElem_of_mem hp
  have := valid_bd h hi
  rwa [atP_get hi] at this
/-- The octets of the first k parts. -/
def octs (ps : List Pt) : Int := (ps.map (·.left)).sum
def octK (ps : List Pt) (k : Nat) : Int := octs (ps.take k)
theorem octK_zero (ps : List Pt) : octK ps 0 = 0 := by simp [octK, octs]
theorem octK_all (ps : List Pt) : octK ps ps.length = octs ps := by simp [octK]
theorem octK_succ {ps : List Pt} {k : Nat} (h : k < ps.length) : octK ps (k + 1) = octK ps k + (atP ps k).left := by
  unfold octK octs
  rw [List.take_add_one, List.map_append, List.sum_append, atP_get h]
  simp [h]
theorem octK_bd {ps : List Pt} (h : ∀ k, k < ps.length → 0 ≤ (atP ps k).left ∧ (atP ps k).left ≤ 65536) : ∀ k, k ≤ ps.length → 0 ≤ octK ps k ∧ octK ps k ≤ 65536 * (k : Int)
  | 0, _ => by simp [octK_zero]
  | k + 1, hk => by
    have := octK_bd h k (by omega)
    have h2 := h k (by omega)
    rw [octK_succ (by omega)]
    omega
theorem octs_app (a b : List Pt) : octs (a ++ b) = octs a + octs b := by simp [octs]
theorem octs_cons (p : Pt) (r : List Pt) : octs (p :: r) = p.left + octs r := by simp [octs]
def restQ (ps : List Pt) : Bool := decide (0 < ps.length) && (atP ps 0).rest
/-- The octets that count. -/
def fullO (ps : List Pt) : Int := octs ps - (if restQ ps then (atP ps 0).left else 0)
def rightQ (cap : Int) (ps : List Pt) : Bool := decide (0 ≤ cap ∧ cap ≤ 65536) && validP ps && decide (fullO ps ≤ cap)
theorem octs_bd {ps : List Pt} (h : validP ps = true) : 0 ≤ octs ps ∧ octs ps ≤ 65536 * (ps.length : Int) := by
  rw [← octK_all]
  exact octK_bd (fun k hk => by have := okP_bd (valid_bd h hk); omega) _ (Nat.le_refl _)
theorem head_bd {ps : List Pt} (h : validP ps = true) (h0 : 0 < ps.length) : 84 ≤ (atP ps 0).left ∧ (atP ps 0).left ≤ 1542 := okP_bd (valid_bd h h0)
/-- What the iterator over parts yields. -/
def yldP (ps : List Pt) : List (List Value) := ps.mapIdx fun i p => [.int .i64 i, .agg (ptv p).toArray]
theorem yldP_len (ps : List Pt) : (yldP ps).length = ps.length := by simp [yldP]
theorem yldP_get {ps : List Pt} {k : Nat} (hk : k < (yldP ps).length) : (yldP ps)[k] = [.int .i64 k, .agg (ptv (atP ps k)).toArray] := by
  have : k < ps.length := by rwa [yldP_len] at hk
  simp [yldP, atP_get this]
def eqI (a b : It) : Bool := (a.st == b.st) && (a.sq == b.sq) && (a.cl == b.cl) && (a.sz == b.sz) && (a.sn == b.sn)
end Go.Qu
namespace Go.Qu
open Go Go.Eng
/-- A queue's value. -/
def QV (F : Know) (v : Value) (cap : Int) (ps : List Pt) : Prop := ∃ A n c, v = .agg [.int .i64 cap, .slice A n c].toArray ∧ n ≤ c ∧ c ≤ maxLen ∧ PK F A n ps
theorem QV.mk {F : Know} {A : Option Addr} {n c : Nat} {cap : Int} {ps : List Pt} (h : PK F A n ps) (h1 : n ≤ c) (h2 : c ≤ maxLen) : QV F (.agg [.int .i64 cap, .slice A n c].toArray) cap ps := ⟨A, n, c, rfl, h1, h2, h⟩
theorem QV.nil {F : Know} {cap : Int} : QV F (.agg [.int .i64 cap, .slice none 0 0].toArray) cap [] := ⟨none, 0, 0, rfl, Nat.le_refl _, Nat.zero_le _, RowsK.nil⟩
theorem QV.mono {F F' : Know} {v : Value} {cap : Int} {ps : List Pt} (h : QV F v cap ps) (hF : ∀ a u, F a = some u → F' a = some u) : QV F' v cap ps := by
  obtain ⟨A, n, c, h1, h2, h3, h4⟩ := h; exact ⟨A, n, c, h1, h2, h3, h4.mono hF⟩
/-- Push: the queue, whether it is accepted, the error. -/
def pushQ (cap : Int) (ps : List Pt) (x : It) : (Int × List Pt) × Bool × Int :=
  if rightQ cap ps = false then ((0, []), false, 461) else if okI x = false then ((0, []), false, 460) else if octs ps + x.sz > cap then ((cap, ps), false, 0) else ((cap, ps ++ [whole x]), true, 0)
def popQ (cap : Int) (ps : List Pt) : (Int × List Pt) × Pt × Int :=
  if rightQ cap ps = false then ((0, []), dPt, 461) else if ps.length = 0 then ((0, []), dPt, 4) else ((cap, ps.drop 1), atP ps 0, 0)
def retQ (cap : Int) (ps : List Pt) (x : Pt) : (Int × List Pt) × Int :=
  if rightQ cap ps = false then ((0, []), 461) else if okP x = false then ((0, []), 460) else if x.rest = false ∨ restQ ps = true then ((0, []), 2) else ((cap, x :: ps), 0)
def headQ (cap : Int) (ps : List Pt) : Pt × Bool := if rightQ cap ps = true ∧ ps.length ≠ 0 then (atP ps 0, true) else (dPt, false)
theorem SlO.qv {F' : Know} {e : TypeId} {v : Value} {n : Nat} {ps : List Pt} {b : Own} (h : SlO e 7 v n (rowsV ptv ps) b) (hF : ∀ p cs t fr k, (p, Obj.cells cs t fr) ∈ b → ∀ u, cs[k]? = some u → F' ⟨p, k, none⟩ = some u) {A : Option Addr} {c : Nat} (hv : v = .slice A n c) {cap : Int} : QV F' (.agg [.int .i64 cap, .slice A n c].toArray) cap ps := by
  obtain ⟨A', c', h1, h2, h3, h4⟩ := h.rows ptv_len (by decide) hF
  rw [hv] at h1; cases h1
  exact QV.mk h4 h2 h3
end Go.Qu
namespace Go.Qu
open Go Go.Eng
theorem rowsV_one_cell (ps : List Pt) : ∀ u ∈ rowsV ptv ps, u.oneCell' = true := by
  intro u hu
  obtain ⟨p, _, h⟩ := List.mem_flatMap.1 hu
  simp only [ptv, List.mem_cons, List.not_mem_nil, or_false] at h
  rcases h with rfl | rfl | rfl | rfl | rfl | rfl | rfl <;> rfl
end Go.Qu
namespace Go.Qu
open Go Go.Eng
/-- The octets that count, of the first k parts. -/
def fullK (ps : List Pt) (k : Nat) : Int := (((ps.take k).filter (fun p => !p.rest)).map (·.left)).sum
theorem fullK_zero (ps : List Pt) : fullK ps 0 = 0 := by simp [fullK]
theorem fullK_add {ps : List Pt} {k : Nat} (h : k < ps.length) (hr : (atP ps k).rest = false) : fullK ps (k + 1) = fullK ps k + (atP ps k).left := by
  unfold fullK
  rw [List.take_add_one, List.filter_append, List.map_append, List.sum_append]
  rw [atP_get h] at hr ⊢
  simp [h, hr]
theorem fullK_same {ps : List Pt} {k : Nat} (h : k < ps.length) (hr : (atP ps k).rest = true) : fullK ps (k + 1) = fullK ps k := by
  unfold fullK
  rw [List.take_add_one, List.filter_append, List.map_append, List.sum_append]
  rw [atP_get h] at hr
  simp [h, hr]
theorem okAt_step {ps : List Pt} {s : Nat} (hI : ∀ i, i < s → okAt i (atP ps i) = true) (h : okAt s (atP ps s) = true) : ∀ i, i < s + 1 → okAt i (atP ps i) = true := fun i hi => by
  rcases Nat.lt_or_ge i s with h1 | h1
  · exact hI i h1
  · rw [show i = s by omega]; exact h
theorem fullK_bd {ps : List Pt} : ∀ {s : Nat}, (∀ i, i < s → okAt i (atP ps i) = true) → s ≤ ps.length → 0 ≤ fullK ps s ∧ fullK ps s ≤ 65536 * (s : Int)
  | 0, _, _ => by simp [fullK_zero]
  | s + 1, hI, hs => by
    have ih := fullK_bd (s := s) (fun i hi => hI i (by omega)) (by omega)
    have hk := hI s (by omega)
    have hb : okP (atP ps s) = true := by unfold okAt at hk; simp at hk; exact hk.1
    have := okP_bd hb
    cases hr : (atP ps s).rest with
    | true => rw [fullK_same (by omega) hr]; omega
    | false => rw [fullK_add (by omega) hr]; omega
theorem fullK_all {ps : List Pt} (h : validP ps = true) : fullK ps ps.length = fullO ps := by
  have key : ∀ k, k ≤ ps.length → fullK ps k = octK ps k - (if decide (0 < k) && (atP ps 0).rest then (atP ps 0).left else 0) := by
    intro k
    induction k with
    | zero => intro _; simp [fullK_zero, octK_zero]
    | succ k ih =>
      intro hk
      have ih := ih (by omega)
      have ha := validP_iff.1 h k (by omega)
      rw [octK_succ (by omega)]
      cases k with
      | zero =>
        cases hr : (atP ps 0).rest with
        | true => rw [fullK_same (by omega) hr, ih]; simp [hr]
        | false => rw [fullK_add (by omega) hr, ih]; simp [hr]
      | succ k =>
        have hr : (atP ps (k + 1)).rest = false := by unfold okAt at ha; simp at ha; exact ha.2
        rw [fullK_add (by omega) hr, ih]
        simp
        omega
  have := key ps.length (Nat.le_refl _)
  rw [this, octK_all, fullO, restQ]
end Go.Qu
namespace Go.Qu
open Go Go.Eng
def eqP (a b : Pt) : Bool := ((a.it.st == b.it.st) && ((a.it.sq == b.it.sq) && ((a.it.cl == b.it.cl) && ((a.it.sz == b.it.sz) && (a.it.sn == b.it.sn))))) && ((a.left == b.left) && (a.rest == b.rest))
theorem eqP_iff {a b : Pt} : eqP a b = true ↔ a = b := by
  constructor
  · intro h
    obtain ⟨⟨a1, a2, a3, a4, a5⟩, a6, a7⟩ := a
    obtain ⟨⟨b1, b2, b3, b4, b5⟩, b6, b7⟩ := b
    simp [eqP] at h
    simp [h]
  · rintro rfl; simp [eqP]
instance : DecidableEq Pt := fun a b => decidable_of_iff _ eqP_iff
theorem eqPs_of {ps qs : List Pt} (hl : ps.length = qs.length) (h : ∀ i, i < ps.length → atP ps i = atP qs i) : ps = qs := by
  apply List.ext_getElem hl
  intro i h1 h2
  have := h i h1
  rwa [atP_get h1, atP_get h2] at this
end Go.Qu
namespace Go.Qu
open Go Go.Eng
theorem push_len {cap : Int} {ps : List Pt} {x : It} {r1 : Int} {r2 : List Pt} {rb : Bool} {re : Int} (h : pushQ cap ps x = ((r1, r2), rb, re)) : r2.length ≤ ps.length + 1 := by
  unfold pushQ at h
  split at h
  · cases h; simp
  · split at h
    · cases h; simp
    · split at h
      · cases h; simp
      · cases h; simp
theorem pop_len {cap : Int} {ps : List Pt} {r1 : Int} {r2 : List Pt} {p : Pt} {re : Int} (h : popQ cap ps = ((r1, r2), p, re)) : r2.length ≤ ps.length := by
  unfold popQ at h
  split at h
  · cases h; simp
  · split at h
    · cases h; simp
    · cases h; simp
theorem ret_len {cap : Int} {ps : List Pt} {x : Pt} {r1 : Int} {r2 : List Pt} {re : Int} (h : retQ cap ps x = ((r1, r2), re)) : r2.length ≤ ps.length + 1 := by
  unfold retQ at h
  split at h
  · cases h; simp
  · split at h
    · cases h; simp
    · split at h
      · cases h; simp
      · cases h; simp
end Go.Qu
namespace Go.Qu
open Go Go.Eng
variable {cap : Int} {ps : List Pt}
theorem head_bad (h : rightQ cap ps = false) : headQ cap ps = (dPt, false) := by unfold headQ; rw [if_neg (by simp [h])]
theorem pop_bad (h : rightQ cap ps = false) : popQ cap ps = ((0, []), dPt, 461) := by unfold popQ; rw [if_pos h]
theorem ret_bad {x : Pt} (h : rightQ cap ps = false) : retQ cap ps x = ((0, []), 461) := by unfold retQ; rw [if_pos h]
theorem push_bad {x : It} (h : rightQ cap ps = false) : pushQ cap ps x = ((0, []), false, 461) := by unfold pushQ; rw [if_pos h]
theorem head_nil (h : ps.length = 0) : headQ cap ps = (dPt, false) := by unfold headQ; rw [if_neg (by simp [h])]
theorem pop_nil (h : rightQ cap ps = true) (h0 : ps.length = 0) : popQ cap ps = ((0, []), dPt, 4) := by unfold popQ; rw [if_neg (by simp [h]), if_pos h0]
theorem head_cons (h : rightQ cap ps = true) (h0 : 0 < ps.length) : headQ cap ps = (atP ps 0, true) := by unfold headQ; rw [if_pos ⟨h, by omega⟩]
theorem pop_cons (h : rightQ cap ps = true) (h0 : 0 < ps.length) : popQ cap ps = ((cap, ps.drop 1), atP ps 0, 0) := by unfold popQ; rw [if_neg (by simp [h]), if_neg (by omega)]
theorem eqd (p : Pt) : eqP p p = true := eqP_iff.2 rfl
end Go.Qu

/-
  Choosing a queue, in plain terms: lines, heads, which class waits, fits and starts.
-/
namespace Go.Ch
open Go Go.Eng Go.Gt Go.Proofs.Gt Go.Sw Go.Qu
/-- A line. -/
structure Ln where
  g : Gl
  per : Int
  sh : Int
def lnv (l : Ln) : List Value := [.slice l.g.A l.g.n l.g.cap, .int .i64 l.g.cyc, .int .i64 l.per, .int .i64 l.sh]
theorem lnv_len (l : Ln) : (lnv l).length = 4 := rfl
abbrev LnK (F : Know) (l : Ln) : Prop := GlK F l.g
def okL (l : Ln) : Bool := okG l.g.es l.g.cyc && decide (1 ≤ l.per ∧ l.per ≤ 1000 ∧ -1000 ≤ l.sh ∧ l.sh ≤ 1000)
/-- An empty queue's head. -/
def noneP (p : Pt) : Bool := (decide (p.it.st = 0) && (decide (p.it.sq = 0) && (decide (p.it.cl = 0) && (decide (p.it.sz = 0) && decide (p.it.sn = 0))))) && (decide (p.left = 0) && decide (p.rest = false))
def okAtH (c : Nat) (p : Pt) : Bool := noneP p || (okP p && decide (p.it.cl = (c : Int)))
def restN (hs : List Pt) : Nat := (hs.filter fun p => p.rest && !noneP p).length
def okH (hs : List Pt) : Bool := decide (hs.length = 8) && ((List.range 8).all fun c => okAtH c (atP hs c)) && decide (restN hs ≤ 1)
def errC (l : Ln) (hs : List Pt) (t : Int) : Int := if okL l then (if okH hs then (if 0 ≤ t ∧ t ≤ 549755813888 then 0 else 2) else 470) else 471
/-- Another class's rest keeps a class from starting. -/
def heldC (hs : List Pt) (c : Int) : Bool := (List.range hs.length).any fun k => (atP hs k).rest && decide ((k : Int) ≠ c) && decide (c < 6)
def waitC (hs : List Pt) (c : Int) : Bool := !noneP (atP hs c.toNat) && !heldC hs c
def longC (l : Ln) (hs : List Pt) (c : Int) : Int := (atP hs c.toNat).left * l.per
def fitC (l : Ln) (hs : List Pt) (c t : Int) : Bool := (fitsA l.g.es l.g.cyc c (t + l.sh) (longC l hs c)).1 && decide ((fitsA l.g.es l.g.cyc c (t + l.sh) (longC l hs c)).2 = 0)
def mayC (l : Ln) (hs : List Pt) (c t : Int) : Bool := waitC hs c && fitC l hs c t
/-- The classes that wait, the greatest one first. -/
def downL : Nat → List Int
  | 0 => []
  | n + 1 => (n : Int) :: downL n
def classL (hs : List Pt) : List Int := (downL 8).filter (waitC hs)
end Go.Ch
