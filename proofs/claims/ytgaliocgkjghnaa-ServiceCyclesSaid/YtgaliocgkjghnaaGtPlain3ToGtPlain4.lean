/-
  The texts GtPlain3 to GtPlain4, one after the other.
-/
import Derived.Test.YtgaliocgkjghnaaGtPlain2
/-
  Gate lists in plain mathematics, part 3: where the entries that follow begin.
-/
namespace Go.Gt
open Go Go.Eng

theorem wrap_prefix {es : Ents} {k : Nat} (hk : k < es.length) : ∀ i, i ≤ es.length → sumL (es.take k) + rs es k i = sumL (es.take ((k + i) % es.length)) + (if es.length ≤ k + i then sumL es else 0) := by
  intro i
  induction i with
  | zero =>
    intro _
    rw [Nat.add_zero, Nat.mod_eq_of_lt hk, if_neg (by omega)]
    simp [rs]
  | succ i ih =>
    intro hi
    have h1 := ih (by omega)
    have hpos : 0 < es.length := by omega
    have hm := Nat.mod_lt (k + i) hpos
    simp only [rs]
    rw [← Int.add_assoc, h1, ent_get k i hpos]
    by_cases hw : es.length ≤ k + i
    · -- past the end already
      have e1 : (k + i) % es.length = k + i - es.length := by rw [Nat.mod_eq_sub_mod hw, Nat.mod_eq_of_lt (by omega)]
      have e2 : (k + (i + 1)) % es.length = k + i - es.length + 1 := by rw [Nat.mod_eq_sub_mod (by omega), Nat.mod_eq_of_lt (by omega)]; omega
      rw [if_pos hw, if_pos (by omega), e2]
      have := sumL_take_succ es (k + i - es.length) (by omega)
      simp only [e1] at hm ⊢
      omega
    · have e1 : (k + i) % es.length = k + i := Nat.mod_eq_of_lt (by omega)
      have h2 := sumL_take_succ es (k + i) (by omega)
      simp only [e1]
      rw [if_neg hw]
      by_cases hn : k + i + 1 = es.length
      · have e2 : (k + (i + 1)) % es.length = 0 := by rw [show k + (i + 1) = es.length by omega]; exact Nat.mod_self _
        rw [e2, if_pos (by omega), sumL_zero]
        rw [hn, List.take_length] at h2
        omega
      · have e2 : (k + (i + 1)) % es.length = k + i + 1 := Nat.mod_eq_of_lt (by omega)
        rw [e2, if_neg (by omega)]
        omega

theorem locate_prefix {es : Ents} (ha : es.all okE = true) {m : Nat} (hm : m < es.length) : locate es (sumL (es.take m)) = (m, 0) := by
  have h := locate_of (es := es) (x := sumL (es.take m)) hm (fun j hj hjm => by
    have h1 := sumL_take_succ es j hj
    have h2 : sumL (es.take (j + 1)) ≤ sumL (es.take m) := by
      have : es.take (j + 1) = (es.take m).take (j + 1) := by rw [List.take_take, Nat.min_eq_left (by omega)]
      rw [this]
      exact (sumL_take_le (es := es.take m) (by rw [List.all_eq_true] at ha ⊢; exact fun x hx => ha x (List.mem_of_mem_take hx)) (j + 1)).2
    omega) (by have := okE_get ha hm; omega)
  rw [h]; simp

theorem beg_mod {es : Ents} {cyc : Int} (hG : okG es cyc = true) (t : Int) {i : Nat} (hi : i ≤ es.length) : beg es cyc t i % cyc = sumL (es.take (((loc es cyc t).1 + i) % es.length)) := by
  obtain ⟨h1, h2, ha, hs, _, hc⟩ := okG_parts hG
  obtain ⟨h, h3, h4, h5⟩ := loc_spec hG t
  have hw := wrap_prefix h i hi
  have hpos : 0 < es.length := by omega
  have hm := Nat.mod_lt ((loc es cyc t).1 + i) hpos
  have hlt : sumL (es.take (((loc es cyc t).1 + i) % es.length)) < cyc := by
    have := sumL_take_succ es _ hm
    have := (sumL_take_le ha ((((loc es cyc t).1 + i) % es.length) + 1)).2
    have := okE_get ha hm
    omega
  have h0 := (sumL_take_le ha (((loc es cyc t).1 + i) % es.length)).1
  have hq := Int.mul_ediv_add_emod t cyc
  have e : beg es cyc t i = sumL (es.take (((loc es cyc t).1 + i) % es.length)) + cyc * (t / cyc + if es.length ≤ (loc es cyc t).1 + i then 1 else 0) := by
    unfold beg
    rw [Int.mul_add]
    split at hw <;> rename_i hh <;> simp only [hh, if_true, if_false, Int.mul_one, Int.mul_zero] <;> omega
  rw [e, Int.add_mul_emod_self_left, Int.emod_eq_of_lt h0 hlt]

theorem loc_beg {es : Ents} {cyc : Int} (hG : okG es cyc = true) (t : Int) {i : Nat} (hi : i ≤ es.length) : loc es cyc (beg es cyc t i) = (((loc es cyc t).1 + i) % es.length, 0) := by
  obtain ⟨h1, h2, ha, hs, _, hc⟩ := okG_parts hG
  rw [loc, beg_mod hG t hi]
  exact locate_prefix ha (Nat.mod_lt _ h1)

theorem state_beg {es : Ents} {cyc : Int} (hG : okG es cyc = true) (t : Int) {i : Nat} (hi : i ≤ es.length) : stateE es cyc (beg es cyc t i) = (ent es (loc es cyc t).1 i).1 := by
  rw [stateE, loc_beg hG t hi]; rfl

theorem ent_full (es : Ents) (k : Nat) : ent es k es.length = ent es k 0 := by
  simp [ent]

/-- The reference's search: by the state behind each entry. -/
theorem turnE_ref {es : Ents} {cyc : Int} (hG : okG es cyc = true) (t : Int) :
    turnE es cyc t = (firstN (fun i => stateE es cyc (beg es cyc t (i + 1)) != (es.getD (loc es cyc t).1 (0, 0)).1) 0 es.length).map fun i => beg es cyc t (i + 1) := by
  have h1 := (okG_parts hG).1
  have hst : ∀ i, i < es.length → (stateE es cyc (beg es cyc t (i + 1)) != (es.getD (loc es cyc t).1 (0, 0)).1) = ((ent es (loc es cyc t).1 (i + 1)).1 != (ent es (loc es cyc t).1 0).1) := fun i hi => by
    rw [state_beg hG t (by omega), ent_zero hG]
  unfold turnE
  cases h : firstN (fun i => (ent es (loc es cyc t).1 i).1 != (ent es (loc es cyc t).1 0).1) 0 es.length with
  | none =>
    have hn := firstN_none.1 h
    rw [firstN_no]
    · rfl
    · intro j hj
      rw [hst j hj]
      by_cases e : j + 1 = es.length
      · rw [e, ent_full]; simp
      · exact hn (j + 1) (Nat.zero_le _) (by omega)
  | some m =>
    obtain ⟨_, h2, h3, h4⟩ := firstN_some.1 h
    cases m with
    | zero => simp at h3
    | succ m =>
      rw [firstN_of (m := m) (by omega)]
      · rfl
      · rw [hst m (by omega)]; exact h3
      · intro j hj
        rw [hst j (by omega)]
        exact h4 (j + 1) (Nat.zero_le _) (by omega)
end Go.Gt

/-
  Gate lists in plain mathematics, part 4: bits, and what the searches find.
-/
namespace Go.Gt
open Go Go.Eng

theorem bitE_tmod {m k : Int} (hm : 0 ≤ m ∧ m ≤ 255) (hk : 0 ≤ k ∧ k ≤ 7) : ((m.fdiv (2 ^ (min k.toNat 64))).tmod 2 == 1) = bitE m k := by
  rw [bit_shift ⟨hk.1, by omega⟩, Int.tmod_eq_emod_of_nonneg (Int.ediv_nonneg hm.1 (Int.le_of_lt (Int.pow_pos (by decide))))]
  rfl
theorem bitE_and {m k : Int} (hm : 0 ≤ m ∧ m ≤ 255) (hk : 0 ≤ k ∧ k ≤ 7) : bitsOf .and .i64 (m.fdiv (2 ^ (min k.toNat 64))) 1 = 0 ↔ bitE m k = false := by
  have h0 : 0 ≤ m / 2 ^ k.toNat := Int.ediv_nonneg hm.1 (Int.le_of_lt (Int.pow_pos (by decide)))
  have h1 : m / 2 ^ k.toNat ≤ m := Int.ediv_le_self _ hm.1
  rw [bit_shift ⟨hk.1, by omega⟩, and1 ⟨h0, by omega⟩]
  unfold bitE
  rw [beq_eq_false_iff_ne]
  omega

/-- Where entry number i begins, the first counted from the time itself. -/
def fst0 (es : Ents) (cyc t : Int) (i : Nat) : Int := if i = 0 then t else beg es cyc t i
theorem fst0_zero (es : Ents) (cyc t : Int) : fst0 es cyc t 0 = t := rfl
theorem fst0_succ (es : Ents) (cyc t : Int) (i : Nat) : fst0 es cyc t (i + 1) = beg es cyc t (i + 1) := by simp [fst0]
theorem beg_succ (es : Ents) (cyc t : Int) (i : Nat) : beg es cyc t (i + 1) = beg es cyc t i + (ent es (loc es cyc t).1 i).2 := by simp only [beg, rs]; omega

theorem spanE_all {es : Ents} {cyc cl t : Int} (h : ∀ j, j < es.length → bitE (ent es (loc es cyc t).1 j).1 cl = true) : spanE es cyc cl t = big := by
  unfold spanE
  rw [firstN_no fun j hj => by rw [h j hj]; rfl]
theorem spanE_at {es : Ents} {cyc cl t : Int} {i : Nat} (hi : i < es.length) (h : ∀ j, j < i → bitE (ent es (loc es cyc t).1 j).1 cl = true) (h1 : bitE (ent es (loc es cyc t).1 i).1 cl = false) : spanE es cyc cl t = fst0 es cyc t i - t := by
  unfold spanE
  rw [firstN_of (m := i) hi (by rw [h1]; rfl) fun j hj => by rw [h j hj]; rfl]
  cases i with
  | zero => simp [fst0]
  | succ i => rw [fst0_succ]; simp only [beg]; omega

theorem fitE_now {es : Ents} {cyc cl t lg : Int} (h : lg ≤ spanE es cyc cl t) : fitE es cyc cl t lg = some t := by rw [fitE, if_pos h]
theorem fitE_none {es : Ents} {cyc cl t lg : Int} (h : ¬ lg ≤ spanE es cyc cl t) (h1 : ∀ j, j < es.length → ¬ lg ≤ spanE es cyc cl (beg es cyc t (j + 1))) : fitE es cyc cl t lg = none := by
  rw [fitE, if_neg h, firstN_no fun j hj => by simpa using h1 j hj]
theorem fitE_at {es : Ents} {cyc cl t lg : Int} {i : Nat} (hi : i < es.length) (h : ¬ lg ≤ spanE es cyc cl t) (h1 : ∀ j, j < i → ¬ lg ≤ spanE es cyc cl (beg es cyc t (j + 1))) (h2 : lg ≤ spanE es cyc cl (beg es cyc t (i + 1))) : fitE es cyc cl t lg = some (beg es cyc t (i + 1)) := by
  rw [fitE, if_neg h, firstN_of (m := i) hi (by simpa using h2) fun j hj => by simpa using h1 j hj]

theorem turnE_none {es : Ents} {cyc t : Int} (h : ∀ j, j < es.length → (ent es (loc es cyc t).1 j).1 = (ent es (loc es cyc t).1 0).1) : turnE es cyc t = none := by
  rw [turnE, firstN_no fun j hj => by simp [h j hj]]
theorem turnE_at {es : Ents} {cyc t : Int} {i : Nat} (hi : i < es.length) (h : ∀ j, j < i → (ent es (loc es cyc t).1 j).1 = (ent es (loc es cyc t).1 0).1) (h1 : (ent es (loc es cyc t).1 i).1 ≠ (ent es (loc es cyc t).1 0).1) : turnE es cyc t = some (beg es cyc t i) := by
  rw [turnE, firstN_of (m := i) hi (by simpa using h1) fun j hj => by simp [h j hj]]
theorem turnR_none {es : Ents} {cyc t : Int} (hG : okG es cyc = true) (h : ∀ j, j < es.length → stateE es cyc (beg es cyc t (j + 1)) = (es.getD (loc es cyc t).1 (0, 0)).1) : turnE es cyc t = none := by
  rw [turnE_ref hG, firstN_no fun j hj => by simpa using h j hj]; rfl
theorem turnR_at {es : Ents} {cyc t : Int} {i : Nat} (hG : okG es cyc = true) (hi : i < es.length) (h : ∀ j, j < i → stateE es cyc (beg es cyc t (j + 1)) = (es.getD (loc es cyc t).1 (0, 0)).1) (h1 : stateE es cyc (beg es cyc t (i + 1)) ≠ (es.getD (loc es cyc t).1 (0, 0)).1) : turnE es cyc t = some (beg es cyc t (i + 1)) := by
  rw [turnE_ref hG, firstN_of (m := i) hi (by simpa using h1) fun j hj => by simpa using h j hj]; rfl
theorem span_max {es : Ents} {cyc : Int} (hG : okG es cyc = true) (t : Int) (i : Nat) : max (rs es (loc es cyc t).1 i - (loc es cyc t).2) 0 = fst0 es cyc t i - t := by
  obtain ⟨h1, _, ha, _⟩ := okG_parts hG
  obtain ⟨h, h7, h8, _⟩ := loc_spec hG t
  cases i with
  | zero => simp [rs, fst0]; omega
  | succ i =>
    have h9 := rs_mono ha h1 (loc es cyc t).1 (i := 1) (j := i + 1) (by omega)
    have h10 : rs es (loc es cyc t).1 1 = (ent es (loc es cyc t).1 0).2 := by simp [rs]
    have h11 : ent es (loc es cyc t).1 0 = es[(loc es cyc t).1] := by rw [ent_zero hG]; simp [h]
    rw [h11] at h10
    rw [fst0_succ]; unfold beg; omega
/-- Answers of the exported functions. -/
def maskA (es : Ents) (cyc t : Int) : Int × Int := if errG es cyc 0 t 0 = 0 then (stateE es cyc t, 0) else (0, errG es cyc 0 t 0)
def openA (es : Ents) (cyc cl t : Int) : Int × Int := if errG es cyc cl t 0 = 0 then (spanE es cyc cl t, 0) else (0, errG es cyc cl t 0)
def fitsA (es : Ents) (cyc cl t lg : Int) : Bool × Int := if errG es cyc cl t lg = 0 then (decide (lg ≤ spanE es cyc cl t), 0) else (false, errG es cyc cl t lg)
def orErr : Option Int → Int × Int
  | some x => (x, 0)
  | none => (0, 4)
def fitA (es : Ents) (cyc cl t lg : Int) : Int × Int := if errG es cyc cl t lg = 0 then orErr (fitE es cyc cl t lg) else (0, errG es cyc cl t lg)
def turnA (es : Ents) (cyc t : Int) : Int × Int := if errG es cyc 0 t 0 = 0 then orErr (turnE es cyc t) else (0, errG es cyc 0 t 0)
/-- .. as the laws' helpers hand them on. -/
def maskH (es : Ents) (cyc t : Int) : Int := if (maskA es cyc t).2 ≠ 0 then -1 else (maskA es cyc t).1
def openH (es : Ents) (cyc cl t : Int) : Int := if (openA es cyc cl t).2 ≠ 0 then -1 else (openA es cyc cl t).1
def fitsH (es : Ents) (cyc cl t lg : Int) : Bool := (fitsA es cyc cl t lg).1 && (fitsA es cyc cl t lg).2 == 0
def fitH (es : Ents) (cyc cl t lg : Int) : Int := if (fitA es cyc cl t lg).2 ≠ 0 then -1 else (fitA es cyc cl t lg).1
end Go.Gt
