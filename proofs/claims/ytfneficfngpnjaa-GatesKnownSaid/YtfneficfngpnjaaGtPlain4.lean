/-
  Gate lists in plain mathematics, part 4: bits, and what the searches find.
-/
import Derived.Test.YtfneficfngpnjaaGtPlain3
namespace Go.Gt
open Go Go.Eng

theorem bitE_tmod {m k : Int} (hm : 0 ≤ m ∧ m ≤ 255) (hk : 0 ≤ k ∧ k ≤ 7) : ((m.fdiv (2 ^ (min k.toNat 64))).tmod 2 == 1) = bitE m k := by
  rw [bit_shift ⟨hk.1, by omega⟩, Int.tmod_eq_emod_of_nonneg (Int.ediv_nonneg hm.1 (Int.le_of_lt (Int.pow_pos (by decide))))]
  rfl
theorem bitE_and {m k : Int} (hm : 0 ≤ m ∧ m ≤ 255) (hk : 0 ≤ k ∧ k ≤ 7) : bitsOf .and .i64 (m.fdiv (2 ^ (min k.toNat 64))) 1 = 0 ↔ bitE m k = false := by
  have h0 : 0 ≤ m / 2 ^ k.toNat := Int.ediv_nonneg hm.1 (Int.le_of_lt (Int.pow_pos (by decide)))
  have h1 : m / 2 ^ k.toNat ≤ m := Int.ediv_le_self _ hm.1
  rw [bit_shift ⟨hk.1, by omega⟩, and1 ⟨h0, by omega⟩]
  unfold bitE
  rw [beq_eq_false_iff_ne]
  omega

/-- Where entry number i begins, the first counted from the time itself. -/
def fst0 (es : Ents) (cyc t : Int) (i : Nat) : Int := if i = 0 then t else beg es cyc t i
theorem fst0_zero (es : Ents) (cyc t : Int) : fst0 es cyc t 0 = t := rfl
theorem fst0_succ (es : Ents) (cyc t : Int) (i : Nat) : fst0 es cyc t (i + 1) = beg es cyc t (i + 1) := by simp [fst0]
theorem beg_succ (es : Ents) (cyc t : Int) (i : Nat) : beg es cyc t (i + 1) = beg es cyc t i + (ent es (loc es cyc t).1 i).2 := by simp only [beg, rs]; omega

theorem spanE_all {es : Ents} {cyc cl t : Int} (h : ∀ j, j < es.length → bitE (ent es (loc es cyc t).1 j).1 cl = true) : spanE es cyc cl t = big := by
  unfold spanE
  rw [firstN_no fun j hj => by rw [h j hj]; rfl]
theorem spanE_at {es : Ents} {cyc cl t : Int} {i : Nat} (hi : i < es.length) (h : ∀ j, j < i → bitE (ent es (loc es cyc t).1 j).1 cl = true) (h1 : bitE (ent es (loc es cyc t).1 i).1 cl = false) : spanE es cyc cl t = fst0 es cyc t i - t := by
  unfold spanE
  rw [firstN_of (m := i) hi (by rw [h1]; rfl) fun j hj => by rw [h j hj]; rfl]
  cases i with
  | zero => simp [fst0]
  | succ i => rw [fst0_succ]; simp only [beg]; omega

theorem fitE_now {es : Ents} {cyc cl t lg : Int} (h : lg ≤ spanE es cyc cl t) : fitE es cyc cl t lg = some t := by rw [fitE, if_pos h]
theorem fitE_none {es : Ents} {cyc cl t lg : Int} (h : ¬ lg ≤ spanE es cyc cl t) (h1 : ∀ j, j < es.length → ¬ lg ≤ spanE es cyc cl (beg es cyc t (j + 1))) : fitE es cyc cl t lg = none := by
  rw [fitE, if_neg h, firstN_no fun j hj => by simpa using h1 j hj]
theorem fitE_at {es : Ents} {cyc cl t lg : Int} {i : Nat} (hi : i < es.length) (h : ¬ lg ≤ spanE es cyc cl t) (h1 : ∀ j, j < i → ¬ lg ≤ spanE es cyc cl (beg es cyc t (j + 1))) (h2 : lg ≤ spanE es cyc cl (beg es cyc t (i + 1))) : fitE es cyc cl t lg = some (beg es cyc t (i + 1)) := by
  rw [fitE, if_neg h, firstN_of (m := i) hi (by simpa using h2) fun j hj => by simpa using h1 j hj]

theorem turnE_none {es : Ents} {cyc t : Int} (h : ∀ j, j < es.length → (ent es (loc es cyc t).1 j).1 = (ent es (loc es cyc t).1 0).1) : turnE es cyc t = none := by
  rw [turnE, firstN_no fun j hj => by simp [h j hj]]
theorem turnE_at {es : Ents} {cyc t : Int} {i : Nat} (hi : i < es.length) (h : ∀ j, j < i → (ent es (loc es cyc t).1 j).1 = (ent es (loc es cyc t).1 0).1) (h1 : (ent es (loc es cyc t).1 i).1 ≠ (ent es (loc es cyc t).1 0).1) : turnE es cyc t = some (beg es cyc t i) := by
  rw [turnE, firstN_of (m := i) hi (by simpa using h1) fun j hj => by simp [h j hj]]
theorem turnR_none {es : Ents} {cyc t : Int} (hG : okG es cyc = true) (h : ∀ j, j < es.length → stateE es cyc (beg es cyc t (j + 1)) = (es.getD (loc es cyc t).1 (0, 0)).1) : turnE es cyc t = none := by
  rw [turnE_ref hG, firstN_no fun j hj => by simpa using h j hj]; rfl
theorem turnR_at {es : Ents} {cyc t : Int} {i : Nat} (hG : okG es cyc = true) (hi : i < es.length) (h : ∀ j, j < i → stateE es cyc (beg es cyc t (j + 1)) = (es.getD (loc es cyc t).1 (0, 0)).1) (h1 : stateE es cyc (beg es cyc t (i + 1)) ≠ (es.getD (loc es cyc t).1 (0, 0)).1) : turnE es cyc t = some (beg es cyc t (i + 1)) := by
  rw [turnE_ref hG, firstN_of (m := i) hi (by simpa using h1) fun j hj => by simpa using h j hj]; rfl
theorem span_max {es : Ents} {cyc : Int} (hG : okG es cyc = true) (t : Int) (i : Nat) : max (rs es (loc es cyc t).1 i - (loc es cyc t).2) 0 = fst0 es cyc t i - t := by
  obtain ⟨h1, _, ha, _⟩ := okG_parts hG
  obtain ⟨h, h7, h8, _⟩ := loc_spec hG t
  cases i with
  | zero => simp [rs, fst0]; omega
  | succ i =>
    have h9 := rs_mono ha h1 (loc es cyc t).1 (i := 1) (j := i + 1) (by omega)
    have h10 : rs es (loc es cyc t).1 1 = (ent es (loc es cyc t).1 0).2 := by simp [rs]
    have h11 : ent es (loc es cyc t).1 0 = es[(loc es cyc t).1] := by rw [ent_zero hG]; simp [h]
    rw [h11] at h10
    rw [fst0_succ]; unfold beg; omega
/-- Answers of the exported functions. -/
def maskA (es : Ents) (cyc t : Int) : Int × Int := if errG es cyc 0 t 0 = 0 then (stateE es cyc t, 0) else (0, errG es cyc 0 t 0)
def openA (es : Ents) (cyc cl t : Int) : Int × Int := if errG es cyc cl t 0 = 0 then (spanE es cyc cl t, 0) else (0, errG es cyc cl t 0)
def fitsA (es : Ents) (cyc cl t lg : Int) : Bool × Int := if errG es cyc cl t lg = 0 then (decide (lg ≤ spanE es cyc cl t), 0) else (false, errG es cyc cl t lg)
def orErr : Option Int → Int × Int
  | some x => (x, 0)
  | none => (0, 4)
def fitA (es : Ents) (cyc cl t lg : Int) : Int × Int := if errG es cyc cl t lg = 0 then orErr (fitE es cyc cl t lg) else (0, errG es cyc cl t lg)
def turnA (es : Ents) (cyc t : Int) : Int × Int := if errG es cyc 0 t 0 = 0 then orErr (turnE es cyc t) else (0, errG es cyc 0 t 0)
/-- .. as the laws' helpers hand them on. -/
def maskH (es : Ents) (cyc t : Int) : Int := if (maskA es cyc t).2 ≠ 0 then -1 else (maskA es cyc t).1
def openH (es : Ents) (cyc cl t : Int) : Int := if (openA es cyc cl t).2 ≠ 0 then -1 else (openA es cyc cl t).1
def fitsH (es : Ents) (cyc cl t lg : Int) : Bool := (fitsA es cyc cl t lg).1 && (fitsA es cyc cl t lg).2 == 0
def fitH (es : Ents) (cyc cl t lg : Int) : Int := if (fitA es cyc cl t lg).2 ≠ 0 then -1 else (fitA es cyc cl t lg).1
end Go.Gt
