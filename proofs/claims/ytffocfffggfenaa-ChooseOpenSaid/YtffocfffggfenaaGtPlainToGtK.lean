/-
  The texts GtPlain to GtK, one after the other.
-/
import Derived.Test.YtffocfffggfenaaEng11ToEng6
import Derived.Test.YtffocfffggfenaaEng4ToEng10
/-
  Gate lists in plain mathematics: what the program of layer 27 and its reference compute.
-/
namespace Go.Gt
open Go Go.Eng

abbrev Ents := List (Int × Int)

/-- An entry is right. -/
def okE (e : Int × Int) : Bool := decide (0 ≤ e.1 ∧ e.1 ≤ 255 ∧ 1 ≤ e.2 ∧ e.2 ≤ 9600000)
def sumL (es : Ents) : Int := (es.map (·.2)).sum
/-- A list is right. -/
def okG (es : Ents) (cyc : Int) : Bool := decide (1 ≤ es.length ∧ es.length ≤ 128) && es.all okE && decide (sumL es = cyc ∧ sumL es ≤ 9600000)

theorem sumL_take_succ (es : Ents) (k : Nat) (h : k < es.length) : sumL (es.take (k + 1)) = sumL (es.take k) + es[k].2 := by
  unfold sumL
  rw [List.take_succ_eq_append_getElem h]
  simp only [List.map_append, List.map_cons, List.map_nil, List.sum_append, List.sum_cons, List.sum_nil, Int.add_zero]

theorem sumL_bounds {es : Ents} (h : es.all okE = true) : (es.length : Int) ≤ sumL es ∧ sumL es ≤ 9600000 * es.length := by
  induction es with
  | nil => simp [sumL]
  | cons e r ih =>
    simp only [List.all_cons, Bool.and_eq_true, okE, decide_eq_true_eq] at h
    have := ih (by simpa [okE] using h.2)
    have e1 : sumL (e :: r) = e.2 + sumL r := by simp [sumL]
    rw [e1]
    simp only [List.length_cons]
    omega

theorem okG_parts {es : Ents} {cyc : Int} (h : okG es cyc = true) : 1 ≤ es.length ∧ es.length ≤ 128 ∧ es.all okE = true ∧ sumL es = cyc ∧ cyc ≤ 9600000 ∧ 1 ≤ cyc := by
  simp only [okG, Bool.and_eq_true, decide_eq_true_eq] at h
  obtain ⟨⟨⟨h1, h2⟩, h3⟩, h4, h5⟩ := h
  have := (sumL_bounds h3).1
  exact ⟨h1, h2, h3, h4, by omega, by omega⟩

theorem okE_get {es : Ents} (h : es.all okE = true) {i : Nat} (hi : i < es.length) : 0 ≤ es[i].1 ∧ es[i].1 ≤ 255 ∧ 1 ≤ es[i].2 ∧ es[i].2 ≤ 9600000 := by
  have := List.all_eq_true.1 h es[i] (List.getElem_mem hi)
  simpa [okE] using this

/-- What stands at x ticks from the list's beginning: the entry, and how long it has lasted. -/
def locate : Ents → Int → Nat × Int
  | [], x => (0, x)
  | e :: r, x => if e.2 ≤ x then ((locate r (x - e.2)).1 + 1, (locate r (x - e.2)).2) else (0, x)

theorem locate_spec : ∀ (es : Ents) (x : Int), 0 ≤ x → x < sumL es → ∃ h : (locate es x).1 < es.length, 0 ≤ (locate es x).2 ∧ (locate es x).2 < (es[(locate es x).1]).2 ∧ x = sumL (es.take (locate es x).1) + (locate es x).2
  | [], x, h0, h1 => by simp [sumL] at h1; omega
  | e :: r, x, h0, h1 => by
    unfold locate
    have e1 : sumL (e :: r) = e.2 + sumL r := by simp [sumL]
    split
    · rename_i h
      obtain ⟨h2, h3, h4, h5⟩ := locate_spec r (x - e.2) (by omega) (by omega)
      refine ⟨by simpa using h2, h3, by simpa using h4, ?_⟩
      have e2 : sumL ((e :: r).take ((locate r (x - e.2)).1 + 1)) = e.2 + sumL (r.take (locate r (x - e.2)).1) := by simp [sumL]
      rw [e2]; omega
    · rename_i h
      exact ⟨by simp, h0, by simp; omega, by simp [sumL]⟩

/-- The search by steps: after i entries that are over. -/
theorem locate_step {es : Ents} {x : Int} {i : Nat} (hi : i < es.length) (hx : es[i].2 ≤ x - sumL (es.take i)) (hall : ∀ j (h : j < es.length), j < i → es[j].2 ≤ x - sumL (es.take j)) : ∀ j (h : j < es.length), j < i + 1 → es[j].2 ≤ x - sumL (es.take j) := by
  intro j h hj
  by_cases e : j = i
  · subst e; exact hx
  · exact hall j h (by omega)

theorem locate_of {es : Ents} {x : Int} : ∀ {i : Nat} (hi : i < es.length), (∀ j (h : j < es.length), j < i → es[j].2 ≤ x - sumL (es.take j)) → x - sumL (es.take i) < es[i].2 → locate es x = (i, x - sumL (es.take i)) := by
  induction es generalizing x with
  | nil => intro i hi; simp at hi
  | cons e r ih =>
    intro i hi hall hlt
    unfold locate
    cases i with
    | zero =>
      have : ¬ e.2 ≤ x := by simp [sumL] at hlt; omega
      simp [this, sumL]
    | succ i =>
      have h0 := hall 0 (by simp) (by omega)
      simp [sumL] at h0
      rw [if_pos h0]
      have e3 : ∀ m, sumL ((e :: r).take (m + 1)) = e.2 + sumL (r.take m) := by intro m; simp [sumL]
      have := ih (x := x - e.2) (i := i) (by simpa using hi) (fun j h hj => by
        have h5 := hall (j + 1) (by simpa using h) (by omega)
        rw [e3] at h5
        simp only [List.getElem_cons_succ] at h5
        omega) (by
        rw [e3] at hlt
        simp only [List.getElem_cons_succ] at hlt
        omega)
      rw [this, e3]
      simp only [Prod.mk.injEq]
      exact ⟨trivial, by omega⟩

/-- The search goes on only where there is more. -/
theorem locate_more {es : Ents} {x : Int} {i : Nat} (hx : x < sumL es) (hi : i ≤ es.length) (h : 0 ≤ x - sumL (es.take i)) : i < es.length := by
  rcases Nat.lt_or_ge i es.length with h' | h'
  · exact h'
  · have : i = es.length := by omega
    subst this
    rw [List.take_length] at h
    omega

end Go.Gt
namespace Go.Gt
open Go Go.Eng

theorem okG_len {es : Ents} {cyc : Int} (h : es.length < 1 ∨ 128 < es.length) : okG es cyc = false := by
  cases e : okG es cyc with
  | false => rfl
  | true => have := okG_parts e; omega
theorem okG_ent {es : Ents} {cyc : Int} {i : Nat} (hi : i < es.length) (h : ¬ (0 ≤ es[i].1 ∧ es[i].1 ≤ 255 ∧ 1 ≤ es[i].2 ∧ es[i].2 ≤ 9600000)) : okG es cyc = false := by
  cases e : okG es cyc with
  | false => rfl
  | true => exact absurd (okE_get (okG_parts e).2.2.1 hi) h
theorem okG_sum {es : Ents} {cyc : Int} (h : sumL es ≠ cyc ∨ 9600000 < sumL es) : okG es cyc = false := by
  cases e : okG es cyc with
  | false => rfl
  | true => have := okG_parts e; omega
theorem okG_true {es : Ents} {cyc : Int} (h1 : 1 ≤ es.length) (h2 : es.length ≤ 128) (h3 : es.all okE = true) (h4 : sumL es = cyc) (h5 : sumL es ≤ 9600000) : okG es cyc = true := by
  simp [okG, h1, h2, h3, h4]; omega
theorem all_take_succ {es : Ents} {k : Nat} (hk : k < es.length) (h : (es.take k).all okE = true) (he : 0 ≤ es[k].1 ∧ es[k].1 ≤ 255 ∧ 1 ≤ es[k].2 ∧ es[k].2 ≤ 9600000) : (es.take (k + 1)).all okE = true := by
  rw [List.take_succ_eq_append_getElem hk, List.all_append, h]
  simp [okE, he]

end Go.Gt
namespace Go.Gt
open Go Go.Eng

def okT (cl t lg : Int) : Bool := decide (0 ≤ cl ∧ cl ≤ 7 ∧ -1099511627776 ≤ t ∧ t ≤ 1099511627776 ∧ 0 ≤ lg ∧ lg ≤ 1099511627776)
def errG (es : Ents) (cyc cl t lg : Int) : Int := if okG es cyc then (if okT cl t lg then 0 else 2) else 370

/-- The place of a time in its cycle. -/
theorem tmod_norm {t c : Int} : (t.tmod c + c) % c = t % c := by
  rw [Int.add_emod_right]
  have h := Int.mul_tdiv_add_tmod t c
  have : t.tmod c = t + c * (-(t.tdiv c)) := by rw [Int.mul_neg]; omega
  rw [this, Int.add_mul_emod_self_left]
theorem tmod_bounds (t : Int) {c : Int} (hc : 0 < c) : -c < t.tmod c ∧ t.tmod c < c := by
  have h1 := Int.tmod_lt_of_pos t hc
  have h2 := Int.lt_tmod_of_pos t hc
  exact ⟨h2, h1⟩
theorem tmod_cases (t : Int) {c : Int} (hc : 0 < c) : (t.tmod c < 0 → t.tmod c + c = t % c) ∧ (0 ≤ t.tmod c → t.tmod c = t % c) := by
  have h1 := tmod_norm (t := t) (c := c)
  have h2 := tmod_bounds t hc
  have h3 := Int.emod_nonneg t (show c ≠ 0 by omega)
  have h4 := Int.emod_lt_of_pos t hc
  constructor
  · intro h
    rw [← h1, Int.emod_eq_of_lt (by omega) (by omega)]
  · intro h
    rw [← h1, Int.add_emod_right, Int.emod_eq_of_lt h h2.2]
end Go.Gt
namespace Go.Gt
theorem sumL_take_le {es : Ents} (h : es.all okE = true) (k : Nat) : 0 ≤ sumL (es.take k) ∧ sumL (es.take k) ≤ sumL es := by
  have e : sumL es = sumL (es.take k) + sumL (es.drop k) := by
    have : (es.take k ++ es.drop k) = es := List.take_append_drop k es
    conv => lhs; rw [← this]
    simp only [sumL, List.map_append, List.sum_append]
  have h1 : (es.take k).all okE = true := by
    rw [List.all_eq_true] at h ⊢
    exact fun x hx => h x (List.mem_of_mem_take hx)
  have h2 : (es.drop k).all okE = true := by
    rw [List.all_eq_true] at h ⊢
    exact fun x hx => h x (List.mem_of_mem_drop hx)
  have := sumL_bounds h1
  have := sumL_bounds h2
  omega
end Go.Gt
namespace Go.Gt
theorem sumL_zero (es : Ents) : sumL (es.take 0) = 0 := by simp [sumL]
end Go.Gt
namespace Go.Gt
theorem errG_zero {es : Ents} {cyc cl t lg : Int} (h : errG es cyc cl t lg = 0) : okG es cyc = true ∧ 0 ≤ cl ∧ cl ≤ 7 ∧ -1099511627776 ≤ t ∧ t ≤ 1099511627776 ∧ 0 ≤ lg ∧ lg ≤ 1099511627776 := by
  unfold errG at h
  split at h
  · rename_i hG
    split at h
    · rename_i hT
      exact ⟨hG, by simpa [okT] using hT⟩
    · cases h
  · cases h
end Go.Gt

/-
  What is known of gate lists in memory.
-/
namespace Go.Proofs.Gt
open Go Go.Eng Go.Gt
/-- What is known of a list of entries. -/
structure EntK (F : Know) (A : Option Addr) (n : Nat) (es : Ents) : Prop where
  len : n = es.length
  at_ : ∀ (i : Nat) (e : Int × Int), es[i]? = some e → ∃ a, A = some a ∧ F (a.add (i * 2)) = some (.int .i64 e.1) ∧ F (a.add (i * 2 + 1)) = some (.int .i64 e.2)
  rng : ∀ (i : Nat) (h : i < es.length), -9223372036854775808 ≤ es[i].1 ∧ es[i].1 ≤ 9223372036854775807 ∧ -9223372036854775808 ≤ es[i].2 ∧ es[i].2 ≤ 9223372036854775807

theorem EntK.some {F : Know} {A : Option Addr} {n : Nat} {es : Ents} (h : EntK F A n es) {i : Nat} (hi : i < es.length) : ∃ a, A = Option.some a := by
  obtain ⟨a, ha, _⟩ := h.at_ i es[i] (List.getElem?_eq_getElem hi)
  exact ⟨a, ha⟩
theorem EntK.cells {F : Know} {a : Addr} {n : Nat} {es : Ents} (h : EntK F (Option.some a) n es) {i : Nat} (hi : i < es.length) : ∀ j, j < 2 → F ((a.add (((i : Int)).toNat * 2)).add j) = [Value.int .i64 es[i].1, .int .i64 es[i].2][j]? := by
  intro j hj
  obtain ⟨b, hb, h1, h2⟩ := h.at_ i es[i] (List.getElem?_eq_getElem hi)
  cases hb
  rw [add_add, show ((i : Int)).toNat = i from by omega]
  match j, hj with
  | 0, _ => simpa using h1
  | 1, _ => simpa using h2
theorem EntK.mono {F F' : Know} {A : Option Addr} {n : Nat} {es : Ents} (h : EntK F A n es) (hF : ∀ a v, F a = Option.some v → F' a = Option.some v) : EntK F' A n es :=
  ⟨h.len, fun i e he => by obtain ⟨a, h1, h2, h3⟩ := h.at_ i e he; exact ⟨a, h1, hF _ _ h2, hF _ _ h3⟩, h.rng⟩
end Go.Proofs.Gt
