/-
  Gate lists in plain mathematics, part 7: what the laws' helpers answer on a right list.
-/
import Derived.Test.YtfneficfngpnjaaGtPlain6
import Derived.Test.YtfneficfngpnjaaGtPlain5
namespace Go.Gt
open Go Go.Eng
variable {es : Ents} {cyc : Int}
theorem errG_ok (hG : okG es cyc = true) {cl t lg : Int} (h1 : 0 ≤ cl ∧ cl ≤ 7) (h2 : -1099511627776 ≤ t ∧ t ≤ 1099511627776) (h3 : 0 ≤ lg ∧ lg ≤ 1099511627776) : errG es cyc cl t lg = 0 := by
  unfold errG
  rw [if_pos hG, if_pos (by simp only [okT, decide_eq_true_eq]; omega)]
theorem maskH_eq (hG : okG es cyc = true) {t : Int} (h2 : -1099511627776 ≤ t ∧ t ≤ 1099511627776) : maskH es cyc t = stateE es cyc t := by
  have := errG_ok hG (cl := 0) (t := t) (lg := 0) (by omega) h2 (by omega)
  simp [maskH, maskA, this]
theorem openH_eq (hG : okG es cyc = true) {cl t : Int} (h1 : 0 ≤ cl ∧ cl ≤ 7) (h2 : -1099511627776 ≤ t ∧ t ≤ 1099511627776) : openH es cyc cl t = spanE es cyc cl t := by
  have := errG_ok hG (cl := cl) (t := t) (lg := 0) h1 h2 (by omega)
  simp [openH, openA, this]
theorem fitsH_eq (hG : okG es cyc = true) {cl t lg : Int} (h1 : 0 ≤ cl ∧ cl ≤ 7) (h2 : -1099511627776 ≤ t ∧ t ≤ 1099511627776) (h3 : 0 ≤ lg ∧ lg ≤ 1099511627776) : fitsH es cyc cl t lg = decide (lg ≤ spanE es cyc cl t) := by
  have := errG_ok hG h1 h2 h3
  simp [fitsH, fitsA, this]
theorem fitA_eq (hG : okG es cyc = true) {cl t lg : Int} (h1 : 0 ≤ cl ∧ cl ≤ 7) (h2 : -1099511627776 ≤ t ∧ t ≤ 1099511627776) (h3 : 0 ≤ lg ∧ lg ≤ 1099511627776) : fitA es cyc cl t lg = orErr (fitE es cyc cl t lg) := by
  have := errG_ok hG h1 h2 h3
  simp [fitA, this]
theorem turnA_eq (hG : okG es cyc = true) {t : Int} (h2 : -1099511627776 ≤ t ∧ t ≤ 1099511627776) : turnA es cyc t = orErr (turnE es cyc t) := by
  have := errG_ok hG (cl := 0) (t := t) (lg := 0) (by omega) h2 (by omega)
  simp [turnA, this]
theorem state_rng (hG : okG es cyc = true) (t : Int) : 0 ≤ stateE es cyc t ∧ stateE es cyc t ≤ 255 := by
  obtain ⟨h, _⟩ := loc_spec hG t
  have := okE_get (okG_parts hG).2.2.1 h
  rw [stateE, List.getD_eq_getElem?_getD, List.getElem?_eq_getElem h]
  exact ⟨this.1, this.2.1⟩
theorem bit_one {m k : Int} (hm : 0 ≤ m ∧ m ≤ 255) (hk : 0 ≤ k ∧ k ≤ 7) : bitsOf .and .i64 (m.fdiv (2 ^ (min k.toNat 64))) 1 = 1 ↔ bitE m k = true := by
  have h0 : 0 ≤ m / 2 ^ k.toNat := Int.ediv_nonneg hm.1 (Int.le_of_lt (Int.pow_pos (by decide)))
  have h1 : m / 2 ^ k.toNat ≤ m := Int.ediv_le_self _ hm.1
  rw [bit_shift ⟨hk.1, by omega⟩, and1 ⟨h0, by omega⟩]
  unfold bitE
  rw [beq_iff_eq]
/-- The count of the law: what it says of Open. -/
theorem count_end (hG : okG es cyc = true) {cl t n : Int} {o : Bool} (h0 : 0 ≤ n) (h1 : n ≤ cyc) (h2 : ∀ j, 0 ≤ j → j < n → isO es cyc cl (t + j) = true) (h3 : o = false → n < cyc ∧ isO es cyc cl (t + n) = false) (h4 : o = true → ¬ n < cyc) :
    (o = true → spanE es cyc cl t = 1099511627776) ∧ (¬ o = true → spanE es cyc cl t = n) := by
  constructor
  · intro h
    have := h4 h
    exact span_big hG cl t fun j g1 g2 => h2 j g1 (by omega)
  · intro h
    have h5 : o = false := by cases o <;> simp_all
    obtain ⟨g1, g2⟩ := h3 h5
    exact span_is hG cl t h0 g1 h2 g2
theorem draft_cyc {ss ls : List Int} (h1 : bytesL ss) (h2 : bytesL ls) : sumL (draftE ss ls) ≤ 320 := by
  have hn : draftN ss ≤ 16 ∧ 1 ≤ draftN ss := by unfold draftN; omega
  have hl := draftE_len ss ls
  have hb : ∀ k, k ≤ (draftE ss ls).length → sumL ((draftE ss ls).take k) ≤ 20 * k := by
    intro k
    induction k with
    | zero => intro _; rw [sumL_zero]; omega
    | succ k ih =>
      intro hk
      have := ih (by omega)
      have := draftE_ok h1 h2 k (by omega)
      rw [sumL_take_succ _ _ (by omega)]; omega
  have := hb _ (Nat.le_refl _)
  rw [List.take_length] at this
  omega
theorem orErr_two {o : Option Int} (h : (orErr o).2 = 4) : o = none := by cases o <;> simp_all [orErr]
theorem orErr_some {o : Option Int} (h : ¬ (orErr o).2 = 4) : ∃ a, o = some a ∧ (orErr o).1 = a ∧ (orErr o).2 = 0 := by cases o <;> simp_all [orErr]
theorem orErr_map (o : Option Int) (c : Int) : (orErr (o.map (· + c))).2 = (orErr o).2 := by cases o <;> rfl
end Go.Gt
