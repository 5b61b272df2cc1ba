/-
  What a state is after a number.
-/
import Derived.Test.YtichjhggoioenaaRcPlain2
namespace Go.Rc
open Go Go.Eng
theorem or_odd {a b : Nat} (h : a % 2 = 1) : (a ||| b) % 2 = 1 := by
  have h1 : (a ||| b).testBit 0 = true := by rw [Nat.testBit_or, Nat.testBit_zero]; simp [h]
  rw [Nat.testBit_zero] at h1
  simpa using h1
theorem or_lt {a b k : Nat} (ha : a < 2 ^ k) (hb : b < 2 ^ k) : a ||| b < 2 ^ k := Nat.or_lt_two_pow ha hb
theorem one_lt_pow {k : Nat} (h : 1 ≤ k) : 1 < 2 ^ k := Nat.one_lt_two_pow (by omega)
theorem okR_mk {r : Rc} (h1 : 1 ≤ r.ln ∧ r.ln ≤ 64) (h2 : 1 ≤ r.rs ∧ r.rs ≤ 1099511627776) (h3 : r.an = false) (h4 : 0 ≤ r.la ∧ r.la ≤ 65535) (h5 : 0 ≤ r.at_ ∧ r.at_ ≤ 1099511627776) (h6 : r.se % 2 = 1) (h7 : r.se < 2 ^ r.ln.toNat) : okR r = true := by
  unfold okR
  rw [h3]
  simp only [Bool.and_eq_true, decide_eq_true_eq]
  refine ⟨⟨h1, h2⟩, ?_⟩
  simp only [Bool.false_eq_true, if_false, okN, Bool.and_eq_true, decide_eq_true_eq]
  exact ⟨⟨⟨h4, h5⟩, h6⟩, h7⟩
theorem argB_iff {r : Rc} {n t : Int} : argB r n t = true ↔ 0 ≤ n ∧ n ≤ 65535 ∧ r.at_ ≤ t ∧ t ≤ 1099511627776 ∧ 0 ≤ t := by simp [argB]
theorem farB_bd {r : Rc} {n t : Int} (h : farB ⟨r, n, t, 0⟩ = false) : -r.ln < delta r.la n ∧ delta r.la n < r.ln := by
  simp [farB] at h; omega
theorem acc_ok {r : Rc} {n t : Int} (hok : okR r = true) (ha : argB r n t = true) : okR (accR r n t).1 = true := by
  obtain ⟨h1, h2, h3, h4⟩ := okR_ln hok
  obtain ⟨a1, a2, a3, a4, a5⟩ := argB_iff.1 ha
  have hk : 1 ≤ r.ln.toNat := by omega
  unfold accR
  cases hf : freshB ⟨r, n, t, 0⟩ with
  | true => rw [if_pos rfl]; exact okR_mk ⟨h1, h2⟩ ⟨h3, h4⟩ rfl ⟨a1, a2⟩ ⟨a5, a4⟩ rfl (one_lt_pow hk)
  | false =>
    have han : r.an = false := fresh_an hf
    obtain ⟨b1, b2, b3, b4, b5⟩ := okR_an hok han
    rw [if_neg (by simp)]
    cases hfa : farB ⟨r, n, t, 0⟩ with
    | true => rw [if_pos rfl]; exact hok
    | false =>
      have hd := farB_bd hfa
      rw [if_neg (by simp)]
      by_cases hp : 0 < delta r.la n
      · rw [if_pos hp]
        have : 0 < 2 ^ r.ln.toNat := Nat.pow_pos (by decide)
        have hm : 2 ^ r.ln.toNat - 1 < 2 ^ r.ln.toNat := by omega
        exact okR_mk ⟨h1, h2⟩ ⟨h3, h4⟩ rfl ⟨a1, a2⟩ ⟨a5, a4⟩ (or_odd rfl) (or_lt (one_lt_pow hk) (Nat.lt_of_le_of_lt Nat.and_le_right hm))
      · rw [if_neg hp]
        split
        · exact hok
        · refine okR_mk ⟨h1, h2⟩ ⟨h3, h4⟩ han b1 ⟨a5, a4⟩ (or_odd b4) (or_lt b5 (Nat.pow_lt_pow_right (by decide) ?_))
          show (-delta r.la n).toNat < r.ln.toNat
          omega
theorem okR_se {r : Rc} (h : okR r = true) : r.se < 18446744073709551616 := by
  cases ha : r.an with
  | true => rw [okR_any h ha]; exact (by decide : 0 < 18446744073709551616)
  | false =>
    have := okR_an h ha
    have h2 := okR_ln h
    exact Nat.lt_of_lt_of_le this.2.2.2.2 (pow_le64 (by omega))
/-! ### Several numbers at the time 0 -/
def stK (r : Rc) (l : List Int) : Nat → Rc × List Bool
  | 0 => (r, [])
  | k + 1 => ((accR (stK r l k).1 (l.getD k 0) 0).1, (stK r l k).2 ++ [(accR (stK r l k).1 (l.getD k 0) 0).2])
theorem acc_at0 {r : Rc} {n : Int} (h : r.at_ = 0) : (accR r n 0).1.at_ = 0 := by
  unfold accR
  split
  · rfl
  split
  · exact h
  split
  · rfl
  split
  · exact h
  · rfl
theorem stK_ok {r : Rc} {l : List Int} (hok : okR r = true) (h0 : r.at_ = 0) (hl : ∀ x ∈ l, 0 ≤ x ∧ x ≤ 65535) : ∀ k, k ≤ l.length → okR (stK r l k).1 = true ∧ (stK r l k).1.at_ = 0 ∧ (stK r l k).2.length = k
  | 0, _ => ⟨hok, h0, rfl⟩
  | k + 1, hk => by
    obtain ⟨g1, g2, g3⟩ := stK_ok hok h0 hl k (by omega)
    have hx := hl (l.getD k 0) (by rw [List.getD_eq_getElem?_getD, List.getElem?_eq_getElem (by omega)]; exact List.getElem_mem _)
    exact ⟨acc_ok g1 (argB_iff.2 ⟨hx.1, hx.2, by omega, by decide, by decide⟩), acc_at0 g2, by simp [stK, g3]⟩
theorem acc_run {r : Rc} {n : Int} (hok : okR r = true) (h0 : r.at_ = 0) (hn : 0 ≤ n ∧ n ≤ 65535) : accA r n 0 = (accR r n 0, 0) := by
  unfold accA
  rw [hok, argB_iff.2 ⟨hn.1, hn.2, by omega, by decide, by decide⟩]
  rfl
/-! ### Truth values in a row -/
def bv (b : Bool) : List Value := [.bool b]
theorem bv_len (b : Bool) : (bv b).length = 1 := rfl
theorem bv_one (b : Bool) : ∀ u ∈ bv b, u.oneCell' = true := by intro u hu; simp [bv] at hu; subst hu; rfl
theorem rowsB1 (xs : List Bool) (y : Bool) : rowsV bv (xs ++ [y]) = rowsV bv xs ++ bv y := by rw [rowsV_app, rowsV_one]
theorem SlO.bk {F' : Know} {e : TypeId} {v : Value} {n : Nat} {l : List Bool} {b : Own} (h : SlO e 1 v n (rowsV bv l) b) (hF : ∀ p cs t fr k, (p, Obj.cells cs t fr) ∈ b → ∀ u, cs[k]? = some u → F' ⟨p, k, none⟩ = some u) {A : Option Addr} {m c : Nat} (hv : v = .slice A m c) : m ≤ c ∧ c ≤ maxLen ∧ RowsK bv 1 F' A m l := by
  obtain ⟨A', c', h1, h2, h3, h4⟩ := h.rows bv_len (by decide) hF
  rw [hv] at h1; cases h1
  exact ⟨h2, h3, h4⟩
theorem ext_D {α : Type} {d : α} {l m : List α} (hl : l.length = m.length) (h : ∀ i, i < l.length → l.getD i d = m.getD i d) : l = m := by
  apply List.ext_getElem hl
  intro i h1 h2
  have := h i h1
  simpa [h1, h2] using this
theorem getD_at {α : Type} {d : α} {l : List α} {k : Nat} (h : k < l.length) : l.getD k d = l[k] := by simp [h]
end Go.Rc
