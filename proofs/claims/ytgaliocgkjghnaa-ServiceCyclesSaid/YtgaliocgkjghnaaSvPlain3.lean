/-
  The openings one by one, and sums over the first ones.
-/
import Derived.Test.YtgaliocgkjghnaaSwPlain2ToSvPlain2
namespace Go.Sv
open Go Go.Eng Go.Gt Go.Proofs.Gt Go.Sw
variable {p : Int → Bool}
abbrev atR (l : List (Int × Int)) (k : Nat) : Int × Int := l.getD k (0, 0)
theorem atR_get {l : List (Int × Int)} {k : Nat} (hk : k < l.length) : atR l k = l[k] := by unfold atR; rw [List.getD_eq_getElem?_getD, List.getElem?_eq_getElem hk]; rfl
theorem Runs.mem {a b : Int} {l : List (Int × Int)} (h : Runs p a b l) : ∀ x ∈ l, a ≤ x.1 ∧ x.1 < x.2 ∧ x.2 ≤ b := by
  induction h with
  | nil h => intro x hx; cases hx
  | cons g1 g2 g3 g4 g5 g6 g7 ih =>
    intro x hx
    rcases List.mem_cons.1 hx with rfl | hx
    · exact ⟨g1, g3, g4⟩
    · have := ih x hx; omega
theorem Runs.at_ {a b : Int} {l : List (Int × Int)} (h : Runs p a b l) {k : Nat} (hk : k < l.length) : a ≤ (atR l k).1 ∧ (atR l k).1 < (atR l k).2 ∧ (atR l k).2 ≤ b := by
  rw [atR_get hk]; exact h.mem _ (List.getElem_mem hk)
theorem Runs.len {a b : Int} {l : List (Int × Int)} (h : Runs p a b l) (hab : a ≤ b) : (l.length : Int) ≤ b - a := by
  induction h with
  | nil => simp; omega
  | cons g1 g2 g3 g4 g5 g6 g7 ih => have := ih g4; simp only [List.length_cons]; omega
theorem sumR_nonneg (lost : Int) (l : List (Int × Int)) : 0 ≤ sumR lost l := by
  induction l with
  | nil => exact Int.le_refl _
  | cons x l ih => rw [sumR_cons]; unfold giv; omega
theorem sumR_take (lost : Int) (l : List (Int × Int)) (k : Nat) : 0 ≤ sumR lost (l.take k) ∧ sumR lost (l.take k) ≤ sumR lost l := by
  refine ⟨sumR_nonneg _ _, ?_⟩
  have h := sumR_append lost (l.take k) (l.drop k)
  rw [List.take_append_drop] at h
  have := sumR_nonneg lost (l.drop k)
  omega
theorem sumR_succ (lost : Int) {l : List (Int × Int)} {k : Nat} (hk : k < l.length) : sumR lost (l.take (k + 1)) = sumR lost (l.take k) + max 0 ((atR l k).2 - (atR l k).1 - lost) := by
  rw [List.take_succ_eq_append_getElem hk, sumR_append, sumR_cons, sumR_nil, atR_get hk, Int.add_zero]; rfl
/-- The first ones, each at its place. -/
theorem runs_lens {es : Ents} {cyc lost f t : Int} {k : Nat} (hl : 0 ≤ lost) (hft : f ≤ t) (hk : k < (runs (op6 es cyc) f t).length) :
    (f ≤ (atR (runs (op6 es cyc) f t) k).1 ∧ (atR (runs (op6 es cyc) f t) k).1 < (atR (runs (op6 es cyc) f t) k).2 ∧ (atR (runs (op6 es cyc) f t) k).2 ≤ t) ∧
    0 ≤ sumR lost ((runs (op6 es cyc) f t).take k) ∧ sumR lost ((runs (op6 es cyc) f t).take k) ≤ t - f := by
  have h := runs_is (op6 es cyc) f t
  have := sumR_take lost (runs (op6 es cyc) f t) k
  have := h.bound hl hft
  exact ⟨h.at_ hk, by omega⟩
end Go.Sv
