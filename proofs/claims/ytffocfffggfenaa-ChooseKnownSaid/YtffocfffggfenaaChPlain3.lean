/-
  Choosing a queue, in plain terms: what a rest holds up.
-/
import Derived.Test.YtffocfffggfenaaChPlain2
namespace Go.Ch
open Go Go.Eng Go.Gt Go.Proofs.Gt Go.Sw Go.Qu
theorem held_true {hs : List Pt} {c : Int} {k : Nat} (hk : k < hs.length) (h1 : (atP hs k).rest = true) (h2 : (k : Int) ≠ c) (h3 : c < 6) : heldC hs c = true := by
  unfold heldC
  rw [List.any_eq_true]
  exact ⟨k, List.mem_range.2 hk, by rw [h1, decide_eq_true h2, decide_eq_true h3]; rfl⟩
theorem held_false {hs : List Pt} {c : Int} (h : ∀ k, k < hs.length → ¬ ((atP hs k).rest = true ∧ (k : Int) ≠ c ∧ c < 6)) : heldC hs c = false := by
  cases e : heldC hs c with
  | false => rfl
  | true =>
    unfold heldC at e
    rw [List.any_eq_true] at e
    obtain ⟨k, hk, h1⟩ := e
    simp only [Bool.and_eq_true, decide_eq_true_eq] at h1
    exact absurd ⟨h1.1.1, h1.1.2, h1.2⟩ (h k (List.mem_range.1 hk))
end Go.Ch
