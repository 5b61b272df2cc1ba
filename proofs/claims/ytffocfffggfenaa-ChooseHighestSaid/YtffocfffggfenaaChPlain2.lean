/-
  Choosing a queue, in plain terms: heads one after the other.
-/
import Derived.Test.YtffocfffggfenaaGtPlain2ToChPlain
namespace Go.Ch
open Go Go.Eng Go.Gt Go.Proofs.Gt Go.Sw Go.Qu
def restB (p : Pt) : Bool := p.rest && !noneP p
def restK (hs : List Pt) (k : Nat) : Nat := ((hs.take k).filter restB).length
theorem restN_eq (hs : List Pt) : restN hs = (hs.filter restB).length := rfl
theorem restK_succ {hs : List Pt} {k : Nat} (hk : k < hs.length) : restK hs (k + 1) = restK hs k + (if restB (atP hs k) then 1 else 0) := by
  unfold restK
  rw [List.take_succ_eq_append_getElem hk, List.filter_append, List.length_append, atP_get hk]
  congr 1
  cases h : restB hs[k] <;> simp [h]
theorem restK_le (hs : List Pt) (k : Nat) : restK hs k ≤ restN hs := by
  rw [restN_eq]
  have h : hs.filter restB = (hs.take k).filter restB ++ (hs.drop k).filter restB := by rw [← List.filter_append, List.take_append_drop]
  rw [h, List.length_append]; unfold restK; omega
theorem restK_all {hs : List Pt} {k : Nat} (hk : hs.length ≤ k) : restK hs k = restN hs := by unfold restK; rw [List.take_of_length_le hk, restN_eq]
theorem okH_at {hs : List Pt} {k : Nat} (hk : k < 8) (h : okAtH k (atP hs k) = false) : okH hs = false := by
  cases e : okH hs with
  | false => rfl
  | true =>
    unfold okH at e
    simp only [Bool.and_eq_true, List.all_eq_true, List.mem_range] at e
    rw [e.1.2 k hk] at h; cases h
theorem okH_rest {hs : List Pt} {k : Nat} (h : 1 < restK hs k) : okH hs = false := by
  have := restK_le hs k
  unfold okH
  rw [decide_eq_false (p := restN hs ≤ 1) (by omega)]; simp
theorem okH_len {hs : List Pt} (h : hs.length ≠ 8) : okH hs = false := by unfold okH; rw [decide_eq_false h]; rfl
theorem okH_true {hs : List Pt} (h8 : hs.length = 8) (h : ∀ k, k < 8 → okAtH k (atP hs k) = true) (hr : restK hs 8 ≤ 1) : okH hs = true := by
  unfold okH
  rw [restK_all (by omega)] at hr
  rw [decide_eq_true h8, decide_eq_true hr]
  simp only [Bool.true_and, Bool.and_true, List.all_eq_true, List.mem_range]
  exact h
theorem okH_parts {hs : List Pt} (h : okH hs = true) : hs.length = 8 ∧ (∀ k, k < 8 → okAtH k (atP hs k) = true) ∧ restN hs ≤ 1 := by
  unfold okH at h
  simp only [Bool.and_eq_true, List.all_eq_true, List.mem_range, decide_eq_true_eq] at h
  exact ⟨h.1.1, h.1.2, h.2⟩
end Go.Ch
