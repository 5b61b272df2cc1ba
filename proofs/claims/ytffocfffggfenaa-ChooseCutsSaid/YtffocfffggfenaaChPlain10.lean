/-
  Choosing a queue, in plain terms: the answers, case by case.
-/
import Derived.Test.YtffocfffggfenaaChPlain9
namespace Go.Ch
open Go Go.Eng Go.Gt Go.Proofs.Gt Go.Sw Go.Qu
variable {l : Ln} {hs : List Pt} {c t o b : Int}
theorem mayA_err (h : errC l hs t ≠ 0) : mayA l hs c t = (false, errC l hs t) := by unfold mayA; rw [if_pos h]
theorem mayA_out (h : errC l hs t = 0) (hc : ¬ (0 ≤ c ∧ c ≤ 7)) : mayA l hs c t = (false, 2) := by unfold mayA; rw [if_neg (by simp [h]), if_neg hc]
theorem mayA_in (h : errC l hs t = 0) (hc : 0 ≤ c ∧ c ≤ 7) : mayA l hs c t = (mayC l hs c t, 0) := by unfold mayA; rw [if_neg (by simp [h]), if_pos hc]
theorem startA_err (h : errC l hs t ≠ 0) : startA l hs t = (0, errC l hs t) := by unfold startA; rw [if_pos h]
theorem startA_ok (h : errC l hs t = 0) : startA l hs t = orE (startL l hs t) := by unfold startA; rw [if_neg (by simp [h])]
theorem whenA_err (h : errC l hs t ≠ 0) : whenA l hs t = (0, errC l hs t) := by unfold whenA; rw [if_pos h]
theorem whenA_ok (h : errC l hs t = 0) : whenA l hs t = orE (whenL l hs t) := by unfold whenA; rw [if_neg (by simp [h])]
theorem preA_err (h : errC l hs t ≠ 0) : preA l hs o b t = (0, 0, errC l hs t) := by unfold preA; rw [if_pos h]
theorem preA_out (h : errC l hs t = 0) (ha : argP l o b t = false) : preA l hs o b t = (0, 0, 2) := by unfold preA; rw [if_neg (by simp [h]), if_neg (by simp [ha])]
theorem preA_no (h : errC l hs t = 0) (ha : argP l o b t = true) (hb : preB l hs o b t = false) : preA l hs o b t = (0, 0, 4) := by unfold preA; rw [if_neg (by simp [h]), if_pos ha, if_neg (by simp [hb])]
theorem preA_yes (h : errC l hs t = 0) (ha : argP l o b t = true) (hb : preB l hs o b t = true) : preA l hs o b t = (preE l b t, preR l o b t, 0) := by unfold preA; rw [if_neg (by simp [h]), if_pos ha, if_pos hb]
theorem start_get {x : Int} (h : (startL l hs t).getD (-1) = x) (h0 : 0 ≤ x) : startL l hs t = some x := by
  cases e : startL l hs t with
  | none => rw [e] at h; simp at h; omega
  | some y => rw [e] at h; simp at h; rw [h]
theorem start_not {x : Int} (h : (startL l hs t).getD (-1) = x) (h0 : ¬ 0 ≤ x) : startL l hs t = none := by
  cases e : startL l hs t with
  | none => rfl
  | some y => rw [e] at h; simp at h; have := (startL_rng e).1; omega
end Go.Ch
