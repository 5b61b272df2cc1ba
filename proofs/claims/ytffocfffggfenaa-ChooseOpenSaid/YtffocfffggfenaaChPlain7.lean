/-
  Choosing a queue, in plain terms: bounds of the times at which a class fits.
-/
import Derived.Test.YtffocfffggfenaaChPlain6
namespace Go.Ch
open Go Go.Eng Go.Gt Go.Proofs.Gt Go.Sw Go.Qu
theorem fitA_rng {es : Ents} {cyc : Int} (hG : okG es cyc = true) {cl t lg : Int} : -1099511627776 ≤ (fitA es cyc cl t lg).1 ∧ (fitA es cyc cl t lg).1 ≤ 2 * 1099511627776 := by
  obtain ⟨_, _, _, _, _, hc⟩ := okG_parts hG
  unfold fitA
  split
  · rename_i h
    have ht : -1099511627776 ≤ t ∧ t ≤ 1099511627776 := by
      unfold errG at h; rw [if_pos hG] at h
      split at h
      · rename_i h2; simp only [okT, decide_eq_true_eq] at h2; omega
      · cases h
    cases e : fitE es cyc cl t lg with
    | none => simp [orErr]
    | some a =>
      have := fit_some hG e
      simp only [orErr]; omega
  · simp
end Go.Ch
