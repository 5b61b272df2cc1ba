/-
  It is proved here that the law SeqRuns returns true for every input and leaves each argument as it was; no condition.
-/
import Derived.Test.YtlnnoghneciocaaRows
import Derived.Test.YtlnnoghneciocaaFrame
import Derived.Test.YtlnnoghneciocaaSqL5
import Derived.Test.YtlnnoghneciocaaSqFr
namespace Go.Proofs.Ytlnnoghneciocaa
open Go Go.Eng Go.Sq Go.Proofs.Sq Go.ChangeShapes Go.WideShapes Go.ChangeAt Go.RowKit
theorem own : ownKnob Try.prog.godebug = none := by kernel_rfl
theorem laidOut : laidOutB Try.prog = true := by kernel_rfl
theorem cell5 : Try.prog.cellsOf 5 = 1 := by kernel_rfl
set_option maxRecDepth 100000 in
theorem seqRuns_lifted (os : Os) (started : os.Started) (H : Type) (enc : TypeId × Value → H) :
    ReturnsInHanded {} Try.checked os 5 .any (Rows.seqRunsSpec.pre6 enc Try.prog Try.f5 Rows.seqRunsRow.domain false) (Rows.seqRunsSpec.post enc Try.prog Try.f5 false true false false) := by
  refine returnsInHanded_of_change (C := Try.checked) own started (by kernel_rfl) Try.func5
    (ChangeSpec.witness6 (enc := enc) (C := Try.checked) false ⟨#[], #[.slice none 0 0, .slice none 0 0], []⟩ 8 (by kernel_rfl) (by kernel_rfl) (by kernel_rfl) (by kernel_rfl)) ?_
  intro W base args ds gs before hval0 hW hcnd _
  have hval : ∀ (j : Nat) t v, Try.f5.params[j]? = some t → args[j]? = some v → Value.okWide Try.prog W .any base t v := hval0
  have hW' := hW
  obtain ⟨p, q, hA0, hV, rfl, hfz, hnd⟩ := hW
  have hA : DataW.TrodAll enc Try.prog W 0 (fun _ => true) true Try.f5.params.toList args.toList ds p := hA0
  rw [Try.params5] at hA hval
  obtain ⟨v0, vs0, d0, ds0, p0, q0, hargs, rfl, rfl, h0, r0⟩ := trodAll_cons hA
  obtain ⟨v1, vs1, d1, ds1, p1, q1, rfl, rfl, rfl, h1, r1⟩ := trodAll_cons r0
  obtain ⟨rfl, rfl, rfl⟩ := trodAll_nil r1
  obtain rfl : args = #[v0, v1] := by cases args; simp_all
  obtain ⟨rfl, rfl⟩ := trodVars_none hV
  obtain ⟨fu0, y0, hf0⟩ := op_one Try.underlying44 (hval 0 44 v0 rfl rfl) h0
  obtain ⟨A1, n1, c1, l1, e1, hc1, hm1, hP1, hr1⟩ := op_draft hf0
  have e1 : [v0] = _ := e1
  cases e1
  obtain ⟨fu1, y1, hf1⟩ := op_one Try.underlying45 (hval 1 45 v1 rfl rfl) h1
  obtain ⟨A2, n2, c2, xs2, e2, hc2, hI2⟩ := op_ints Try.underlying45 Try.underlying5 cell5 hf1
  have e2 : [v1] = _ := e2
  cases e2
  clear hA0 hval0
  simp only [List.append_nil] at hW'
  refine Calls.mono (runs_ok (w := W) (F := fun a => W.cell? a) (fun _ _ h => h) hP1 hr1 hI2 hc2) fun e W' ⟨he, hk⟩ => ?_
  exact ⟨_, he, post_law laidOut (by kernel_rfl) (by kernel_rfl) Try.underlying4 rfl hW' rfl hk rfl⟩

/-- SeqRuns: for every input the law returns true, and each argument reads as it did. -/
theorem seqRuns_holds : Rows.SeqRunsSaid :=
  OpenClaim.holds_of_wide 5 Try.f5 rfl rfl rfl rfl rfl rfl rfl ⟨rfl, rfl, rfl, rfl, rfl⟩ rfl rfl rfl rfl rfl (by kernel_rfl) Try.func5 (by kernel_rfl)
    (of_decide_eq_true (by kernel_rfl)) (by unfold Func.isWrapper; first | (rw [if_pos (by decide +kernel)]; kernel_rfl) | (rw [if_neg (by decide +kernel)]; exact ⟨rfl, rfl⟩))
    (fun os started H enc _ => seqRuns_lifted os started H enc)

end Go.Proofs.Ytlnnoghneciocaa
