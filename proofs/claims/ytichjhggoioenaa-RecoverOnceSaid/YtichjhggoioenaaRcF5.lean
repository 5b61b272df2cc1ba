/-
  It is proved here that the law RecoverOnce returns true for every input and leaves each argument as it was; no condition.
-/
import Derived.Test.YtichjhggoioenaaRows
import Derived.Test.YtichjhggoioenaaFrame
import Derived.Test.YtichjhggoioenaaRcL5
import Derived.Test.YtichjhggoioenaaRcFr
namespace Go.Proofs.Ytichjhggoioenaa
open Go Go.Eng Go.Rc Go.Proofs.Rc Go.ChangeShapes Go.WideShapes Go.ChangeAt Go.RowKit
theorem own : ownKnob Try.prog.godebug = none := by kernel_rfl
theorem laidOut : laidOutB Try.prog = true := by kernel_rfl

set_option maxRecDepth 100000 in
theorem recoverOnce_lifted (os : Os) (started : os.Started) (H : Type) (enc : TypeId × Value → H) :
    ReturnsInHanded {} Try.checked os 5 .any (Rows.recoverOnceSpec.pre6 enc Try.prog Try.f5 Rows.recoverOnceRow.domain false) (Rows.recoverOnceSpec.post enc Try.prog Try.f5 false true false false) := by
  refine returnsInHanded_of_change (C := Try.checked) own started (by kernel_rfl) Try.func5
    (ChangeSpec.witness6 (enc := enc) (C := Try.checked) false ⟨#[], #[.int .u8 0, .int .i32 0, .slice none 0 0], []⟩ 8 (by kernel_rfl) (by kernel_rfl) (by kernel_rfl) (by kernel_rfl)) ?_
  intro W base args ds gs before hval0 hW hcnd _
  have hval : ∀ (j : Nat) t v, Try.f5.params[j]? = some t → args[j]? = some v → Value.okWide Try.prog W .any base t v := hval0
  have hW' := hW
  obtain ⟨p, q, hA0, hV, rfl, hfz, hnd⟩ := hW
  have hA : DataW.TrodAll enc Try.prog W 0 (fun _ => true) true Try.f5.params.toList args.toList ds p := hA0
  rw [Try.params5] at hA hval
  obtain ⟨v0, vs0, d0, ds0, p0, q0, hargs, rfl, rfl, h0, r0⟩ := trodAll_cons hA
  obtain ⟨v1, vs1, d1, ds1, p1, q1, rfl, rfl, rfl, h1, r1⟩ := trodAll_cons r0
  obtain ⟨v2, vs2, d2, ds2, p2, q2, rfl, rfl, rfl, h2, r2⟩ := trodAll_cons r1
  obtain ⟨rfl, rfl, rfl⟩ := trodAll_nil r2
  obtain rfl : args = #[v0, v1, v2] := by cases args; simp_all
  obtain ⟨rfl, rfl⟩ := trodVars_none hV
  obtain ⟨a0, rfl, rfl, rfl, w0⟩ := open_int Try.underlying5 (hval 0 5 v0 rfl rfl) h0
  have ra0 := lit_rng w0
  obtain ⟨a1, rfl, rfl, rfl, w1⟩ := open_int Try.underlying21 (hval 1 21 v1 rfl rfl) h1
  have ra1 := lit_rng w1
  obtain ⟨fu2, y2, hf2⟩ := op_one Try.underlying54 (hval 2 54 v2 rfl rfl) h2
  obtain ⟨A1, n1, c1, ps1, e1, hc1, hm1, hP1, hr1⟩ := op_moves hf2
  have e1 : [v2] = _ := e1
  cases e1
  clear hA0 hval0
  simp only [List.append_nil] at hW'
  refine Calls.mono (once_ok (w := W) (F := fun a => W.cell? a) (fun _ _ h => h) ra0 ra1 hP1 hc1 hr1) fun e W' ⟨he, hk⟩ => ?_
  exact ⟨_, he, post_law laidOut (by kernel_rfl) (by kernel_rfl) Try.underlying4 rfl hW' rfl hk rfl⟩

/-- RecoverOnce: for every input the law returns true, and each argument reads as it did. -/
theorem recoverOnce_holds : Rows.RecoverOnceSaid :=
  OpenClaim.holds_of_wide 5 Try.f5 rfl rfl rfl rfl rfl rfl rfl ⟨rfl, rfl, rfl, rfl, rfl⟩ rfl rfl rfl rfl rfl (by kernel_rfl) Try.func5 (by kernel_rfl)
    (of_decide_eq_true (by kernel_rfl)) (by unfold Func.isWrapper; first | (rw [if_pos (by decide +kernel)]; kernel_rfl) | (rw [if_neg (by decide +kernel)]; exact ⟨rfl, rfl⟩))
    (fun os started H enc _ => recoverOnce_lifted os started H enc)

end Go.Proofs.Ytichjhggoioenaa
