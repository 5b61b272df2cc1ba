/-
  It is proved here that the law ChooseOpen returns true for every input and leaves each argument as it was; no condition.
-/
import Derived.Test.YtffocfffggfenaaRows
import Derived.Test.YtffocfffggfenaaEng11ToEng6
import Derived.Test.YtffocfffggfenaaCpFrE
import Derived.Test.YtffocfffggfenaaCpFrP
import Derived.Test.YtffocfffggfenaaCpL5
namespace Go.Proofs.Ytffocfffggfenaa
open Go Go.Eng Go.Gt Go.Sw Go.Qu Go.Ch Go.Proofs.Gt Go.Proofs.Cp Go.ChangeShapes Go.WideShapes Go.ChangeAt Go.RowKit
theorem own : ownKnob Try.prog.godebug = none := by kernel_rfl
theorem laidOut : laidOutB Try.prog = true := by kernel_rfl

set_option maxRecDepth 100000 in
theorem chooseOpen_lifted (os : Os) (started : os.Started) (H : Type) (enc : TypeId × Value → H) :
    ReturnsInHanded {} Try.checked os 9 .any (Rows.chooseOpenSpec.pre6 enc Try.prog Try.f9 Rows.chooseOpenRow.domain false) (Rows.chooseOpenSpec.post enc Try.prog Try.f9 false true false false) := by
  refine returnsInHanded_of_change (C := Try.checked) own started (by kernel_rfl) Try.func9
    (ChangeSpec.witness6 (enc := enc) (C := Try.checked) false ⟨#[], #[.int .i64 0, .slice none 0 0, .int .i64 0], []⟩ 8 (by kernel_rfl) (by kernel_rfl) (by kernel_rfl) (by kernel_rfl)) ?_
  intro W base args ds gs before hval0 hW hcnd _
  have hval : ∀ (j : Nat) t v, Try.f9.params[j]? = some t → args[j]? = some v → Value.okWide Try.prog W .any base t v := hval0
  have hW' := hW
  obtain ⟨p, q, hA0, hV, rfl, hfz, hnd⟩ := hW
  have hA : DataW.TrodAll enc Try.prog W 0 (fun _ => true) true Try.f9.params.toList args.toList ds p := hA0
  rw [Try.params9] at hA hval
  obtain ⟨v0, vs0, d0, ds0, p0, q0, hargs, rfl, rfl, h0, r0⟩ := trodAll_cons hA
  obtain ⟨v1, vs1, d1, ds1, p1, q1, rfl, rfl, rfl, h1, r1⟩ := trodAll_cons r0
  obtain ⟨v2, vs2, d2, ds2, p2, q2, rfl, rfl, rfl, h2, r2⟩ := trodAll_cons r1
  obtain ⟨rfl, rfl, rfl⟩ := trodAll_nil r2
  obtain rfl : args = #[v0, v1, v2] := by cases args; simp_all
  obtain ⟨rfl, rfl⟩ := trodVars_none hV
  obtain ⟨a0, rfl, rfl, rfl, w0⟩ := open_int Try.underlying3 (hval 0 3 v0 rfl rfl) h0
  have ra0 := lit_rng w0
  obtain ⟨fu1, y1, hf1⟩ := op_one Try.underlying27 (hval 1 27 v1 rfl rfl) h1
  obtain ⟨A1, n1, c1, ps1, e1, hc1, hm1, hP1, hr1⟩ := op_parts hf1
  have e1 : [v1] = _ := e1
  cases e1
  obtain ⟨a2, rfl, rfl, rfl, w2⟩ := open_int Try.underlying3 (hval 2 3 v2 rfl rfl) h2
  have ra2 := lit_rng w2
  clear hA0 hval0
  simp only [List.append_nil] at hW'
  refine Calls.mono (open_law (w := W) (F := fun a => W.cell? a) (fun _ _ h => h) hP1 hc1 hm1 ra0 ra2) fun e W' ⟨he, hk⟩ => ?_
  exact ⟨_, he, post_law laidOut (by kernel_rfl) (by kernel_rfl) Try.underlying4 rfl hW' rfl hk rfl⟩

/-- ChooseOpen: for every input the law returns true, and each argument reads as it did. -/
theorem chooseOpen_holds : Rows.ChooseOpenSaid :=
  OpenClaim.holds_of_wide 9 Try.f9 rfl rfl rfl rfl rfl rfl rfl ⟨rfl, rfl, rfl, rfl, rfl⟩ rfl rfl rfl rfl rfl (by kernel_rfl) Try.func9 (by kernel_rfl)
    (of_decide_eq_true (by kernel_rfl)) (by unfold Func.isWrapper; first | (rw [if_pos (by decide +kernel)]; kernel_rfl) | (rw [if_neg (by decide +kernel)]; exact ⟨rfl, rfl⟩))
    (fun os started H enc _ => chooseOpen_lifted os started H enc)

end Go.Proofs.Ytffocfffggfenaa
