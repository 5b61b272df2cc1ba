/-
  It is proved here that the law ChooseKnown returns true for every input and leaves each argument as it was; no condition.
-/
import Derived.Test.YtffocfffggfenaaRows
import Derived.Test.YtffocfffggfenaaEng11ToEng6
import Derived.Test.YtffocfffggfenaaCpFrE
import Derived.Test.YtffocfffggfenaaCpFrP
import Derived.Test.YtffocfffggfenaaCpL6
namespace Go.Proofs.Ytffocfffggfenaa
open Go Go.Eng Go.Gt Go.Sw Go.Qu Go.Ch Go.Proofs.Gt Go.Proofs.Cp Go.ChangeShapes Go.WideShapes Go.ChangeAt Go.RowKit
theorem own : ownKnob Try.prog.godebug = none := by kernel_rfl
theorem laidOut : laidOutB Try.prog = true := by kernel_rfl

set_option maxRecDepth 100000 in
theorem chooseKnown_lifted (os : Os) (started : os.Started) (H : Type) (enc : TypeId × Value → H) :
    ReturnsInHanded {} Try.checked os 10 .any (Rows.chooseKnownSpec.pre6 enc Try.prog Try.f10 Rows.chooseKnownRow.domain false) (Rows.chooseKnownSpec.post enc Try.prog Try.f10 false true false false) := by
  refine returnsInHanded_of_change (C := Try.checked) own started (by kernel_rfl) Try.func10
    (ChangeSpec.witness6 (enc := enc) (C := Try.checked) false ⟨#[], #[], []⟩ 8 (by kernel_rfl) (by kernel_rfl) (by kernel_rfl) (by kernel_rfl)) ?_
  intro W base args ds gs before hval0 hW hcnd _
  have hval : ∀ (j : Nat) t v, Try.f10.params[j]? = some t → args[j]? = some v → Value.okWide Try.prog W .any base t v := hval0
  have hW' := hW
  obtain ⟨p, q, hA0, hV, rfl, hfz, hnd⟩ := hW
  have hA : DataW.TrodAll enc Try.prog W 0 (fun _ => true) true Try.f10.params.toList args.toList ds p := hA0
  rw [Try.params10] at hA hval
  obtain ⟨rfl, rfl, rfl⟩ := trodAll_none hA
  obtain ⟨rfl, rfl⟩ := trodVars_none hV
  clear hA0 hval0
  simp only [List.append_nil] at hW'
  refine Calls.mono (cknown_ok (w := W) (F := fun a => W.cell? a) (fun _ _ h => h)) fun e W' ⟨he, hk⟩ => ?_
  exact ⟨_, he, post_law laidOut (by kernel_rfl) (by kernel_rfl) Try.underlying4 rfl hW' rfl hk rfl⟩

/-- ChooseKnown: for every input the law returns true, and each argument reads as it did. -/
theorem chooseKnown_holds : Rows.ChooseKnownSaid :=
  OpenClaim.holds_of_wide 10 Try.f10 rfl rfl rfl rfl rfl rfl rfl ⟨rfl, rfl, rfl, rfl, rfl⟩ rfl rfl rfl rfl rfl (by kernel_rfl) Try.func10 (by kernel_rfl)
    (of_decide_eq_true (by kernel_rfl)) (by unfold Func.isWrapper; first | (rw [if_pos (by decide +kernel)]; kernel_rfl) | (rw [if_neg (by decide +kernel)]; exact ⟨rfl, rfl⟩))
    (fun os started H enc _ => chooseKnown_lifted os started H enc)

end Go.Proofs.Ytffocfffggfenaa
