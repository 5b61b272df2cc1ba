/-
  It is proved here that the law PortKnown returns true for every input and leaves each argument as it was; no condition.
-/
import Derived.Test.YtffocfffggfenaaRows
import Derived.Test.YtffocfffggfenaaEng12ToEng24PportKnownhol
import Derived.Test.YtffocfffggfenaaCpFrEToCpC5PportKnownhol
import Derived.Test.YtffocfffggfenaaCpPL2PportKnownhol
namespace Go.Proofs.Ytffocfffggfenaa
open Go Go.Eng Go.Gt Go.Sw Go.Qu Go.Ch Go.Po Go.Proofs.Gt Go.Proofs.Cp Go.ChangeShapes Go.WideShapes Go.ChangeAt Go.RowKit
theorem own : ownKnob Try.prog.godebug = none := by kernel_rfl
theorem laidOut : laidOutB Try.prog = true := by kernel_rfl
set_option maxRecDepth 100000 in
theorem portKnown_lifted (os : Os) (started : os.Started) (H : Type) (enc : TypeId × Value → H) :
    ReturnsInHanded {} Try.checked os 14 .any (Rows.portKnownSpec.pre6 enc Try.prog Try.f14 Rows.portKnownRow.domain false) (Rows.portKnownSpec.post enc Try.prog Try.f14 false true false false) := by
  refine returnsInHanded_of_change (C := Try.checked) own started (by kernel_rfl) Try.func14
    (ChangeSpec.witness6 (enc := enc) (C := Try.checked) false ⟨#[], #[], []⟩ 8 (by kernel_rfl) (by kernel_rfl) (by kernel_rfl) (by kernel_rfl)) ?_
  intro W base args ds gs before hval0 hW hcnd _
  have hval : ∀ (j : Nat) t v, Try.f14.params[j]? = some t → args[j]? = some v → Value.okWide Try.prog W .any base t v := hval0
  have hW' := hW
  obtain ⟨p, q, hA0, hV, rfl, hfz, hnd⟩ := hW
  have hA : DataW.TrodAll enc Try.prog W 0 (fun _ => true) true Try.f14.params.toList args.toList ds p := hA0
  rw [Try.params14] at hA hval
  obtain ⟨rfl, rfl, rfl⟩ := trodAll_none hA
  obtain ⟨rfl, rfl⟩ := trodVars_none hV
  clear hA0 hval0
  simp only [List.append_nil] at hW'
  refine Calls.mono (pknown_ok (w := W) (F := fun a => W.cell? a) (fun _ _ h => h)) fun e W' ⟨he, hk⟩ => ?_
  exact ⟨_, he, post_law laidOut (by kernel_rfl) (by kernel_rfl) Try.underlying4 rfl hW' rfl hk rfl⟩
theorem portKnown_holds : Rows.PortKnownSaid :=
  OpenClaim.holds_of_wide 14 Try.f14 rfl rfl rfl rfl rfl rfl rfl ⟨rfl, rfl, rfl, rfl, rfl⟩ rfl rfl rfl rfl rfl (by kernel_rfl) Try.func14 (by kernel_rfl)
    (of_decide_eq_true (by kernel_rfl)) (by unfold Func.isWrapper; first | (rw [if_pos (by decide +kernel)]; kernel_rfl) | (rw [if_neg (by decide +kernel)]; exact ⟨rfl, rfl⟩))
    (fun os started H enc _ => portKnown_lifted os started H enc)
end Go.Proofs.Ytffocfffggfenaa
