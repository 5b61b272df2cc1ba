/-
  It is proved here that the law QueueOrders returns true for every input and leaves each argument as it was; no condition.
-/
import Derived.Test.YtopaidnhgkejiaaRows
import Derived.Test.YtopaidnhgkejiaaQuL6
import Derived.Test.YtopaidnhgkejiaaQuFr
namespace Go.Proofs.Ytopaidnhgkejiaa
open Go Go.Eng Go.Qu Go.Proofs.Qu Go.ChangeShapes Go.WideShapes Go.ChangeAt Go.RowKit
theorem own : ownKnob Try.prog.godebug = none := by kernel_rfl
theorem laidOut : laidOutB Try.prog = true := by kernel_rfl

set_option maxRecDepth 100000 in
theorem queueOrders_lifted (os : Os) (started : os.Started) (H : Type) (enc : TypeId × Value → H) :
    ReturnsInHanded {} Try.checked os 6 .any (Rows.queueOrdersSpec.pre6 enc Try.prog Try.f6 Rows.queueOrdersRow.domain false) (Rows.queueOrdersSpec.post enc Try.prog Try.f6 false true false false) := by
  refine returnsInHanded_of_change (C := Try.checked) own started (by kernel_rfl) Try.func6
    (ChangeSpec.witness6 (enc := enc) (C := Try.checked) false ⟨#[], #[.int .u16 0, .slice none 0 0], []⟩ 8 (by kernel_rfl) (by kernel_rfl) (by kernel_rfl) (by kernel_rfl)) ?_
  intro W base args ds gs before hval0 hW hcnd _
  have hval : ∀ (j : Nat) t v, Try.f6.params[j]? = some t → args[j]? = some v → Value.okWide Try.prog W .any base t v := hval0
  have hW' := hW
  obtain ⟨p, q, hA0, hV, rfl, hfz, hnd⟩ := hW
  have hA : DataW.TrodAll enc Try.prog W 0 (fun _ => true) true Try.f6.params.toList args.toList ds p := hA0
  rw [Try.params6] at hA hval
  obtain ⟨v0, vs0, d0, ds0, p0, q0, hargs, rfl, rfl, h0, r0⟩ := trodAll_cons hA
  obtain ⟨v1, vs1, d1, ds1, p1, q1, rfl, rfl, rfl, h1, r1⟩ := trodAll_cons r0
  obtain ⟨rfl, rfl, rfl⟩ := trodAll_nil r1
  obtain rfl : args = #[v0, v1] := by cases args; simp_all
  obtain ⟨rfl, rfl⟩ := trodVars_none hV
  obtain ⟨a0, rfl, rfl, rfl, w0⟩ := open_int Try.underlying57 (hval 0 57 v0 rfl rfl) h0
  have ra0 := lit_rng w0
  obtain ⟨fu1, y1, hf1⟩ := op_one Try.underlying58 (hval 1 58 v1 rfl rfl) h1
  obtain ⟨A1, n1, c1, ps1, e1, hc1, hm1, hP1, hr1⟩ := op_steps hf1
  have e1 : [v1] = _ := e1
  cases e1
  clear hA0 hval0
  simp only [List.append_nil] at hW'
  refine Calls.mono (orders_ok (w := W) (F := fun a => W.cell? a) (fun _ _ h => h) ra0 hP1 hc1 hr1) fun e W' ⟨he, hk⟩ => ?_
  exact ⟨_, he, post_law laidOut (by kernel_rfl) (by kernel_rfl) Try.underlying4 rfl hW' rfl hk rfl⟩

/-- QueueOrders: for every input the law returns true, and each argument reads as it did. -/
theorem queueOrders_holds : Rows.QueueOrdersSaid :=
  OpenClaim.holds_of_wide 6 Try.f6 rfl rfl rfl rfl rfl rfl rfl ⟨rfl, rfl, rfl, rfl, rfl⟩ rfl rfl rfl rfl rfl (by kernel_rfl) Try.func6 (by kernel_rfl)
    (of_decide_eq_true (by kernel_rfl)) (by unfold Func.isWrapper; first | (rw [if_pos (by decide +kernel)]; kernel_rfl) | (rw [if_neg (by decide +kernel)]; exact ⟨rfl, rfl⟩))
    (fun os started H enc _ => queueOrders_lifted os started H enc)

end Go.Proofs.Ytopaidnhgkejiaa
