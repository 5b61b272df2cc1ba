/-
  It is proved here that the law RatSums returns true for every input and leaves each argument as it was; no condition.
-/
import Derived.Test.YtgogfnkdemkdfaaRows
import Derived.Test.YtgogfnkdemkdfaaFrame
import Derived.Test.YtgogfnkdemkdfaaRtL1
namespace Go.Proofs.Ytgogfnkdemkdfaa
open Go Go.Eng Go.Rt Go.Proofs.Rt Go.ChangeShapes Go.WideShapes Go.ChangeAt Go.RowKit
theorem own : ownKnob Try.prog.godebug = none := by kernel_rfl
theorem laidOut : laidOutB Try.prog = true := by kernel_rfl
theorem cell23 : Try.prog.cellsOf 23 = 2 := by kernel_rfl
theorem cell3 : Try.prog.cellsOf 3 = 1 := by kernel_rfl
set_option maxRecDepth 100000 in
theorem ratSums_lifted (os : Os) (started : os.Started) (H : Type) (enc : TypeId × Value → H) :
    ReturnsInHanded {} Try.checked os 4 .any (Rows.ratSumsSpec.pre6 enc Try.prog Try.f4 Rows.ratSumsRow.domain false) (Rows.ratSumsSpec.post enc Try.prog Try.f4 false true false false) := by
  refine returnsInHanded_of_change (C := Try.checked) own started (by kernel_rfl) Try.func4
    (ChangeSpec.witness6 (enc := enc) (C := Try.checked) false ⟨#[], #[.agg #[.int .i64 0, .int .i64 0], .agg #[.int .i64 0, .int .i64 0]], []⟩ 8 (by kernel_rfl) (by kernel_rfl) (by kernel_rfl) (by kernel_rfl)) ?_
  intro W base args ds gs before hval0 hW hcnd _
  have hval : ∀ (j : Nat) t v, Try.f4.params[j]? = some t → args[j]? = some v → Value.okWide Try.prog W .any base t v := hval0
  have hW' := hW
  obtain ⟨p, q, hA0, hV, rfl, hfz, hnd⟩ := hW
  have hA : DataW.TrodAll enc Try.prog W 0 (fun _ => true) true Try.f4.params.toList args.toList ds p := hA0
  rw [Try.params4] at hA hval
  obtain ⟨v0, vs0, d0, ds0, p0, q0, hargs, rfl, rfl, h0, r0⟩ := trodAll_cons hA
  obtain ⟨v1, vs1, d1, ds1, p1, q1, rfl, rfl, rfl, h1, r1⟩ := trodAll_cons r0
  obtain ⟨rfl, rfl, rfl⟩ := trodAll_nil r1
  obtain rfl : args = #[v0, v1] := by cases args; simp_all
  obtain ⟨rfl, rfl⟩ := trodVars_none hV
  obtain ⟨l0_0, fu0, y0, rfl, hl0_0, hf0⟩ := op_agg (.inl ⟨_, Try.underlying23⟩) cell23 (hval 0 23 v0 rfl rfl) h0
  obtain ⟨c0_0, l0_1, rfl, hl0_1⟩ := listS hl0_0
  obtain ⟨c0_1, l0_2, rfl, hl0_2⟩ := listS hl0_1
  obtain rfl := list0 hl0_2
  obtain ⟨_, hs1⟩ := op_struct Try.underlying23 hf0
  obtain ⟨m2, y3, hj4⟩ := hs1 0 _ rfl
  have hj4 : DataW.trod enc Try.prog W 0 (fun _ => true) true m2 3 ((([c0_0, c0_1] : List Value).drop 0).take (Try.prog.cellsOf 3)) = some y3 := hj4
  rw [cell3] at hj4
  replace hj4 : DataW.trod enc Try.prog W 0 (fun _ => true) true m2 3 [c0_0] = some y3 := hj4
  obtain ⟨x5, e6, rx5⟩ := op_int Try.underlying3 hj4
  have e6 : [c0_0] = _ := e6
  cases e6
  obtain ⟨m7, y8, hj9⟩ := hs1 1 _ rfl
  have hj9 : DataW.trod enc Try.prog W 0 (fun _ => true) true m7 3 ((([.int .i64 x5, c0_1] : List Value).drop 1).take (Try.prog.cellsOf 3)) = some y8 := hj9
  rw [cell3] at hj9
  replace hj9 : DataW.trod enc Try.prog W 0 (fun _ => true) true m7 3 [c0_1] = some y8 := hj9
  obtain ⟨x10, e11, rx10⟩ := op_int Try.underlying3 hj9
  have e11 : [c0_1] = _ := e11
  cases e11
  obtain ⟨l1_0, fu1, y1, rfl, hl1_0, hf1⟩ := op_agg (.inl ⟨_, Try.underlying23⟩) cell23 (hval 1 23 v1 rfl rfl) h1
  obtain ⟨c1_0, l1_1, rfl, hl1_1⟩ := listS hl1_0
  obtain ⟨c1_1, l1_2, rfl, hl1_2⟩ := listS hl1_1
  obtain rfl := list0 hl1_2
  obtain ⟨_, hs12⟩ := op_struct Try.underlying23 hf1
  obtain ⟨m13, y14, hj15⟩ := hs12 0 _ rfl
  have hj15 : DataW.trod enc Try.prog W 0 (fun _ => true) true m13 3 ((([c1_0, c1_1] : List Value).drop 0).take (Try.prog.cellsOf 3)) = some y14 := hj15
  rw [cell3] at hj15
  replace hj15 : DataW.trod enc Try.prog W 0 (fun _ => true) true m13 3 [c1_0] = some y14 := hj15
  obtain ⟨x16, e17, rx16⟩ := op_int Try.underlying3 hj15
  have e17 : [c1_0] = _ := e17
  cases e17
  obtain ⟨m18, y19, hj20⟩ := hs12 1 _ rfl
  have hj20 : DataW.trod enc Try.prog W 0 (fun _ => true) true m18 3 ((([.int .i64 x16, c1_1] : List Value).drop 1).take (Try.prog.cellsOf 3)) = some y19 := hj20
  rw [cell3] at hj20
  replace hj20 : DataW.trod enc Try.prog W 0 (fun _ => true) true m18 3 [c1_1] = some y19 := hj20
  obtain ⟨x21, e22, rx21⟩ := op_int Try.underlying3 hj20
  have e22 : [c1_1] = _ := e22
  cases e22
  clear hA0 hval0
  simp only [List.append_nil] at hW'
  refine Calls.mono (sums_ok (w := W) (F := fun a => W.cell? a) (fun _ _ h => h) rx5 rx10 rx16 rx21) fun e W' ⟨he, hk⟩ => ?_
  exact ⟨_, he, post_law laidOut (by kernel_rfl) (by kernel_rfl) Try.underlying4 rfl hW' rfl hk rfl⟩

/-- RatSums: for every input the law returns true, and each argument reads as it did. -/
theorem ratSums_holds : Rows.RatSumsSaid :=
  OpenClaim.holds_of_wide 4 Try.f4 rfl rfl rfl rfl rfl rfl rfl ⟨rfl, rfl, rfl, rfl, rfl⟩ rfl rfl rfl rfl rfl (by kernel_rfl) Try.func4 (by kernel_rfl)
    (of_decide_eq_true (by kernel_rfl)) (by unfold Func.isWrapper; first | (rw [if_pos (by decide +kernel)]; kernel_rfl) | (rw [if_neg (by decide +kernel)]; exact ⟨rfl, rfl⟩))
    (fun os started H enc _ => ratSums_lifted os started H enc)

end Go.Proofs.Ytgogfnkdemkdfaa
