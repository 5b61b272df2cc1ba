/-
  It is proved here that the law RatField returns true for every input and leaves each argument as it was; no condition.
-/
import Derived.Test.YtgogfnkdemkdfaaRows
import Derived.Test.YtgogfnkdemkdfaaFrame
import Derived.Test.YtgogfnkdemkdfaaRtL5
namespace Go.Proofs.Ytgogfnkdemkdfaa
open Go Go.Eng Go.Rt Go.Proofs.Rt Go.ChangeShapes Go.WideShapes Go.ChangeAt Go.RowKit
theorem own : ownKnob Try.prog.godebug = none := by kernel_rfl
theorem laidOut : laidOutB Try.prog = true := by kernel_rfl
theorem cell39 : Try.prog.cellsOf 39 = 3 := by kernel_rfl
theorem cell38 : Try.prog.cellsOf 38 = 1 := by kernel_rfl
theorem cell40 : Try.prog.cellsOf 40 = 3 := by kernel_rfl
theorem cell5 : Try.prog.cellsOf 5 = 1 := by kernel_rfl
set_option maxRecDepth 100000 in
theorem ratField_lifted (os : Os) (started : os.Started) (H : Type) (enc : TypeId × Value → H) :
    ReturnsInHanded {} Try.checked os 5 .any (Rows.ratFieldSpec.pre6 enc Try.prog Try.f5 Rows.ratFieldRow.domain false) (Rows.ratFieldSpec.post enc Try.prog Try.f5 false true false false) := by
  refine returnsInHanded_of_change (C := Try.checked) own started (by kernel_rfl) Try.func5
    (ChangeSpec.witness6 (enc := enc) (C := Try.checked) false ⟨#[], #[.agg #[.int .i8 0, .int .i8 0, .int .i8 0], .agg #[.int .u8 0, .int .u8 0, .int .u8 0]], []⟩ 8 (by kernel_rfl) (by kernel_rfl) (by kernel_rfl) (by kernel_rfl)) ?_
  intro W base args ds gs before hval0 hW hcnd _
  have hval : ∀ (j : Nat) t v, Try.f5.params[j]? = some t → args[j]? = some v → Value.okWide Try.prog W .any base t v := hval0
  have hW' := hW
  obtain ⟨p, q, hA0, hV, rfl, hfz, hnd⟩ := hW
  have hA : DataW.TrodAll enc Try.prog W 0 (fun _ => true) true Try.f5.params.toList args.toList ds p := hA0
  rw [Try.params5] at hA hval
  obtain ⟨v0, vs0, d0, ds0, p0, q0, hargs, rfl, rfl, h0, r0⟩ := trodAll_cons hA
  obtain ⟨v1, vs1, d1, ds1, p1, q1, rfl, rfl, rfl, h1, r1⟩ := trodAll_cons r0
  obtain ⟨rfl, rfl, rfl⟩ := trodAll_nil r1
  obtain rfl : args = #[v0, v1] := by cases args; simp_all
  obtain ⟨rfl, rfl⟩ := trodVars_none hV
  obtain ⟨l0_0, fu0, y0, rfl, hl0_0, hf0⟩ := op_agg (.inr ⟨_, _, Try.underlying39⟩) cell39 (hval 0 39 v0 rfl rfl) h0
  obtain ⟨c0_0, l0_1, rfl, hl0_1⟩ := listS hl0_0
  obtain ⟨c0_1, l0_2, rfl, hl0_2⟩ := listS hl0_1
  obtain ⟨c0_2, l0_3, rfl, hl0_3⟩ := listS hl0_2
  obtain rfl := list0 hl0_3
  obtain ⟨_, hs1⟩ := op_array Try.underlying39 hf0
  obtain ⟨m2, y3, hj4⟩ := hs1 0 (by decide)
  have hj4 : DataW.trod enc Try.prog W 0 (fun _ => true) true m2 38 ((([c0_0, c0_1, c0_2] : List Value).drop (0 * Try.prog.cellsOf 38)).take (Try.prog.cellsOf 38)) = some y3 := hj4
  rw [cell38] at hj4
  replace hj4 : DataW.trod enc Try.prog W 0 (fun _ => true) true m2 38 [c0_0] = some y3 := hj4
  obtain ⟨x5, e6, rx5⟩ := op_int Try.underlying38 hj4
  have e6 : [c0_0] = _ := e6
  cases e6
  obtain ⟨m7, y8, hj9⟩ := hs1 1 (by decide)
  have hj9 : DataW.trod enc Try.prog W 0 (fun _ => true) true m7 38 ((([.int .i8 x5, c0_1, c0_2] : List Value).drop (1 * Try.prog.cellsOf 38)).take (Try.prog.cellsOf 38)) = some y8 := hj9
  rw [cell38] at hj9
  replace hj9 : DataW.trod enc Try.prog W 0 (fun _ => true) true m7 38 [c0_1] = some y8 := hj9
  obtain ⟨x10, e11, rx10⟩ := op_int Try.underlying38 hj9
  have e11 : [c0_1] = _ := e11
  cases e11
  obtain ⟨m12, y13, hj14⟩ := hs1 2 (by decide)
  have hj14 : DataW.trod enc Try.prog W 0 (fun _ => true) true m12 38 ((([.int .i8 x5, .int .i8 x10, c0_2] : List Value).drop (2 * Try.prog.cellsOf 38)).take (Try.prog.cellsOf 38)) = some y13 := hj14
  rw [cell38] at hj14
  replace hj14 : DataW.trod enc Try.prog W 0 (fun _ => true) true m12 38 [c0_2] = some y13 := hj14
  obtain ⟨x15, e16, rx15⟩ := op_int Try.underlying38 hj14
  have e16 : [c0_2] = _ := e16
  cases e16
  obtain ⟨l1_0, fu1, y1, rfl, hl1_0, hf1⟩ := op_agg (.inr ⟨_, _, Try.underlying40⟩) cell40 (hval 1 40 v1 rfl rfl) h1
  obtain ⟨c1_0, l1_1, rfl, hl1_1⟩ := listS hl1_0
  obtain ⟨c1_1, l1_2, rfl, hl1_2⟩ := listS hl1_1
  obtain ⟨c1_2, l1_3, rfl, hl1_3⟩ := listS hl1_2
  obtain rfl := list0 hl1_3
  obtain ⟨_, hs17⟩ := op_array Try.underlying40 hf1
  obtain ⟨m18, y19, hj20⟩ := hs17 0 (by decide)
  have hj20 : DataW.trod enc Try.prog W 0 (fun _ => true) true m18 5 ((([c1_0, c1_1, c1_2] : List Value).drop (0 * Try.prog.cellsOf 5)).take (Try.prog.cellsOf 5)) = some y19 := hj20
  rw [cell5] at hj20
  replace hj20 : DataW.trod enc Try.prog W 0 (fun _ => true) true m18 5 [c1_0] = some y19 := hj20
  obtain ⟨x21, e22, rx21⟩ := op_int Try.underlying5 hj20
  have e22 : [c1_0] = _ := e22
  cases e22
  obtain ⟨m23, y24, hj25⟩ := hs17 1 (by decide)
  have hj25 : DataW.trod enc Try.prog W 0 (fun _ => true) true m23 5 ((([.int .u8 x21, c1_1, c1_2] : List Value).drop (1 * Try.prog.cellsOf 5)).take (Try.prog.cellsOf 5)) = some y24 := hj25
  rw [cell5] at hj25
  replace hj25 : DataW.trod enc Try.prog W 0 (fun _ => true) true m23 5 [c1_1] = some y24 := hj25
  obtain ⟨x26, e27, rx26⟩ := op_int Try.underlying5 hj25
  have e27 : [c1_1] = _ := e27
  cases e27
  obtain ⟨m28, y29, hj30⟩ := hs17 2 (by decide)
  have hj30 : DataW.trod enc Try.prog W 0 (fun _ => true) true m28 5 ((([.int .u8 x21, .int .u8 x26, c1_2] : List Value).drop (2 * Try.prog.cellsOf 5)).take (Try.prog.cellsOf 5)) = some y29 := hj30
  rw [cell5] at hj30
  replace hj30 : DataW.trod enc Try.prog W 0 (fun _ => true) true m28 5 [c1_2] = some y29 := hj30
  obtain ⟨x31, e32, rx31⟩ := op_int Try.underlying5 hj30
  have e32 : [c1_2] = _ := e32
  cases e32
  clear hA0 hval0
  simp only [List.append_nil] at hW'
  refine Calls.mono (field_ok (w := W) (F := fun a => W.cell? a) (fun _ _ h => h) rx5 rx21 rx10 rx26 rx15 rx31) fun e W' ⟨he, hk⟩ => ?_
  exact ⟨_, he, post_law laidOut (by kernel_rfl) (by kernel_rfl) Try.underlying4 rfl hW' rfl hk rfl⟩

/-- RatField: for every input the law returns true, and each argument reads as it did. -/
theorem ratField_holds : Rows.RatFieldSaid :=
  OpenClaim.holds_of_wide 5 Try.f5 rfl rfl rfl rfl rfl rfl rfl ⟨rfl, rfl, rfl, rfl, rfl⟩ rfl rfl rfl rfl rfl (by kernel_rfl) Try.func5 (by kernel_rfl)
    (of_decide_eq_true (by kernel_rfl)) (by unfold Func.isWrapper; first | (rw [if_pos (by decide +kernel)]; kernel_rfl) | (rw [if_neg (by decide +kernel)]; exact ⟨rfl, rfl⟩))
    (fun os started H enc _ => ratField_lifted os started H enc)

end Go.Proofs.Ytgogfnkdemkdfaa
