/-
  It is proved here that the law RecoverSteps returns true for every input and leaves each argument as it was; no condition.
-/
import Derived.Test.YtichjhggoioenaaRows
import Derived.Test.YtichjhggoioenaaFrame
import Derived.Test.YtichjhggoioenaaRcL4b
namespace Go.Proofs.Ytichjhggoioenaa
open Go Go.Eng Go.Rc Go.Proofs.Rc Go.ChangeShapes Go.WideShapes Go.ChangeAt Go.RowKit
theorem own : ownKnob Try.prog.godebug = none := by kernel_rfl
theorem laidOut : laidOutB Try.prog = true := by kernel_rfl
theorem cell24 : Try.prog.cellsOf 24 = 6 := by kernel_rfl
theorem cell3 : Try.prog.cellsOf 3 = 1 := by kernel_rfl
theorem cell4 : Try.prog.cellsOf 4 = 1 := by kernel_rfl
theorem cell22 : Try.prog.cellsOf 22 = 1 := by kernel_rfl
theorem cell28 : Try.prog.cellsOf 28 = 6 := by kernel_rfl
theorem cell5 : Try.prog.cellsOf 5 = 1 := by kernel_rfl
theorem cell25 : Try.prog.cellsOf 25 = 1 := by kernel_rfl
theorem cell26 : Try.prog.cellsOf 26 = 1 := by kernel_rfl
set_option maxRecDepth 100000 in
theorem recoverSteps_lifted (os : Os) (started : os.Started) (H : Type) (enc : TypeId × Value → H) :
    ReturnsInHanded {} Try.checked os 4 .any (Rows.recoverStepsSpec.pre6 enc Try.prog Try.f4 Rows.recoverStepsRow.domain false) (Rows.recoverStepsSpec.post enc Try.prog Try.f4 false true false false) := by
  refine returnsInHanded_of_change (C := Try.checked) own started (by kernel_rfl) Try.func4
    (ChangeSpec.witness6 (enc := enc) (C := Try.checked) false ⟨#[], #[.agg #[.int .i64 0, .int .i64 0, .bool false, .int .i64 0, .int .i64 0, .int .u64 0], .agg #[.int .u8 0, .int .u32 0, .bool false, .int .u16 0, .int .u32 0, .int .u64 0], .int .i64 0, .int .i64 0, .int .i8 0], []⟩ 8 (by kernel_rfl) (by kernel_rfl) (by kernel_rfl) (by kernel_rfl)) ?_
  intro W base args ds gs before hval0 hW hcnd _
  have hval : ∀ (j : Nat) t v, Try.f4.params[j]? = some t → args[j]? = some v → Value.okWide Try.prog W .any base t v := hval0
  have hW' := hW
  obtain ⟨p, q, hA0, hV, rfl, hfz, hnd⟩ := hW
  have hA : DataW.TrodAll enc Try.prog W 0 (fun _ => true) true Try.f4.params.toList args.toList ds p := hA0
  rw [Try.params4] at hA hval
  obtain ⟨v0, vs0, d0, ds0, p0, q0, hargs, rfl, rfl, h0, r0⟩ := trodAll_cons hA
  obtain ⟨v1, vs1, d1, ds1, p1, q1, rfl, rfl, rfl, h1, r1⟩ := trodAll_cons r0
  obtain ⟨v2, vs2, d2, ds2, p2, q2, rfl, rfl, rfl, h2, r2⟩ := trodAll_cons r1
  obtain ⟨v3, vs3, d3, ds3, p3, q3, rfl, rfl, rfl, h3, r3⟩ := trodAll_cons r2
  obtain ⟨v4, vs4, d4, ds4, p4, q4, rfl, rfl, rfl, h4, r4⟩ := trodAll_cons r3
  obtain ⟨rfl, rfl, rfl⟩ := trodAll_nil r4
  obtain rfl : args = #[v0, v1, v2, v3, v4] := by cases args; simp_all
  obtain ⟨rfl, rfl⟩ := trodVars_none hV
  obtain ⟨l0_0, fu0, y0, rfl, hl0_0, hf0⟩ := op_agg (.inl ⟨_, Try.underlying24⟩) cell24 (hval 0 24 v0 rfl rfl) h0
  obtain ⟨c0_0, l0_1, rfl, hl0_1⟩ := listS hl0_0
  obtain ⟨c0_1, l0_2, rfl, hl0_2⟩ := listS hl0_1
  obtain ⟨c0_2, l0_3, rfl, hl0_3⟩ := listS hl0_2
  obtain ⟨c0_3, l0_4, rfl, hl0_4⟩ := listS hl0_3
  obtain ⟨c0_4, l0_5, rfl, hl0_5⟩ := listS hl0_4
  obtain ⟨c0_5, l0_6, rfl, hl0_6⟩ := listS hl0_5
  obtain rfl := list0 hl0_6
  obtain ⟨_, hs1⟩ := op_struct Try.underlying24 hf0
  obtain ⟨m2, y3, hj4⟩ := hs1 0 _ rfl
  have hj4 : DataW.trod enc Try.prog W 0 (fun _ => true) true m2 3 ((([c0_0, c0_1, c0_2, c0_3, c0_4, c0_5] : List Value).drop 0).take (Try.prog.cellsOf 3)) = some y3 := hj4
  rw [cell3] at hj4
  replace hj4 : DataW.trod enc Try.prog W 0 (fun _ => true) true m2 3 [c0_0] = some y3 := hj4
  obtain ⟨x5, e6, rx5⟩ := op_int Try.underlying3 hj4
  have e6 : [c0_0] = _ := e6
  cases e6
  obtain ⟨m7, y8, hj9⟩ := hs1 1 _ rfl
  have hj9 : DataW.trod enc Try.prog W 0 (fun _ => true) true m7 3 ((([.int .i64 x5, c0_1, c0_2, c0_3, c0_4, c0_5] : List Value).drop 1).take (Try.prog.cellsOf 3)) = some y8 := hj9
  rw [cell3] at hj9
  replace hj9 : DataW.trod enc Try.prog W 0 (fun _ => true) true m7 3 [c0_1] = some y8 := hj9
  obtain ⟨x10, e11, rx10⟩ := op_int Try.underlying3 hj9
  have e11 : [c0_1] = _ := e11
  cases e11
  obtain ⟨m12, y13, hj14⟩ := hs1 2 _ rfl
  have hj14 : DataW.trod enc Try.prog W 0 (fun _ => true) true m12 4 ((([.int .i64 x5, .int .i64 x10, c0_2, c0_3, c0_4, c0_5] : List Value).drop 2).take (Try.prog.cellsOf 4)) = some y13 := hj14
  rw [cell4] at hj14
  replace hj14 : DataW.trod enc Try.prog W 0 (fun _ => true) true m12 4 [c0_2] = some y13 := hj14
  obtain ⟨x15, e16⟩ := op_bool Try.underlying4 hj14
  have e16 : [c0_2] = _ := e16
  cases e16
  obtain ⟨m17, y18, hj19⟩ := hs1 3 _ rfl
  have hj19 : DataW.trod enc Try.prog W 0 (fun _ => true) true m17 3 ((([.int .i64 x5, .int .i64 x10, .bool x15, c0_3, c0_4, c0_5] : List Value).drop 3).take (Try.prog.cellsOf 3)) = some y18 := hj19
  rw [cell3] at hj19
  replace hj19 : DataW.trod enc Try.prog W 0 (fun _ => true) true m17 3 [c0_3] = some y18 := hj19
  obtain ⟨x20, e21, rx20⟩ := op_int Try.underlying3 hj19
  have e21 : [c0_3] = _ := e21
  cases e21
  obtain ⟨m22, y23, hj24⟩ := hs1 4 _ rfl
  have hj24 : DataW.trod enc Try.prog W 0 (fun _ => true) true m22 3 ((([.int .i64 x5, .int .i64 x10, .bool x15, .int .i64 x20, c0_4, c0_5] : List Value).drop 4).take (Try.prog.cellsOf 3)) = some y23 := hj24
  rw [cell3] at hj24
  replace hj24 : DataW.trod enc Try.prog W 0 (fun _ => true) true m22 3 [c0_4] = some y23 := hj24
  obtain ⟨x25, e26, rx25⟩ := op_int Try.underlying3 hj24
  have e26 : [c0_4] = _ := e26
  cases e26
  obtain ⟨m27, y28, hj29⟩ := hs1 5 _ rfl
  have hj29 : DataW.trod enc Try.prog W 0 (fun _ => true) true m27 22 ((([.int .i64 x5, .int .i64 x10, .bool x15, .int .i64 x20, .int .i64 x25, c0_5] : List Value).drop 5).take (Try.prog.cellsOf 22)) = some y28 := hj29
  rw [cell22] at hj29
  replace hj29 : DataW.trod enc Try.prog W 0 (fun _ => true) true m27 22 [c0_5] = some y28 := hj29
  obtain ⟨x30, e31, rx30⟩ := op_int Try.underlying22 hj29
  have e31 : [c0_5] = _ := e31
  cases e31
  obtain ⟨l1_0, fu1, y1, rfl, hl1_0, hf1⟩ := op_agg (.inl ⟨_, Try.underlying28⟩) cell28 (hval 1 28 v1 rfl rfl) h1
  obtain ⟨c1_0, l1_1, rfl, hl1_1⟩ := listS hl1_0
  obtain ⟨c1_1, l1_2, rfl, hl1_2⟩ := listS hl1_1
  obtain ⟨c1_2, l1_3, rfl, hl1_3⟩ := listS hl1_2
  obtain ⟨c1_3, l1_4, rfl, hl1_4⟩ := listS hl1_3
  obtain ⟨c1_4, l1_5, rfl, hl1_5⟩ := listS hl1_4
  obtain ⟨c1_5, l1_6, rfl, hl1_6⟩ := listS hl1_5
  obtain rfl := list0 hl1_6
  obtain ⟨_, hs32⟩ := op_struct Try.underlying28 hf1
  obtain ⟨m33, y34, hj35⟩ := hs32 0 _ rfl
  have hj35 : DataW.trod enc Try.prog W 0 (fun _ => true) true m33 5 ((([c1_0, c1_1, c1_2, c1_3, c1_4, c1_5] : List Value).drop 0).take (Try.prog.cellsOf 5)) = some y34 := hj35
  rw [cell5] at hj35
  replace hj35 : DataW.trod enc Try.prog W 0 (fun _ => true) true m33 5 [c1_0] = some y34 := hj35
  obtain ⟨x36, e37, rx36⟩ := op_int Try.underlying5 hj35
  have e37 : [c1_0] = _ := e37
  cases e37
  obtain ⟨m38, y39, hj40⟩ := hs32 1 _ rfl
  have hj40 : DataW.trod enc Try.prog W 0 (fun _ => true) true m38 25 ((([.int .u8 x36, c1_1, c1_2, c1_3, c1_4, c1_5] : List Value).drop 1).take (Try.prog.cellsOf 25)) = some y39 := hj40
  rw [cell25] at hj40
  replace hj40 : DataW.trod enc Try.prog W 0 (fun _ => true) true m38 25 [c1_1] = some y39 := hj40
  obtain ⟨x41, e42, rx41⟩ := op_int Try.underlying25 hj40
  have e42 : [c1_1] = _ := e42
  cases e42
  obtain ⟨m43, y44, hj45⟩ := hs32 2 _ rfl
  have hj45 : DataW.trod enc Try.prog W 0 (fun _ => true) true m43 4 ((([.int .u8 x36, .int .u32 x41, c1_2, c1_3, c1_4, c1_5] : List Value).drop 2).take (Try.prog.cellsOf 4)) = some y44 := hj45
  rw [cell4] at hj45
  replace hj45 : DataW.trod enc Try.prog W 0 (fun _ => true) true m43 4 [c1_2] = some y44 := hj45
  obtain ⟨x46, e47⟩ := op_bool Try.underlying4 hj45
  have e47 : [c1_2] = _ := e47
  cases e47
  obtain ⟨m48, y49, hj50⟩ := hs32 3 _ rfl
  have hj50 : DataW.trod enc Try.prog W 0 (fun _ => true) true m48 26 ((([.int .u8 x36, .int .u32 x41, .bool x46, c1_3, c1_4, c1_5] : List Value).drop 3).take (Try.prog.cellsOf 26)) = some y49 := hj50
  rw [cell26] at hj50
  replace hj50 : DataW.trod enc Try.prog W 0 (fun _ => true) true m48 26 [c1_3] = some y49 := hj50
  obtain ⟨x51, e52, rx51⟩ := op_int Try.underlying26 hj50
  have e52 : [c1_3] = _ := e52
  cases e52
  obtain ⟨m53, y54, hj55⟩ := hs32 4 _ rfl
  have hj55 : DataW.trod enc Try.prog W 0 (fun _ => true) true m53 25 ((([.int .u8 x36, .int .u32 x41, .bool x46, .int .u16 x51, c1_4, c1_5] : List Value).drop 4).take (Try.prog.cellsOf 25)) = some y54 := hj55
  rw [cell25] at hj55
  replace hj55 : DataW.trod enc Try.prog W 0 (fun _ => true) true m53 25 [c1_4] = some y54 := hj55
  obtain ⟨x56, e57, rx56⟩ := op_int Try.underlying25 hj55
  have e57 : [c1_4] = _ := e57
  cases e57
  obtain ⟨m58, y59, hj60⟩ := hs32 5 _ rfl
  have hj60 : DataW.trod enc Try.prog W 0 (fun _ => true) true m58 22 ((([.int .u8 x36, .int .u32 x41, .bool x46, .int .u16 x51, .int .u32 x56, c1_5] : List Value).drop 5).take (Try.prog.cellsOf 22)) = some y59 := hj60
  rw [cell22] at hj60
  replace hj60 : DataW.trod enc Try.prog W 0 (fun _ => true) true m58 22 [c1_5] = some y59 := hj60
  obtain ⟨x61, e62, rx61⟩ := op_int Try.underlying22 hj60
  have e62 : [c1_5] = _ := e62
  cases e62
  obtain ⟨a2, rfl, rfl, rfl, w2⟩ := open_int Try.underlying3 (hval 2 3 v2 rfl rfl) h2
  have ra2 := lit_rng w2
  obtain ⟨a3, rfl, rfl, rfl, w3⟩ := open_int Try.underlying3 (hval 3 3 v3 rfl rfl) h3
  have ra3 := lit_rng w3
  obtain ⟨a4, rfl, rfl, rfl, w4⟩ := open_int Try.underlying43 (hval 4 43 v4 rfl rfl) h4
  have ra4 := lit_rng w4
  clear hA0 hval0
  simp only [List.append_nil] at hW'
  refine Calls.mono (steps_int (w := W) (F := fun a => W.cell? a) (fun _ _ h => h) rx30 rx36 rx41 rx51 rx56 rx61 ra4) fun e W' ⟨he, hk⟩ => ?_
  exact ⟨_, he, post_law laidOut (by kernel_rfl) (by kernel_rfl) Try.underlying4 rfl hW' rfl hk rfl⟩

/-- RecoverSteps: for every input the law returns true, and each argument reads as it did. -/
theorem recoverSteps_holds : Rows.RecoverStepsSaid :=
  OpenClaim.holds_of_wide 4 Try.f4 rfl rfl rfl rfl rfl rfl rfl ⟨rfl, rfl, rfl, rfl, rfl⟩ rfl rfl rfl rfl rfl (by kernel_rfl) Try.func4 (by kernel_rfl)
    (of_decide_eq_true (by kernel_rfl)) (by unfold Func.isWrapper; first | (rw [if_pos (by decide +kernel)]; kernel_rfl) | (rw [if_neg (by decide +kernel)]; exact ⟨rfl, rfl⟩))
    (fun os started H enc _ => recoverSteps_lifted os started H enc)

end Go.Proofs.Ytichjhggoioenaa
