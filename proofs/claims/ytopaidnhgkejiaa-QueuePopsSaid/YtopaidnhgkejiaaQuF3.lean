/-
  It is proved here that the law QueuePops returns true for every input and leaves each argument as it was; no condition.
-/
import Derived.Test.YtopaidnhgkejiaaRows
import Derived.Test.YtopaidnhgkejiaaQuL3
import Derived.Test.YtopaidnhgkejiaaQuFr
namespace Go.Proofs.Ytopaidnhgkejiaa
open Go Go.Eng Go.Qu Go.Proofs.Qu Go.ChangeShapes Go.WideShapes Go.ChangeAt Go.RowKit
theorem own : ownKnob Try.prog.godebug = none := by kernel_rfl
theorem laidOut : laidOutB Try.prog = true := by kernel_rfl
theorem cell24 : Try.prog.cellsOf 24 = 2 := by kernel_rfl
theorem cell3 : Try.prog.cellsOf 3 = 1 := by kernel_rfl
theorem cell22 : Try.prog.cellsOf 22 = 1 := by kernel_rfl
theorem cell28 : Try.prog.cellsOf 28 = 7 := by kernel_rfl
theorem cell26 : Try.prog.cellsOf 26 = 5 := by kernel_rfl
theorem cell4 : Try.prog.cellsOf 4 = 1 := by kernel_rfl
set_option maxRecDepth 100000 in
theorem queuePops_lifted (os : Os) (started : os.Started) (H : Type) (enc : TypeId × Value → H) :
    ReturnsInHanded {} Try.checked os 5 .any (Rows.queuePopsSpec.pre6 enc Try.prog Try.f5 Rows.queuePopsRow.domain false) (Rows.queuePopsSpec.post enc Try.prog Try.f5 false true false false) := by
  refine returnsInHanded_of_change (C := Try.checked) own started (by kernel_rfl) Try.func5
    (ChangeSpec.witness6 (enc := enc) (C := Try.checked) false ⟨#[], #[.agg #[.int .i64 0, .slice none 0 0], .agg #[.int .i64 0, .int .i64 0, .int .i64 0, .int .i64 0, .int .i64 0, .int .i64 0, .bool false]], []⟩ 8 (by kernel_rfl) (by kernel_rfl) (by kernel_rfl) (by kernel_rfl)) ?_
  intro W base args ds gs before hval0 hW hcnd _
  have hval : ∀ (j : Nat) t v, Try.f5.params[j]? = some t → args[j]? = some v → Value.okWide Try.prog W .any base t v := hval0
  have hW' := hW
  obtain ⟨p, q, hA0, hV, rfl, hfz, hnd⟩ := hW
  have hA : DataW.TrodAll enc Try.prog W 0 (fun _ => true) true Try.f5.params.toList args.toList ds p := hA0
  rw [Try.params5] at hA hval
  obtain ⟨v0, vs0, d0, ds0, p0, q0, hargs, rfl, rfl, h0, r0⟩ := trodAll_cons hA
  obtain ⟨v1, vs1, d1, ds1, p1, q1, rfl, rfl, rfl, h1, r1⟩ := trodAll_cons r0
  obtain ⟨rfl, rfl, rfl⟩ := trodAll_nil r1
  obtain rfl : args = #[v0, v1] := by cases args; simp_all
  obtain ⟨rfl, rfl⟩ := trodVars_none hV
  obtain ⟨l0_0, fu0, y0, rfl, hl0_0, hf0⟩ := op_agg (.inl ⟨_, Try.underlying24⟩) cell24 (hval 0 24 v0 rfl rfl) h0
  obtain ⟨c0_0, l0_1, rfl, hl0_1⟩ := listS hl0_0
  obtain ⟨c0_1, l0_2, rfl, hl0_2⟩ := listS hl0_1
  obtain rfl := list0 hl0_2
  obtain ⟨_, hs1⟩ := op_struct Try.underlying24 hf0
  obtain ⟨m2, y3, hj4⟩ := hs1 0 _ rfl
  have hj4 : DataW.trod enc Try.prog W 0 (fun _ => true) true m2 3 ((([c0_0, c0_1] : List Value).drop 0).take (Try.prog.cellsOf 3)) = some y3 := hj4
  rw [cell3] at hj4
  replace hj4 : DataW.trod enc Try.prog W 0 (fun _ => true) true m2 3 [c0_0] = some y3 := hj4
  obtain ⟨x5, e6, rx5⟩ := op_int Try.underlying3 hj4
  have e6 : [c0_0] = _ := e6
  cases e6
  obtain ⟨m7, y8, hj9⟩ := hs1 1 _ rfl
  have hj9 : DataW.trod enc Try.prog W 0 (fun _ => true) true m7 22 ((([.int .i64 x5, c0_1] : List Value).drop 1).take (Try.prog.cellsOf 22)) = some y8 := hj9
  rw [cell22] at hj9
  replace hj9 : DataW.trod enc Try.prog W 0 (fun _ => true) true m7 22 [c0_1] = some y8 := hj9
  obtain ⟨A10, n10, c10, ps10, e10, hc10, hm10, hP10, hr10⟩ := op_parts hj9
  have e10 : [c0_1] = _ := e10
  cases e10
  obtain ⟨l1_0, fu1, y1, rfl, hl1_0, hf1⟩ := op_agg (.inl ⟨_, Try.underlying28⟩) cell28 (hval 1 28 v1 rfl rfl) h1
  obtain ⟨c1_0, l1_1, rfl, hl1_1⟩ := listS hl1_0
  obtain ⟨c1_1, l1_2, rfl, hl1_2⟩ := listS hl1_1
  obtain ⟨c1_2, l1_3, rfl, hl1_3⟩ := listS hl1_2
  obtain ⟨c1_3, l1_4, rfl, hl1_4⟩ := listS hl1_3
  obtain ⟨c1_4, l1_5, rfl, hl1_5⟩ := listS hl1_4
  obtain ⟨c1_5, l1_6, rfl, hl1_6⟩ := listS hl1_5
  obtain ⟨c1_6, l1_7, rfl, hl1_7⟩ := listS hl1_6
  obtain rfl := list0 hl1_7
  obtain ⟨_, hs11⟩ := op_struct Try.underlying28 hf1
  obtain ⟨m12, y13, hj14⟩ := hs11 0 _ rfl
  have hj14 : DataW.trod enc Try.prog W 0 (fun _ => true) true m12 26 ((([c1_0, c1_1, c1_2, c1_3, c1_4, c1_5, c1_6] : List Value).drop 0).take (Try.prog.cellsOf 26)) = some y13 := hj14
  rw [cell26] at hj14
  replace hj14 : DataW.trod enc Try.prog W 0 (fun _ => true) true m12 26 [c1_0, c1_1, c1_2, c1_3, c1_4] = some y13 := hj14
  obtain ⟨_, hs15⟩ := op_struct Try.underlying26 hj14
  obtain ⟨m16, y17, hj18⟩ := hs15 0 _ rfl
  have hj18 : DataW.trod enc Try.prog W 0 (fun _ => true) true m16 3 ((([c1_0, c1_1, c1_2, c1_3, c1_4] : List Value).drop 0).take (Try.prog.cellsOf 3)) = some y17 := hj18
  rw [cell3] at hj18
  replace hj18 : DataW.trod enc Try.prog W 0 (fun _ => true) true m16 3 [c1_0] = some y17 := hj18
  obtain ⟨x19, e20, rx19⟩ := op_int Try.underlying3 hj18
  have e20 : [c1_0] = _ := e20
  cases e20
  obtain ⟨m21, y22, hj23⟩ := hs15 1 _ rfl
  have hj23 : DataW.trod enc Try.prog W 0 (fun _ => true) true m21 3 ((([.int .i64 x19, c1_1, c1_2, c1_3, c1_4] : List Value).drop 1).take (Try.prog.cellsOf 3)) = some y22 := hj23
  rw [cell3] at hj23
  replace hj23 : DataW.trod enc Try.prog W 0 (fun _ => true) true m21 3 [c1_1] = some y22 := hj23
  obtain ⟨x24, e25, rx24⟩ := op_int Try.underlying3 hj23
  have e25 : [c1_1] = _ := e25
  cases e25
  obtain ⟨m26, y27, hj28⟩ := hs15 2 _ rfl
  have hj28 : DataW.trod enc Try.prog W 0 (fun _ => true) true m26 3 ((([.int .i64 x19, .int .i64 x24, c1_2, c1_3, c1_4] : List Value).drop 2).take (Try.prog.cellsOf 3)) = some y27 := hj28
  rw [cell3] at hj28
  replace hj28 : DataW.trod enc Try.prog W 0 (fun _ => true) true m26 3 [c1_2] = some y27 := hj28
  obtain ⟨x29, e30, rx29⟩ := op_int Try.underlying3 hj28
  have e30 : [c1_2] = _ := e30
  cases e30
  obtain ⟨m31, y32, hj33⟩ := hs15 3 _ rfl
  have hj33 : DataW.trod enc Try.prog W 0 (fun _ => true) true m31 3 ((([.int .i64 x19, .int .i64 x24, .int .i64 x29, c1_3, c1_4] : List Value).drop 3).take (Try.prog.cellsOf 3)) = some y32 := hj33
  rw [cell3] at hj33
  replace hj33 : DataW.trod enc Try.prog W 0 (fun _ => true) true m31 3 [c1_3] = some y32 := hj33
  obtain ⟨x34, e35, rx34⟩ := op_int Try.underlying3 hj33
  have e35 : [c1_3] = _ := e35
  cases e35
  obtain ⟨m36, y37, hj38⟩ := hs15 4 _ rfl
  have hj38 : DataW.trod enc Try.prog W 0 (fun _ => true) true m36 3 ((([.int .i64 x19, .int .i64 x24, .int .i64 x29, .int .i64 x34, c1_4] : List Value).drop 4).take (Try.prog.cellsOf 3)) = some y37 := hj38
  rw [cell3] at hj38
  replace hj38 : DataW.trod enc Try.prog W 0 (fun _ => true) true m36 3 [c1_4] = some y37 := hj38
  obtain ⟨x39, e40, rx39⟩ := op_int Try.underlying3 hj38
  have e40 : [c1_4] = _ := e40
  cases e40
  obtain ⟨m41, y42, hj43⟩ := hs11 1 _ rfl
  have hj43 : DataW.trod enc Try.prog W 0 (fun _ => true) true m41 3 ((([.int .i64 x19, .int .i64 x24, .int .i64 x29, .int .i64 x34, .int .i64 x39, c1_5, c1_6] : List Value).drop 5).take (Try.prog.cellsOf 3)) = some y42 := hj43
  rw [cell3] at hj43
  replace hj43 : DataW.trod enc Try.prog W 0 (fun _ => true) true m41 3 [c1_5] = some y42 := hj43
  obtain ⟨x44, e45, rx44⟩ := op_int Try.underlying3 hj43
  have e45 : [c1_5] = _ := e45
  cases e45
  obtain ⟨m46, y47, hj48⟩ := hs11 2 _ rfl
  have hj48 : DataW.trod enc Try.prog W 0 (fun _ => true) true m46 4 ((([.int .i64 x19, .int .i64 x24, .int .i64 x29, .int .i64 x34, .int .i64 x39, .int .i64 x44, c1_6] : List Value).drop 6).take (Try.prog.cellsOf 4)) = some y47 := hj48
  rw [cell4] at hj48
  replace hj48 : DataW.trod enc Try.prog W 0 (fun _ => true) true m46 4 [c1_6] = some y47 := hj48
  obtain ⟨x49, e50⟩ := op_bool Try.underlying4 hj48
  have e50 : [c1_6] = _ := e50
  cases e50
  clear hA0 hval0
  simp only [List.append_nil] at hW'
  refine Calls.mono (pops_ok (w := W) (F := fun a => W.cell? a) (fun _ _ h => h) hP10 hc10 hm10 (p := ⟨⟨x19, x24, x29, x34, x39⟩, x44, x49⟩)) fun e W' ⟨he, hk⟩ => ?_
  exact ⟨_, he, post_law laidOut (by kernel_rfl) (by kernel_rfl) Try.underlying4 rfl hW' rfl hk rfl⟩

/-- QueuePops: for every input the law returns true, and each argument reads as it did. -/
theorem queuePops_holds : Rows.QueuePopsSaid :=
  OpenClaim.holds_of_wide 5 Try.f5 rfl rfl rfl rfl rfl rfl rfl ⟨rfl, rfl, rfl, rfl, rfl⟩ rfl rfl rfl rfl rfl (by kernel_rfl) Try.func5 (by kernel_rfl)
    (of_decide_eq_true (by kernel_rfl)) (by unfold Func.isWrapper; first | (rw [if_pos (by decide +kernel)]; kernel_rfl) | (rw [if_neg (by decide +kernel)]; exact ⟨rfl, rfl⟩))
    (fun os started H enc _ => queuePops_lifted os started H enc)

end Go.Proofs.Ytopaidnhgkejiaa
