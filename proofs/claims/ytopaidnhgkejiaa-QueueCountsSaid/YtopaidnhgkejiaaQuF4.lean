/-
  It is proved here that the law QueueCounts returns true for every input and leaves each argument as it was; no condition.
-/
import Derived.Test.YtopaidnhgkejiaaRows
import Derived.Test.YtopaidnhgkejiaaQuL4
import Derived.Test.YtopaidnhgkejiaaQuFr
namespace Go.Proofs.Ytopaidnhgkejiaa
open Go Go.Eng Go.Qu Go.Proofs.Qu Go.ChangeShapes Go.WideShapes Go.ChangeAt Go.RowKit
theorem own : ownKnob Try.prog.godebug = none := by kernel_rfl
theorem laidOut : laidOutB Try.prog = true := by kernel_rfl
theorem cell24 : Try.prog.cellsOf 24 = 2 := by kernel_rfl
theorem cell3 : Try.prog.cellsOf 3 = 1 := by kernel_rfl
theorem cell22 : Try.prog.cellsOf 22 = 1 := by kernel_rfl
theorem cell26 : Try.prog.cellsOf 26 = 5 := by kernel_rfl
theorem cell28 : Try.prog.cellsOf 28 = 7 := by kernel_rfl
theorem cell4 : Try.prog.cellsOf 4 = 1 := by kernel_rfl
set_option maxRecDepth 100000 in
theorem queueCounts_lifted (os : Os) (started : os.Started) (H : Type) (enc : TypeId × Value → H) :
    ReturnsInHanded {} Try.checked os 7 .any (Rows.queueCountsSpec.pre6 enc Try.prog Try.f7 Rows.queueCountsRow.domain false) (Rows.queueCountsSpec.post enc Try.prog Try.f7 false true false false) := by
  refine returnsInHanded_of_change (C := Try.checked) own started (by kernel_rfl) Try.func7
    (ChangeSpec.witness6 (enc := enc) (C := Try.checked) false ⟨#[], #[.agg #[.int .i64 0, .slice none 0 0], .agg #[.int .i64 0, .int .i64 0, .int .i64 0, .int .i64 0, .int .i64 0], .agg #[.int .i64 0, .int .i64 0, .int .i64 0, .int .i64 0, .int .i64 0, .int .i64 0, .bool false]], []⟩ 8 (by kernel_rfl) (by kernel_rfl) (by kernel_rfl) (by kernel_rfl)) ?_
  intro W base args ds gs before hval0 hW hcnd _
  have hval : ∀ (j : Nat) t v, Try.f7.params[j]? = some t → args[j]? = some v → Value.okWide Try.prog W .any base t v := hval0
  have hW' := hW
  obtain ⟨p, q, hA0, hV, rfl, hfz, hnd⟩ := hW
  have hA : DataW.TrodAll enc Try.prog W 0 (fun _ => true) true Try.f7.params.toList args.toList ds p := hA0
  rw [Try.params7] at hA hval
  obtain ⟨v0, vs0, d0, ds0, p0, q0, hargs, rfl, rfl, h0, r0⟩ := trodAll_cons hA
  obtain ⟨v1, vs1, d1, ds1, p1, q1, rfl, rfl, rfl, h1, r1⟩ := trodAll_cons r0
  obtain ⟨v2, vs2, d2, ds2, p2, q2, rfl, rfl, rfl, h2, r2⟩ := trodAll_cons r1
  obtain ⟨rfl, rfl, rfl⟩ := trodAll_nil r2
  obtain rfl : args = #[v0, v1, v2] := by cases args; simp_all
  obtain ⟨rfl, rfl⟩ := trodVars_none hV
  obtain ⟨l0_0, fu0, y0, rfl, hl0_0, hf0⟩ := op_agg (.inl ⟨_, Try.underlying24⟩) cell24 (hval 0 24 v0 rfl rfl) h0
  obtain ⟨c0_0, l0_1, rfl, hl0_1⟩ := listS hl0_0
  obtain ⟨c0_1, l0_2, rfl, hl0_2⟩ := listS hl0_1
  obtain rfl := list0 hl0_2
  obtain ⟨_, hs1⟩ := op_struct Try.underlying24 hf0
  obtain ⟨m2, y3, hj4⟩ := hs1 0 _ rfl
  have hj4 : DataW.trod enc Try.prog W 0 (fun _ => true) true m2 3 ((([c0_0, c0_1] : List Value).drop 0).take (Try.prog.cellsOf 3)) = some y3 := hj4
  rw [cell3] at hj4
  replace hj4 : DataW.trod enc Try.prog W 0 (fun _ => true) true m2 3 [c0_0] = some y3 := hj4
  obtain ⟨x5, e6, rx5⟩ := op_int Try.underlying3 hj4
  have e6 : [c0_0] = _ := e6
  cases e6
  obtain ⟨m7, y8, hj9⟩ := hs1 1 _ rfl
  have hj9 : DataW.trod enc Try.prog W 0 (fun _ => true) true m7 22 ((([.int .i64 x5, c0_1] : List Value).drop 1).take (Try.prog.cellsOf 22)) = some y8 := hj9
  rw [cell22] at hj9
  replace hj9 : DataW.trod enc Try.prog W 0 (fun _ => true) true m7 22 [c0_1] = some y8 := hj9
  obtain ⟨A10, n10, c10, ps10, e10, hc10, hm10, hP10, hr10⟩ := op_parts hj9
  have e10 : [c0_1] = _ := e10
  cases e10
  obtain ⟨l1_0, fu1, y1, rfl, hl1_0, hf1⟩ := op_agg (.inl ⟨_, Try.underlying26⟩) cell26 (hval 1 26 v1 rfl rfl) h1
  obtain ⟨c1_0, l1_1, rfl, hl1_1⟩ := listS hl1_0
  obtain ⟨c1_1, l1_2, rfl, hl1_2⟩ := listS hl1_1
  obtain ⟨c1_2, l1_3, rfl, hl1_3⟩ := listS hl1_2
  obtain ⟨c1_3, l1_4, rfl, hl1_4⟩ := listS hl1_3
  obtain ⟨c1_4, l1_5, rfl, hl1_5⟩ := listS hl1_4
  obtain rfl := list0 hl1_5
  obtain ⟨_, hs11⟩ := op_struct Try.underlying26 hf1
  obtain ⟨m12, y13, hj14⟩ := hs11 0 _ rfl
  have hj14 : DataW.trod enc Try.prog W 0 (fun _ => true) true m12 3 ((([c1_0, c1_1, c1_2, c1_3, c1_4] : List Value).drop 0).take (Try.prog.cellsOf 3)) = some y13 := hj14
  rw [cell3] at hj14
  replace hj14 : DataW.trod enc Try.prog W 0 (fun _ => true) true m12 3 [c1_0] = some y13 := hj14
  obtain ⟨x15, e16, rx15⟩ := op_int Try.underlying3 hj14
  have e16 : [c1_0] = _ := e16
  cases e16
  obtain ⟨m17, y18, hj19⟩ := hs11 1 _ rfl
  have hj19 : DataW.trod enc Try.prog W 0 (fun _ => true) true m17 3 ((([.int .i64 x15, c1_1, c1_2, c1_3, c1_4] : List Value).drop 1).take (Try.prog.cellsOf 3)) = some y18 := hj19
  rw [cell3] at hj19
  replace hj19 : DataW.trod enc Try.prog W 0 (fun _ => true) true m17 3 [c1_1] = some y18 := hj19
  obtain ⟨x20, e21, rx20⟩ := op_int Try.underlying3 hj19
  have e21 : [c1_1] = _ := e21
  cases e21
  obtain ⟨m22, y23, hj24⟩ := hs11 2 _ rfl
  have hj24 : DataW.trod enc Try.prog W 0 (fun _ => true) true m22 3 ((([.int .i64 x15, .int .i64 x20, c1_2, c1_3, c1_4] : List Value).drop 2).take (Try.prog.cellsOf 3)) = some y23 := hj24
  rw [cell3] at hj24
  replace hj24 : DataW.trod enc Try.prog W 0 (fun _ => true) true m22 3 [c1_2] = some y23 := hj24
  obtain ⟨x25, e26, rx25⟩ := op_int Try.underlying3 hj24
  have e26 : [c1_2] = _ := e26
  cases e26
  obtain ⟨m27, y28, hj29⟩ := hs11 3 _ rfl
  have hj29 : DataW.trod enc Try.prog W 0 (fun _ => true) true m27 3 ((([.int .i64 x15, .int .i64 x20, .int .i64 x25, c1_3, c1_4] : List Value).drop 3).take (Try.prog.cellsOf 3)) = some y28 := hj29
  rw [cell3] at hj29
  replace hj29 : DataW.trod enc Try.prog W 0 (fun _ => true) true m27 3 [c1_3] = some y28 := hj29
  obtain ⟨x30, e31, rx30⟩ := op_int Try.underlying3 hj29
  have e31 : [c1_3] = _ := e31
  cases e31
  obtain ⟨m32, y33, hj34⟩ := hs11 4 _ rfl
  have hj34 : DataW.trod enc Try.prog W 0 (fun _ => true) true m32 3 ((([.int .i64 x15, .int .i64 x20, .int .i64 x25, .int .i64 x30, c1_4] : List Value).drop 4).take (Try.prog.cellsOf 3)) = some y33 := hj34
  rw [cell3] at hj34
  replace hj34 : DataW.trod enc Try.prog W 0 (fun _ => true) true m32 3 [c1_4] = some y33 := hj34
  obtain ⟨x35, e36, rx35⟩ := op_int Try.underlying3 hj34
  have e36 : [c1_4] = _ := e36
  cases e36
  obtain ⟨l2_0, fu2, y2, rfl, hl2_0, hf2⟩ := op_agg (.inl ⟨_, Try.underlying28⟩) cell28 (hval 2 28 v2 rfl rfl) h2
  obtain ⟨c2_0, l2_1, rfl, hl2_1⟩ := listS hl2_0
  obtain ⟨c2_1, l2_2, rfl, hl2_2⟩ := listS hl2_1
  obtain ⟨c2_2, l2_3, rfl, hl2_3⟩ := listS hl2_2
  obtain ⟨c2_3, l2_4, rfl, hl2_4⟩ := listS hl2_3
  obtain ⟨c2_4, l2_5, rfl, hl2_5⟩ := listS hl2_4
  obtain ⟨c2_5, l2_6, rfl, hl2_6⟩ := listS hl2_5
  obtain ⟨c2_6, l2_7, rfl, hl2_7⟩ := listS hl2_6
  obtain rfl := list0 hl2_7
  obtain ⟨_, hs37⟩ := op_struct Try.underlying28 hf2
  obtain ⟨m38, y39, hj40⟩ := hs37 0 _ rfl
  have hj40 : DataW.trod enc Try.prog W 0 (fun _ => true) true m38 26 ((([c2_0, c2_1, c2_2, c2_3, c2_4, c2_5, c2_6] : List Value).drop 0).take (Try.prog.cellsOf 26)) = some y39 := hj40
  rw [cell26] at hj40
  replace hj40 : DataW.trod enc Try.prog W 0 (fun _ => true) true m38 26 [c2_0, c2_1, c2_2, c2_3, c2_4] = some y39 := hj40
  obtain ⟨_, hs41⟩ := op_struct Try.underlying26 hj40
  obtain ⟨m42, y43, hj44⟩ := hs41 0 _ rfl
  have hj44 : DataW.trod enc Try.prog W 0 (fun _ => true) true m42 3 ((([c2_0, c2_1, c2_2, c2_3, c2_4] : List Value).drop 0).take (Try.prog.cellsOf 3)) = some y43 := hj44
  rw [cell3] at hj44
  replace hj44 : DataW.trod enc Try.prog W 0 (fun _ => true) true m42 3 [c2_0] = some y43 := hj44
  obtain ⟨x45, e46, rx45⟩ := op_int Try.underlying3 hj44
  have e46 : [c2_0] = _ := e46
  cases e46
  obtain ⟨m47, y48, hj49⟩ := hs41 1 _ rfl
  have hj49 : DataW.trod enc Try.prog W 0 (fun _ => true) true m47 3 ((([.int .i64 x45, c2_1, c2_2, c2_3, c2_4] : List Value).drop 1).take (Try.prog.cellsOf 3)) = some y48 := hj49
  rw [cell3] at hj49
  replace hj49 : DataW.trod enc Try.prog W 0 (fun _ => true) true m47 3 [c2_1] = some y48 := hj49
  obtain ⟨x50, e51, rx50⟩ := op_int Try.underlying3 hj49
  have e51 : [c2_1] = _ := e51
  cases e51
  obtain ⟨m52, y53, hj54⟩ := hs41 2 _ rfl
  have hj54 : DataW.trod enc Try.prog W 0 (fun _ => true) true m52 3 ((([.int .i64 x45, .int .i64 x50, c2_2, c2_3, c2_4] : List Value).drop 2).take (Try.prog.cellsOf 3)) = some y53 := hj54
  rw [cell3] at hj54
  replace hj54 : DataW.trod enc Try.prog W 0 (fun _ => true) true m52 3 [c2_2] = some y53 := hj54
  obtain ⟨x55, e56, rx55⟩ := op_int Try.underlying3 hj54
  have e56 : [c2_2] = _ := e56
  cases e56
  obtain ⟨m57, y58, hj59⟩ := hs41 3 _ rfl
  have hj59 : DataW.trod enc Try.prog W 0 (fun _ => true) true m57 3 ((([.int .i64 x45, .int .i64 x50, .int .i64 x55, c2_3, c2_4] : List Value).drop 3).take (Try.prog.cellsOf 3)) = some y58 := hj59
  rw [cell3] at hj59
  replace hj59 : DataW.trod enc Try.prog W 0 (fun _ => true) true m57 3 [c2_3] = some y58 := hj59
  obtain ⟨x60, e61, rx60⟩ := op_int Try.underlying3 hj59
  have e61 : [c2_3] = _ := e61
  cases e61
  obtain ⟨m62, y63, hj64⟩ := hs41 4 _ rfl
  have hj64 : DataW.trod enc Try.prog W 0 (fun _ => true) true m62 3 ((([.int .i64 x45, .int .i64 x50, .int .i64 x55, .int .i64 x60, c2_4] : List Value).drop 4).take (Try.prog.cellsOf 3)) = some y63 := hj64
  rw [cell3] at hj64
  replace hj64 : DataW.trod enc Try.prog W 0 (fun _ => true) true m62 3 [c2_4] = some y63 := hj64
  obtain ⟨x65, e66, rx65⟩ := op_int Try.underlying3 hj64
  have e66 : [c2_4] = _ := e66
  cases e66
  obtain ⟨m67, y68, hj69⟩ := hs37 1 _ rfl
  have hj69 : DataW.trod enc Try.prog W 0 (fun _ => true) true m67 3 ((([.int .i64 x45, .int .i64 x50, .int .i64 x55, .int .i64 x60, .int .i64 x65, c2_5, c2_6] : List Value).drop 5).take (Try.prog.cellsOf 3)) = some y68 := hj69
  rw [cell3] at hj69
  replace hj69 : DataW.trod enc Try.prog W 0 (fun _ => true) true m67 3 [c2_5] = some y68 := hj69
  obtain ⟨x70, e71, rx70⟩ := op_int Try.underlying3 hj69
  have e71 : [c2_5] = _ := e71
  cases e71
  obtain ⟨m72, y73, hj74⟩ := hs37 2 _ rfl
  have hj74 : DataW.trod enc Try.prog W 0 (fun _ => true) true m72 4 ((([.int .i64 x45, .int .i64 x50, .int .i64 x55, .int .i64 x60, .int .i64 x65, .int .i64 x70, c2_6] : List Value).drop 6).take (Try.prog.cellsOf 4)) = some y73 := hj74
  rw [cell4] at hj74
  replace hj74 : DataW.trod enc Try.prog W 0 (fun _ => true) true m72 4 [c2_6] = some y73 := hj74
  obtain ⟨x75, e76⟩ := op_bool Try.underlying4 hj74
  have e76 : [c2_6] = _ := e76
  cases e76
  clear hA0 hval0
  simp only [List.append_nil] at hW'
  refine Calls.mono (counts_ok (w := W) (F := fun a => W.cell? a) (fun _ _ h => h) hP10 hc10 hm10 (x := ⟨x15, x20, x25, x30, x35⟩) (p := ⟨⟨x45, x50, x55, x60, x65⟩, x70, x75⟩)) fun e W' ⟨he, hk⟩ => ?_
  exact ⟨_, he, post_law laidOut (by kernel_rfl) (by kernel_rfl) Try.underlying4 rfl hW' rfl hk rfl⟩

/-- QueueCounts: for every input the law returns true, and each argument reads as it did. -/
theorem queueCounts_holds : Rows.QueueCountsSaid :=
  OpenClaim.holds_of_wide 7 Try.f7 rfl rfl rfl rfl rfl rfl rfl ⟨rfl, rfl, rfl, rfl, rfl⟩ rfl rfl rfl rfl rfl (by kernel_rfl) Try.func7 (by kernel_rfl)
    (of_decide_eq_true (by kernel_rfl)) (by unfold Func.isWrapper; first | (rw [if_pos (by decide +kernel)]; kernel_rfl) | (rw [if_neg (by decide +kernel)]; exact ⟨rfl, rfl⟩))
    (fun os started H enc _ => queueCounts_lifted os started H enc)

end Go.Proofs.Ytopaidnhgkejiaa
