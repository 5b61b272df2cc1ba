/-
  It is proved here that the law QueuePushes returns true for every input and leaves each argument as it was; no condition.
-/
import Derived.Test.YtopaidnhgkejiaaRows
import Derived.Test.YtopaidnhgkejiaaQuL2
import Derived.Test.YtopaidnhgkejiaaQuFr
namespace Go.Proofs.Ytopaidnhgkejiaa
open Go Go.Eng Go.Qu Go.Proofs.Qu Go.ChangeShapes Go.WideShapes Go.ChangeAt Go.RowKit
theorem own : ownKnob Try.prog.godebug = none := by kernel_rfl
theorem laidOut : laidOutB Try.prog = true := by kernel_rfl
theorem cell24 : Try.prog.cellsOf 24 = 2 := by kernel_rfl
theorem cell3 : Try.prog.cellsOf 3 = 1 := by kernel_rfl
theorem cell22 : Try.prog.cellsOf 22 = 1 := by kernel_rfl
theorem cell26 : Try.prog.cellsOf 26 = 5 := by kernel_rfl
set_option maxRecDepth 100000 in
theorem queuePushes_lifted (os : Os) (started : os.Started) (H : Type) (enc : TypeId × Value → H) :
    ReturnsInHanded {} Try.checked os 4 .any (Rows.queuePushesSpec.pre6 enc Try.prog Try.f4 Rows.queuePushesRow.domain false) (Rows.queuePushesSpec.post enc Try.prog Try.f4 false true false false) := by
  refine returnsInHanded_of_change (C := Try.checked) own started (by kernel_rfl) Try.func4
    (ChangeSpec.witness6 (enc := enc) (C := Try.checked) false ⟨#[], #[.agg #[.int .i64 0, .slice none 0 0], .agg #[.int .i64 0, .int .i64 0, .int .i64 0, .int .i64 0, .int .i64 0]], []⟩ 8 (by kernel_rfl) (by kernel_rfl) (by kernel_rfl) (by kernel_rfl)) ?_
  intro W base args ds gs before hval0 hW hcnd _
  have hval : ∀ (j : Nat) t v, Try.f4.params[j]? = some t → args[j]? = some v → Value.okWide Try.prog W .any base t v := hval0
  have hW' := hW
  obtain ⟨p, q, hA0, hV, rfl, hfz, hnd⟩ := hW
  have hA : DataW.TrodAll enc Try.prog W 0 (fun _ => true) true Try.f4.params.toList args.toList ds p := hA0
  rw [Try.params4] at hA hval
  obtain ⟨v0, vs0, d0, ds0, p0, q0, hargs, rfl, rfl, h0, r0⟩ := trodAll_cons hA
  obtain ⟨v1, vs1, d1, ds1, p1, q1, rfl, rfl, rfl, h1, r1⟩ := trodAll_cons r0
  obtain ⟨rfl, rfl, rfl⟩ := trodAll_nil r1
  obtain rfl : args = #[v0, v1] := by cases args; simp_all
  obtain ⟨rfl, rfl⟩ := trodVars_none hV
  obtain ⟨l0_0, fu0, y0, rfl, hl0_0, hf0⟩ := op_agg (.inl ⟨_, Try.underlying24⟩) cell24 (hval 0 24 v0 rfl rfl) h0
  obtain ⟨c0_0, l0_1, rfl, hl0_1⟩ := listS hl0_0
  obtain ⟨c0_1, l0_2, rfl, hl0_2⟩ := listS hl0_1
  obtain rfl := list0 hl0_2
  obtain ⟨_, hs1⟩ := op_struct Try.underlying24 hf0
  obtain ⟨m2, y3, hj4⟩ := hs1 0 _ rfl
  have hj4 : DataW.trod enc Try.prog W 0 (fun _ => true) true m2 3 ((([c0_0, c0_1] : List Value).drop 0).take (Try.prog.cellsOf 3)) = some y3 := hj4
  rw [cell3] at hj4
  replace hj4 : DataW.trod enc Try.prog W 0 (fun _ => true) true m2 3 [c0_0] = some y3 := hj4
  obtain ⟨x5, e6, rx5⟩ := op_int Try.underlying3 hj4
  have e6 : [c0_0] = _ := e6
  cases e6
  obtain ⟨m7, y8, hj9⟩ := hs1 1 _ rfl
  have hj9 : DataW.trod enc Try.prog W 0 (fun _ => true) true m7 22 ((([.int .i64 x5, c0_1] : List Value).drop 1).take (Try.prog.cellsOf 22)) = some y8 := hj9
  rw [cell22] at hj9
  replace hj9 : DataW.trod enc Try.prog W 0 (fun _ => true) true m7 22 [c0_1] = some y8 := hj9
  obtain ⟨A10, n10, c10, ps10, e10, hc10, hm10, hP10, hr10⟩ := op_parts hj9
  have e10 : [c0_1] = _ := e10
  cases e10
  obtain ⟨l1_0, fu1, y1, rfl, hl1_0, hf1⟩ := op_agg (.inl ⟨_, Try.underlying26⟩) cell26 (hval 1 26 v1 rfl rfl) h1
  obtain ⟨c1_0, l1_1, rfl, hl1_1⟩ := listS hl1_0
  obtain ⟨c1_1, l1_2, rfl, hl1_2⟩ := listS hl1_1
  obtain ⟨c1_2, l1_3, rfl, hl1_3⟩ := listS hl1_2
  obtain ⟨c1_3, l1_4, rfl, hl1_4⟩ := listS hl1_3
  obtain ⟨c1_4, l1_5, rfl, hl1_5⟩ := listS hl1_4
  obtain rfl := list0 hl1_5
  obtain ⟨_, hs11⟩ := op_struct Try.underlying26 hf1
  obtain ⟨m12, y13, hj14⟩ := hs11 0 _ rfl
  have hj14 : DataW.trod enc Try.prog W 0 (fun _ => true) true m12 3 ((([c1_0, c1_1, c1_2, c1_3, c1_4] : List Value).drop 0).take (Try.prog.cellsOf 3)) = some y13 := hj14
  rw [cell3] at hj14
  replace hj14 : DataW.trod enc Try.prog W 0 (fun _ => true) true m12 3 [c1_0] = some y13 := hj14
  obtain ⟨x15, e16, rx15⟩ := op_int Try.underlying3 hj14
  have e16 : [c1_0] = _ := e16
  cases e16
  obtain ⟨m17, y18, hj19⟩ := hs11 1 _ rfl
  have hj19 : DataW.trod enc Try.prog W 0 (fun _ => true) true m17 3 ((([.int .i64 x15, c1_1, c1_2, c1_3, c1_4] : List Value).drop 1).take (Try.prog.cellsOf 3)) = some y18 := hj19
  rw [cell3] at hj19
  replace hj19 : DataW.trod enc Try.prog W 0 (fun _ => true) true m17 3 [c1_1] = some y18 := hj19
  obtain ⟨x20, e21, rx20⟩ := op_int Try.underlying3 hj19
  have e21 : [c1_1] = _ := e21
  cases e21
  obtain ⟨m22, y23, hj24⟩ := hs11 2 _ rfl
  have hj24 : DataW.trod enc Try.prog W 0 (fun _ => true) true m22 3 ((([.int .i64 x15, .int .i64 x20, c1_2, c1_3, c1_4] : List Value).drop 2).take (Try.prog.cellsOf 3)) = some y23 := hj24
  rw [cell3] at hj24
  replace hj24 : DataW.trod enc Try.prog W 0 (fun _ => true) true m22 3 [c1_2] = some y23 := hj24
  obtain ⟨x25, e26, rx25⟩ := op_int Try.underlying3 hj24
  have e26 : [c1_2] = _ := e26
  cases e26
  obtain ⟨m27, y28, hj29⟩ := hs11 3 _ rfl
  have hj29 : DataW.trod enc Try.prog W 0 (fun _ => true) true m27 3 ((([.int .i64 x15, .int .i64 x20, .int .i64 x25, c1_3, c1_4] : List Value).drop 3).take (Try.prog.cellsOf 3)) = some y28 := hj29
  rw [cell3] at hj29
  replace hj29 : DataW.trod enc Try.prog W 0 (fun _ => true) true m27 3 [c1_3] = some y28 := hj29
  obtain ⟨x30, e31, rx30⟩ := op_int Try.underlying3 hj29
  have e31 : [c1_3] = _ := e31
  cases e31
  obtain ⟨m32, y33, hj34⟩ := hs11 4 _ rfl
  have hj34 : DataW.trod enc Try.prog W 0 (fun _ => true) true m32 3 ((([.int .i64 x15, .int .i64 x20, .int .i64 x25, .int .i64 x30, c1_4] : List Value).drop 4).take (Try.prog.cellsOf 3)) = some y33 := hj34
  rw [cell3] at hj34
  replace hj34 : DataW.trod enc Try.prog W 0 (fun _ => true) true m32 3 [c1_4] = some y33 := hj34
  obtain ⟨x35, e36, rx35⟩ := op_int Try.underlying3 hj34
  have e36 : [c1_4] = _ := e36
  cases e36
  clear hA0 hval0
  simp only [List.append_nil] at hW'
  refine Calls.mono (pushes_ok (w := W) (F := fun a => W.cell? a) (fun _ _ h => h) hP10 hc10 hm10 (x := ⟨x15, x20, x25, x30, x35⟩)) fun e W' ⟨he, hk⟩ => ?_
  exact ⟨_, he, post_law laidOut (by kernel_rfl) (by kernel_rfl) Try.underlying4 rfl hW' rfl hk rfl⟩

/-- QueuePushes: for every input the law returns true, and each argument reads as it did. -/
theorem queuePushes_holds : Rows.QueuePushesSaid :=
  OpenClaim.holds_of_wide 4 Try.f4 rfl rfl rfl rfl rfl rfl rfl ⟨rfl, rfl, rfl, rfl, rfl⟩ rfl rfl rfl rfl rfl (by kernel_rfl) Try.func4 (by kernel_rfl)
    (of_decide_eq_true (by kernel_rfl)) (by unfold Func.isWrapper; first | (rw [if_pos (by decide +kernel)]; kernel_rfl) | (rw [if_neg (by decide +kernel)]; exact ⟨rfl, rfl⟩))
    (fun os started H enc _ => queuePushes_lifted os started H enc)

end Go.Proofs.Ytopaidnhgkejiaa
