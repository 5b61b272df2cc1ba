/-
  It is proved here that the law PortNews returns true for every input and leaves each argument as it was; no condition.
-/
import Derived.Test.YtffocfffggfenaaRows
import Derived.Test.YtffocfffggfenaaEng12ToEng24PportNewshold
import Derived.Test.YtffocfffggfenaaCpFrEToCpC2PportNewshold
import Derived.Test.YtffocfffggfenaaCpP21ToCpPL1PportNewshold
namespace Go.Proofs.Ytffocfffggfenaa
open Go Go.Eng Go.Gt Go.Sw Go.Qu Go.Ch Go.Po Go.Proofs.Gt Go.Proofs.Cp Go.ChangeShapes Go.WideShapes Go.ChangeAt Go.RowKit
theorem own : ownKnob Try.prog.godebug = none := by kernel_rfl
theorem laidOut : laidOutB Try.prog = true := by kernel_rfl
theorem cell26 : Try.prog.cellsOf 26 = 4 := by kernel_rfl
theorem cell24 : Try.prog.cellsOf 24 = 2 := by kernel_rfl
theorem cell22 : Try.prog.cellsOf 22 = 1 := by kernel_rfl
theorem cell3 : Try.prog.cellsOf 3 = 1 := by kernel_rfl
set_option maxRecDepth 100000 in
theorem portNews_lifted (os : Os) (started : os.Started) (H : Type) (enc : TypeId × Value → H) :
    ReturnsInHanded {} Try.checked os 11 .any (Rows.portNewsSpec.pre6 enc Try.prog Try.f11 Rows.portNewsRow.domain false) (Rows.portNewsSpec.post enc Try.prog Try.f11 false true false false) := by
  refine returnsInHanded_of_change (C := Try.checked) own started (by kernel_rfl) Try.func11
    (ChangeSpec.witness6 (enc := enc) (C := Try.checked) false ⟨#[], #[.agg #[.slice none 0 0, .int .i64 0, .int .i64 0, .int .i64 0], .slice none 0 0], []⟩ 8 (by kernel_rfl) (by kernel_rfl) (by kernel_rfl) (by kernel_rfl)) ?_
  intro W base args ds gs before hval0 hW hcnd _
  have hval : ∀ (j : Nat) t v, Try.f11.params[j]? = some t → args[j]? = some v → Value.okWide Try.prog W .any base t v := hval0
  have hW' := hW
  obtain ⟨p, q, hA0, hV, rfl, hfz, hnd⟩ := hW
  have hA : DataW.TrodAll enc Try.prog W 0 (fun _ => true) true Try.f11.params.toList args.toList ds p := hA0
  rw [Try.params11] at hA hval
  obtain ⟨v0, vs0, d0, ds0, p0, q0, hargs, rfl, rfl, h0, r0⟩ := trodAll_cons hA
  obtain ⟨v1, vs1, d1, ds1, p1, q1, rfl, rfl, rfl, h1, r1⟩ := trodAll_cons r0
  obtain ⟨rfl, rfl, rfl⟩ := trodAll_nil r1
  obtain rfl : args = #[v0, v1] := by cases args; simp_all
  obtain ⟨rfl, rfl⟩ := trodVars_none hV
  obtain ⟨l0_0, fu0, y0, rfl, hl0_0, hf0⟩ := op_agg (.inl ⟨_, Try.underlying26⟩) cell26 (hval 0 26 v0 rfl rfl) h0
  obtain ⟨c0_0, l0_1, rfl, hl0_1⟩ := listS hl0_0
  obtain ⟨c0_1, l0_2, rfl, hl0_2⟩ := listS hl0_1
  obtain ⟨c0_2, l0_3, rfl, hl0_3⟩ := listS hl0_2
  obtain ⟨c0_3, l0_4, rfl, hl0_4⟩ := listS hl0_3
  obtain rfl := list0 hl0_4
  obtain ⟨_, hs1⟩ := op_struct Try.underlying26 hf0
  obtain ⟨m2, y3, hj4⟩ := hs1 0 _ rfl
  have hj4 : DataW.trod enc Try.prog W 0 (fun _ => true) true m2 24 ((([c0_0, c0_1, c0_2, c0_3] : List Value).drop 0).take (Try.prog.cellsOf 24)) = some y3 := hj4
  rw [cell24] at hj4
  replace hj4 : DataW.trod enc Try.prog W 0 (fun _ => true) true m2 24 [c0_0, c0_1] = some y3 := hj4
  obtain ⟨_, hs5⟩ := op_struct Try.underlying24 hj4
  obtain ⟨m6, y7, hj8⟩ := hs5 0 _ rfl
  have hj8 : DataW.trod enc Try.prog W 0 (fun _ => true) true m6 22 ((([c0_0, c0_1] : List Value).drop 0).take (Try.prog.cellsOf 22)) = some y7 := hj8
  rw [cell22] at hj8
  replace hj8 : DataW.trod enc Try.prog W 0 (fun _ => true) true m6 22 [c0_0] = some y7 := hj8
  obtain ⟨A9, n9, c9, es9, e9, hc9, hE9⟩ := op_ents hj8
  have e9 : [c0_0] = _ := e9
  cases e9
  obtain ⟨m10, y11, hj12⟩ := hs5 1 _ rfl
  have hj12 : DataW.trod enc Try.prog W 0 (fun _ => true) true m10 3 ((([.slice A9 n9 c9, c0_1] : List Value).drop 1).take (Try.prog.cellsOf 3)) = some y11 := hj12
  rw [cell3] at hj12
  replace hj12 : DataW.trod enc Try.prog W 0 (fun _ => true) true m10 3 [c0_1] = some y11 := hj12
  obtain ⟨x13, e14, rx13⟩ := op_int Try.underlying3 hj12
  have e14 : [c0_1] = _ := e14
  cases e14
  obtain ⟨m15, y16, hj17⟩ := hs1 1 _ rfl
  have hj17 : DataW.trod enc Try.prog W 0 (fun _ => true) true m15 3 ((([.slice A9 n9 c9, .int .i64 x13, c0_2, c0_3] : List Value).drop 2).take (Try.prog.cellsOf 3)) = some y16 := hj17
  rw [cell3] at hj17
  replace hj17 : DataW.trod enc Try.prog W 0 (fun _ => true) true m15 3 [c0_2] = some y16 := hj17
  obtain ⟨x18, e19, rx18⟩ := op_int Try.underlying3 hj17
  have e19 : [c0_2] = _ := e19
  cases e19
  obtain ⟨m20, y21, hj22⟩ := hs1 2 _ rfl
  have hj22 : DataW.trod enc Try.prog W 0 (fun _ => true) true m20 3 ((([.slice A9 n9 c9, .int .i64 x13, .int .i64 x18, c0_3] : List Value).drop 3).take (Try.prog.cellsOf 3)) = some y21 := hj22
  rw [cell3] at hj22
  replace hj22 : DataW.trod enc Try.prog W 0 (fun _ => true) true m20 3 [c0_3] = some y21 := hj22
  obtain ⟨x23, e24, rx23⟩ := op_int Try.underlying3 hj22
  have e24 : [c0_3] = _ := e24
  cases e24
  obtain ⟨fu1, y1, hf1⟩ := op_one Try.underlying65 (hval 1 65 v1 rfl rfl) h1
  obtain ⟨A25, n25, c25, xs25, e25, hc25, hI25⟩ := op_ints Try.underlying65 Try.underlying3 cell3 hf1
  have e25 : [v1] = _ := e25
  cases e25
  clear hA0 hval0
  simp only [List.append_nil] at hW'
  refine Calls.mono (news_ok (w := W) (F := fun a => W.cell? a) (fun _ _ h => h) (l := ⟨⟨A9, n9, c9, es9, x13⟩, x18, x23⟩) hE9 hc9 hI25 hc25) fun e W' ⟨he, hk⟩ => ?_
  exact ⟨_, he, post_law laidOut (by kernel_rfl) (by kernel_rfl) Try.underlying4 rfl hW' rfl hk rfl⟩
theorem portNews_holds : Rows.PortNewsSaid :=
  OpenClaim.holds_of_wide 11 Try.f11 rfl rfl rfl rfl rfl rfl rfl ⟨rfl, rfl, rfl, rfl, rfl⟩ rfl rfl rfl rfl rfl (by kernel_rfl) Try.func11 (by kernel_rfl)
    (of_decide_eq_true (by kernel_rfl)) (by unfold Func.isWrapper; first | (rw [if_pos (by decide +kernel)]; kernel_rfl) | (rw [if_neg (by decide +kernel)]; exact ⟨rfl, rfl⟩))
    (fun os started H enc _ => portNews_lifted os started H enc)
end Go.Proofs.Ytffocfffggfenaa
