/-
  It is proved here that the law SwapKeeps returns true for every input and leaves each argument as it was; no condition.
-/
import Derived.Test.YtgaliocgkjghnaaRows
import Derived.Test.YtgaliocgkjghnaaEng11ToEng6
import Derived.Test.YtgaliocgkjghnaaSwFrE
import Derived.Test.YtgaliocgkjghnaaSwL3
namespace Go.Proofs.Ytgaliocgkjghnaa
open Go Go.Eng Go.Gt Go.Sw Go.Proofs.Gt Go.Proofs.Sw Go.ChangeShapes Go.WideShapes Go.ChangeAt Go.RowKit
theorem own : ownKnob Try.prog.godebug = none := by kernel_rfl
theorem laidOut : laidOutB Try.prog = true := by kernel_rfl
theorem cell27 : Try.prog.cellsOf 27 = 7 := by kernel_rfl
theorem cell24 : Try.prog.cellsOf 24 = 2 := by kernel_rfl
theorem cell22 : Try.prog.cellsOf 22 = 1 := by kernel_rfl
theorem cell5 : Try.prog.cellsOf 5 = 1 := by kernel_rfl
theorem cell25 : Try.prog.cellsOf 25 = 1 := by kernel_rfl
theorem cell4 : Try.prog.cellsOf 4 = 1 := by kernel_rfl
set_option maxRecDepth 100000 in
theorem swapKeeps_lifted (os : Os) (started : os.Started) (H : Type) (enc : TypeId × Value → H) :
    ReturnsInHanded {} Try.checked os 5 .any (Rows.swapKeepsSpec.pre6 enc Try.prog Try.f5 Rows.swapKeepsRow.domain false) (Rows.swapKeepsSpec.post enc Try.prog Try.f5 false true false false) := by
  refine returnsInHanded_of_change (C := Try.checked) own started (by kernel_rfl) Try.func5
    (ChangeSpec.witness6 (enc := enc) (C := Try.checked) false ⟨#[], #[.agg #[.slice none 0 0, .slice none 0 0, .slice none 0 0, .slice none 0 0, .int .i16 0, .bool false, .int .u8 0], .agg #[.slice none 0 0, .slice none 0 0], .int .i16 0, .int .i16 0, .int .u16 0], []⟩ 8 (by kernel_rfl) (by kernel_rfl) (by kernel_rfl) (by kernel_rfl)) ?_
  intro W base args ds gs before hval0 hW hcnd _
  have hval : ∀ (j : Nat) t v, Try.f5.params[j]? = some t → args[j]? = some v → Value.okWide Try.prog W .any base t v := hval0
  have hW' := hW
  obtain ⟨p, q, hA0, hV, rfl, hfz, hnd⟩ := hW
  have hA : DataW.TrodAll enc Try.prog W 0 (fun _ => true) true Try.f5.params.toList args.toList ds p := hA0
  rw [Try.params5] at hA hval
  obtain ⟨v0, vs0, d0, ds0, p0, q0, hargs, rfl, rfl, h0, r0⟩ := trodAll_cons hA
  obtain ⟨v1, vs1, d1, ds1, p1, q1, rfl, rfl, rfl, h1, r1⟩ := trodAll_cons r0
  obtain ⟨v2, vs2, d2, ds2, p2, q2, rfl, rfl, rfl, h2, r2⟩ := trodAll_cons r1
  obtain ⟨v3, vs3, d3, ds3, p3, q3, rfl, rfl, rfl, h3, r3⟩ := trodAll_cons r2
  obtain ⟨v4, vs4, d4, ds4, p4, q4, rfl, rfl, rfl, h4, r4⟩ := trodAll_cons r3
  obtain ⟨rfl, rfl, rfl⟩ := trodAll_nil r4
  obtain rfl : args = #[v0, v1, v2, v3, v4] := by cases args; simp_all
  obtain ⟨rfl, rfl⟩ := trodVars_none hV
  obtain ⟨l0_0, fu0, y0, rfl, hl0_0, hf0⟩ := op_agg (.inl ⟨_, Try.underlying27⟩) cell27 (hval 0 27 v0 rfl rfl) h0
  obtain ⟨c0_0, l0_1, rfl, hl0_1⟩ := listS hl0_0
  obtain ⟨c0_1, l0_2, rfl, hl0_2⟩ := listS hl0_1
  obtain ⟨c0_2, l0_3, rfl, hl0_3⟩ := listS hl0_2
  obtain ⟨c0_3, l0_4, rfl, hl0_4⟩ := listS hl0_3
  obtain ⟨c0_4, l0_5, rfl, hl0_5⟩ := listS hl0_4
  obtain ⟨c0_5, l0_6, rfl, hl0_6⟩ := listS hl0_5
  obtain ⟨c0_6, l0_7, rfl, hl0_7⟩ := listS hl0_6
  obtain rfl := list0 hl0_7
  obtain ⟨_, hs1⟩ := op_struct Try.underlying27 hf0
  obtain ⟨m2, y3, hj4⟩ := hs1 0 _ rfl
  have hj4 : DataW.trod enc Try.prog W 0 (fun _ => true) true m2 24 ((([c0_0, c0_1, c0_2, c0_3, c0_4, c0_5, c0_6] : List Value).drop 0).take (Try.prog.cellsOf 24)) = some y3 := hj4
  rw [cell24] at hj4
  replace hj4 : DataW.trod enc Try.prog W 0 (fun _ => true) true m2 24 [c0_0, c0_1] = some y3 := hj4
  obtain ⟨_, hs5⟩ := op_struct Try.underlying24 hj4
  obtain ⟨m6, y7, hj8⟩ := hs5 0 _ rfl
  have hj8 : DataW.trod enc Try.prog W 0 (fun _ => true) true m6 22 ((([c0_0, c0_1] : List Value).drop 0).take (Try.prog.cellsOf 22)) = some y7 := hj8
  rw [cell22] at hj8
  replace hj8 : DataW.trod enc Try.prog W 0 (fun _ => true) true m6 22 [c0_0] = some y7 := hj8
  obtain ⟨A9, n9, c9, xs9, e9, hc9, hI9⟩ := op_ints Try.underlying22 Try.underlying5 cell5 hj8
  have e9 : [c0_0] = _ := e9
  cases e9
  obtain ⟨m10, y11, hj12⟩ := hs5 1 _ rfl
  have hj12 : DataW.trod enc Try.prog W 0 (fun _ => true) true m10 22 ((([.slice A9 n9 c9, c0_1] : List Value).drop 1).take (Try.prog.cellsOf 22)) = some y11 := hj12
  rw [cell22] at hj12
  replace hj12 : DataW.trod enc Try.prog W 0 (fun _ => true) true m10 22 [c0_1] = some y11 := hj12
  obtain ⟨A13, n13, c13, xs13, e13, hc13, hI13⟩ := op_ints Try.underlying22 Try.underlying5 cell5 hj12
  have e13 : [c0_1] = _ := e13
  cases e13
  obtain ⟨m14, y15, hj16⟩ := hs1 1 _ rfl
  have hj16 : DataW.trod enc Try.prog W 0 (fun _ => true) true m14 24 ((([.slice A9 n9 c9, .slice A13 n13 c13, c0_2, c0_3, c0_4, c0_5, c0_6] : List Value).drop 2).take (Try.prog.cellsOf 24)) = some y15 := hj16
  rw [cell24] at hj16
  replace hj16 : DataW.trod enc Try.prog W 0 (fun _ => true) true m14 24 [c0_2, c0_3] = some y15 := hj16
  obtain ⟨_, hs17⟩ := op_struct Try.underlying24 hj16
  obtain ⟨m18, y19, hj20⟩ := hs17 0 _ rfl
  have hj20 : DataW.trod enc Try.prog W 0 (fun _ => true) true m18 22 ((([c0_2, c0_3] : List Value).drop 0).take (Try.prog.cellsOf 22)) = some y19 := hj20
  rw [cell22] at hj20
  replace hj20 : DataW.trod enc Try.prog W 0 (fun _ => true) true m18 22 [c0_2] = some y19 := hj20
  obtain ⟨A21, n21, c21, xs21, e21, hc21, hI21⟩ := op_ints Try.underlying22 Try.underlying5 cell5 hj20
  have e21 : [c0_2] = _ := e21
  cases e21
  obtain ⟨m22, y23, hj24⟩ := hs17 1 _ rfl
  have hj24 : DataW.trod enc Try.prog W 0 (fun _ => true) true m22 22 ((([.slice A21 n21 c21, c0_3] : List Value).drop 1).take (Try.prog.cellsOf 22)) = some y23 := hj24
  rw [cell22] at hj24
  replace hj24 : DataW.trod enc Try.prog W 0 (fun _ => true) true m22 22 [c0_3] = some y23 := hj24
  obtain ⟨A25, n25, c25, xs25, e25, hc25, hI25⟩ := op_ints Try.underlying22 Try.underlying5 cell5 hj24
  have e25 : [c0_3] = _ := e25
  cases e25
  obtain ⟨m26, y27, hj28⟩ := hs1 2 _ rfl
  have hj28 : DataW.trod enc Try.prog W 0 (fun _ => true) true m26 25 ((([.slice A9 n9 c9, .slice A13 n13 c13, .slice A21 n21 c21, .slice A25 n25 c25, c0_4, c0_5, c0_6] : List Value).drop 4).take (Try.prog.cellsOf 25)) = some y27 := hj28
  rw [cell25] at hj28
  replace hj28 : DataW.trod enc Try.prog W 0 (fun _ => true) true m26 25 [c0_4] = some y27 := hj28
  obtain ⟨x29, e30, rx29⟩ := op_int Try.underlying25 hj28
  have e30 : [c0_4] = _ := e30
  cases e30
  obtain ⟨m31, y32, hj33⟩ := hs1 3 _ rfl
  have hj33 : DataW.trod enc Try.prog W 0 (fun _ => true) true m31 4 ((([.slice A9 n9 c9, .slice A13 n13 c13, .slice A21 n21 c21, .slice A25 n25 c25, .int .i16 x29, c0_5, c0_6] : List Value).drop 5).take (Try.prog.cellsOf 4)) = some y32 := hj33
  rw [cell4] at hj33
  replace hj33 : DataW.trod enc Try.prog W 0 (fun _ => true) true m31 4 [c0_5] = some y32 := hj33
  obtain ⟨x34, e35⟩ := op_bool Try.underlying4 hj33
  have e35 : [c0_5] = _ := e35
  cases e35
  obtain ⟨m36, y37, hj38⟩ := hs1 4 _ rfl
  have hj38 : DataW.trod enc Try.prog W 0 (fun _ => true) true m36 5 ((([.slice A9 n9 c9, .slice A13 n13 c13, .slice A21 n21 c21, .slice A25 n25 c25, .int .i16 x29, .bool x34, c0_6] : List Value).drop 6).take (Try.prog.cellsOf 5)) = some y37 := hj38
  rw [cell5] at hj38
  replace hj38 : DataW.trod enc Try.prog W 0 (fun _ => true) true m36 5 [c0_6] = some y37 := hj38
  obtain ⟨x39, e40, rx39⟩ := op_int Try.underlying5 hj38
  have e40 : [c0_6] = _ := e40
  cases e40
  obtain ⟨l1_0, fu1, y1, rfl, hl1_0, hf1⟩ := op_agg (.inl ⟨_, Try.underlying24⟩) cell24 (hval 1 24 v1 rfl rfl) h1
  obtain ⟨c1_0, l1_1, rfl, hl1_1⟩ := listS hl1_0
  obtain ⟨c1_1, l1_2, rfl, hl1_2⟩ := listS hl1_1
  obtain rfl := list0 hl1_2
  obtain ⟨_, hs41⟩ := op_struct Try.underlying24 hf1
  obtain ⟨m42, y43, hj44⟩ := hs41 0 _ rfl
  have hj44 : DataW.trod enc Try.prog W 0 (fun _ => true) true m42 22 ((([c1_0, c1_1] : List Value).drop 0).take (Try.prog.cellsOf 22)) = some y43 := hj44
  rw [cell22] at hj44
  replace hj44 : DataW.trod enc Try.prog W 0 (fun _ => true) true m42 22 [c1_0] = some y43 := hj44
  obtain ⟨A45, n45, c45, xs45, e45, hc45, hI45⟩ := op_ints Try.underlying22 Try.underlying5 cell5 hj44
  have e45 : [c1_0] = _ := e45
  cases e45
  obtain ⟨m46, y47, hj48⟩ := hs41 1 _ rfl
  have hj48 : DataW.trod enc Try.prog W 0 (fun _ => true) true m46 22 ((([.slice A45 n45 c45, c1_1] : List Value).drop 1).take (Try.prog.cellsOf 22)) = some y47 := hj48
  rw [cell22] at hj48
  replace hj48 : DataW.trod enc Try.prog W 0 (fun _ => true) true m46 22 [c1_1] = some y47 := hj48
  obtain ⟨A49, n49, c49, xs49, e49, hc49, hI49⟩ := op_ints Try.underlying22 Try.underlying5 cell5 hj48
  have e49 : [c1_1] = _ := e49
  cases e49
  obtain ⟨a2, rfl, rfl, rfl, w2⟩ := open_int Try.underlying25 (hval 2 25 v2 rfl rfl) h2
  have ra2 := lit_rng w2
  obtain ⟨a3, rfl, rfl, rfl, w3⟩ := open_int Try.underlying25 (hval 3 25 v3 rfl rfl) h3
  have ra3 := lit_rng w3
  obtain ⟨a4, rfl, rfl, rfl, w4⟩ := open_int Try.underlying53 (hval 4 53 v4 rfl rfl) h4
  have ra4 := lit_rng w4
  clear hA0 hval0
  simp only [List.append_nil] at hW'
  refine Calls.mono (skeeps_ok (w := W) (F := fun a => W.cell? a) (fun _ _ h => h) hI9 hI13 hI21 hI25 rx29 rx39 hI45 hI49 ra2 ra3 ra4) fun e W' ⟨he, hk⟩ => ?_
  exact ⟨_, he, post_law laidOut (by kernel_rfl) (by kernel_rfl) Try.underlying4 rfl hW' rfl hk rfl⟩

/-- SwapKeeps: for every input the law returns true, and each argument reads as it did. -/
theorem swapKeeps_holds : Rows.SwapKeepsSaid :=
  OpenClaim.holds_of_wide 5 Try.f5 rfl rfl rfl rfl rfl rfl rfl ⟨rfl, rfl, rfl, rfl, rfl⟩ rfl rfl rfl rfl rfl (by kernel_rfl) Try.func5 (by kernel_rfl)
    (of_decide_eq_true (by kernel_rfl)) (by unfold Func.isWrapper; first | (rw [if_pos (by decide +kernel)]; kernel_rfl) | (rw [if_neg (by decide +kernel)]; exact ⟨rfl, rfl⟩))
    (fun os started H enc _ => swapKeeps_lifted os started H enc)

end Go.Proofs.Ytgaliocgkjghnaa
