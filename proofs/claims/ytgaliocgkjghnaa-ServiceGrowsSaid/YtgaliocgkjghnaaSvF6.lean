/-
  It is proved here that the law ServiceGrows returns true for every input and leaves each argument as it was; no condition.
-/
import Derived.Test.YtgaliocgkjghnaaRows
import Derived.Test.YtgaliocgkjghnaaEng11ToEng6
import Derived.Test.YtgaliocgkjghnaaSwFrE
import Derived.Test.YtgaliocgkjghnaaSwSL5
namespace Go.Proofs.Ytgaliocgkjghnaa
open Go Go.Eng Go.Gt Go.Sw Go.Proofs.Gt Go.Proofs.Sw Go.ChangeShapes Go.WideShapes Go.ChangeAt Go.RowKit
theorem own : ownKnob Try.prog.godebug = none := by kernel_rfl
theorem laidOut : laidOutB Try.prog = true := by kernel_rfl
theorem cell64 : Try.prog.cellsOf 64 = 2 := by kernel_rfl
theorem cell22 : Try.prog.cellsOf 22 = 1 := by kernel_rfl
theorem cell5 : Try.prog.cellsOf 5 = 1 := by kernel_rfl
theorem cell81 : Try.prog.cellsOf 81 = 2 := by kernel_rfl
set_option maxRecDepth 100000 in
theorem serviceGrows_lifted (os : Os) (started : os.Started) (H : Type) (enc : TypeId × Value → H) :
    ReturnsInHanded {} Try.checked os 13 .any (Rows.serviceGrowsSpec.pre6 enc Try.prog Try.f13 Rows.serviceGrowsRow.domain false) (Rows.serviceGrowsSpec.post enc Try.prog Try.f13 false true false false) := by
  refine returnsInHanded_of_change (C := Try.checked) own started (by kernel_rfl) Try.func13
    (ChangeSpec.witness6 (enc := enc) (C := Try.checked) false ⟨#[], #[.agg #[.slice none 0 0, .slice none 0 0], .int .u8 0, .int .u8 0, .int .i16 0, .int .u16 0, .agg #[.int .u8 0, .int .u8 0]], []⟩ 8 (by kernel_rfl) (by kernel_rfl) (by kernel_rfl) (by kernel_rfl)) ?_
  intro W base args ds gs before hval0 hW hcnd _
  have hval : ∀ (j : Nat) t v, Try.f13.params[j]? = some t → args[j]? = some v → Value.okWide Try.prog W .any base t v := hval0
  have hW' := hW
  obtain ⟨p, q, hA0, hV, rfl, hfz, hnd⟩ := hW
  have hA : DataW.TrodAll enc Try.prog W 0 (fun _ => true) true Try.f13.params.toList args.toList ds p := hA0
  rw [Try.params13] at hA hval
  obtain ⟨v0, vs0, d0, ds0, p0, q0, hargs, rfl, rfl, h0, r0⟩ := trodAll_cons hA
  obtain ⟨v1, vs1, d1, ds1, p1, q1, rfl, rfl, rfl, h1, r1⟩ := trodAll_cons r0
  obtain ⟨v2, vs2, d2, ds2, p2, q2, rfl, rfl, rfl, h2, r2⟩ := trodAll_cons r1
  obtain ⟨v3, vs3, d3, ds3, p3, q3, rfl, rfl, rfl, h3, r3⟩ := trodAll_cons r2
  obtain ⟨v4, vs4, d4, ds4, p4, q4, rfl, rfl, rfl, h4, r4⟩ := trodAll_cons r3
  obtain ⟨v5, vs5, d5, ds5, p5, q5, rfl, rfl, rfl, h5, r5⟩ := trodAll_cons r4
  obtain ⟨rfl, rfl, rfl⟩ := trodAll_nil r5
  obtain rfl : args = #[v0, v1, v2, v3, v4, v5] := by cases args; simp_all
  obtain ⟨rfl, rfl⟩ := trodVars_none hV
  obtain ⟨l0_0, fu0, y0, rfl, hl0_0, hf0⟩ := op_agg (.inl ⟨_, Try.underlying64⟩) cell64 (hval 0 64 v0 rfl rfl) h0
  obtain ⟨c0_0, l0_1, rfl, hl0_1⟩ := listS hl0_0
  obtain ⟨c0_1, l0_2, rfl, hl0_2⟩ := listS hl0_1
  obtain rfl := list0 hl0_2
  obtain ⟨_, hs1⟩ := op_struct Try.underlying64 hf0
  obtain ⟨m2, y3, hj4⟩ := hs1 0 _ rfl
  have hj4 : DataW.trod enc Try.prog W 0 (fun _ => true) true m2 22 ((([c0_0, c0_1] : List Value).drop 0).take (Try.prog.cellsOf 22)) = some y3 := hj4
  rw [cell22] at hj4
  replace hj4 : DataW.trod enc Try.prog W 0 (fun _ => true) true m2 22 [c0_0] = some y3 := hj4
  obtain ⟨A5, n5, c5, xs5, e5, hc5, hI5⟩ := op_ints Try.underlying22 Try.underlying5 cell5 hj4
  have e5 : [c0_0] = _ := e5
  cases e5
  obtain ⟨m6, y7, hj8⟩ := hs1 1 _ rfl
  have hj8 : DataW.trod enc Try.prog W 0 (fun _ => true) true m6 22 ((([.slice A5 n5 c5, c0_1] : List Value).drop 1).take (Try.prog.cellsOf 22)) = some y7 := hj8
  rw [cell22] at hj8
  replace hj8 : DataW.trod enc Try.prog W 0 (fun _ => true) true m6 22 [c0_1] = some y7 := hj8
  obtain ⟨A9, n9, c9, xs9, e9, hc9, hI9⟩ := op_ints Try.underlying22 Try.underlying5 cell5 hj8
  have e9 : [c0_1] = _ := e9
  cases e9
  obtain ⟨a1, rfl, rfl, rfl, w1⟩ := open_int Try.underlying5 (hval 1 5 v1 rfl rfl) h1
  have ra1 := lit_rng w1
  obtain ⟨a2, rfl, rfl, rfl, w2⟩ := open_int Try.underlying5 (hval 2 5 v2 rfl rfl) h2
  have ra2 := lit_rng w2
  obtain ⟨a3, rfl, rfl, rfl, w3⟩ := open_int Try.underlying25 (hval 3 25 v3 rfl rfl) h3
  have ra3 := lit_rng w3
  obtain ⟨a4, rfl, rfl, rfl, w4⟩ := open_int Try.underlying53 (hval 4 53 v4 rfl rfl) h4
  have ra4 := lit_rng w4
  obtain ⟨l5_0, fu5, y5, rfl, hl5_0, hf5⟩ := op_agg (.inr ⟨_, _, Try.underlying81⟩) cell81 (hval 5 81 v5 rfl rfl) h5
  obtain ⟨c5_0, l5_1, rfl, hl5_1⟩ := listS hl5_0
  obtain ⟨c5_1, l5_2, rfl, hl5_2⟩ := listS hl5_1
  obtain rfl := list0 hl5_2
  obtain ⟨_, hs10⟩ := op_array Try.underlying81 hf5
  obtain ⟨m11, y12, hj13⟩ := hs10 0 (by decide)
  have hj13 : DataW.trod enc Try.prog W 0 (fun _ => true) true m11 5 ((([c5_0, c5_1] : List Value).drop (0 * Try.prog.cellsOf 5)).take (Try.prog.cellsOf 5)) = some y12 := hj13
  rw [cell5] at hj13
  replace hj13 : DataW.trod enc Try.prog W 0 (fun _ => true) true m11 5 [c5_0] = some y12 := hj13
  obtain ⟨x14, e15, rx14⟩ := op_int Try.underlying5 hj13
  have e15 : [c5_0] = _ := e15
  cases e15
  obtain ⟨m16, y17, hj18⟩ := hs10 1 (by decide)
  have hj18 : DataW.trod enc Try.prog W 0 (fun _ => true) true m16 5 ((([.int .u8 x14, c5_1] : List Value).drop (1 * Try.prog.cellsOf 5)).take (Try.prog.cellsOf 5)) = some y17 := hj18
  rw [cell5] at hj18
  replace hj18 : DataW.trod enc Try.prog W 0 (fun _ => true) true m16 5 [c5_1] = some y17 := hj18
  obtain ⟨x19, e20, rx19⟩ := op_int Try.underlying5 hj18
  have e20 : [c5_1] = _ := e20
  cases e20
  clear hA0 hval0
  simp only [List.append_nil] at hW'
  refine Calls.mono (sgrows_ok (w := W) (F := fun a => W.cell? a) (fun _ _ h => h) hI5 hI9 ra1 ra2 ra3 ra4 rx14 rx19) fun e W' ⟨he, hk⟩ => ?_
  exact ⟨_, he, post_law laidOut (by kernel_rfl) (by kernel_rfl) Try.underlying4 rfl hW' rfl hk rfl⟩

/-- ServiceGrows: for every input the law returns true, and each argument reads as it did. -/
theorem serviceGrows_holds : Rows.ServiceGrowsSaid :=
  OpenClaim.holds_of_wide 13 Try.f13 rfl rfl rfl rfl rfl rfl rfl ⟨rfl, rfl, rfl, rfl, rfl⟩ rfl rfl rfl rfl rfl (by kernel_rfl) Try.func13 (by kernel_rfl)
    (of_decide_eq_true (by kernel_rfl)) (by unfold Func.isWrapper; first | (rw [if_pos (by decide +kernel)]; kernel_rfl) | (rw [if_neg (by decide +kernel)]; exact ⟨rfl, rfl⟩))
    (fun os started H enc _ => serviceGrows_lifted os started H enc)

end Go.Proofs.Ytgaliocgkjghnaa
