/-
  It is proved here that the law SeqNexts returns true for every input and leaves each argument as it was; no condition.
-/
import Derived.Test.YtlnnoghneciocaaRows
import Derived.Test.YtlnnoghneciocaaFrame
import Derived.Test.YtlnnoghneciocaaSqL3
import Derived.Test.YtlnnoghneciocaaSqFr
namespace Go.Proofs.Ytlnnoghneciocaa
open Go Go.Eng Go.Sq Go.Proofs.Sq Go.ChangeShapes Go.WideShapes Go.ChangeAt Go.RowKit
theorem own : ownKnob Try.prog.godebug = none := by kernel_rfl
theorem laidOut : laidOutB Try.prog = true := by kernel_rfl
theorem cell50 : Try.prog.cellsOf 50 = 2 := by kernel_rfl
theorem cell3 : Try.prog.cellsOf 3 = 1 := by kernel_rfl
set_option maxRecDepth 100000 in
theorem seqNexts_lifted (os : Os) (started : os.Started) (H : Type) (enc : TypeId × Value → H) :
    ReturnsInHanded {} Try.checked os 8 .any (Rows.seqNextsSpec.pre6 enc Try.prog Try.f8 Rows.seqNextsRow.domain false) (Rows.seqNextsSpec.post enc Try.prog Try.f8 false true false false) := by
  refine returnsInHanded_of_change (C := Try.checked) own started (by kernel_rfl) Try.func8
    (ChangeSpec.witness6 (enc := enc) (C := Try.checked) false ⟨#[], #[.slice none 0 0, .slice none 0 0, .int .u8 0, .agg #[.int .i64 0, .int .i64 0], .int .i64 0], []⟩ 8 (by kernel_rfl) (by kernel_rfl) (by kernel_rfl) (by kernel_rfl)) ?_
  intro W base args ds gs before hval0 hW hcnd _
  have hval : ∀ (j : Nat) t v, Try.f8.params[j]? = some t → args[j]? = some v → Value.okWide Try.prog W .any base t v := hval0
  have hW' := hW
  obtain ⟨p, q, hA0, hV, rfl, hfz, hnd⟩ := hW
  have hA : DataW.TrodAll enc Try.prog W 0 (fun _ => true) true Try.f8.params.toList args.toList ds p := hA0
  rw [Try.params8] at hA hval
  obtain ⟨v0, vs0, d0, ds0, p0, q0, hargs, rfl, rfl, h0, r0⟩ := trodAll_cons hA
  obtain ⟨v1, vs1, d1, ds1, p1, q1, rfl, rfl, rfl, h1, r1⟩ := trodAll_cons r0
  obtain ⟨v2, vs2, d2, ds2, p2, q2, rfl, rfl, rfl, h2, r2⟩ := trodAll_cons r1
  obtain ⟨v3, vs3, d3, ds3, p3, q3, rfl, rfl, rfl, h3, r3⟩ := trodAll_cons r2
  obtain ⟨v4, vs4, d4, ds4, p4, q4, rfl, rfl, rfl, h4, r4⟩ := trodAll_cons r3
  obtain ⟨rfl, rfl, rfl⟩ := trodAll_nil r4
  obtain rfl : args = #[v0, v1, v2, v3, v4] := by cases args; simp_all
  obtain ⟨rfl, rfl⟩ := trodVars_none hV
  obtain ⟨fu0, y0, hf0⟩ := op_one Try.underlying46 (hval 0 46 v0 rfl rfl) h0
  obtain ⟨A1, n1, c1, l1, e1, hc1, hm1, hP1, hr1⟩ := op_cts hf0
  have e1 : [v0] = _ := e1
  cases e1
  obtain ⟨fu1, y1, hf1⟩ := op_one Try.underlying44 (hval 1 44 v1 rfl rfl) h1
  obtain ⟨A2, n2, c2, l2, e2, hc2, hm2, hP2, hr2⟩ := op_draft hf1
  have e2 : [v1] = _ := e2
  cases e2
  obtain ⟨a2, rfl, rfl, rfl, w2⟩ := open_int Try.underlying5 (hval 2 5 v2 rfl rfl) h2
  have ra2 := lit_rng w2
  obtain ⟨l3_0, fu3, y3, rfl, hl3_0, hf3⟩ := op_agg (.inl ⟨_, Try.underlying50⟩) cell50 (hval 3 50 v3 rfl rfl) h3
  obtain ⟨c3_0, l3_1, rfl, hl3_1⟩ := listS hl3_0
  obtain ⟨c3_1, l3_2, rfl, hl3_2⟩ := listS hl3_1
  obtain rfl := list0 hl3_2
  obtain ⟨_, hs3⟩ := op_struct Try.underlying50 hf3
  obtain ⟨m4, y5, hj6⟩ := hs3 0 _ rfl
  have hj6 : DataW.trod enc Try.prog W 0 (fun _ => true) true m4 3 ((([c3_0, c3_1] : List Value).drop 0).take (Try.prog.cellsOf 3)) = some y5 := hj6
  rw [cell3] at hj6
  replace hj6 : DataW.trod enc Try.prog W 0 (fun _ => true) true m4 3 [c3_0] = some y5 := hj6
  obtain ⟨x7, e8, rx7⟩ := op_int Try.underlying3 hj6
  have e8 : [c3_0] = _ := e8
  cases e8
  obtain ⟨m9, y10, hj11⟩ := hs3 1 _ rfl
  have hj11 : DataW.trod enc Try.prog W 0 (fun _ => true) true m9 3 ((([.int .i64 x7, c3_1] : List Value).drop 1).take (Try.prog.cellsOf 3)) = some y10 := hj11
  rw [cell3] at hj11
  replace hj11 : DataW.trod enc Try.prog W 0 (fun _ => true) true m9 3 [c3_1] = some y10 := hj11
  obtain ⟨x12, e13, rx12⟩ := op_int Try.underlying3 hj11
  have e13 : [c3_1] = _ := e13
  cases e13
  obtain ⟨a4, rfl, rfl, rfl, w4⟩ := open_int Try.underlying3 (hval 4 3 v4 rfl rfl) h4
  have ra4 := lit_rng w4
  clear hA0 hval0
  simp only [List.append_nil] at hW'
  refine Calls.mono (nexts_ok (w := W) (F := fun a => W.cell? a) (fun _ _ h => h) hP1 hc1 hm1 hP2 hr2 ra2 (y := ⟨x7, x12⟩)) fun e W' ⟨he, hk⟩ => ?_
  exact ⟨_, he, post_law laidOut (by kernel_rfl) (by kernel_rfl) Try.underlying4 rfl hW' rfl hk rfl⟩

/-- SeqNexts: for every input the law returns true, and each argument reads as it did. -/
theorem seqNexts_holds : Rows.SeqNextsSaid :=
  OpenClaim.holds_of_wide 8 Try.f8 rfl rfl rfl rfl rfl rfl rfl ⟨rfl, rfl, rfl, rfl, rfl⟩ rfl rfl rfl rfl rfl (by kernel_rfl) Try.func8 (by kernel_rfl)
    (of_decide_eq_true (by kernel_rfl)) (by unfold Func.isWrapper; first | (rw [if_pos (by decide +kernel)]; kernel_rfl) | (rw [if_neg (by decide +kernel)]; exact ⟨rfl, rfl⟩))
    (fun os started H enc _ => seqNexts_lifted os started H enc)

end Go.Proofs.Ytlnnoghneciocaa
