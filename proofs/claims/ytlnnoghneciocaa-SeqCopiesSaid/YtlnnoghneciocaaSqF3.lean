/-
  It is proved here that the law SeqCopies returns true for every input and leaves each argument as it was; no condition.
-/
import Derived.Test.YtlnnoghneciocaaRows
import Derived.Test.YtlnnoghneciocaaFrame
import Derived.Test.YtlnnoghneciocaaSqL2
import Derived.Test.YtlnnoghneciocaaSqFr
namespace Go.Proofs.Ytlnnoghneciocaa
open Go Go.Eng Go.Sq Go.Proofs.Sq Go.ChangeShapes Go.WideShapes Go.ChangeAt Go.RowKit
theorem own : ownKnob Try.prog.godebug = none := by kernel_rfl
theorem laidOut : laidOutB Try.prog = true := by kernel_rfl
theorem cell31 : Try.prog.cellsOf 31 = 5 := by kernel_rfl
theorem cell3 : Try.prog.cellsOf 3 = 1 := by kernel_rfl
set_option maxRecDepth 100000 in
theorem seqCopies_lifted (os : Os) (started : os.Started) (H : Type) (enc : TypeId × Value → H) :
    ReturnsInHanded {} Try.checked os 4 .any (Rows.seqCopiesSpec.pre6 enc Try.prog Try.f4 Rows.seqCopiesRow.domain false) (Rows.seqCopiesSpec.post enc Try.prog Try.f4 false true false false) := by
  refine returnsInHanded_of_change (C := Try.checked) own started (by kernel_rfl) Try.func4
    (ChangeSpec.witness6 (enc := enc) (C := Try.checked) false ⟨#[], #[.agg #[.int .i64 0, .int .i64 0, .int .i64 0, .int .i64 0, .int .i64 0], .slice none 0 0, .int .u16 0, .int .u16 0], []⟩ 8 (by kernel_rfl) (by kernel_rfl) (by kernel_rfl) (by kernel_rfl)) ?_
  intro W base args ds gs before hval0 hW hcnd _
  have hval : ∀ (j : Nat) t v, Try.f4.params[j]? = some t → args[j]? = some v → Value.okWide Try.prog W .any base t v := hval0
  have hW' := hW
  obtain ⟨p, q, hA0, hV, rfl, hfz, hnd⟩ := hW
  have hA : DataW.TrodAll enc Try.prog W 0 (fun _ => true) true Try.f4.params.toList args.toList ds p := hA0
  rw [Try.params4] at hA hval
  obtain ⟨v0, vs0, d0, ds0, p0, q0, hargs, rfl, rfl, h0, r0⟩ := trodAll_cons hA
  obtain ⟨v1, vs1, d1, ds1, p1, q1, rfl, rfl, rfl, h1, r1⟩ := trodAll_cons r0
  obtain ⟨v2, vs2, d2, ds2, p2, q2, rfl, rfl, rfl, h2, r2⟩ := trodAll_cons r1
  obtain ⟨v3, vs3, d3, ds3, p3, q3, rfl, rfl, rfl, h3, r3⟩ := trodAll_cons r2
  obtain ⟨rfl, rfl, rfl⟩ := trodAll_nil r3
  obtain rfl : args = #[v0, v1, v2, v3] := by cases args; simp_all
  obtain ⟨rfl, rfl⟩ := trodVars_none hV
  obtain ⟨l0_0, fu0, y0, rfl, hl0_0, hf0⟩ := op_agg (.inl ⟨_, Try.underlying31⟩) cell31 (hval 0 31 v0 rfl rfl) h0
  obtain ⟨c0_0, l0_1, rfl, hl0_1⟩ := listS hl0_0
  obtain ⟨c0_1, l0_2, rfl, hl0_2⟩ := listS hl0_1
  obtain ⟨c0_2, l0_3, rfl, hl0_3⟩ := listS hl0_2
  obtain ⟨c0_3, l0_4, rfl, hl0_4⟩ := listS hl0_3
  obtain ⟨c0_4, l0_5, rfl, hl0_5⟩ := listS hl0_4
  obtain rfl := list0 hl0_5
  obtain ⟨_, hs1⟩ := op_struct Try.underlying31 hf0
  obtain ⟨m2, y3, hj4⟩ := hs1 0 _ rfl
  have hj4 : DataW.trod enc Try.prog W 0 (fun _ => true) true m2 3 ((([c0_0, c0_1, c0_2, c0_3, c0_4] : List Value).drop 0).take (Try.prog.cellsOf 3)) = some y3 := hj4
  rw [cell3] at hj4
  replace hj4 : DataW.trod enc Try.prog W 0 (fun _ => true) true m2 3 [c0_0] = some y3 := hj4
  obtain ⟨x5, e6, rx5⟩ := op_int Try.underlying3 hj4
  have e6 : [c0_0] = _ := e6
  cases e6
  obtain ⟨m7, y8, hj9⟩ := hs1 1 _ rfl
  have hj9 : DataW.trod enc Try.prog W 0 (fun _ => true) true m7 3 ((([.int .i64 x5, c0_1, c0_2, c0_3, c0_4] : List Value).drop 1).take (Try.prog.cellsOf 3)) = some y8 := hj9
  rw [cell3] at hj9
  replace hj9 : DataW.trod enc Try.prog W 0 (fun _ => true) true m7 3 [c0_1] = some y8 := hj9
  obtain ⟨x10, e11, rx10⟩ := op_int Try.underlying3 hj9
  have e11 : [c0_1] = _ := e11
  cases e11
  obtain ⟨m12, y13, hj14⟩ := hs1 2 _ rfl
  have hj14 : DataW.trod enc Try.prog W 0 (fun _ => true) true m12 3 ((([.int .i64 x5, .int .i64 x10, c0_2, c0_3, c0_4] : List Value).drop 2).take (Try.prog.cellsOf 3)) = some y13 := hj14
  rw [cell3] at hj14
  replace hj14 : DataW.trod enc Try.prog W 0 (fun _ => true) true m12 3 [c0_2] = some y13 := hj14
  obtain ⟨x15, e16, rx15⟩ := op_int Try.underlying3 hj14
  have e16 : [c0_2] = _ := e16
  cases e16
  obtain ⟨m17, y18, hj19⟩ := hs1 3 _ rfl
  have hj19 : DataW.trod enc Try.prog W 0 (fun _ => true) true m17 3 ((([.int .i64 x5, .int .i64 x10, .int .i64 x15, c0_3, c0_4] : List Value).drop 3).take (Try.prog.cellsOf 3)) = some y18 := hj19
  rw [cell3] at hj19
  replace hj19 : DataW.trod enc Try.prog W 0 (fun _ => true) true m17 3 [c0_3] = some y18 := hj19
  obtain ⟨x20, e21, rx20⟩ := op_int Try.underlying3 hj19
  have e21 : [c0_3] = _ := e21
  cases e21
  obtain ⟨m22, y23, hj24⟩ := hs1 4 _ rfl
  have hj24 : DataW.trod enc Try.prog W 0 (fun _ => true) true m22 3 ((([.int .i64 x5, .int .i64 x10, .int .i64 x15, .int .i64 x20, c0_4] : List Value).drop 4).take (Try.prog.cellsOf 3)) = some y23 := hj24
  rw [cell3] at hj24
  replace hj24 : DataW.trod enc Try.prog W 0 (fun _ => true) true m22 3 [c0_4] = some y23 := hj24
  obtain ⟨x25, e26, rx25⟩ := op_int Try.underlying3 hj24
  have e26 : [c0_4] = _ := e26
  cases e26
  obtain ⟨fu1, y1, hf1⟩ := op_one Try.underlying32 (hval 1 32 v1 rfl rfl) h1
  obtain ⟨A27, n27, c27, l27, e27, hc27, hm27, hP27, hr27⟩ := op_routes hf1
  have e27 : [v1] = _ := e27
  cases e27
  obtain ⟨a2, rfl, rfl, rfl, w2⟩ := open_int Try.underlying22 (hval 2 22 v2 rfl rfl) h2
  have ra2 := lit_rng w2
  obtain ⟨a3, rfl, rfl, rfl, w3⟩ := open_int Try.underlying22 (hval 3 22 v3 rfl rfl) h3
  have ra3 := lit_rng w3
  clear hA0 hval0
  simp only [List.append_nil] at hW'
  refine Calls.mono (copies_law (w := W) (F := fun a => W.cell? a) (fun _ _ h => h) hP27 hc27 hr27 (x := ⟨x5, x10, x15, x20, x25⟩) ra2 ra3) fun e W' ⟨he, hk⟩ => ?_
  exact ⟨_, he, post_law laidOut (by kernel_rfl) (by kernel_rfl) Try.underlying4 rfl hW' rfl hk rfl⟩

/-- SeqCopies: for every input the law returns true, and each argument reads as it did. -/
theorem seqCopies_holds : Rows.SeqCopiesSaid :=
  OpenClaim.holds_of_wide 4 Try.f4 rfl rfl rfl rfl rfl rfl rfl ⟨rfl, rfl, rfl, rfl, rfl⟩ rfl rfl rfl rfl rfl (by kernel_rfl) Try.func4 (by kernel_rfl)
    (of_decide_eq_true (by kernel_rfl)) (by unfold Func.isWrapper; first | (rw [if_pos (by decide +kernel)]; kernel_rfl) | (rw [if_neg (by decide +kernel)]; exact ⟨rfl, rfl⟩))
    (fun os started H enc _ => seqCopies_lifted os started H enc)

end Go.Proofs.Ytlnnoghneciocaa
