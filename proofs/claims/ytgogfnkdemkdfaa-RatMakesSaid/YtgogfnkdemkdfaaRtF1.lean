/-
  It is proved here that the law RatMakes returns true for every input and leaves each argument as it was; no condition.
-/
import Derived.Test.YtgogfnkdemkdfaaRows
import Derived.Test.YtgogfnkdemkdfaaFrame
import Derived.Test.YtgogfnkdemkdfaaRtL1
namespace Go.Proofs.Ytgogfnkdemkdfaa
open Go Go.Eng Go.Rt Go.Proofs.Rt Go.ChangeShapes Go.WideShapes Go.ChangeAt Go.RowKit
theorem own : ownKnob Try.prog.godebug = none := by kernel_rfl
theorem laidOut : laidOutB Try.prog = true := by kernel_rfl
theorem cell23 : Try.prog.cellsOf 23 = 2 := by kernel_rfl
theorem cell3 : Try.prog.cellsOf 3 = 1 := by kernel_rfl
set_option maxRecDepth 100000 in
theorem ratMakes_lifted (os : Os) (started : os.Started) (H : Type) (enc : TypeId × Value → H) :
    ReturnsInHanded {} Try.checked os 3 .any (Rows.ratMakesSpec.pre6 enc Try.prog Try.f3 Rows.ratMakesRow.domain false) (Rows.ratMakesSpec.post enc Try.prog Try.f3 false true false false) := by
  refine returnsInHanded_of_change (C := Try.checked) own started (by kernel_rfl) Try.func3
    (ChangeSpec.witness6 (enc := enc) (C := Try.checked) false ⟨#[], #[.int .i64 0, .int .i64 0, .agg #[.int .i64 0, .int .i64 0]], []⟩ 8 (by kernel_rfl) (by kernel_rfl) (by kernel_rfl) (by kernel_rfl)) ?_
  intro W base args ds gs before hval0 hW hcnd _
  have hval : ∀ (j : Nat) t v, Try.f3.params[j]? = some t → args[j]? = some v → Value.okWide Try.prog W .any base t v := hval0
  have hW' := hW
  obtain ⟨p, q, hA0, hV, rfl, hfz, hnd⟩ := hW
  have hA : DataW.TrodAll enc Try.prog W 0 (fun _ => true) true Try.f3.params.toList args.toList ds p := hA0
  rw [Try.params3] at hA hval
  obtain ⟨v0, vs0, d0, ds0, p0, q0, hargs, rfl, rfl, h0, r0⟩ := trodAll_cons hA
  obtain ⟨v1, vs1, d1, ds1, p1, q1, rfl, rfl, rfl, h1, r1⟩ := trodAll_cons r0
  obtain ⟨v2, vs2, d2, ds2, p2, q2, rfl, rfl, rfl, h2, r2⟩ := trodAll_cons r1
  obtain ⟨rfl, rfl, rfl⟩ := trodAll_nil r2
  obtain rfl : args = #[v0, v1, v2] := by cases args; simp_all
  obtain ⟨rfl, rfl⟩ := trodVars_none hV
  obtain ⟨a0, rfl, rfl, rfl, w0⟩ := open_int Try.underlying3 (hval 0 3 v0 rfl rfl) h0
  have ra0 := lit_rng w0
  obtain ⟨a1, rfl, rfl, rfl, w1⟩ := open_int Try.underlying3 (hval 1 3 v1 rfl rfl) h1
  have ra1 := lit_rng w1
  obtain ⟨l2_0, fu2, y2, rfl, hl2_0, hf2⟩ := op_agg (.inl ⟨_, Try.underlying23⟩) cell23 (hval 2 23 v2 rfl rfl) h2
  obtain ⟨c2_0, l2_1, rfl, hl2_1⟩ := listS hl2_0
  obtain ⟨c2_1, l2_2, rfl, hl2_2⟩ := listS hl2_1
  obtain rfl := list0 hl2_2
  obtain ⟨_, hs1⟩ := op_struct Try.underlying23 hf2
  obtain ⟨m2, y3, hj4⟩ := hs1 0 _ rfl
  have hj4 : DataW.trod enc Try.prog W 0 (fun _ => true) true m2 3 ((([c2_0, c2_1] : List Value).drop 0).take (Try.prog.cellsOf 3)) = some y3 := hj4
  rw [cell3] at hj4
  replace hj4 : DataW.trod enc Try.prog W 0 (fun _ => true) true m2 3 [c2_0] = some y3 := hj4
  obtain ⟨x5, e6, rx5⟩ := op_int Try.underlying3 hj4
  have e6 : [c2_0] = _ := e6
  cases e6
  obtain ⟨m7, y8, hj9⟩ := hs1 1 _ rfl
  have hj9 : DataW.trod enc Try.prog W 0 (fun _ => true) true m7 3 ((([.int .i64 x5, c2_1] : List Value).drop 1).take (Try.prog.cellsOf 3)) = some y8 := hj9
  rw [cell3] at hj9
  replace hj9 : DataW.trod enc Try.prog W 0 (fun _ => true) true m7 3 [c2_1] = some y8 := hj9
  obtain ⟨x10, e11, rx10⟩ := op_int Try.underlying3 hj9
  have e11 : [c2_1] = _ := e11
  cases e11
  clear hA0 hval0
  simp only [List.append_nil] at hW'
  refine Calls.mono (makes_ok (w := W) (F := fun a => W.cell? a) (fun _ _ h => h) ra0 ra1 ⟨rx5, rx10⟩) fun e W' ⟨he, hk⟩ => ?_
  exact ⟨_, he, post_law laidOut (by kernel_rfl) (by kernel_rfl) Try.underlying4 rfl hW' rfl hk rfl⟩

/-- RatMakes: for every input the law returns true, and each argument reads as it did. -/
theorem ratMakes_holds : Rows.RatMakesSaid :=
  OpenClaim.holds_of_wide 3 Try.f3 rfl rfl rfl rfl rfl rfl rfl ⟨rfl, rfl, rfl, rfl, rfl⟩ rfl rfl rfl rfl rfl (by kernel_rfl) Try.func3 (by kernel_rfl)
    (of_decide_eq_true (by kernel_rfl)) (by unfold Func.isWrapper; first | (rw [if_pos (by decide +kernel)]; kernel_rfl) | (rw [if_neg (by decide +kernel)]; exact ⟨rfl, rfl⟩))
    (fun os started H enc _ => ratMakes_lifted os started H enc)

end Go.Proofs.Ytgogfnkdemkdfaa
