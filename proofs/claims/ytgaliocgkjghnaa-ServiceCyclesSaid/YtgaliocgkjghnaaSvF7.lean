/-
  It is proved here that the law ServiceCycles returns true for every input and leaves each argument as it was; no condition.
-/
import Derived.Test.YtgaliocgkjghnaaRows
import Derived.Test.YtgaliocgkjghnaaEng11ToEng6
import Derived.Test.YtgaliocgkjghnaaSwFrE
import Derived.Test.YtgaliocgkjghnaaSwSL6
namespace Go.Proofs.Ytgaliocgkjghnaa
open Go Go.Eng Go.Gt Go.Sw Go.Proofs.Gt Go.Proofs.Sw Go.ChangeShapes Go.WideShapes Go.ChangeAt Go.RowKit
theorem own : ownKnob Try.prog.godebug = none := by kernel_rfl
theorem laidOut : laidOutB Try.prog = true := by kernel_rfl
theorem cell64 : Try.prog.cellsOf 64 = 2 := by kernel_rfl
theorem cell22 : Try.prog.cellsOf 22 = 1 := by kernel_rfl
theorem cell5 : Try.prog.cellsOf 5 = 1 := by kernel_rfl
set_option maxRecDepth 100000 in
theorem serviceCycles_lifted (os : Os) (started : os.Started) (H : Type) (enc : TypeId × Value → H) :
    ReturnsInHanded {} Try.checked os 14 .any (Rows.serviceCyclesSpec.pre6 enc Try.prog Try.f14 Rows.serviceCyclesRow.domain false) (Rows.serviceCyclesSpec.post enc Try.prog Try.f14 false true false false) := by
  refine returnsInHanded_of_change (C := Try.checked) own started (by kernel_rfl) Try.func14
    (ChangeSpec.witness6 (enc := enc) (C := Try.checked) false ⟨#[], #[.agg #[.slice none 0 0, .slice none 0 0], .int .u8 0, .int .u8 0], []⟩ 8 (by kernel_rfl) (by kernel_rfl) (by kernel_rfl) (by kernel_rfl)) ?_
  intro W base args ds gs before hval0 hW hcnd _
  have hval : ∀ (j : Nat) t v, Try.f14.params[j]? = some t → args[j]? = some v → Value.okWide Try.prog W .any base t v := hval0
  have hW' := hW
  obtain ⟨p, q, hA0, hV, rfl, hfz, hnd⟩ := hW
  have hA : DataW.TrodAll enc Try.prog W 0 (fun _ => true) true Try.f14.params.toList args.toList ds p := hA0
  rw [Try.params14] at hA hval
  obtain ⟨v0, vs0, d0, ds0, p0, q0, hargs, rfl, rfl, h0, r0⟩ := trodAll_cons hA
  obtain ⟨v1, vs1, d1, ds1, p1, q1, rfl, rfl, rfl, h1, r1⟩ := trodAll_cons r0
  obtain ⟨v2, vs2, d2, ds2, p2, q2, rfl, rfl, rfl, h2, r2⟩ := trodAll_cons r1
  obtain ⟨rfl, rfl, rfl⟩ := trodAll_nil r2
  obtain rfl : args = #[v0, v1, v2] := by cases args; simp_all
  obtain ⟨rfl, rfl⟩ := trodVars_none hV
  obtain ⟨l0_0, fu0, y0, rfl, hl0_0, hf0⟩ := op_agg (.inl ⟨_, Try.underlying64⟩) cell64 (hval 0 64 v0 rfl rfl) h0
  obtain ⟨c0_0, l0_1, rfl, hl0_1⟩ := listS hl0_0
  obtain ⟨c0_1, l0_2, rfl, hl0_2⟩ := listS hl0_1
  obtain rfl := list0 hl0_2
  obtain ⟨_, hs1⟩ := op_struct Try.underlying64 hf0
  obtain ⟨m2, y3, hj4⟩ := hs1 0 _ rfl
  have hj4 : DataW.trod enc Try.prog W 0 (fun _ => true) true m2 22 ((([c0_0, c0_1] : List Value).drop 0).take (Try.prog.cellsOf 22)) = some y3 := hj4
  rw [cell22] at hj4
  replace hj4 : DataW.trod enc Try.prog W 0 (fun _ => true) true m2 22 [c0_0] = some y3 := hj4
  obtain ⟨A5, n5, c5, xs5, e5, hc5, hI5⟩ := op_ints Try.underlying22 Try.underlying5 cell5 hj4
  have e5 : [c0_0] = _ := e5
  cases e5
  obtain ⟨m6, y7, hj8⟩ := hs1 1 _ rfl
  have hj8 : DataW.trod enc Try.prog W 0 (fun _ => true) true m6 22 ((([.slice A5 n5 c5, c0_1] : List Value).drop 1).take (Try.prog.cellsOf 22)) = some y7 := hj8
  rw [cell22] at hj8
  replace hj8 : DataW.trod enc Try.prog W 0 (fun _ => true) true m6 22 [c0_1] = some y7 := hj8
  obtain ⟨A9, n9, c9, xs9, e9, hc9, hI9⟩ := op_ints Try.underlying22 Try.underlying5 cell5 hj8
  have e9 : [c0_1] = _ := e9
  cases e9
  obtain ⟨a1, rfl, rfl, rfl, w1⟩ := open_int Try.underlying5 (hval 1 5 v1 rfl rfl) h1
  have ra1 := lit_rng w1
  obtain ⟨a2, rfl, rfl, rfl, w2⟩ := open_int Try.underlying5 (hval 2 5 v2 rfl rfl) h2
  have ra2 := lit_rng w2
  clear hA0 hval0
  simp only [List.append_nil] at hW'
  refine Calls.mono (scycles_ok (w := W) (F := fun a => W.cell? a) (fun _ _ h => h) hI5 hI9 ra1 ra2) fun e W' ⟨he, hk⟩ => ?_
  exact ⟨_, he, post_law laidOut (by kernel_rfl) (by kernel_rfl) Try.underlying4 rfl hW' rfl hk rfl⟩

/-- ServiceCycles: for every input the law returns true, and each argument reads as it did. -/
theorem serviceCycles_holds : Rows.ServiceCyclesSaid :=
  OpenClaim.holds_of_wide 14 Try.f14 rfl rfl rfl rfl rfl rfl rfl ⟨rfl, rfl, rfl, rfl, rfl⟩ rfl rfl rfl rfl rfl (by kernel_rfl) Try.func14 (by kernel_rfl)
    (of_decide_eq_true (by kernel_rfl)) (by unfold Func.isWrapper; first | (rw [if_pos (by decide +kernel)]; kernel_rfl) | (rw [if_neg (by decide +kernel)]; exact ⟨rfl, rfl⟩))
    (fun os started H enc _ => serviceCycles_lifted os started H enc)

end Go.Proofs.Ytgaliocgkjghnaa
